/- The statement PumpFewer holds for every input, without further conditions: a part of its proof (an abstract machine for the loaded code, its soundness, and what the functions answer in it). -/
import Derived.Test.YtgnpnfkncbnjnaaP1
import Derived.ProofKit
import Derived.ChangeSame
import Derived.Below
import Derived.OpenShut
import Derived.JoinedOf
import Derived.ChangeArms
import Derived.Test.YtgnpnfkncbnjnaaProg
import Derived.KernelRfl
set_option linter.unusedSimpArgs false
set_option linter.unusedVariables false
set_option maxHeartbeats 2000000
set_option maxRecDepth 100000
namespace Go.Am
open Go
section
variable {ρ ρ' : Rho} {s s1 s2 s3 : St} {w w' : World} {bs ns : List Nm} {xs ls ys ys' zs zs' : List Blk} {mp : List (Nm × Nm)} {v v' : AV} {cv : Value}
noncomputable def Rho.given (ρ ρ' : Rho) (nn ns : List Nm) : Rho := ⟨fun i => match lookN i (zipN nn ns) with | some c => ρ' c | none => ρ i, ρ'.fz⟩
theorem Jh {α : Type} {l r : List α} (h : (l ++ r).Nodup) {a : α} (h1 : a ∈ l) (h2 : a ∈ r) : False := by
 rw [List.nodup_append] at h
 exact h.2.2 a h1 a h2 rfl
theorem Z8b (hr : HR ρ s.H w) (hf : Fr ρ s) (hn : bs.Nodup) (hcalm : calm xs = true) (hg : getAll s.H bs = some xs) (hls : renBs (zipN bs (namesFrom [] 0 bs.length)) xs = some ls)
  (hst : Stp (ρ.lent bs) ⟨zipB (namesFrom [] 0 bs.length) ls, bs.length, [], false, []⟩ w ρ' s1 w') (hr' : HR ρ' s1.H w') (hv : VR ρ' v cv)
  (hy : getAll s1.H (namesFrom [] 0 bs.length) = some ys) (hz : getAll s1.H ns = some zs) (hnd : (namesFrom [] 0 bs.length ++ ns).Nodup)
  (hmp : mp = zipN (namesFrom [] 0 bs.length ++ ns) (bs ++ namesFrom s.pre s.n zs.length)) (hv' : renV mp v = some v') (hy' : renBs mp ys = some ys') (hz' : renBs mp zs = some zs')
  (hput : ∀ (i : Nat) b, bs[i]? = some b -> ∃ x, ys'[i]? = some x /\ hget s2.H b = some x) (hput' : ∀ b, b ∉ bs -> hget s2.H b = hget s.H b) (hp2 : s2.pre = s.pre) (hn2 : s2.n = s.n)
  (hnew : ∀ (i : Nat) x, zs'[i]? = some x -> hget s3.H (s.pre ++ [s.n + i]) = some x) (hnew' : ∀ b, b ∉ namesFrom s.pre s.n zs'.length -> hget s3.H b = hget s2.H b) (hp3 : s3.pre = s.pre) (hn3 : s3.n = s.n + zs'.length) :
  ∃ ρ2, Stp ρ s w ρ2 s3 w' /\ HR ρ2 s3.H w' /\ VR ρ2 v' cv := by
 obtain ⟨hren, hr0, hf0, hall⟩ := Z8a hr hn hg hls
 obtain ⟨gy1, gy2⟩ := Yu hy
 obtain ⟨gz1, gz2⟩ := Yu hz
 obtain ⟨ky1, ky2⟩ := Jc hy'
 obtain ⟨kz1, kz2⟩ := Jc hz'
 obtain ⟨gx1, gx2⟩ := Yu hg
 have hzl : zs'.length = ns.length := by rw [kz1, gz1]
 rw [Ya] at gy1
 obtain ⟨ks, hks⟩ : ∃ ks, ks = namesFrom [] 0 bs.length := ⟨_, rfl⟩
 obtain ⟨nn, hnn⟩ : ∃ nn, nn = namesFrom s.pre s.n ns.length := ⟨_, rfl⟩
 have hksl : ks.length = bs.length := by rw [hks, Ya]
 have hks_at : ∀ i, i < bs.length -> ks[i]? = some [i] := fun i hi => by rw [hks, Zw [] 0 _ i hi]; simp
 have hnn_at : ∀ i, i < ns.length -> nn[i]? = some (s.pre ++ [s.n + i]) := fun i hi => by rw [hnn, Zw _ _ _ i hi]
 have hnnd : nn.Nodup := by rw [hnn]; exact Yw _ _ _
 rw [gz1, <- hks, <- hnn] at hmp
 rw [<- hks] at hnd hy
 have hfresh : ∀ b, b ∈ nn -> ρ b = none := by
  intro b hb
  rw [hnn] at hb
  obtain ⟨i, _, rfl⟩ := Yb hb
  exact hf (s.n + i) [] (Nat.le_add_right _ _)
 obtain ⟨ρ2, hρ2⟩ : ∃ ρ2, ρ2 = ρ.given ρ' nn ns := ⟨_, rfl⟩
 have h2new : ∀ (i : Nat) a, ns[i]? = some a -> ρ2 (s.pre ++ [s.n + i]) = ρ' a := by
  intro i a ha
  have hlt := (List.getElem?_eq_some_iff.1 ha).1
  have := Z3h i hnnd (hnn_at i hlt) ha
  rw [hρ2]
  show (match lookN (s.pre ++ [s.n + i]) (zipN nn ns) with | some c => ρ' c | none => ρ (s.pre ++ [s.n + i])) = _
  rw [this]
 have h2old : ∀ b, b ∉ nn -> ρ2 b = ρ b := by
  intro b hb
  rw [hρ2]
  show (match lookN b (zipN nn ns) with | some c => ρ' c | none => ρ b) = _
  cases hl : lookN b (zipN nn ns) with
  | none => rfl
  | some c => obtain ⟨i, h1, _⟩ := Xz hl; exact absurd (List.mem_of_getElem? h1) hb
 have hbs_nn : ∀ (i : Nat) b, bs[i]? = some b -> b ∉ nn := by
  intro i b hb hm
  obtain ⟨x, hx, hxx⟩ := gx2 i b hb
  obtain ⟨p, hp, _⟩ := hr.blocks b x hxx
  rw [hfresh b hm] at hp; cases hp
 have hio : ∀ (i : Nat) b, bs[i]? = some b -> ∃ p, ρ b = some p /\ ρ' [i] = some p := by
  intro i b hb
  obtain ⟨x, hx, hxx⟩ := gx2 i b hb
  obtain ⟨p, hp, _⟩ := hr.blocks b x hxx
  exact ⟨p, hp, hst.ext.pl _ _ (by rw [Z0j (Nat.le_refl _) i b hb]; exact hp)⟩
 have hx : Ext ρ ρ2 := by
  refine ⟨fun b p hp => ?_, fun c k u hu => ?_⟩
  ·rw [h2old b fun hm => by rw [hfresh b hm] at hp; cases hp]; exact hp
  ·rw [hρ2]; exact hst.ext.fz c k u hu
 have hren2 : Ren ρ' ρ2 mp := by
  refine ⟨fun a c hl p hp => ?_, fun c k u hu => by rw [hρ2]; exact hu⟩
  rw [hmp] at hl
  obtain ⟨i, h1, h2⟩ := Xz hl
  by_cases hlt : i < bs.length
  ·rw [List.getElem?_append_left (by omega), hks_at i hlt] at h1
   rw [List.getElem?_append_left hlt] at h2
   obtain rfl := Option.some.inj h1
   obtain ⟨q, hq, hq'⟩ := hio i c h2
   rw [hp] at hq'; obtain rfl := Option.some.inj hq'
   rw [h2old c (hbs_nn i c h2)]; exact hq
  ·rw [List.getElem?_append_right (by omega), hksl] at h1
   rw [List.getElem?_append_right (by omega)] at h2
   have hlt2 := (List.getElem?_eq_some_iff.1 h1).1
   rw [hnn_at _ hlt2] at h2
   obtain rfl := Option.some.inj h2
   rw [h2new _ _ h1]; exact hp
 have hvr := (Z56 hren2 v v' cv hv' hv).1
 have himg0 : ∀ c, Img (ρ.lent bs) (zipB (namesFrom [] 0 bs.length) ls) c -> ∃ (i : Nat) (b : Nm) (x : Blk) (p : Place), bs[i]? = some b /\ hget s.H b = some x /\ x.rwB = true /\ ρ b = some p /\ p.blk = c := by
  rintro c ⟨j, y, p, hj, hw, hp, rfl⟩
  obtain ⟨k, b, rfl, hb, hpb⟩ := Z66 hp
  obtain ⟨x, y', h1, h2, h3⟩ := hall k b hb
  exact ⟨k, b, x, p, hb, h1, (Zz h3).1, hpb, rfl⟩
 have horig : ∀ b x, hget s3.H b = some x ->
   (∃ (a : Nm) (y : Blk), ρ2 b = ρ' a /\ hget s1.H a = some y /\ renB mp y = some x /\ ((∃ i : Nat, ks[i]? = some a /\ bs[i]? = some b) \/ (∃ i : Nat, ns[i]? = some a /\ b = s.pre ++ [s.n + i]))) ∨
   (hget s.H b = some x /\ b ∉ bs /\ b ∉ nn /\ ρ2 b = ρ b) := by
  intro b x hb
  by_cases hm : b ∈ nn
  ·have hm' := hm
   rw [hnn] at hm'
   obtain ⟨i, hi, rfl⟩ := Yb hm'
   obtain ⟨y, g1, g2⟩ := gz2 i _ (List.getElem?_eq_getElem hi)
   obtain ⟨x', g3, g4⟩ := kz2 i y g1
   have := hnew i x' g3
   rw [hb] at this; obtain rfl := Option.some.inj this
   exact .inl ⟨_, y, h2new i _ (List.getElem?_eq_getElem hi), g2, g4, .inr ⟨i, List.getElem?_eq_getElem hi, rfl⟩⟩
  ·have e1 : hget s3.H b = hget s2.H b := hnew' b (by rw [hzl, <- hnn]; exact hm)
   rw [e1] at hb
   by_cases hb' : b ∈ bs
   ·obtain ⟨i, hi⟩ := List.mem_iff_getElem?.1 hb'
    have hlt := (List.getElem?_eq_some_iff.1 hi).1
    obtain ⟨x', g1, g2⟩ := hput i b hi
    rw [hb] at g2; obtain rfl := Option.some.inj g2
    have hk := hks_at i hlt
    obtain ⟨y, g3, g4⟩ := gy2 i [i] (by rw [<- hks]; exact hk)
    obtain ⟨x2, g5, g6⟩ := ky2 i y g3
    rw [g1] at g5; obtain rfl := Option.some.inj g5
    obtain ⟨p, hp, hp'⟩ := hio i b hi
    exact .inl ⟨[i], y, by rw [h2old b hm, hp, hp'], g4, g6, .inl ⟨i, hk, hi⟩⟩
   ·rw [hput' b hb'] at hb
    exact .inr ⟨hb, hb', hm, h2old b hm⟩
 have hapart : ∀ b x p, hget s.H b = some x -> ρ b = some p -> b ∉ bs -> ¬ Img (ρ.lent bs) (zipB (namesFrom [] 0 bs.length) ls) p.blk := by
  intro b x p hb hp hbs hi
  obtain ⟨i, b', x', p', h1, h2, h3, h4, h5⟩ := himg0 _ hi
  exact hr.sep b' b x' x p' p h2 hb h4 hp (fun e => by subst e; exact hbs (List.mem_of_getElem? h1)) h3 h5
 have hsame : ∀ b x p, hget s.H b = some x -> ρ b = some p -> b ∉ bs -> w'.heap[p.blk]? = w.heap[p.blk]? := fun b x p hb hp hbs => hst.unch _ (Y8 hr hb hp) (hapart b x p hb hp hbs)
 have hcross : ∀ (a : Nm) y pa b x pb, hget s1.H a = some y -> y.rwB = true -> ρ' a = some pa -> (∃ i : Nat, ks[i]? = some a \/ ns[i]? = some a) -> hget s.H b = some x -> ρ b = some pb -> b ∉ bs -> pa.blk ≠ pb.blk := by
  intro a y pa b x pb ha hw hpa _ hb hpb hbs e
  exact hapart b x pb hb hpb hbs (by rw [<- e]; exact hst.img _ (by rw [e]; exact Y8 hr hb hpb) ⟨a, y, pa, ha, hw, hpa, rfl⟩)
 refine ⟨ρ2, ⟨hx, ?_, hp3, by rw [hn3]; exact Nat.le_add_right _ _, hst.same, hst.size, ?_, ?_, ?_⟩, ⟨?_, ?_, ?_, ?_, ?_⟩, hvr⟩
 ·intro b p hb hno
  by_cases hm : b ∈ nn
  ·rw [hnn] at hm
   obtain ⟨i, hi, rfl⟩ := Yb hm
   exact ⟨s.n + i, [], rfl, Nat.le_add_right _ _, by rw [hn3, hzl]; omega⟩
  ·rw [h2old b hm, hno] at hb; cases hb
 ·intro c hc hi
  refine hst.unch c hc fun h => hi ?_
  obtain ⟨i, b, x, p, _, h2, h3, h4, h5⟩ := himg0 _ h
  exact ⟨b, x, p, h2, h3, h4, h5⟩
 ·rintro c hc ⟨b, x, p, hb, hw, hp, rfl⟩
  rcases horig b x hb with ⟨a, y, h1, h2, h3, _⟩ | ⟨h1, _, _, h4⟩
  ·have hi := hst.img p.blk hc ⟨a, y, p, h2, (Zz h3).1, by rw [<- h1]; exact hp, rfl⟩
   obtain ⟨i, b', x', p', _, g2, g3, g4, g5⟩ := himg0 _ hi
   exact ⟨b', x', p', g2, g3, g4, g5⟩
  ·exact ⟨b, x, p, h1, hw, by rw [<- h4]; exact hp, rfl⟩
 ·intro c k u hu hno hc
  rw [hρ2] at hu
  obtain ⟨i, b', x', p', _, g2, g3, g4, g5⟩ := himg0 _ (hst.fzl c k u hu hno hc)
  exact ⟨b', x', p', g2, g3, g4, g5⟩
 ·intro b x hb
  rcases horig b x hb with ⟨a, y, h1, h2, h3, _⟩ | ⟨h1, h2, _, h4⟩
  ·obtain ⟨p, hp, hbo⟩ := hr'.blocks a y h2
   exact ⟨p, by rw [h1]; exact hp, Z89 hren2 h3 hbo⟩
  ·obtain ⟨p, hp, hbo⟩ := hr.blocks b x h1
   exact ⟨p, by rw [h4]; exact hp, by rw [hsame b x p h1 hp h2]; exact hbo.mono hx⟩
 ·intro b b2 x x2 p p2 hb hb2 hp hp2 hne hw
  rcases horig b x hb with ⟨a, y, h1, h2, h3, h4⟩ | ⟨h1, h2, h3, h4⟩
  ·have hya := (Zz h3).1
   rcases horig b2 x2 hb2 with ⟨a2, y2, k1, k2, k3, k4⟩ | ⟨k1, k2, k3, k4⟩
   ·refine hr'.sep a a2 y y2 p p2 h2 k2 (by rw [<- h1]; exact hp) (by rw [<- k1]; exact hp2) (fun e => ?_) hya
    subst e
    rcases h4 with ⟨i, i1, i2⟩ | ⟨i, i1, i2⟩ <;> rcases k4 with ⟨j, j1, j2⟩ | ⟨j, j1, j2⟩
    ·have hi := (List.getElem?_eq_some_iff.1 i2).1
     have hj := (List.getElem?_eq_some_iff.1 j2).1
     rw [hks_at i hi] at i1; rw [hks_at j hj] at j1
     rw [<- i1] at j1
     have : j = i := by simpa using Option.some.inj j1
     subst this; rw [i2] at j2; exact hne (Option.some.inj j2)
    ·exact Jh hnd (List.mem_of_getElem? i1) (List.mem_of_getElem? j1)
    ·exact Jh hnd (List.mem_of_getElem? j1) (List.mem_of_getElem? i1)
    ·have hns : ns.Nodup := (List.nodup_append.1 hnd).2.1
     have : i = j := Z1o hns i1 j1
     subst this; exact hne (i2.trans j2.symm)
   ·exact hcross a y p b2 x2 p2 h2 hya (by rw [<- h1]; exact hp) (h4.elim (fun ⟨i, hi, _⟩ => ⟨i, .inl hi⟩) (fun ⟨i, hi, _⟩ => ⟨i, .inr hi⟩)) k1 (by rw [<- k4]; exact hp2) k2
  ·rcases horig b2 x2 hb2 with ⟨a2, y2, k1, k2, k3, k5⟩ | ⟨k1, k2, k3, k4⟩
   ·exact Ne.symm (hcross a2 y2 p2 b x p k2 (Zz k3).1 (by rw [<- k1]; exact hp2) (k5.elim (fun ⟨i, hi, _⟩ => ⟨i, .inl hi⟩) (fun ⟨i, hi, _⟩ => ⟨i, .inr hi⟩)) h1 (by rw [<- h4]; exact hp) h2)
   ·exact hr.sep b b2 x x2 p p2 h1 k1 (by rw [<- h4]; exact hp) (by rw [<- k4]; exact hp2) hne hw
 ·intro b m left last hb
  rcases horig b _ hb with ⟨a, y, h1, h2, h3, _⟩ | ⟨h1, h2, h3, h4⟩
  ·exact absurd rfl ((Zz h3).2.2.2.2.1 m left last)
  ·obtain ⟨⟨es, he⟩, hmi⟩ := hr.iter b m left last h1
   have hmbs : m ∉ bs := by
    intro hm
    obtain ⟨i, hi⟩ := List.mem_iff_getElem?.1 hm
    obtain ⟨x, g1, g2⟩ := gx2 i m hi
    rw [he] at g2; obtain rfl := Option.some.inj g2
    have key : ∀ (l : List Blk) (i : Nat), l[i]? = some (.map es true) -> calm l = true -> False := by
     intro l
     induction l with
     | nil => intro i h; simp at h
     | cons z r ih =>
      intro i h hc
      cases i with
      | zero => simp at h; subst h; simp [calm] at hc
      | succ i =>
       have hc' : calm r = true := by
        unfold calm at hc
        split at hc
        ·cases hc
        ·exact hc
       exact ih i (by simpa using h) hc'
    exact key xs i g1 hcalm
   have hmnn : m ∉ nn := fun hm => by
    obtain ⟨p, hp, _⟩ := hr.blocks m _ he
    rw [hfresh m hm] at hp; cases hp
   refine ⟨⟨es, by rw [hnew' m (by rw [hzl, <- hnn]; exact hmnn), hput' m hmbs]; exact he⟩, fun p pm hp hpm => ?_⟩
   rw [h4] at hp
   rw [h2old m hmnn] at hpm
   rw [hsame b _ p h1 hp h2, hsame m _ pm he hpm hmbs]
   exact (hmi p pm hp hpm).mono hx
 ·intro c k u hu
  rw [hρ2] at hu
  exact hr'.frz c k u hu
 ·intro b x p hb hw hp k hk
  rcases horig b x hb with ⟨a, y, h1, h2, h3, _⟩ | ⟨h1, h2, h3, h4⟩
  ·rw [hρ2]
   exact hr'.fsep a y p h2 (Zz h3).1 (by rw [<- h1]; exact hp) k (by rw [<- (Zz h3).2.2.1]; exact hk)
  ·rw [h4] at hp
   cases hu : ρ2.fz p.blk k with
   | none => rfl
   | some u =>
    rw [hρ2] at hu
    exact (hapart b x p h1 hp h2 (hst.fzl _ k u hu (hr.fsep b x p h1 hw hp k hk) (Y8 hr h1 hp))).elim
end
end Go.Am
namespace Go.Am
open Go
theorem Z8c {ρ : Rho} {s : St} {w : World} (hr : HR ρ s.H w) {b : Nm} {cs : List AV} {u : Nat} (hx : hget s.H b = some (.cells cs true u)) :
  ∃ ρ', Stp ρ s w ρ' (s.put b (.cells cs false u)) w /\ HR ρ' (s.put b (.cells cs false u)).H w := by
 obtain ⟨p, hp, hu, ccs, e, fr, ho, ht, hf, hc⟩ := hr.blocks b _ hx
 have hgo : ∀ i z, i ≠ b -> hget (hset s.H b (.cells cs false u)) i = some z -> hget s.H i = some z := fun i z h hz => by rw [<- Z0 s.H (.cells cs false u) (Ne.symm h)]; exact hz
 have hgb : hget (hset s.H b (.cells cs false u)) b = some (.cells cs false u) := Z4 _ hx
 have hext : Ext ρ (ρ.ice p.blk 0 ccs.size ccs) := Z31 hr ho
 have hother : ∀ i x q, hget s.H i = some x -> ρ i = some q -> i ≠ b -> p.blk ≠ q.blk := fun i x q h1 h2 h3 => hr.sep b i _ x p q hx h1 hp h2 (Ne.symm h3) rfl
 refine ⟨ρ.ice p.blk 0 ccs.size ccs, ⟨hext, fun i q h h' => (by have h : ρ i = some q := h; rw [h] at h'; cases h'), rfl, Nat.le_refl _, Same.refl _, Nat.le_refl _, fun _ _ _ => rfl, ?_, ?_⟩, ⟨?_, ?_, ?_, ?_, ?_⟩⟩
 ·rintro c _ ⟨i, x, q, h1, h2, h3, h4⟩
  by_cases e : i = b
  ·subst e; exact ⟨i, _, q, hx, rfl, h3, h4⟩
  ·exact ⟨i, x, q, hgo i x e h1, h2, h3, h4⟩
 ·intro c k v hv hn hc
  rcases Rho.ice_cases hv with ⟨rfl, _⟩ | h
  ·exact ⟨b, _, p, hx, rfl, hp, rfl⟩
  ·rw [h] at hn; cases hn
 ·intro i x hi
  by_cases e : i = b
  ·subst e
   rw [show hget (s.put i (.cells cs false u)).H i = some (.cells cs false u) from hgb] at hi
   obtain rfl := Option.some.inj hi
   refine ⟨p, hp, hu, ccs, _, fr, ho, ht, fun k v hk => ?_, hc.mono hext⟩
   rw [Rho.ice_in _ (Nat.zero_le _) (Array.getElem?_eq_some_iff.1 hk).1]; exact hk
  ·obtain ⟨q, hq, hbo⟩ := hr.blocks i x (hgo i x e hi)
   exact ⟨q, hq, hbo.mono hext⟩
 ·intro i j x x' q q' h1 h2 h3 h4 h5 h6
  by_cases e : i = b
  ·subst e
   rw [show hget (s.put i (.cells cs false u)).H i = some (.cells cs false u) from hgb] at h1
   obtain rfl := Option.some.inj h1
   cases h6
  ·by_cases e' : j = b
   ·subst e'
    exact hr.sep i j x _ q q' (hgo i x e h1) hx h3 h4 h5 h6
   ·exact hr.sep i j x x' q q' (hgo i x e h1) (hgo j x' e' h2) h3 h4 h5 h6
 ·intro i m left last h1
  have e : i ≠ b := fun e => by subst e; rw [show hget (s.put i (.cells cs false u)).H i = some (.cells cs false u) from hgb] at h1; cases h1
  obtain ⟨⟨es, he⟩, hmi⟩ := hr.iter i m left last (hgo i _ e h1)
  have hmb : m ≠ b := fun e => by subst e; rw [hx] at he; cases he
  exact ⟨⟨es, by show hget (hset s.H b _) m = _; rw [Z0 _ _ (Ne.symm hmb)]; exact he⟩, fun q pm hq hpm => (hmi q pm hq hpm).mono hext⟩
 ·intro c k v hv
  rcases Rho.ice_cases hv with ⟨rfl, _, _, h⟩ | h
  ·exact ⟨ccs, e, fr, ho, h⟩
  ·exact hr.frz c k v h
 ·intro i x q h1 h2 h3 k hk
  have e : i ≠ b := fun e => by
   subst e
   rw [show hget (s.put i (.cells cs false u)).H i = some (.cells cs false u) from hgb] at h1
   obtain rfl := Option.some.inj h1
   cases h2
  cases hv : (ρ.ice p.blk 0 ccs.size ccs).fz q.blk k with
  | none => rfl
  | some v =>
   rcases Rho.ice_cases hv with ⟨h4, _⟩ | h
   ·exact absurd h4.symm (hother i x q (hgo i x e h1) h3 e)
   ·rw [hr.fsep i x q (hgo i x e h1) h2 h3 k hk] at h; cases h
def Kept (H H' : Heap) : Prop := ∀ b cs rw u, hget H b = some (.cells cs rw u) -> ∃ rw', hget H' b = some (.cells cs rw' u) /\ (rw = false -> rw' = false)
theorem Kept.refl (H : Heap) : Kept H H := fun b cs rw u h => ⟨rw, h, id⟩
theorem Kept.trans {H H' H'' : Heap} (h : Kept H H') (h' : Kept H' H'') : Kept H H'' := fun b cs rw u e => by
 obtain ⟨r1, e1, k1⟩ := h b cs rw u e
 obtain ⟨r2, e2, k2⟩ := h' b cs r1 u e1
 exact ⟨r2, e2, fun q => k2 (k1 q)⟩
theorem Z8d {ρ : Rho} {s : St} {w : World} {b : Nm} {Q : Unit × St -> Prop} (hr : HR ρ s.H w) (h : (iceB b s).All Q) :
  ∃ s' ρ', Q ((), s') /\ Stp ρ s w ρ' s' w /\ HR ρ' s'.H w /\ Kept s.H s'.H /\ ∃ cs u, hget s'.H b = some (.cells cs false u) := by
 unfold iceB at h
 obtain ⟨x, hx, h⟩ := (Zo _ _ _).1 ((M.all_bind _ _ _ _).1 h)
 simp only at h
 cases x with
 | cells cs rw_ u =>
  cases rw_ with
  | true =>
   simp only at h
   obtain ⟨_, hq⟩ := (Y1 _ _ _ _).1 h
   obtain ⟨ρ', h1, h2⟩ := Z8c hr hx
   refine ⟨_, ρ', hq, h1, h2, fun i cs' rw' u' hi => ?_, cs, u, Z4 _ hx⟩
   by_cases e : i = b
   ·subst e; rw [hx] at hi; injection hi with hi; injection hi with e1 e2 e3; subst e1; subst e2; subst e3
    exact ⟨false, Z4 _ hx, fun _ => rfl⟩
   ·exact ⟨rw', (Z0 _ _ (Ne.symm e)).trans hi, id⟩
  | false => exact ⟨s, ρ, h, Stp.refl _ _ _, hr, Kept.refl _, cs, u, hx⟩
 | _ => exact h.elim
theorem Z1r {w : World} : ∀ {bs : List Nm} {ρ : Rho} {s : St} {Q : Unit × St -> Prop}, HR ρ s.H w -> (iceAll bs s).All Q ->
  ∃ s' ρ', Q ((), s') /\ Stp ρ s w ρ' s' w /\ HR ρ' s'.H w /\ Kept s.H s'.H /\ ∀ b ∈ bs, ∃ cs u, hget s'.H b = some (.cells cs false u)
 | [], ρ, s, Q, hr, h => ⟨s, ρ, h, Stp.refl _ _ _, hr, Kept.refl _, fun _ h => by cases h⟩
 | b :: r, ρ, s, Q, hr, h => by
  have h := (M.all_bind _ _ _ _).1 h
  obtain ⟨s1, ρ1, h1, h2, h3, h4, cs, u, h5⟩ := Z8d hr h
  obtain ⟨s2, ρ2, g1, g2, g3, g4, g5⟩ := Z1r (bs := r) h3 h1
  refine ⟨s2, ρ2, g1, h2.trans g2, g3, h4.trans g4, fun i hi => ?_⟩
  rcases List.mem_cons.1 hi with rfl | hi
  ·obtain ⟨rw', k1, k2⟩ := g4 _ _ _ _ h5
   exact ⟨cs, u, by rw [k1, k2 rfl]⟩
  ·exact g5 i hi
theorem Z67 {H : Heap} : ∀ {bs : List Nm} {xs : List Blk} {b : Nm} {x : Blk}, getAll H bs = some xs -> hget (zipB bs xs) b = some x -> b ∈ bs /\ hget H b = some x
 | [], xs, b, x, h, hx => by
  cases xs <;> (simp only [zipB] at hx; simp at hx)
 | c :: r, xs, b, x, h, hx => by
  simp only [getAll] at h
  cases hc : hget H c with
  | none => rw [hc] at h; cases h
  | some y =>
   rw [hc] at h; simp only at h
   cases hr : getAll H r with
   | none => rw [hr] at h; cases h
   | some l =>
    rw [hr] at h; simp only [Option.some.injEq] at h; subst h
    by_cases e : c = b
    ·subst e
     rw [show zipB (c :: r) (y :: l) = (c, y) :: zipB r l from rfl, Z6] at hx
     obtain rfl := Option.some.inj hx
     exact ⟨List.mem_cons_self, hc⟩
    ·rw [show zipB (c :: r) (y :: l) = (c, y) :: zipB r l from rfl, Z1 _ _ e] at hx
     obtain ⟨h1, h2⟩ := Z67 hr hx
     exact ⟨List.mem_cons_of_mem _ h1, h2⟩
section
variable {ρ : Rho} {H : Heap} {w : World}
def AllIce (ρ : Rho) (H : Heap) (w : World) : Prop := ∀ b cs rw u, hget H b = some (.cells cs rw u) -> ∃ p ccs e fr, ρ b = some p /\ p.unit = u /\ w.heap[p.blk]? = some (.cells ccs e fr) /\ CellsR ρ cs p.off ccs /\ ∀ k v, ccs[k]? = some v -> ρ.fz p.blk k = some v
mutual
theorem Zb3 (hB : AllIce ρ H w) {row : List AV -> Option (List AV)} (hrow : RowOk ρ ρ row) : ∀ (a a' : AV) (v : Value), iceG row H a = some a' -> VR ρ a v -> VR ρ a' v /\ (a.sc = true -> a'.sc = true)
 | .own b l, a', v, h, hv => by
  simp only [iceG, Option.some.injEq] at h; subst h
  exact ⟨VR.shut (.own b l) v hv, fun _ => rfl⟩
 | .nils, a', v, h, hv => by
  simp only [iceG, Option.some.injEq] at h; subst h
  exact ⟨VR.shut .nils v hv, fun _ => rfl⟩
 | .empty, a', v, h, hv => by
  simp only [iceG, Option.some.injEq] at h; subst h
  exact ⟨VR.shut .empty v hv, fun _ => rfl⟩
 | .agg cs, a', v, h, hv => by
  simp only [iceG] at h
  cases hc : iceGs row H cs with
  | none => rw [hc] at h; cases h
  | some l =>
   rw [hc] at h; simp only [Option.some.injEq] at h; subst h
   simp only [VR] at hv
   obtain ⟨vs, rfl, h1, h2⟩ := hv
   obtain ⟨g1, g2⟩ := Z10 hB hrow cs l vs hc h1
   exact ⟨by simp only [VR]; exact ⟨vs, rfl, g1, g2 h2⟩, fun h => by cases h⟩
 | .slice b o n c ex, a', v, h, hv => by
  simp only [VR] at hv
  obtain ⟨p, o', c', hp, aa, rfl, ha, h1, h2, h3, h4, h5⟩ := hv
  simp only [iceG] at h
  cases n with
  | zero =>
   simp only [Option.some.injEq] at h; subst h
   exact ⟨by simp only [VR]; exact ⟨_, c', rfl, by simp, fun h => absurd rfl h⟩, fun _ => rfl⟩
  | succ n =>
   simp only at h
   cases hb : hget H b with
   | none => rw [hb] at h; cases h
   | some x =>
    rw [hb] at h
    cases x with
    | cells cs rw_ u =>
     simp only at h
     cases hu : Nat.ble 1 u with
     | false => rw [hu] at h; cases h
     | true =>
      cases hn : readN cs o ((n + 1) * u) with
      | none => rw [hu, hn] at h; cases h
      | some l =>
       rw [hu, hn] at h; simp only at h
       cases hl : row l with
       | none => rw [hl] at h; cases h
       | some l' =>
        rw [hl] at h; simp only [Option.some.injEq] at h; subst h
        obtain ⟨q, ccs, e, fr, hq, hqu, ho, hcr, hfz⟩ := hB _ _ _ _ hb
        rw [hp] at hq; obtain rfl := Option.some.inj hq
        obtain ⟨vs, k1, k2, k3, k4⟩ := Yd hcr hn
        obtain ⟨j1, j2⟩ := hrow l l' hl vs k1 k4
        obtain ⟨es, m1, m2, m3, m4, m5⟩ := Jy (n + 1) j1 j2 k2
        obtain rfl := ha (by omega)
        refine ⟨?_, fun _ => rfl⟩
        simp only [VR]
        refine ⟨_, c', by rw [m5], by rw [m5]; omega, fun _ => ⟨p.blk, o', u, rfl, Nat.le_of_ble_eq_true hu, FR.intro m1 m2 m3 fun k x hk => ?_⟩⟩
        rw [m4] at hk
        exact hfz _ _ (by rw [h1 (by omega)]; exact k3 k x hk)
    | _ => cases h
 | .int k n, a', v, h, hv => by simp only [iceG, Option.some.injEq] at h; subst h; exact ⟨hv, id⟩
 | .bool k, a', v, h, hv => by simp only [iceG, Option.some.injEq] at h; subst h; exact ⟨hv, id⟩
 | .str s, a', v, h, hv => by simp only [iceG, Option.some.injEq] at h; subst h; exact ⟨hv, id⟩
 | .nilp, a', v, h, hv => by simp only [iceG, Option.some.injEq] at h; subst h; exact ⟨hv, id⟩
 | .ptr b o, a', v, h, hv => by simp only [iceG, Option.some.injEq] at h; subst h; exact ⟨hv, id⟩
 | .lst l, a', v, h, hv => by simp only [iceG, Option.some.injEq] at h; subst h; exact ⟨hv, id⟩
 | .fptr l o, a', v, h, hv => by simp only [iceG, Option.some.injEq] at h; subst h; exact ⟨hv, id⟩
 | .nilm, a', v, h, hv => by simp only [iceG, Option.some.injEq] at h; subst h; exact ⟨hv, id⟩
 | .map b, a', v, h, hv => by simp only [iceG, Option.some.injEq] at h; subst h; exact ⟨hv, id⟩
 | .func f l, a', v, h, hv => by simp only [iceG, Option.some.injEq] at h; subst h; exact ⟨hv, id⟩
 | .yield l, a', v, h, hv => by simp only [iceG, Option.some.injEq] at h; subst h; exact ⟨hv, id⟩
 | .nilf, a', v, h, hv => by simp only [iceG, Option.some.injEq] at h; subst h; exact ⟨hv, id⟩
 | .nili, a', v, h, hv => by simp only [iceG, Option.some.injEq] at h; subst h; exact ⟨hv, id⟩
 | .tuple l, a', v, h, hv => by simp only [iceG, Option.some.injEq] at h; subst h; exact ⟨hv, id⟩
 | .undef, a', v, h, hv => by simp only [iceG, Option.some.injEq] at h; subst h; exact ⟨hv, id⟩
theorem Z10 (hB : AllIce ρ H w) {row : List AV -> Option (List AV)} (hrow : RowOk ρ ρ row) : ∀ (l l' : List AV) (vs : List Value), iceGs row H l = some l' -> VRs ρ l vs -> VRs ρ l' vs /\ ((∀ c ∈ l, c.sc = true) -> ∀ c ∈ l', c.sc = true)
 | [], l', vs, h, hv => by simp only [iceGs, Option.some.injEq] at h; subst h; exact ⟨hv, fun _ c hc => by simp at hc⟩
 | a :: r, l', vs, h, hv => by
  simp only [iceGs] at h
  cases ha : iceG row H a with
  | none => rw [ha] at h; cases h
  | some a' =>
   rw [ha] at h; simp only at h
   cases hl : iceGs row H r with
   | none => rw [hl] at h; cases h
   | some r' =>
    rw [hl] at h; simp only [Option.some.injEq] at h; subst h
    simp only [VRs] at hv
    obtain ⟨v, t, rfl, h1, h2⟩ := hv
    obtain ⟨g1, g2⟩ := Zb3 hB hrow a a' v ha h1
    obtain ⟨k1, k2⟩ := Z10 hB hrow r r' t hl h2
    refine ⟨by simp only [VRs]; exact ⟨v, t, rfl, g1, k1⟩, fun hs c hc => ?_⟩
    rcases List.mem_cons.1 hc with rfl | hc
    ·exact g2 (hs a List.mem_cons_self)
    ·exact k2 (fun c hc => hs c (List.mem_cons_of_mem _ hc)) c hc
end
theorem Z8e (hB : AllIce ρ H w) : ∀ d, RowOk ρ ρ (iceD H d)
 | 0 => fun l l' h => by cases h
 | d + 1 => fun l l' h vs hv hs => by
  obtain ⟨g1, g2⟩ := Z10 hB (Z8e hB d) l l' vs h hv
  exact ⟨g1, g2 hs⟩
end
theorem Z8f {ρ : Rho} {s : St} {w : World} {args : List AV} {vs : List Value} {Q : List AV × St -> Prop} (hr : HR ρ s.H w) (ha : VRs ρ args vs) (h : (iceA args s).All Q) :
  ∃ l s' ρ', Q (l, s') /\ Stp ρ s w ρ' s' w /\ HR ρ' s'.H w /\ flats l = true /\ VRs ρ' l vs := by
 unfold iceA at h
 have h := (M.all_bind _ _ _ _).1 h
 obtain ⟨bs, xs, h, hg⟩ := Ja _ _ _ _ (by rfl) h
 simp only at h
 have h := (M.all_bind _ _ _ _).1 h
 obtain ⟨s', ρ', h, h1, h2, h3, h4⟩ := Z1r hr h
 simp only at h
 have hB : AllIce ρ' (zipB bs xs) w := by
  intro b cs rw_ u hb
  obtain ⟨hm, hs⟩ := Z67 hg hb
  obtain ⟨cs', u', hb'⟩ := h4 b hm
  obtain ⟨rw', hb2, _⟩ := h3 _ _ _ _ hs
  rw [hb'] at hb2
  injection hb2 with hb2; injection hb2 with e1 e2 e3; subst e1; subst e3
  obtain ⟨p, hp, hu, ccs, e, fr, ho, _, hf, hc⟩ := h2.blocks _ _ hb'
  exact ⟨p, ccs, e, fr, hp, hu, ho, hc, hf⟩
 cases hi : iceGs (iceD (zipB bs xs) 6) (zipB bs xs) args with
 | none => rw [hi] at h; exact h.elim
 | some l =>
  rw [hi] at h; simp only at h
  cases hfl : flats l with
  | false => rw [hfl] at h; exact h.elim
  | true =>
   rw [hfl] at h
   exact ⟨l, s', ρ', h, h1, h2, hfl, (Z10 hB (Z8e hB 6) _ _ _ hi (VRs.mono h1.ext _ _ ha)).1⟩
end Go.Am
namespace Go.Am
open Go
noncomputable section
def CodesOk (C : Cfg) : Prop := ∀ f fn c, C.fn.get f = some fn -> fn.body = some c -> codeOk c false = true
section
variable {P : Program} {C : Cfg} {call : FuncId -> List AV -> M AV} {rnd : Nm -> List AV -> M AV} {n B : Nat} {F : Fence}
def resF (tmps : Array Value) : ResultVar -> Sem Value
 | .tmp t => pure (tmps.getD t undef)
 | .cell a t => do loadVar t (<- asAddr (tmps.getD a undef))
theorem Z8g {ρ : Rho} {T : List AV} {tmps : Array Value} (hT : VRs ρ T tmps.toList) {t : Nat} {v : AV} (h : nth T t = some v) : VR ρ v (tmps.getD t undef) := by
 obtain ⟨cv, h1, h2⟩ := VRs.nth _ _ hT t v h
 have : tmps[t]? = some cv := by simpa using h1
 simpa [Array.getD_eq_getD_getElem?, this] using h2
theorem J0 (hC : CfgOk P C) {ρ : Rho} {s : St} {w : World} {T : List AV} {tmps : Array Value} (hr : HR ρ s.H w) (hT : VRs ρ T tmps.toList) : ∀ (l : List ResultVar) (R : List AV × St -> Prop), (resultsA C T l s).All R ->
  ∃ vs cvs, R (vs, s) /\ (l.mapM (m := Sem) (resF tmps)).run P w = .ok cvs w /\ VRs ρ vs cvs
 | [], R, h => ⟨[], [], h, by simp, rfl⟩
 | .tmp t :: l, R, h => by
  unfold resultsA at h
  cases hv : nth T t with
  | none => rw [hv] at h; exact h.elim
  | some v =>
   rw [hv] at h; simp only at h
   rw [M.all_bind] at h
   obtain ⟨vs, cvs, h1, h2, h3⟩ := J0 hC hr hT l _ h
   refine ⟨v :: vs, tmps.getD t undef :: cvs, h1, ?_, ?_⟩
   ·simp only [List.mapM_cons, resF, Sem.run_bind, Sem.run_pure, Result.andThen_ok, h2]
   ·simp only [VRs]; exact ⟨_, _, rfl, Z8g hT hv, h3⟩
 | .cell a t :: l, R, h => by
  unfold resultsA at h
  cases hv : nth T a with
  | none => rw [hv] at h; exact h.elim
  | some v =>
   rw [hv] at h
   cases v with
   | ptr b o =>
    simp only at h
    rw [M.all_bind] at h
    unfold loadA at h
    rw [M.all_bind] at h
    obtain ⟨x, hx, h⟩ := (Zo _ _ _).1 h
    cases x with
    | cells cs rw_ u =>
     obtain ⟨v, hp, h⟩ := (M.all_of _ _ _).1 h
     rw [M.all_bind] at h
     obtain ⟨vs, cvs, h1, h2, h3⟩ := J0 hC hr hT l _ h
     obtain ⟨p, hpp, hbo⟩ := hr.blocks b _ hx
     obtain ⟨_, ccs, e, fr, ho, _, _, hcr⟩ := hbo
     have hvr := Z8g hT hv
     simp only [VR] at hvr
     obtain ⟨p', hp', hcv⟩ := hvr
     rw [hpp] at hp'; obtain rfl := Option.some.inj hp'
     obtain ⟨cv, g1, g2, _⟩ := Jn hC ho hcr hp
     refine ⟨v :: vs, cv :: cvs, h1, ?_, ?_⟩
     ·simp only [List.mapM_cons, resF, Sem.run_bind, hcv, asAddr, Sem.run_pure, Result.andThen_ok, g1, h2]
     ·simp only [VRs]; exact ⟨_, _, rfl, g2, h3⟩
    | _ => exact h.elim
   | _ => exact h.elim
theorem Z57 (hC : CfgOk P C) {ρ : Rho} {s : St} {w : World} {T : List AV} {tmps : Array Value} {fn : Func} (hr : HR ρ s.H w) (hT : VRs ρ T tmps.toList) {R : List AV × St -> Prop} (h : (resultsA C T fn.results.toList s).All R) :
  ∃ vs cv, R (vs, s) /\ (results fn tmps).run P w = .ok cv w /\ VR ρ (pack vs) cv := by
 obtain ⟨vs, cvs, h1, h2, h3⟩ := J0 hC hr hT _ R h
 refine ⟨vs, _, h1, (?_ : _ = Result.ok (if h : (⟨cvs⟩ : Array Value).size = 1 then (⟨cvs⟩ : Array Value)[0] else .tuple ⟨cvs⟩) w), ?_⟩
 ·have hd : results fn tmps = (do let vs <- fn.results.mapM (resF tmps); pure (if h : vs.size = 1 then vs[0] else .tuple vs)) := by
   unfold results
   rfl
  rw [hd, Array.mapM_eq_mapM_toList]
  show Sem.run P ((List.mapM _ fn.results.toList >>= fun x => pure x.toArray) >>= _) w = _
  simp only [Sem.run_bind, h2, Result.andThen_ok, Sem.run_pure]
 ·have hl := VRs.length _ _ h3
  cases vs with
  | nil => simp only [VRs] at h3; subst h3; simp [pack, VR, VRs]
  | cons v vs =>
   cases vs with
   | nil => simp only [VRs] at h3; obtain ⟨cv, t, rfl, g, rfl⟩ := h3; simpa [pack] using g
   | cons u vs =>
    have hne : ¬ (⟨cvs⟩ : Array Value).size = 1 := by simp at hl ⊢; omega
    rw [dif_neg hne]
    show VR ρ (.tuple (v :: u :: vs)) _
    simp only [VR]; exact ⟨cvs, rfl, h3⟩
theorem BO.no_deferred {ρ : Rho} {p : Place} {d : Option (List Deferred)} {x : Blk} (h : BO ρ p (some (.deferred d)) x) : False := by
 cases x with
 | cells cs rw u => obtain ⟨_, ccs, e, fr, ho, _⟩ := h; cases ho
 | tok n z => obtain ⟨_, _, ccs, e, ho, _⟩ := h; cases ho
 | map es fz => obtain ⟨ents, clock, ho, _⟩ := h; cases ho
 | loop T ps a b st pend => obtain ⟨l, ho, _⟩ := h; cases ho
 | strIter s pos => cases h.2
 | mapIter m left last => obtain ⟨_, pm, clock, seen, _, ho⟩ := h; cases ho
theorem Z2r {fn : Func} {tmps : Array Value} {R : Ending -> World -> Prop} {ρ : Rho} {s : St} : ∀ (ds : List Deferred) (w : World), HR ρ s.H w -> DefOk B ρ s.H w ds ->
  (∀ w', HR ρ s.H w' -> Same w w' -> w'.heap.size = w.heap.size -> (∀ c, c < B -> w'.heap[c]? = w.heap[c]?) -> LeavesIn Fence.wide n P fn tmps R [] .returning w') -> LeavesInM Fence.wide n P fn tmps R ds .returning w
 | [], w, hr, hd, hN => hN w hr (Same.refl _) rfl fun _ _ => rfl
 | d :: ds, w, hr, hd, hN => by
  obtain ⟨r, h0, h1, h2, h3⟩ := hd.each d List.mem_cons_self
  have hlt : r < w.heap.size := (Array.getElem?_eq_some_iff.1 h2).1
  have hne : ∀ b x p, hget s.H b = some x -> ρ b = some p -> p.blk ≠ r := by
   intro b x p hb hp he
   obtain ⟨q, hq, hbo⟩ := hr.blocks b x hb
   rw [hp] at hq; obtain rfl := Option.some.inj hq
   rw [he, h2] at hbo
   exact hbo.no_deferred
  refine ⟨by simp, .inl ⟨r, w.putObj r (.deferred none), h1, run_takeDeferred h2, ?_⟩⟩
  refine Z2r ds _ (hr.more (fun b x p hb hp => Xx (hne b x p hb hp)) fun c k v hv => Xx (fun e => by
   obtain ⟨ccs, e', fr, ho, _⟩ := hr.frz c k v hv
   rw [e, h2] at ho; cases ho)) ⟨by rw [Jq]; exact hd.le, fun d' hd' => ?_, (List.pairwise_cons.1 hd.nd).2⟩ ?_
  ·obtain ⟨r', g0, g1, g2, g3⟩ := hd.each d' (List.mem_cons_of_mem _ hd')
   refine ⟨r', g0, g1, ?_, g3⟩
   rw [Xx]; · exact g2
   intro e; subst e
   exact (List.pairwise_cons.1 hd.nd).1 d' hd' (by rw [h1, g1])
  ·intro w' g1 g2 g3 g4
   refine hN w' g1 (Same.trans (b := w.putObj r (.deferred none)) ⟨rfl, rfl, rfl⟩ g2) (by rw [g3, Jq]) fun c hc => ?_
   rw [g4 c hc, Xx (by omega)]
theorem Z6w (k : Nat) : (undefs k).length = k := by induction k <;> simp_all [undefs]
theorem Z06 (hC : CfgOk P C) (hK : CodesOk C) (hcall : CallOk P call) (hrnd : RndOk P rnd) (hc : ∀ f args, Nice (call f args)) (hrn : ∀ l args, Nice (rnd l args)) {K : Nat} {f : FuncId} {fn : Func} (hfn : C.fn.get f = some fn)
  {args : List AV} {s : St} {w : World} {ρ : Rho} {cargs : List Value} {R : AV × St -> Prop} (hr : HR ρ s.H w) (hf : Fr ρ s) (ha : VRs ρ args cargs) (hm : (bodyA C call rnd K fn args s).All R) :
  fn.body.isSome = true /\ ∀ n, CallsIn Fence.wide n P f ⟨cargs⟩ w (EndR R ρ s w) := by
 unfold bodyA at hm
 cases hb : fn.body with
 | none => rw [hb] at hm; exact hm.elim
 | some c =>
  rw [hb] at hm; simp only at hm
  refine ⟨rfl, fun n => ?_⟩
  rw [M.all_bind] at hm
  obtain ⟨h1, h2⟩ := hC.fn f fn hfn
  refine callsIn_of_wp_marks h1 hb trivial ?_
  have hT : VRs ρ (args ++ undefs (fn.ntmps - args.length)) ((⟨cargs⟩ : Array Value) ++ Array.replicate (fn.ntmps - (⟨cargs⟩ : Array Value).size) undef).toList := by
   have hl := VRs.length _ _ ha
   simp only [Array.toList_append, Array.toList_replicate]
   refine VRs.append _ _ _ _ ha ?_
   rw [show (⟨cargs⟩ : Array Value).size = args.length by simp [hl]]
   exact VRs.undefs _
  refine Z3g (B := w.heap.size) hC hcall hrnd hc hrn K false (.inl rfl) (fun _ => rfl) c (hK f fn c hfn hb) _ _ s w ρ _ _ hr hf hT (DefOk.nil ρ s.H (Nat.le_refl _)) hm ?_
  intro x s' ρ' w' a' hR hst hr' hT' hd'
  obtain ⟨e, T'⟩ := x
  have fin : ∀ (hR : ((resultsA C T' fn.results.toList).bind (fun vs => M.ret (pack vs)) s').All R), LeavesInM Fence.wide n P fn a'.tmps (EndR R ρ s w) a'.defers .returning w' := by
   intro hR
   rw [M.all_bind] at hR
   refine Z2r a'.defers w' hr' hd' fun w2 g1 g2 g3 g4 => ?_
   obtain ⟨vs, cv, k1, k2, k3⟩ := Z57 hC (fn := fn) g1 hT' hR
   refine ⟨cv, k2, pack vs, s', ρ', cv, rfl, k1, ⟨hst.ext, hst.loc, hst.pre, hst.nle, hst.same.trans g2, by rw [g3]; exact hst.size, fun c hc hi => ?_, hst.img, hst.fzl⟩, g1, k3⟩
   rw [g4 c hc]; exact hst.unch c hc hi
  cases e with
  | normal => exact fin hR
  | ret => exact fin hR
  | exit i => exact hR.elim
theorem Zc7 {x y : ByteArray} (h : (x == y) = true) : x = y := by
 obtain ⟨⟨x⟩⟩ := x
 obtain ⟨⟨y⟩⟩ := y
 have h : ((⟨x⟩ : Array UInt8) == ⟨y⟩) = true := h
 simp at h
 rw [h]
theorem Za0 (x : ByteArray) : (x == x) = true := by
 obtain ⟨⟨x⟩⟩ := x
 show ((⟨x⟩ : Array UInt8) == ⟨x⟩) = true
 simp
mutual
theorem Zal : ∀ (a b : AV), eqF a b = true -> a = b
 | .int k n, w, h => by
  cases w <;> simp only [eqF] at h <;> try (cases h; done)
  rename_i k' m
  by_cases hk : k = k'
  ·subst hk; simp at h; rw [h]
  ·simp [hk] at h
 | .bool a, w, h => by
  cases w <;> simp only [eqF] at h <;> try (cases h; done)
  rename_i b; cases a <;> cases b <;> first | rfl | (cases h; done)
 | .str a, w, h => by
  cases w <;> simp only [eqF] at h <;> try (cases h; done)
  rw [Zc7 h]
 | .nilp, w, h => by cases w <;> simp only [eqF] at h <;> first | rfl | (cases h; done)
 | .nils, w, h => by cases w <;> simp only [eqF] at h <;> first | rfl | (cases h; done)
 | .nilm, w, h => by cases w <;> simp only [eqF] at h <;> first | rfl | (cases h; done)
 | .empty, w, h => by cases w <;> simp only [eqF] at h <;> first | rfl | (cases h; done)
 | .lst l, w, h => by
  cases w <;> simp only [eqF] at h <;> try (cases h; done)
  rename_i ds; rw [Z0k l ds h]
 | .fptr cs o, w, h => by
  cases w <;> simp only [eqF] at h <;> try (cases h; done)
  rename_i ds o'
  cases hb : Nat.beq o o' with
  | false => rw [hb] at h; cases h
  | true => rw [hb] at h; rw [Nat.eq_of_beq_eq_true hb, Z0k cs ds h]
 | .own _ _, w, h => by simp [eqF] at h
 | .nilf, w, h => by cases w <;> simp only [eqF] at h <;> first | rfl | (cases h; done)
 | .nili, w, h => by cases w <;> simp only [eqF] at h <;> first | rfl | (cases h; done)
 | .undef, w, h => by cases w <;> simp only [eqF] at h <;> first | rfl | (cases h; done)
 | .func f cs, w, h => by
  cases w <;> simp only [eqF] at h <;> try (cases h; done)
  rename_i g ds
  cases hb : Nat.beq f g with
  | false => rw [hb] at h; cases h
  | true => rw [hb] at h; rw [Nat.eq_of_beq_eq_true hb, Z0k cs ds h]
 | .agg cs, w, h => by
  cases w <;> simp only [eqF] at h <;> try (cases h; done)
  rename_i ds; rw [Z0k cs ds h]
 | .tuple cs, w, h => by
  cases w <;> simp only [eqF] at h <;> try (cases h; done)
  rename_i ds; rw [Z0k cs ds h]
 | .ptr _ _, w, h => by simp [eqF] at h
 | .slice .., w, h => by simp [eqF] at h
 | .map _, w, h => by simp [eqF] at h
 | .yield _, w, h => by simp [eqF] at h
theorem Z0k : ∀ (a b : List AV), eqFs a b = true -> a = b
 | [], l, h => by cases l <;> simp only [eqFs] at h <;> first | rfl | (cases h; done)
 | a :: r, l, h => by
  cases l with
  | nil => simp [eqFs] at h
  | cons b q =>
   simp only [eqFs] at h
   cases hb : eqF a b with
   | false => rw [hb] at h; cases h
   | true => rw [hb] at h; rw [Zal a b hb, Z0k r q h]
end
mutual
theorem Z68 : ∀ (a : AV), a.flat = true -> eqF a a = true
 | .int k n, _ => by simp [eqF]
 | .bool a, _ => by cases a <;> rfl
 | .str a, _ => by simp only [eqF]; exact Za0 a
 | .nilp, _ => rfl
 | .nils, _ => rfl
 | .nilm, _ => rfl
 | .empty, _ => rfl
 | .lst l, h => by simp only [AV.flat] at h; simp only [eqF, X7 l h]
 | .fptr cs o, h => by simp only [AV.flat] at h; simp only [eqF, Nat.beq_refl, X7 cs h]
 | .own _ _, h => by simp [AV.flat] at h
 | .nilf, _ => rfl
 | .nili, _ => rfl
 | .undef, _ => rfl
 | .func f cs, h => by simp only [AV.flat] at h; simp only [eqF, Nat.beq_refl, X7 cs h]
 | .agg cs, h => by simp only [AV.flat] at h; simp only [eqF, X7 cs h]
 | .tuple cs, h => by simp only [AV.flat] at h; simp only [eqF, X7 cs h]
 | .ptr _ _, h => by simp [AV.flat] at h
 | .slice .., h => by simp [AV.flat] at h
 | .map _, h => by simp [AV.flat] at h
 | .yield _, h => by simp [AV.flat] at h
theorem X7 : ∀ (l : List AV), flats l = true -> eqFs l l = true
 | [], _ => rfl
 | a :: r, h => by
  have f1 : a.flat = true := by cases hh : a.flat <;> simp [flats, hh] at h ⊢
  have f2 : flats r = true := by simpa [flats, f1] using h
  simp only [eqFs, Z68 a f1, X7 r f2]
end
theorem Z47 {p : Nat -> Bool} : ∀ n, upto n p = true -> ∀ i, i < n -> p i = true
 | 0, _, i, hi => by omega
 | n + 1, h, i, hi => by
  unfold upto at h
  cases hp : p n with
  | false => rw [hp] at h; cases h
  | true =>
   rw [hp] at h
   by_cases e : i = n
   ·subst e; exact hp
   ·exact Z47 n h i (by omega)
theorem X1 : ∀ (t : Tr (AV × St)) (v : AV), collapse t = some v -> t.All fun x => frozen x.2.H x.1 = some v
 | .fail, v, h => by cases h
 | .ret x, v, h => h
 | .ask n k, v, h => by
  unfold collapse at h
  cases h0 : collapse (k 0) with
  | none => rw [h0] at h; cases h
  | some u =>
   rw [h0] at h
   cases n with
   | zero => cases h
   | succ n =>
    simp only at h
    cases hu : upto (n + 1) fun i => isV u (collapse (k i)) with
    | false => rw [hu] at h; cases h
    | true =>
     rw [hu] at h; simp only [Option.some.injEq] at h; subst h
     intro i hi
     have h1 := Z47 _ hu i hi
     cases hk : collapse (k i) with
     | none => rw [hk] at h1; cases h1
     | some z =>
      rw [hk] at h1
      have : u = z := by
       exact Zal u z h1
      subst this
      exact X1 (k i) u hk
theorem Z8h {p : Nat -> Bool} : ∀ n, (∀ i, i < n -> p i = true) -> upto n p = true
 | 0, _ => rfl
 | n + 1, h => by
  unfold upto
  rw [h n (Nat.lt_succ_self n)]
  exact Z8h n fun i hi => h i (by omega)
theorem Z1s : ∀ (t : Tr (AV × St)) (v : AV), Pos t -> v.flat = true -> t.All (fun x => frozen x.2.H x.1 = some v) -> collapse t = some v
 | .fail, v, _, _, h => h.elim
 | .ret x, v, _, hf, h => h
 | .ask n k, v, hp, hf, h => by
  have hi : ∀ i, i < n -> collapse (k i) = some v := fun i hi => Z1s (k i) v (hp.2 i) hf (h i hi)
  unfold collapse
  rw [hi 0 hp.1]
  cases n with
  | zero => exact absurd hp.1 (by omega)
  | succ n =>
   simp only
   rw [Z8h (n + 1) fun i h => by rw [hi i h]; exact Z68 v hf]
theorem Z8i {sh : Bool} {t : Tr (AV × St)} {x : AV × Heap} (h : oneR sh t = some x) : (∃ v s, t = .ret (v, s) /\ x.1 = shutIf sh v /\ s.H = x.2) \/ (collapse t = some x.1 /\ x.2 = []) := by
 have key : ∀ t : Tr (AV × St), (match collapse t with | some v => some (v, ([] : Heap)) | none => none) = some x -> collapse t = some x.1 /\ x.2 = [] := by
  intro t h
  cases hc : collapse t with
  | none => rw [hc] at h; cases h
  | some v => rw [hc] at h; simp only [Option.some.injEq] at h; subst h; exact ⟨rfl, rfl⟩
 cases t with
 | ret y => simp only [oneR, Option.some.injEq] at h; subst h; exact .inl ⟨y.1, y.2, rfl, rfl, rfl⟩
 | fail => exact .inr (key _ h)
 | ask n k => exact .inr (key _ h)
mutual
theorem Z48 {mp : List (Nm × Nm)} : ∀ (a a' : AV), a.flat = true -> renV mp a = some a' -> a' = a
 | .int k n, a', _, h => by simp only [renV, Option.some.injEq] at h; exact h.symm
 | .bool b, a', _, h => by simp only [renV, Option.some.injEq] at h; exact h.symm
 | .str s, a', _, h => by simp only [renV, Option.some.injEq] at h; exact h.symm
 | .nilp, a', _, h => by simp only [renV, Option.some.injEq] at h; exact h.symm
 | .nils, a', _, h => by simp only [renV, Option.some.injEq] at h; exact h.symm
 | .empty, a', _, h => by simp only [renV, Option.some.injEq] at h; exact h.symm
 | .nilm, a', _, h => by simp only [renV, Option.some.injEq] at h; exact h.symm
 | .nilf, a', _, h => by simp only [renV, Option.some.injEq] at h; exact h.symm
 | .nili, a', _, h => by simp only [renV, Option.some.injEq] at h; exact h.symm
 | .undef, a', _, h => by simp only [renV, Option.some.injEq] at h; exact h.symm
 | .ptr b o, a', f, _ => by simp [AV.flat] at f
 | .slice b o n c ex, a', f, _ => by simp [AV.flat] at f
 | .own b l, a', f, _ => by simp [AV.flat] at f
 | .map b, a', f, _ => by simp [AV.flat] at f
 | .yield b, a', f, _ => by simp [AV.flat] at f
 | .lst l, a', f, h => by
  simp only [AV.flat] at f
  simp only [renV, f, Option.some.injEq] at h; exact h.symm
 | .fptr l o, a', f, h => by
  simp only [AV.flat] at f
  simp only [renV, f, Option.some.injEq] at h; exact h.symm
 | .func g l, a', f, h => by
  simp only [AV.flat] at f
  simp only [renV] at h
  cases hl : renVs mp l with
  | none => rw [hl] at h; cases h
  | some l' => rw [hl] at h; simp only [Option.some.injEq] at h; rw [<- h, Jd l l' f hl]
 | .agg l, a', f, h => by
  simp only [AV.flat] at f
  simp only [renV] at h
  cases hl : renVs mp l with
  | none => rw [hl] at h; cases h
  | some l' => rw [hl] at h; simp only [Option.some.injEq] at h; rw [<- h, Jd l l' f hl]
 | .tuple l, a', f, h => by
  simp only [AV.flat] at f
  simp only [renV] at h
  cases hl : renVs mp l with
  | none => rw [hl] at h; cases h
  | some l' => rw [hl] at h; simp only [Option.some.injEq] at h; rw [<- h, Jd l l' f hl]
theorem Jd {mp : List (Nm × Nm)} : ∀ (a a' : List AV), flats a = true -> renVs mp a = some a' -> a' = a
 | [], a', _, h => by simp only [renVs, Option.some.injEq] at h; exact h.symm
 | a :: r, a', f, h => by
  simp only [renVs] at h
  cases ha : renV mp a with
  | none => rw [ha] at h; cases h
  | some b =>
   cases hl : renVs mp r with
   | none => rw [ha, hl] at h; cases h
   | some q =>
    rw [ha, hl] at h; simp only [Option.some.injEq] at h
    rw [<- h, Z48 a b (Y5 f).1 ha, Jd r q (Y5 f).2 hl]
end
theorem Z8j (hC : CfgOk P C) (hK : CodesOk C) (hcall : CallOk P call) (hrnd : RndOk P rnd) (hc : ∀ f args, Nice (call f args)) (hrn : ∀ l args, Nice (rnd l args)) (K : Nat) : CallOk P (enterA C call rnd K) := by
 intro f args s w ρ cargs R hr hf ha hm
 have hC' : CfgOk P (C.at f) := ⟨hC.fn, hC.ty, hC.mixed⟩
 have hK' : CodesOk (C.at f) := hK
 unfold enterA at hm
 cases hfn : C.fn.get f with
 | none => rw [hfn] at hm; exact hm.elim
 | some fn =>
  rw [hfn] at hm; simp only at hm
  have hfn' : (C.at f).fn.get f = some fn := hfn
  obtain ⟨h1, h2⟩ := hC.fn f fn hfn
  have plain : (bodyA (C.at f) call rnd K fn args s).All R -> _ := fun hm =>
   have hb := Z06 hC' hK' hcall hrnd hc hrn hfn' hr hf ha hm
   (⟨⟨fn, h1, h2, hb.1⟩, hb.2⟩ : (∃ fn, P.funcs[f]? = some fn /\ (fn.name == "runtime.NumGoroutine") = false /\ fn.body.isSome = true) /\ ∀ n, CallsIn Fence.wide n P f ⟨cargs⟩ w (EndR R ρ s w))
  have hand : ∀ sh : Bool, (handA sh (fun args s => bodyA (C.at f) call rnd K fn args s) args s).All R -> (∃ fn, P.funcs[f]? = some fn /\ (fn.name == "runtime.NumGoroutine") = false /\ fn.body.isSome = true) /\ ∀ n, CallsIn Fence.wide n P f ⟨cargs⟩ w (EndR R ρ s w) := by
   intro sh hm
   have hm : ((lendM 200 (namesVs false args []) [] []).bind (fun bl =>
    match nodupN bl.1, calm bl.2, renVs (zipN bl.1 (namesFrom [] 0 bl.1.length)) args, renBs (zipN bl.1 (namesFrom [] 0 bl.1.length)) bl.2 with
    | true, true, some args', some xs => (match oneR sh (bodyA (C.at f) call rnd K fn args' ⟨zipB (namesFrom [] 0 bl.1.length) xs, bl.1.length, [], false, []⟩) with
     | some x => (match getAll x.2 (namesFrom [] 0 bl.1.length) with
      | some ys => (match reachL x.2 200 (namesV true x.1 (namesBs true ys [])) (namesFrom [] 0 bl.1.length) [] with
       | some ns => (match nodupN ns.1 with
        | true => nameM.bind fun p =>
         (match renV (zipN ns.1 (bl.1 ++ namesFrom p.1 p.2 ns.2.length)) x.1, renBs (zipN ns.1 (bl.1 ++ namesFrom p.1 p.2 ns.2.length)) ys, renBs (zipN ns.1 (bl.1 ++ namesFrom p.1 p.2 ns.2.length)) ns.2 with
         | some v, some ys', some zs => (putAll bl.1 ys').bind fun _ => (newAll zs).bind fun _ => M.ret v
         | _, _, _ => M.fail)
        | false => M.fail)
       | none => M.fail)
      | none => M.fail)
     | none => M.fail)
    | _, _, _, _ => M.fail) s).All R := hm
   rw [M.all_bind] at hm
   obtain ⟨bs, xs, hm, hg⟩ := Ja _ _ _ _ (by rfl) hm
   simp only at hm
   cases hnd : nodupN bs with
   | false => rw [hnd] at hm; exact hm.elim
   | true =>
    cases hcalm : calm xs with
    | false => rw [hnd, hcalm] at hm; exact hm.elim
    | true =>
     cases hra : renVs (zipN bs (namesFrom [] 0 bs.length)) args with
     | none => rw [hnd, hcalm, hra] at hm; exact hm.elim
     | some args' =>
      cases hrb : renBs (zipN bs (namesFrom [] 0 bs.length)) xs with
      | none => rw [hnd, hcalm, hra, hrb] at hm; exact hm.elim
      | some ls =>
       rw [hnd, hcalm, hra, hrb] at hm; simp only at hm
       have hnd' := Z0i.1 hnd
       obtain ⟨hren, hr0, hf0, _⟩ := Z8a hr hnd' hg hrb
       cases ho1 : oneR sh (bodyA (C.at f) call rnd K fn args' ⟨zipB (namesFrom [] 0 bs.length) ls, bs.length, [], false, []⟩) with
       | none => rw [ho1] at hm; exact hm.elim
       | some x =>
        rw [ho1] at hm; simp only at hm
        rcases Z8i ho1 with ⟨v1, s1, hs1, hx1, hs1H⟩ | ⟨hcol, hx2⟩
        rotate_left
        ·
         have hall := X1 _ _ hcol
         rw [hx2] at hm
         have hbs : bs = [] := by
          cases bs with
          | nil => rfl
          | cons b r =>
           exfalso
           simp only [List.length_cons, namesFrom, getAll, Z5q] at hm
           exact hm.elim
         subst hbs
         have hb := Z06 (w := w) hC' hK' hcall hrnd hc hrn hfn' hr0 hf0 (Jb hren _ _ _ hra ha).1 hall
         refine ⟨⟨fn, h1, h2, hb.1⟩, fun n => (hb.2 n).mono ?_⟩
         rintro e w' ⟨v', s', ρ', cv, rfl, g1, hst, hr', hvr⟩
         obtain ⟨k1, k2⟩ := Z0h hr (by cases ls <;> rfl) hst hr'
         obtain ⟨j1, j2⟩ := Z1l hr' (Z05 hr') Z0g g1 hvr
         have hx1 : x.1.flat = true := j2
         simp only [List.length_nil, namesFrom, getAll] at hm
         cases hre : reachL [] 200 (namesV true x.1 (namesBs true [] [])) [] [] with
         | none => rw [hre] at hm; exact hm.elim
         | some r =>
          rw [hre] at hm; simp only at hm
          obtain ⟨ns, zs, q1, q2, q3⟩ := Yv _ _ _ _ hre
          have hns : ns = [] /\ zs = [] := by
           cases ns with
           | nil => simp only [getAll, Option.some.injEq] at q3; exact ⟨rfl, q3.symm⟩
           | cons a l => simp [getAll] at q3
          obtain ⟨rfl, rfl⟩ := hns
          simp only [List.append_nil] at q1 q2
          rw [q1, q2] at hm
          have hm : ((match renV (zipN [] []) x.1, renBs (zipN [] []) [], renBs (zipN [] []) [] with
            | some v, some ys', some zs => (putAll [] ys').bind fun _ => (newAll zs).bind fun _ => M.ret v
            | _, _, _ => M.fail) s).All R := hm
          cases e1 : renV (zipN [] []) x.1 with
          | none => rw [e1] at hm; exact hm.elim
          | some v2 =>
           rw [e1] at hm
           have := Z48 _ _ hx1 e1
           subst this
           exact ⟨x.1, s, _, cv, rfl, hm, k1, k2, VR.flat (ρ := ρ'.still s'.H w') (ρ' := ⟨ρ.pl, (ρ'.still s'.H w').fz⟩) (fun _ _ _ h => h) _ _ j2 j1⟩
        have hall : (bodyA (C.at f) call rnd K fn args' ⟨zipB (namesFrom [] 0 bs.length) ls, bs.length, [], false, []⟩).All (fun y => y = (v1, s1)) := by rw [hs1]; rfl
        have hb := Z06 (w := w) hC' hK' hcall hrnd hc hrn hfn' hr0 hf0 (Jb hren _ _ _ hra ha).1 hall
        refine ⟨⟨fn, h1, h2, hb.1⟩, fun n => (hb.2 n).mono ?_⟩
        rintro e w' ⟨v', s', ρ', cv, rfl, g1, hst, hr', hvr⟩
        obtain ⟨rfl, rfl⟩ : v' = v1 /\ s' = s1 := by injection g1 with a b; exact ⟨a, b⟩
        replace hvr : VR ρ' x.1 cv := by
         rw [hx1]
         cases sh with
         | false => exact hvr
         | true => exact VR.shut _ _ hvr
        rw [<- hs1H] at hm
        cases hy : getAll s'.H (namesFrom [] 0 bs.length) with
        | none => rw [hy] at hm; exact hm.elim
        | some ys =>
         rw [hy] at hm; simp only at hm
         cases hre : reachL s'.H 200 (namesV true x.1 (namesBs true ys [])) (namesFrom [] 0 bs.length) [] with
         | none => rw [hre] at hm; exact hm.elim
         | some r =>
          rw [hre] at hm; simp only at hm
          obtain ⟨ns, zs, q1, q2, q3⟩ := Yv _ _ _ _ hre
          rw [q1, q2, List.nil_append] at hm
          cases hnn : nodupN (namesFrom [] 0 bs.length ++ ns) with
          | false => rw [hnn] at hm; exact hm.elim
          | true =>
           rw [hnn] at hm; simp only at hm
           have hm : ((match renV (zipN (namesFrom [] 0 bs.length ++ ns) (bs ++ namesFrom s.pre s.n zs.length)) x.1, renBs (zipN (namesFrom [] 0 bs.length ++ ns) (bs ++ namesFrom s.pre s.n zs.length)) ys, renBs (zipN (namesFrom [] 0 bs.length ++ ns) (bs ++ namesFrom s.pre s.n zs.length)) zs with
            | some v, some ys', some zs => (putAll bs ys').bind fun _ => (newAll zs).bind fun _ => M.ret v
            | _, _, _ => M.fail) s).All R := hm
           cases e1 : renV (zipN (namesFrom [] 0 bs.length ++ ns) (bs ++ namesFrom s.pre s.n zs.length)) x.1 with
           | none => rw [e1] at hm; exact hm.elim
           | some v2 =>
            cases e2 : renBs (zipN (namesFrom [] 0 bs.length ++ ns) (bs ++ namesFrom s.pre s.n zs.length)) ys with
            | none => rw [e1, e2] at hm; exact hm.elim
            | some ys' =>
             cases e3 : renBs (zipN (namesFrom [] 0 bs.length ++ ns) (bs ++ namesFrom s.pre s.n zs.length)) zs with
             | none => rw [e1, e2, e3] at hm; exact hm.elim
             | some zs' =>
              rw [e1, e2, e3] at hm; simp only at hm
              rw [M.all_bind] at hm
              obtain ⟨s2, hm, p1, p2, p3, p4⟩ := Z1p hm
              rw [M.all_bind] at hm
              obtain ⟨s3, hm, n1, n2, n3, n4⟩ := Z1q hm
              obtain ⟨p5, p6⟩ := p4 hnd'
              rw [p1, p2] at n3 n4
              obtain ⟨ρ2, k1, k2, k3⟩ := Z8b hr hf hnd' hcalm hg hrb hst hr' hvr hy q3 (Z0i.1 hnn) rfl e1 e2 e3 p5 p6 p1 p2 n3 n4 (n1.trans p1) (by rw [n2, p2])
              exact ⟨v2, s3, ρ2, cv, rfl, hm, k1, k2, k3⟩
  have hm : ((match C.mode.get f with
   | some 1 => (match flats (shuts args) with
    | true => M.of (collapse (bodyA (C.at f) call rnd K fn (shuts args) ⟨[], 0, [], false, []⟩))
    | false => (iceA args).bind fun asg' => M.of (collapse (bodyA (C.at f) call rnd K fn asg' ⟨[], 0, [], false, []⟩)))
   | some 3 => handA false (fun args s => bodyA (C.at f) call rnd K fn args s) args
   | some 4 => handA true (fun args s => bodyA (C.at f) call rnd K fn args s) args
   | _ => bodyA (C.at f) call rnd K fn args) s).All R := hm
  obtain ⟨o, ho⟩ : ∃ o, o = C.mode.get f := ⟨_, rfl⟩
  rw [<- ho] at hm
  rcases o with _ | _ | _ | _ | _ | _ | k
  ·exact plain hm
  ·exact plain hm
  ·
   cases hfl : flats (shuts args) with
   | false =>
    rw [hfl] at hm
    obtain ⟨l1, s1, ρ1, hm1, st1, hr1, fl1, va1⟩ := Z8f hr ha ((M.all_bind _ _ _ _).1 hm)
    obtain ⟨v, hv, hR⟩ := (M.all_of _ _ _).1 hm1
    have hall := X1 _ v hv
    have hb := Z06 (w := w) (ρ := ⟨fun _ => none, ρ1.fz⟩) (s := ⟨[], 0, [], false, []⟩) hC' hK' hcall hrnd hc hrn hfn' ⟨fun b x h => (by simp at h), fun b b' x x' p p' h => (by simp at h), fun b m l e h => (by simp at h), hr1.frz, fun b x p h => (by simp at h)⟩ (fun _ _ _ => rfl)
     (VRs.flat (ρ := ρ1) (ρ' := ⟨fun _ => none, ρ1.fz⟩) (fun _ _ _ h => h) _ _ fl1 va1) hall
    refine ⟨⟨fn, h1, h2, hb.1⟩, fun n => (hb.2 n).mono ?_⟩
    rintro e w' ⟨v', s', ρ', cv, rfl, g1, hst, hr', hvr⟩
    obtain ⟨k1, k2⟩ := Z0h hr1 rfl hst hr'
    obtain ⟨j1, j2⟩ := Z1l hr' (Z05 hr') Z0g g1 hvr
    exact ⟨v, s1, _, cv, rfl, hR, st1.trans k1, k2, VR.flat (ρ := ρ'.still s'.H w') (ρ' := ⟨ρ1.pl, (ρ'.still s'.H w').fz⟩) (fun _ _ _ h => h) _ _ j2 j1⟩
   | true =>
    rw [hfl] at hm
    obtain ⟨v, hv, hR⟩ := (M.all_of _ _ _).1 hm
    have hall := X1 _ v hv
    have hb := Z06 (w := w) (ρ := ⟨fun _ => none, ρ.fz⟩) (s := ⟨[], 0, [], false, []⟩) hC' hK' hcall hrnd hc hrn hfn' ⟨fun b x h => (by simp at h), fun b b' x x' p p' h => (by simp at h), fun b m l e h => (by simp at h), hr.frz, fun b x p h => (by simp at h)⟩ (fun _ _ _ => rfl)
     (VRs.flat (ρ := ρ) (ρ' := ⟨fun _ => none, ρ.fz⟩) (fun _ _ _ h => h) _ _ hfl (VRs.shut _ _ ha)) hall
    refine ⟨⟨fn, h1, h2, hb.1⟩, fun n => (hb.2 n).mono ?_⟩
    rintro e w' ⟨v', s', ρ', cv, rfl, g1, hst, hr', hvr⟩
    obtain ⟨k1, k2⟩ := Z0h hr rfl hst hr'
    obtain ⟨j1, j2⟩ := Z1l hr' (Z05 hr') Z0g g1 hvr
    exact ⟨v, s, _, cv, rfl, hR, k1, k2, VR.flat (ρ := ρ'.still s'.H w') (ρ' := ⟨ρ.pl, (ρ'.still s'.H w').fz⟩) (fun _ _ _ h => h) _ _ j2 j1⟩
  ·exact plain hm
  ·exact hand false hm
  ·exact hand true hm
  ·exact plain hm
theorem Z1t {ρ : Rho} : ∀ (ps : List Nat) (args : List AV) (T T' : List AV) (cargs : List Value) (tmps : Array Value), setAll T ps args = some T' -> VRs ρ T tmps.toList -> VRs ρ args cargs ->
  cargs.length = ps.length /\ VRs ρ T' ((ps.zip cargs).foldl (fun (tmps : Array Value) (x : Nat × Value) => tmps.setIfInBounds x.1 x.2) tmps).toList
 | [], [], T, T', cargs, tmps, h, hT, ha => by
  simp only [setAll, Option.some.injEq] at h; subst h
  simp only [VRs] at ha; subst ha
  exact ⟨rfl, hT⟩
 | p :: ps, v :: vs, T, T', cargs, tmps, h, hT, ha => by
  simp only [VRs] at ha
  obtain ⟨cv, t, rfl, h1, h2⟩ := ha
  have hT' : VRs ρ (setNth T p v) (tmps.setIfInBounds p cv).toList := by rw [Array.toList_setIfInBounds]; exact VRs.set _ _ hT p v cv h1
  obtain ⟨g1, g2⟩ := Z1t ps vs _ T' t _ (by simpa [setAll] using h) hT' h2
  exact ⟨by simp [g1], by simpa using g2⟩
 | [], _ :: _, _, _, _, _, h, _, _ => by simp [setAll] at h
 | _ :: _, [], _, _, _, _, h, _, _ => by simp [setAll] at h
theorem Z8k (hC : CfgOk P C) (hcall : CallOk P call) (hrnd : RndOk P rnd) (hc : ∀ f args, Nice (call f args)) (hrn : ∀ l args, Nice (rnd l args)) (K : Nat) : RndOk P (roundA C call rnd K) := by
 intro l args s w ρ cargs R p hr hf ha hp hm
 unfold roundA at hm
 rw [M.all_bind] at hm
 obtain ⟨x, hx, hm⟩ := (Zo _ _ _).1 hm
 cases x with
 | loop T ps asg bd st pe =>
  simp only at hm
  cases hsa : setAll T ps args with
  | none => rw [hsa] at hm; exact hm.elim
  | some T' =>
   rw [hsa] at hm; simp only at hm
   obtain ⟨q, hq, hbo⟩ := hr.blocks _ _ hx
   rw [hp] at hq; obtain rfl := Option.some.inj hq
   obtain ⟨r, ho, h1, h2, h3, h4, h5, h6, h7, h8⟩ := hbo.loop_inv
   obtain ⟨g1, g2⟩ := Z1t ps args T T' cargs r.tmps hsa h6 ha
   have hsz : (⟨cargs⟩ : Array Value).size = r.params.size := by simp [g1, <- h3]
   refine ⟨r.fn, _, r.assign, r.body, run_yield ho hsz, fun n => ?_⟩
   refine roundIn_of_wpIn trivial ?_
   rw [M.all_bind] at hm
   have hT' : VRs ρ T' ((r.params.zip ⟨cargs⟩).foldl (fun tmps (x : Nat × Value) => tmps.setIfInBounds x.1 x.2) r.tmps).toList := by
    have e : (r.params.zip ⟨cargs⟩) = (⟨ps.zip cargs⟩ : Array (Nat × Value)) := by
     apply Array.ext'; simp [<- h3]
    rw [e]; simpa using g2
   rw [h4, h5]
   refine Z3g (B := 0) hC hcall hrnd hc hrn K true (.inr ⟨_, rfl⟩) (fun h => by cases h) asg h7 _ _ s w ρ _ _ hr hf hT' (DefOk.nil ρ s.H (Nat.zero_le _)) hm ?_
   intro x s1 ρ1 w1 a1 hR hst1 hr1 hT1 _
   obtain ⟨e, T1⟩ := x
   cases e with
   | exit i => exact hR.elim
   | ret => exact hR.elim
   | normal =>
    simp only at hR
    rw [M.all_bind] at hR
    obtain ⟨y, hy, hR⟩ := (Zo _ _ _).1 hR
    cases y with
    | loop T2 ps2 as2 bd2 st2 pe2 =>
     cases st2 with
     | ready =>
      simp only at hR
      rw [M.all_bind] at hR
      obtain ⟨_, hR⟩ := (Y1 _ _ _ _).1 hR
      rw [M.all_bind] at hR
      have hp1 := hst1.ext.pl _ _ hp
      obtain ⟨q, hq, hbo⟩ := hr1.blocks _ _ hy
      rw [hp1] at hq; obtain rfl := Option.some.inj hq
      obtain ⟨r1, ho1, k1, k2, _⟩ := hbo.loop_inv
      obtain ⟨hst2, hr2⟩ := Z1k (st' := .busy) (pe' := pe2) hr1 hy hp1 ho1 rfl rfl
      have e2 : ({ r1 with state := .busy } : Loop) = { r1 with state := .busy, pending := pe2 } := by rw [<- k2]
      refine ⟨_, run_beginRound ho1 k1, ?_⟩
      rw [e2]
      have hst12 := hst1.trans hst2
      refine Z3g (B := 0) hC hcall hrnd hc hrn K true (.inr ⟨_, rfl⟩) (fun h => by cases h) bd h8 T1 a1 _ _ ρ1 _ _ hr2 (hst12.fr hf) hT1 ?_ hR ?_
      ·exact (by assumption : DefOk 0 ρ1 s1.H w1 a1.defers).step hst2
      intro z s3 ρ3 w3 a3 hR hst3 hr3 hT3 _
      obtain ⟨e, T3⟩ := z
      rw [M.all_bind] at hR
      obtain ⟨u, hu, hR⟩ := (Zo _ _ _).1 hR
      cases u with
      | loop T4 ps4 as4 bd4 st4 pe4 =>
       have hp3 := hst3.ext.pl _ _ hp1
       obtain ⟨q, hq, hbo⟩ := hr3.blocks _ _ hu
       rw [hp3] at hq; obtain rfl := Option.some.inj hq
       obtain ⟨r3, ho3, _⟩ := hbo.loop_inv
       have hst := hst12.trans hst3
       have fin : ∀ (j : Option Code), ((putM l (.loop T4 ps4 as4 bd4 (if j.isNone then .ready else .done) j)).bind (fun _ => M.ret (.bool j.isNone)) s3).All R -> ∃ v w', (Instr.endRound p.blk j).run P w3 = .ok v w' /\ EndR R ρ s w (.returned v) w' := by
        intro j hR
        rw [M.all_bind] at hR
        obtain ⟨_, hR⟩ := (Y1 _ _ _ _).1 hR
        obtain ⟨hst4, hr4⟩ := Z1k (st' := if j.isNone then .ready else .done) (pe' := j) hr3 hu hp3 ho3 rfl rfl
        exact ⟨_, _, run_endRound j ho3, _, _, _, _, rfl, hR, hst.trans hst4, hr4, rfl⟩
       cases e with
       | normal => exact fin none hR
       | exit i => exact fin (some (.exit i)) hR
       | ret => exact fin (some .ret) hR
      | _ => exact hR.elim
     | _ => exact hR.elim
    | _ => exact hR.elim
 | _ => exact hm.elim
theorem Z69 (hC : CfgOk P C) (hK : CodesOk C) : ∀ K, CallOk P (acall C K) /\ RndOk P (around C K)
 | 0 => ⟨fun _ _ _ _ _ _ _ _ _ _ hm => hm.elim, fun _ _ _ _ _ _ _ _ _ _ _ _ hm => hm.elim⟩
 | K + 1 => by
  obtain ⟨h1, h2⟩ := Z69 hC hK K
  obtain ⟨n1, n2⟩ := Nice.mach C K
  exact ⟨by rw [Zu]; exact Z8j hC hK h1 h2 n1 n2 (K + 1), by rw [Z12]; exact Z8k hC h1 h2 n1 n2 (K + 1)⟩
end
end
end Go.Am
namespace Go.Am
open Go
noncomputable section
def AllNT {α : Type} (Q : Nat -> α -> Prop) : NT α -> Prop
 | .leaf => True
 | .node k v l r => Q k v /\ AllNT Q l /\ AllNT Q r
theorem AllNT.get {α : Type} {Q : Nat -> α -> Prop} : ∀ {t : NT α} {n : Nat} {v : α}, AllNT Q t -> t.get n = some v -> Q n v
 | .leaf, n, v, _, h => by cases h
 | .node k u l r, n, v, ha, h => by
  have h : (match Nat.beq n k with | true => some u | false => (match Nat.ble n k with | true => l.get n | false => r.get n)) = some v := h
  cases hb : Nat.beq n k with
  | true =>
   rw [hb] at h
   have := Nat.eq_of_beq_eq_true hb
   cases h; subst this; exact ha.1
  | false =>
   rw [hb] at h
   cases hl : Nat.ble n k with
   | true => rw [hl] at h; exact ha.2.1.get h
   | false => rw [hl] at h; exact ha.2.2.get h
def aggD : TypeDesc -> Bool
 | .struct _ | .array _ _ => true
 | _ => false
def boolEq : Bool -> Bool -> Bool
 | true, b => b
 | false, b => notB b
def cmpOk (P : Program) (t : TypeId) (i : TI) : Bool :=
 match i.cmp with
 | false => true
 | true => notB (P.stoodInHeld t) && notB (P.eqGuardType P.depth t) && (match i.desc with | .struct fs => fs.toList.all fun f => f.name != "_" | _ => true)
def fieldsOk (P : Program) (i : TI) : Bool := match i.desc with | .struct fs => fs.toList.all fun f => (P.info? f.type).isSome | _ => true
def tyB (P : Program) (t : TypeId) (i : TI) : Bool := boolEq (aggD i.desc) i.agg && fieldsOk P i && cmpOk P t i
theorem Z9 {P : Program} {t : TypeId} {i : TI} (h1 : (P.underlying t, (P.info? t).map fun j => (j.size, j.bytes, j.zero.bind ofConst)) = (some i.desc, some (i.size, i.bytes, i.zero))) (h2 : tyB P t i = true) : TyOk P t i := by
 rw [Prod.mk.injEq] at h1
 obtain ⟨h1, h3⟩ := h1
 unfold tyB at h2
 simp only [Bool.and_eq_true] at h2
 obtain ⟨⟨h4, h5⟩, h6⟩ := h2
 refine ⟨h1, ?_, ?_, ?_, ?_⟩
 ·cases hj : P.info? t with
  | none => rw [hj] at h3; cases h3
  | some j =>
   rw [hj] at h3
   simp only [Option.map_some, Option.some.injEq, Prod.mk.injEq] at h3
   obtain ⟨g1, g2, g3⟩ := h3
   refine ⟨j, rfl, g1, g2, fun z hz => ?_⟩
   rw [hz] at g3
   cases hv : j.zero with
   | none => rw [hv] at g3; cases g3
   | some v => rw [hv] at g3; exact ⟨v, rfl, g3⟩
 ·have : i.agg = aggD i.desc := by cases h : aggD i.desc <;> rw [h] at h4 <;> cases hb : i.agg <;> simp_all [boolEq, notB]
  rw [this]
  cases i.desc <;> simp [aggD]
 ·intro fs hfs f hf
  unfold fieldsOk at h5
  rw [hfs] at h5
  simp only [List.all_eq_true] at h5
  have := h5 f (by simpa using hf)
  exact Option.isSome_iff_exists.1 this
 ·intro hc
  unfold cmpOk at h6
  rw [hc] at h6
  simp only [Bool.and_eq_true] at h6
  obtain ⟨⟨g1, g2⟩, g3⟩ := h6
  have nb : ∀ b, notB b = true -> b = false := fun b hb => by cases b <;> simp_all [notB]
  refine ⟨nb _ g1, nb _ g2, fun fs hfs f hf => ?_⟩
  rw [hfs] at g3
  simp only [List.all_eq_true] at g3
  have := g3 f (by simpa using hf)
  simpa using this
def codesB : NT Func -> Bool
 | .leaf => true
 | .node _ v l r => andB (match v.body with | some c => codeOk c false | none => true) (andB (codesB l) (codesB r))
theorem Jr : ∀ {t : NT Func}, codesB t = true -> AllNT (fun _ v => ∀ c, v.body = some c -> codeOk c false = true) t
 | .leaf, _ => trivial
 | .node k v l r, h => by
  obtain ⟨h1, h2⟩ := Xy (h : andB _ _ = true)
  obtain ⟨h2, h3⟩ := Xy h2
  refine ⟨fun c hc => ?_, Jr h2, Jr h3⟩
  rw [hc] at h1; exact h1
theorem Z6x {C : Cfg} (h : codesB C.fn = true) : CodesOk C := fun f fn c hf hc => (Jr h).get hf c hc
theorem Za1 {P : Program} {C : Cfg} (h1 : AllNT (fun f fn => P.funcs[f]? = some fn /\ (fn.name == "runtime.NumGoroutine") = false) C.fn) (h2 : AllNT (fun t i => TyOk P t i) C.ty) (h3 : P.follows .mixedOrders = true) : CfgOk P C :=
 ⟨fun f fn h => h1.get h, fun t i h => h2.get h, h3⟩
end
end Go.Am
namespace Go.Am
open Go Go.RowKit Go.WideShapes Go.ChangeShapes
section
variable {P : Program} {C : Cfg}
end
section
variable {H : Type} {enc : TypeId × Value -> H} {P : Program}
theorem Z07 (hl : laidOutB P = true) {W W' : World} (hb : Below W.heap.size W W') : ∀ (ts : List TypeId) (vs : List Value) (ds : List (DataW H)) (ps : List MemPlace), (∀ x ∈ ps, x.block < W.heap.size) -> (∀ t ∈ ts, P.readableRec t = true /\ t < P.types.size) ->
  DataW.TrodAll enc P W 0 (fun _ => true) true ts vs ds ps -> ∀ sp : Nat -> Bool, (∀ p ∈ ps, sp p.block = true) -> DataW.TrodAll enc P W' 0 sp true ts vs ds ps
 | [], [], [], ps, _, _, h, sp, hs => h
 | t :: ts, v :: vs, d :: ds, ps, hlt, ht, h, sp, hs => by
  obtain ⟨p, q, h1, h2, rfl⟩ := h
  refine ⟨p, q, ?_, Z07 hl hb ts vs ds q (fun x hx => hlt x (List.mem_append_right _ hx)) (fun t' h' => ht t' (List.mem_cons_of_mem _ h')) h2 sp fun x hx => hs x (List.mem_append_right _ hx), rfl⟩
  exact WideElems.Trod_stays hl (ht t List.mem_cons_self).1 (ht t List.mem_cons_self).2 h1 (fun x hx => hb.same (hlt x (List.mem_append_left _ hx))) (fun x hx => hs x (List.mem_append_left _ hx))
 | [], [], _ :: _, _, _, _, h, _, _ => h.elim
 | [], _ :: _, [], _, _, _, h, _, _ => h.elim
 | [], _ :: _, _ :: _, _, _, _, h, _, _ => h.elim
 | _ :: _, [], [], _, _, _, h, _, _ => h.elim
 | _ :: _, [], _ :: _, _, _, _, h, _, _ => h.elim
 | _ :: _, _ :: _, [], _, _, _, h, _, _ => h.elim
end
end Go.Am
namespace Go.Am
open Go
def isTrue (t : Tr (AV × St)) : Bool := match t with | .ret x => (match x.1 with | .bool b => b | _ => false) | _ => false
end Go.Am
namespace Go.Am
open Go Go.RowKit Go.WideShapes Go.ChangeShapes
section
variable {H : Type} {enc : TypeId × Value -> H} {P : Program}
theorem Za2 {f : Func} {s : ChangeSpec} {W W' : World} {args : Array Value} {ds : List (DataW H)} {before : List MemPlace} {tb : TypeId} (hl : laidOutB P = true) (hpar : ∀ t ∈ f.params.toList, P.readableRec t = true /\ t < P.types.size)
  (hvars : s.vars = []) (hrt : f.resultTypes = #[tb]) (htb : P.underlying tb = some .bool) (hW : DataW.Whole enc P f.params.toList s.vars false W args.toList ds [] before) (hfn : s.fn H ds = { results := [.lit (.bool true)], args := ds })
  (hb : Below W.heap.size W W') : s.post enc P f false true false false W args (.bool true) W' := by
 have hlt : ∀ p ∈ before, p.block < W.heap.size := fun p hp => hW.lt p hp
 have hW2 := hW
 obtain ⟨p, q, h1, h2, h3, _, _⟩ := hW2
 rw [hvars] at h2
 have hq : q = [] := h2
 subst hq
 simp only [List.append_nil] at h3; subst h3
 have hfn' : s.fn H (ds ++ []) = { results := [.lit (.bool true)], args := ds } := by rw [List.append_nil]; exact hfn
 refine ⟨ds, [], before, [], before, [], hW, ?_, ?_, ?_, World.keptBut_mono (fun x hx => ⟨hx, .inr (.inl hx)⟩) (hb.frame (· ∈ before)), fun h => by cases h⟩
 ·rw [hfn', hrt]
  exact trodAll_cons_mk (shut_bool htb _) trodAll_mk0
 ·rw [hfn']
  exact Z07 hl hb _ _ _ _ hlt hpar h1 _ fun x hx => by simpa using hlt x hx
 ·rw [hfn', hvars]; rfl
end
end Go.Am
namespace Go.Am
open Go Go.RowKit
structure Yes (t : Tr (AV × St)) : Prop where
 all : t.All fun x => x.1 = .bool true
theorem Z8l {P : Program} {f : FuncId} {fn : Func} {s : ChangeSpec} {c : OpenClaim} (h1 : laidOutB P = true) (h2 : mapsRowed P = true) (h3 : (P.stops == []) = true) (h4 : (P.stopKnobs == []) = true) (h5 : (c.plainKeys == P.plainKeys) = true) (h6 : P.stopsHeard = true) (h7 : P.mayEnter = true)
  (h8 : (c.lifted == P.liftsFinal) = true) (h9 : (P.make == some c.make) = true) (a1 : c.wf (OpenSpec.ofChange s) = true) (a2 : fn.params.all (P.readableRec ·) = true) (a3 : namedTie P c.named s.vars = true) (a4 : (c.stops == []) = true) (a5 : (c.knobs == []) = true)
  (b1 : (c.inPlace == P.inPlace f) = true) (b2 : (c.unfollowed == P.unfollowed f) = true) (b3 : (c.recurses == P.recurses f) = true) (b4 : (c.named == P.varsNamed f) = true)
  (rest : ((c.maps == (fn.params.toList ++ s.plain.varTypes P).any (P.mapsRec ·)) && (c.ifaces == (fn.params.toList ++ s.plain.varTypes P).any (P.ifacesRec ·)) && (c.mapsOut == P.mapsAmong fn.resultTypes.toList) &&
   (c.loops == (fn.params.toList ++ s.plain.varTypes P).any (P.loopsFrom ·)) && (c.wideKeys == (fn.params.toList ++ s.plain.varTypes P ++ fn.resultTypes.toList).any (P.wideKeysFrom ·)) &&
   s.vars.all (P.varReadable ·) && fn.resultTypes.all (fun t => P.readableRec t && decide (t < P.types.size)) && (c.ifacesOut == fn.resultTypes.toList.any (P.ifacesRec ·)) && (c.loopsOut == fn.resultTypes.toList.any (P.loopsFrom ·)) && c.shortTexts.isNone &&
   (c.kinds == (if c.domain.isEmpty then [] else fn.params.toList.map fun t => match P.underlying t with | some (.int k) => some k | _ => none)) && (c.pinned == c.pinnedBy) &&
   (c.veiled == (fn.params.toList ++ s.plain.varTypes P ++ fn.resultTypes.toList).any (P.veiledRec ·)) && c.veiledFits P fn.params.toList (fn.params.toList ++ s.plain.varTypes P ++ fn.resultTypes.toList)) = true) :
  joinedFacts P f fn s c = true := by
 simp only [Bool.and_eq_true] at rest
 simp only [joinedFacts, Bool.and_eq_true]
 obtain ⟨⟨⟨⟨⟨⟨⟨⟨⟨⟨⟨⟨⟨r1, r2⟩, r3⟩, r4⟩, r5⟩, r6⟩, r7⟩, r8⟩, r9⟩, r10⟩, r11⟩, r12⟩, r13⟩, r14⟩ := rest
 exact ⟨⟨⟨⟨⟨⟨⟨⟨⟨⟨⟨⟨⟨⟨⟨⟨⟨⟨⟨⟨⟨⟨⟨⟨⟨⟨⟨⟨⟨⟨⟨a1, h1⟩, h2⟩, a2⟩, a3⟩, a4⟩, h3⟩, a5⟩, h4⟩, b1⟩, b2⟩, b3⟩, b4⟩, r1⟩, r2⟩, r3⟩, r4⟩, r5⟩, r6⟩, r7⟩, r8⟩, r9⟩, h5⟩, r10⟩, h6⟩, h7⟩, h8⟩, h9⟩, r11⟩, r12⟩, r13⟩, r14⟩
end Go.Am
namespace Go.Am
open Go Go.RowKit Go.WideShapes Go.ChangeShapes
noncomputable section
def Rho.all (w : World) : Rho := ⟨fun _ => none, fun c k => match w.heap[c]? with | some (.cells ccs _ _) => ccs[k]? | _ => none⟩
theorem Zc8 (w : World) : HR (Rho.all w) [] w := by
 refine ⟨fun b x h => (by simp at h), fun b b' x x' p p' h => (by simp at h), fun b m l e h => (by simp at h), fun c k v h => ?_, fun b x p h => (by simp at h)⟩
 simp only [Rho.all] at h
 cases ho : w.heap[c]? with
 | none => rw [ho] at h; cases h
 | some o =>
  rw [ho] at h
  cases o with
  | cells ccs e fr => exact ⟨ccs, e, fr, rfl, h⟩
  | _ => cases h
def Content (P : Program) : Nat -> TypeId -> List AV -> Prop
 | 0, _, _ => False
 | d + 1, t, cs => match P.underlying t with
  | some .bool => ∃ b, cs = [.bool b]
  | some (.int k) => ∃ n, cs = [.int k n] /\ (Lit.int k n).wf = true
  | some .string => ∃ s, cs = [.str s] /\ s.size <= maxLen
  | some (.slice e) => ∃ rows : List (List AV), cs = [.lst (rows.map (rowA (P.cellsOf e)))] /\ rows.length <= maxLen /\ ∀ r ∈ rows, r.length = P.cellsOf e /\ Content P d e r
  | some (.struct fs) => ∃ pcs : List (List AV), cs = pcs.flatten /\ pcs.length = fs.toList.length /\ ∀ (i : Nat) (f : Field) (pc : List AV), fs.toList[i]? = some f -> pcs[i]? = some pc -> pc.length = P.cellsOf f.type /\ Content P d f.type pc
  | _ => False
def tiles (P : Program) : Nat -> List Field -> Option Nat
 | o, [] => some o
 | o, f :: r => match Nat.beq f.offset o with | true => tiles P (o + P.cellsOf f.type) r | false => none
def suppB (P : Program) : Nat -> TypeId -> Bool
 | 0, _ => false
 | d + 1, t => match P.underlying t with
  | some .bool | some (.int _) | some .string => true
  | some (.slice e) => Nat.ble 1 (P.cellsOf e) && suppB P d e
  | some (.struct fs) => decide (tiles P 0 fs.toList = some (P.cellsOf t)) && fs.toList.all fun f => suppB P d f.type
  | _ => false
theorem Z49 (P : Program) (cs : List Value) : ∀ (fs : List Field) (o m : Nat), tiles P o fs = some m -> m <= cs.length -> ((fs.map fun f => (cs.drop f.offset).take (P.cellsOf f.type)).flatten = (cs.drop o).take (m - o)) /\ o <= m
 | [], o, m, h, _ => by simp only [tiles, Option.some.injEq] at h; subst h; simp
 | f :: r, o, m, h, hm => by
  unfold tiles at h
  cases hb : Nat.beq f.offset o with
  | false => rw [hb] at h; cases h
  | true =>
   rw [hb] at h
   have ho := Nat.eq_of_beq_eq_true hb
   obtain ⟨h1, h2⟩ := Z49 P cs r _ m h hm
   refine ⟨?_, by omega⟩
   simp only [List.map_cons, List.flatten_cons, h1, ho]
   have : m - o = P.cellsOf f.type + (m - (o + P.cellsOf f.type)) := by omega
   rw [this, List.take_add, List.drop_drop]
section
variable {H0 : Type} {enc : TypeId × Value -> H0} {P : Program} {w : World} {sp : Nat -> Bool} {held : Bool}
def ReadOk (P : Program) (w : World) (d : Nat) (t : TypeId) (cs : List Value) : Prop :=
 ∃ acs : List AV, VRs (Rho.all w) acs cs /\ (∀ c ∈ acs, c.sc = true) /\ Content P d t acs
theorem Z58 {d : Nat} : ∀ (L : List (TypeId × List Value)), (∀ e ∈ L, ReadOk P w d e.1 e.2) ->
  ∃ pcs : List (List AV), pcs.length = L.length /\ VRs (Rho.all w) pcs.flatten (L.map (·.2)).flatten /\ (∀ c ∈ pcs.flatten, c.sc = true) /\ ∀ (i : Nat) e pc, L[i]? = some e -> pcs[i]? = some pc -> pc.length = e.2.length /\ Content P d e.1 pc /\ VRs (Rho.all w) pc e.2 /\ ∀ c ∈ pc, c.sc = true
 | [], _ => ⟨[], rfl, by simp [VRs], by simp, fun i e pc h => by simp at h⟩
 | e :: L, h => by
  obtain ⟨acs, a1, a2, a3⟩ := h e List.mem_cons_self
  obtain ⟨pcs, b1, b2, b3, b4⟩ := Z58 L fun e' he => h e' (List.mem_cons_of_mem _ he)
  refine ⟨acs :: pcs, by simp [b1], ?_, ?_, ?_⟩
  ·simp only [List.flatten_cons, List.map_cons]
   exact VRs.append _ _ _ _ a1 b2
  ·intro c hc
   simp only [List.flatten_cons, List.mem_append] at hc
   exact hc.elim (a2 c) (b3 c)
  ·intro i e' pc he hp
   cases i with
   | zero => simp at he hp; subst he; subst hp; exact ⟨VRs.length _ _ a1, a3, a1, a2⟩
   | succ i => simp at he hp; exact b4 i e' pc he hp
theorem Z8m {ρ : Rho} {z : Nat} : ∀ (rows : List (List AV)) (fs : List (List Value)), rows.length = fs.length -> (∀ (i : Nat) r f, rows[i]? = some r -> fs[i]? = some f -> VRs ρ r f /\ (∀ c ∈ r, c.sc = true) /\ f.length = z) ->
  ∃ vs, VRs ρ (rows.map (rowA z)) vs /\ (∀ a ∈ rows.map (rowA z), a.okc = true) /\ (∀ v ∈ vs, (vcells v).length = z) /\ vs.flatMap vcells = fs.flatten
 | [], fs, hl, _ => by
  have : fs = [] := List.eq_nil_of_length_eq_zero (by simpa using hl.symm)
  subst this; exact ⟨[], by simp [VRs], by simp, by simp, by simp⟩
 | r :: rows, [], hl, _ => by simp at hl
 | r :: rows, f :: fs, hl, h => by
  obtain ⟨h1, h2, h3⟩ := h 0 r f rfl rfl
  obtain ⟨v, g1, g2, g3⟩ := Z7p (z := z) h1 h2
  obtain ⟨vs, k1, k2, k3, k4⟩ := Z8m rows fs (by simpa using hl) fun i r' f' e1 e2 => h (i + 1) r' f' (by simpa using e1) (by simpa using e2)
  refine ⟨v :: vs, by simp only [List.map_cons, VRs]; exact ⟨v, vs, rfl, g1, k1⟩, ?_, ?_, by rw [List.flatMap_cons, g3, k4, List.flatten_cons]⟩
  ·intro a ha
   simp only [List.map_cons, List.mem_cons] at ha
   rcases ha with rfl | ha
   ·exact g2
   ·exact k2 a ha
  ·intro u hu
   rcases List.mem_cons.1 hu with rfl | hu
   ·rw [g3, h3]
   ·exact k3 u hu
theorem Z6y {base : Nat} {a : Addr} {n : Nat} {l : List Value} (h : w.cells? base a n = some l) : l.length = n /\ ∀ i v, l[i]? = some v -> w.cell? (a.add i) = some v := by
 unfold World.cells? at h
 split at h
 ·have key : ∀ (is : List Nat) (l : List Value), is.mapM (fun i => w.cell? (a.add i)) = some l -> l.length = is.length /\ ∀ (k : Nat) v, l[k]? = some v -> ∃ i, is[k]? = some i /\ w.cell? (a.add i) = some v := by
   intro is
   induction is with
   | nil => intro l h; simp at h; subst h; simp
   | cons j r ih =>
    intro l h
    rw [List.mapM_cons] at h
    cases hj : w.cell? (a.add j) with
    | none => rw [hj] at h; cases h
    | some u =>
     rw [hj] at h
     cases hr : r.mapM (fun i => w.cell? (a.add i)) with
     | none => rw [hr] at h; cases h
     | some q =>
      rw [hr] at h
      have h : u :: q = l := by simpa using h
      subst h
      obtain ⟨g1, g2⟩ := ih q hr
      refine ⟨by simp [g1], fun k v hk => ?_⟩
      cases k with
      | zero => simp at hk; subst hk; exact ⟨j, rfl, hj⟩
      | succ k => simp at hk; obtain ⟨i, h1, h2⟩ := g2 k v hk; exact ⟨i, by simpa using h1, h2⟩
  obtain ⟨g1, g2⟩ := key _ _ h
  refine ⟨by simpa using g1, fun i v hi => ?_⟩
  obtain ⟨j, h1, h2⟩ := g2 i v hi
  have hlt : i < n := by have := (List.getElem?_eq_some_iff.1 hi).1; simp at g1; omega
  rw [List.getElem?_range hlt] at h1
  obtain rfl := Option.some.inj h1
  exact h2
 ·cases h
theorem Z1u (P : Program) : ∀ (fs : List Field) (o m : Nat), tiles P o fs = some m -> o <= m /\ ∀ f ∈ fs, f.offset + P.cellsOf f.type <= m
 | [], o, m, h => by simp only [tiles, Option.some.injEq] at h; subst h; simp
 | f :: r, o, m, h => by
  unfold tiles at h
  cases hb : Nat.beq f.offset o with
  | false => rw [hb] at h; cases h
  | true =>
   rw [hb] at h
   have ho := Nat.eq_of_beq_eq_true hb
   obtain ⟨h1, h2⟩ := Z1u P r _ m h
   refine ⟨by omega, fun g hg => ?_⟩
   rcases List.mem_cons.1 hg with rfl | hg
   ·omega
   ·exact h2 g hg
theorem Zb4 (a : Addr) (i j : Nat) : (a.add i).add j = a.add (i + j) := by
 unfold Addr.add
 by_cases h1 : i = 0
 ·subst h1; simp
 ·by_cases h2 : j = 0
  ·subst h2; simp
  ·rw [if_neg h1, if_neg h2, if_neg (by omega)]; simp [Nat.add_assoc]
theorem Zb5 (a : Addr) (j : Nat) : (a.add j).off = a.off + j := by
 unfold Addr.add
 by_cases h : j = 0
 ·subst h; rfl
 ·rw [if_neg h]
theorem Z2s {a : Addr} {z : Nat} (f : Nat -> List Value) : ∀ n, (∀ i, i < n -> (f i).length = z /\ ∀ k v, (f i)[k]? = some v -> w.cell? ((a.add (i * z)).add k) = some v) ->
  (((List.range n).map f).flatten).length = n * z /\ ∀ j v, (((List.range n).map f).flatten)[j]? = some v -> w.cell? (a.add j) = some v
 | 0, _ => by simp
 | n + 1, h => by
  obtain ⟨h1, h2⟩ := Z2s f n fun i hi => h i (by omega)
  obtain ⟨g1, g2⟩ := h n (by omega)
  rw [List.range_succ, List.map_append, List.flatten_append]
  simp only [List.map_cons, List.map_nil, List.flatten_cons, List.flatten_nil, List.append_nil]
  refine ⟨by rw [List.length_append, h1, g1, Nat.succ_mul], fun j v hj => ?_⟩
  by_cases hlt : j < n * z
  ·rw [List.getElem?_append_left (by omega)] at hj; exact h2 j v hj
  ·rw [List.getElem?_append_right (by omega), h1] at hj
   have := g2 _ v hj
   rw [Zb4, show n * z + (j - n * z) = j by omega] at this
   exact this
theorem Z4a {a : Addr} {v : Value} (h : w.cell? a = some v) : a.spot = none /\ ∃ ccs e fr, w.heap[a.block]? = some (.cells ccs e fr) /\ ccs[a.off]? = some v := by
 unfold World.cell? at h
 split at h
 ·rename_i c e fr hc
  cases hs : a.spot with
  | none => rw [hs] at h; exact ⟨rfl, c, e, fr, hc, by simpa using h⟩
  | some s => rw [hs] at h; simp at h
 ·cases h
theorem Z59 : ∀ (d F : Nat) (t : TypeId) (cs : List Value) (x : DataW H0 × List MemPlace), DataW.trod enc P w 0 (fun _ => true) held F t cs = some x -> suppB P d t = true -> ReadOk P w d t cs
 | 0, F, t, cs, x, h, hs => by cases hs
 | d + 1, F, t, cs, x, h, hs => by
  unfold suppB at hs
  cases hu : P.underlying t with
  | none => rw [hu] at hs; cases hs
  | some k =>
   rw [hu] at hs
   cases k <;> (try simp only at hs) <;> try (cases hs; done)
   case bool =>
    obtain ⟨b, rfl, _⟩ := DataW.trod_bool hu h
    exact ⟨[.bool b], by simp [VRs, VR], by simp [AV.sc], by unfold Content; rw [hu]; exact ⟨b, rfl⟩⟩
   case int k =>
    obtain ⟨n, rfl, _, hw⟩ := DataW.trod_int hu h
    exact ⟨[.int k n], by simp [VRs, VR], by simp [AV.sc], by unfold Content; rw [hu]; exact ⟨n, rfl, hw⟩⟩
   case string =>
    obtain ⟨s, rfl, _, hw⟩ := DataW.trod_string hu h
    exact ⟨[.str s], by simp [VRs, VR], by simp [AV.sc], by unfold Content; rw [hu]; exact ⟨s, rfl, hw⟩⟩
   case slice e =>
    simp only [Bool.and_eq_true] at hs
    obtain ⟨hz, hs⟩ := hs
    have hz := Nat.le_of_ble_eq_true hz
    rcases DataW.trod_slice hu h with ⟨rfl, _⟩ | ⟨a, len, cap, elems, rest, n, hn, rfl, _, _, hlc, hcm, hel, hev, hsp, _⟩
    ·refine ⟨[.lst []], ?_, by simp [AV.sc], by unfold Content; rw [hu]; exact ⟨[], rfl, by simp, by simp⟩⟩
     simp only [VRs, VR]; exact ⟨_, _, rfl, ⟨none, 0, rfl, by simp, fun h => absurd rfl h⟩, rfl⟩
    ·have hF := hn
     obtain ⟨z, hzz⟩ : ∃ z, z = P.cellsOf e := ⟨_, rfl⟩
     rw [<- hzz] at hz hev hsp
     have hrow : ∀ i, i < len -> ∃ ci y, w.cells? 0 (a.add (i * z)) z = some ci /\ DataW.trod enc P w 0 (fun _ => true) held n e ci = some y := by
      intro i hi
      have := hev i hi
      rw [List.getElem?_eq_getElem (by omega)] at this
      obtain ⟨ci, h1, h2⟩ := Option.bind_eq_some_iff.1 this
      exact ⟨ci, _, h1, h2⟩
     obtain ⟨f, hf⟩ : ∃ f : Nat -> List Value, f = fun i => (w.cells? 0 (a.add (i * z)) z).getD [] := ⟨_, rfl⟩
     have hfi : ∀ i, i < len -> w.cells? 0 (a.add (i * z)) z = some (f i) := fun i hi => by
      obtain ⟨ci, y, h1, _⟩ := hrow i hi
      rw [hf]; simp [h1]
     have hfl : ∀ i, i < len -> (f i).length = z /\ ∀ k v, (f i)[k]? = some v -> w.cell? ((a.add (i * z)).add k) = some v := fun i hi => Z6y (hfi i hi)
     obtain ⟨pcs, b1, b2, b3, b4⟩ := Z58 (P := P) (w := w) (d := d) ((List.range len).map fun i => (e, f i)) (by
      intro e' he'
      obtain ⟨i, hi, rfl⟩ := List.mem_map.1 he'
      have hi := List.mem_range.1 hi
      obtain ⟨ci, y, h1, h2⟩ := hrow i hi
      have : ci = f i := by have := hfi i hi; rw [h1] at this; exact Option.some.inj this
      subst this
      exact Z59 d n e _ y h2 hs)
     obtain ⟨c1, c2⟩ := Z2s (w := w) f len hfl
     have hpl : pcs.length = len := by simpa using b1
     have hrows : ∀ r ∈ pcs, r.length = z /\ Content P d e r := by
      intro r hr
      obtain ⟨i, hi⟩ := List.mem_iff_getElem?.1 hr
      have hlt : i < len := by have := (List.getElem?_eq_some_iff.1 hi).1; omega
      obtain ⟨g1, g2, _⟩ := b4 i (e, f i) r (by simp [hlt]) hi
      exact ⟨g1.trans (hfl i hlt).1, g2⟩
     obtain ⟨vs, m1, m2, m3, m4⟩ := Z8m (ρ := Rho.all w) (z := z) pcs ((List.range len).map f) (by simp [hpl]) (by
      intro i r g hr hg
      have hlt : i < len := by have := (List.getElem?_eq_some_iff.1 hr).1; omega
      obtain rfl : f i = g := by simpa [hlt] using hg
      obtain ⟨_, _, g3, g4⟩ := b4 i (e, f i) r (by simp [hlt]) hr
      exact ⟨g3, g4, (hfl i hlt).1⟩)
     refine ⟨[.lst (pcs.map (rowA z))], ?_, by simp [AV.sc], ?_⟩
     ·simp only [VRs, VR]
      refine ⟨_, [], rfl, ⟨some a, cap, by simp [hpl], by simp [hpl, hlc], fun hne => ?_⟩, rfl⟩
      have hl : 0 < len := by
       rcases Nat.eq_zero_or_pos len with h0 | h0
       ·exact absurd (List.eq_nil_of_length_eq_zero (by simp [hpl, h0])) hne
       ·exact h0
      have hfz : ∀ j v, (((List.range len).map f).flatten)[j]? = some v -> (Rho.all w).fz a.block (a.off + j) = some v := by
       intro j v hj
       have := c2 j v hj
       obtain ⟨s0, ccs', ce', fr', s3, s4⟩ := Z4a this
       have e1 : (a.add j).block = a.block := by unfold Addr.add; split <;> rfl
       have e2 : (a.add j).off = a.off + j := Zb5 a j
       rw [e1] at s3; rw [e2] at s4
       simp only [Rho.all, s3]; exact s4
      have hfirst : ∃ v, (((List.range len).map f).flatten)[0]? = some v := by
       have hpos : 0 < len * z := Nat.mul_pos hl hz
       exact ⟨_, List.getElem?_eq_getElem (by omega)⟩
      obtain ⟨v0, hv0⟩ := hfirst
      have hsp0 : a.spot = none := (Z4a (c2 0 v0 hv0)).1
      refine ⟨a.block, a.off, z, by cases a; simp at hsp0; simp [hsp0], hz, FR.intro m1 m2 m3 fun k x hk => ?_⟩
      rw [m4] at hk
      exact hfz k x hk
     ·unfold Content
      rw [hu]
      exact ⟨pcs, by rw [hzz], by omega, fun r hr => by rw [<- hzz]; exact hrows r hr⟩
   case struct fs =>
    simp only [Bool.and_eq_true, decide_eq_true_eq, List.all_eq_true] at hs
    obtain ⟨htl, hs⟩ := hs
    obtain ⟨xs, n, hn, _, hlen, hxl, hx⟩ := DataW.trod_struct hu h
    obtain ⟨pcs, b1, b2, b3, b4⟩ := Z58 (P := P) (w := w) (d := d) (fs.toList.map fun f => (f.type, (cs.drop f.offset).take (P.cellsOf f.type))) (by
     intro e' he'
     obtain ⟨f, hf, rfl⟩ := List.mem_map.1 he'
     obtain ⟨i, hi⟩ := List.mem_iff_getElem?.1 hf
     have h1 := hx i f (by simpa using hi)
     have hlt : i < xs.length := by have := (List.getElem?_eq_some_iff.1 hi).1; rw [hxl]; simpa using this
     rw [List.getElem?_eq_getElem hlt] at h1
     exact Z59 d n f.type _ _ h1 (hs f hf))
    obtain ⟨t1, _⟩ := Z49 P cs fs.toList 0 _ htl (by omega)
    obtain ⟨_, t2⟩ := Z1u P fs.toList 0 _ htl
    refine ⟨pcs.flatten, ?_, b3, ?_⟩
    ·have e : ((fs.toList.map fun f => (f.type, (cs.drop f.offset).take (P.cellsOf f.type))).map (·.2)).flatten = cs := by
      rw [List.map_map]
      have : ((fun x : TypeId × List Value => x.2) ∘ fun f : Field => (f.type, (cs.drop f.offset).take (P.cellsOf f.type))) = fun f : Field => (cs.drop f.offset).take (P.cellsOf f.type) := rfl
      rw [this, t1, <- hlen, List.drop_zero, Nat.sub_zero, List.take_length]
     rw [e] at b2; exact b2
    ·unfold Content
     rw [hu]
     refine ⟨pcs, rfl, by simpa using b1, fun i f pc hf hp => ?_⟩
     obtain ⟨g1, g2, _⟩ := b4 i (f.type, (cs.drop f.offset).take (P.cellsOf f.type)) pc (by simp [hf]) hp
     refine ⟨?_, g2⟩
     rw [g1]
     have := t2 f (List.mem_of_getElem? hf)
     simp; omega
def argOf (P : Program) (t : TypeId) (acs : List AV) : AV := match P.underlying t with | some (.struct _) => .agg acs | _ => acs.headD .undef
theorem Z8n {d : Nat} {base : Nat} : ∀ (ts : List TypeId) (vs : List Value) (ds : List (DataW H0)) (ps : List MemPlace), DataW.TrodAll enc P w 0 (fun _ => true) held ts vs ds ps -> (∀ t ∈ ts, suppB P d t = true) ->
  (∀ (j : Nat) t v, ts[j]? = some t -> vs[j]? = some v -> Value.okWide P w .any base t v) ->
  ∃ L : List (List AV), L.length = ts.length /\ VRs (Rho.all w) ((ts.zip L).map fun x => argOf P x.1 x.2) vs /\ ∀ (i : Nat) t acs, ts[i]? = some t -> L[i]? = some acs -> Content P d t acs
 | [], [], [], ps, _, _, _ => ⟨[], rfl, by simp [VRs], fun i t acs h => by simp at h⟩
 | t :: ts, v :: vs, dd :: ds, ps, h, hs, hv => by
  obtain ⟨p, q, ⟨F, h1⟩, h2, _⟩ := h
  obtain ⟨L, b1, b2, b3⟩ := Z8n ts vs ds q h2 (fun t' h' => hs t' (List.mem_cons_of_mem _ h')) (fun j t' v' e1 e2 => hv (j + 1) t' v' (by simpa using e1) (by simpa using e2))
  have hst := hs t List.mem_cons_self
  obtain ⟨acs, a1, a2, a3⟩ := Z59 d F t _ _ h1 hst
  have hval := hv 0 t v rfl rfl
  refine ⟨acs :: L, by simp [b1], ?_, ?_⟩
  ·simp only [List.zip_cons_cons, List.map_cons, VRs]
   refine ⟨v, vs, rfl, ?_, b2⟩
   cases d with
   | zero => cases hst
   | succ d =>
    unfold suppB at hst
    unfold argOf
    unfold Value.okWide at hval
    cases hu : P.underlying t with
    | none => rw [hu] at hst; cases hst
    | some kd =>
     rw [hu] at hst hval
     have single : (v.cells.toList = [v]) -> VR (Rho.all w) (acs.headD .undef) v := by
      intro e
      rw [e] at a1
      cases acs with
      | nil => simp [VRs] at a1
      | cons c r => simp only [VRs] at a1; obtain ⟨u, t', e1, e2, _⟩ := a1; injection e1 with e1 _; subst e1; exact e2
     cases kd <;> (try simp only at hst) <;> try (cases hst; done)
     case struct fs =>
      obtain ⟨cs, rfl, _⟩ := hval
      simp only [VR]
      exact ⟨cs.toList, rfl, by simpa [Value.cells] using a1, a2⟩
     all_goals (refine single ?_; cases v <;> simp_all [Cell.okWide, Cell.ok, Value.cells])
  ·intro i t' acs' e1 e2
   cases i with
   | zero => simp at e1 e2; subst e1; subst e2; exact a3
   | succ i => simp at e1 e2; exact b3 i t' acs' e1 e2
 | [], [], _ :: _, _, h, _, _ => h.elim
 | [], _ :: _, [], _, h, _, _ => h.elim
 | [], _ :: _, _ :: _, _, h, _, _ => h.elim
 | _ :: _, [], [], _, h, _, _ => h.elim
 | _ :: _, [], _ :: _, _, h, _, _ => h.elim
 | _ :: _, _ :: _, [], _, h, _, _ => h.elim
end
end
end Go.Am
namespace Go.Am
open Go Go.RowKit Go.WideShapes Go.ChangeShapes
def s0 : St := ⟨[], 0, [], false, []⟩
theorem Z3i {H0 : Type} {enc : TypeId × Value -> H0} {P : Program} {C : Cfg} (hC : CfgOk P C) (hK : CodesOk C) {d base : Nat} {held : Bool} {f : FuncId} {ts : List TypeId} {args : Array Value} {ds : List (DataW H0)} {ps : List MemPlace} {W : World}
  (hA : DataW.TrodAll enc P W 0 (fun _ => true) held ts args.toList ds ps) (hs : ∀ t ∈ ts, suppB P d t = true) (hv : ∀ (j : Nat) t v, ts[j]? = some t -> args.toList[j]? = some v -> Value.okWide P W .any base t v)
  (hrun : ∀ L : List (List AV), L.length = ts.length -> (∀ (i : Nat) t acs, ts[i]? = some t -> L[i]? = some acs -> Content P d t acs) ->
   ∃ K, Yes (acall C K f ((ts.zip L).map fun x => argOf P x.1 x.2) s0)) :
  Calls P f args W fun e W' => e = .returned (.bool true) /\ Below W.heap.size W W' := by
 obtain ⟨L, b1, b2, b3⟩ := Z8n ts args.toList ds ps hA hs hv
 obtain ⟨K, hm⟩ := hrun L b1 b3
 obtain ⟨_, hc⟩ := (Z69 hC hK K).1 f _ s0 W (Rho.all W) args.toList _ (Zc8 W) (fun _ _ _ => rfl) b2 hm.all
 refine ((hc 0).calls fun k => room_wide k).mono ?_
 rintro e W' ⟨v, s', ρ', cv, rfl, hv', hst, _, hcv⟩
 simp only at hv'; subst hv'
 simp only [VR] at hcv
 refine ⟨by rw [hcv], hst.same.os, hst.same.tape, hst.same.output, hst.size, fun k hk => hst.unch k hk ?_⟩
 rintro ⟨b, x, p, hb, hx, _, _⟩
 simp [s0] at hb
end Go.Am
namespace Go.Am
open Go
theorem Z5 {α β : Type} {t t' : Tr α} (f : α -> Tr β) (h : t = t') : t.bind f = t'.bind f := by rw [h]
theorem Z3 {α : Type} {t t' : Tr α} (Q : α -> Prop) (h : t = t') : t.All Q = t'.All Q := by rw [h]
attribute [go_sem] Tr.bind_ret Tr.all_ret
def Tr.Does {α : Type} (t : Tr α) (Q : α -> Prop) : Prop := ∃ a, t = .ret a /\ Q a
@[go_sem] theorem Za3 {α : Type} (a : α) (Q : α -> Prop) : (Tr.ret a).Does Q = Q a := by
 apply propext
 constructor
 ·rintro ⟨b, h, hq⟩; injection h with h; subst h; exact hq
 ·intro h; exact ⟨a, rfl, h⟩
theorem Za {α β : Type} {t : Tr α} {f : α -> Tr β} {Q : β -> Prop} : (t.bind f).Does Q = t.Does fun a => (f a).Does Q := by
 apply propext
 constructor
 ·rintro ⟨b, h, hq⟩
  cases t with
  | fail => cases h
  | ret a => exact ⟨a, rfl, b, h, hq⟩
  | ask n k => cases h
 ·rintro ⟨a, rfl, b, h, hq⟩; exact ⟨b, h, hq⟩
theorem Tr.Does.mono {α : Type} {t : Tr α} {Q Q' : α -> Prop} (h : t.Does Q) (hq : ∀ a, Q a -> Q' a) : t.Does Q' := let ⟨a, e, h⟩ := h; ⟨a, e, hq a h⟩
theorem Tr.Does.all {α : Type} {t : Tr α} {Q : α -> Prop} (h : t.Does Q) : t.All Q := by obtain ⟨a, rfl, h⟩ := h; exact h
theorem Z2 {α : Type} {t t' : Tr α} (Q : α -> Prop) (h : t = t') : t.Does Q = t'.Does Q := by rw [h]
section
variable (C : Cfg) (call : FuncId -> List AV -> M AV) (rnd : Nm -> List AV -> M AV) (K : Nat)
noncomputable def seqK (b : Code) (x : X × St) : Tr (X × St) := match x.1.1 with | .normal => exec C call rnd K b x.1.2 x.2 | e => .ret ((e, x.1.2), x.2)
def regK (x : List AV × St) : Tr (X × St) := .ret ((.normal, x.1), x.2)
noncomputable def opsK (ops : List Oper) (d : Option Tmp) (l : List Oper) (T : List AV) (x : AV × St) : Tr (List AV × St) := runOps C call rnd ops l (putT T d x.1) x.2
def blkK (id : Nat) (x : X × St) : Tr (X × St) := match x.1.1 with
 | .exit i => .ret ((match Nat.beq i id with | true => .normal | false => .exit i, x.1.2), x.2)
 | e => .ret ((e, x.1.2), x.2)
noncomputable def condK (b : Bool) (x y : Code) (T : List AV) (s : St) : Tr (X × St) := cond b (exec C call rnd K x T s) (exec C call rnd K y T s)
variable {C call rnd K}
@[go_sem] theorem Z5a (b : Code) (T : List AV) (s : St) : seqK C call rnd K b ((.normal, T), s) = exec C call rnd K b T s := rfl
@[go_sem] theorem Zfb (b : Code) (T : List AV) (s : St) : seqK C call rnd K b ((.ret, T), s) = .ret ((.ret, T), s) := rfl
@[go_sem] theorem Zc9 (b : Code) (i : Nat) (T : List AV) (s : St) : seqK C call rnd K b ((.exit i, T), s) = .ret ((.exit i, T), s) := rfl
@[go_sem] theorem Za4 (T : List AV) (s : St) : regK (T, s) = .ret ((.normal, T), s) := rfl
@[go_sem] theorem Zfc (ops : List Oper) (d : Option Tmp) (l : List Oper) (T : List AV) (v : AV) (s : St) : opsK C call rnd ops d l T (v, s) = runOps C call rnd ops l (putT T d v) s := rfl
@[go_sem] theorem Zb6 (id : Nat) (T : List AV) (s : St) : blkK id ((.normal, T), s) = .ret ((.normal, T), s) := rfl
@[go_sem] theorem Zfd (id : Nat) (T : List AV) (s : St) : blkK id ((.ret, T), s) = .ret ((.ret, T), s) := rfl
@[go_sem] theorem Zca (id i : Nat) (T : List AV) (s : St) : blkK id ((.exit i, T), s) = .ret ((match Nat.beq i id with | true => .normal | false => .exit i, T), s) := rfl
@[go_sem] theorem Zbs (x y : Code) (T : List AV) (s : St) : condK C call rnd K true x y T s = exec C call rnd K x T s := rfl
@[go_sem] theorem Zb7 (x y : Code) (T : List AV) (s : St) : condK C call rnd K false x y T s = exec C call rnd K y T s := rfl
theorem Js {p : Prop} [Decidable p] {x y : Code} {T : List AV} {s : St} {Q : X × St -> Prop} (h1 : p -> (exec C call rnd K x T s).Does Q) (h2 : ¬ p -> (exec C call rnd K y T s).Does Q) : (condK C call rnd K (decide p) x y T s).Does Q := by
 by_cases h : p
 ·have : decide p = true := by simp [h]
  rw [this]; exact h1 h
 ·have : decide p = false := by simp [h]
  rw [this]; exact h2 h
end
section
variable {C : Cfg} {call : FuncId -> List AV -> M AV} {rnd : Nm -> List AV -> M AV} {K : Nat}
@[go_sem] theorem Z7 {α β : Type} (m : M α) (f : α -> M β) (s : St) : M.bind m f s = (m s).bind fun x => f x.1 x.2 := rfl
@[go_sem] theorem Y4 {α : Type} (a : α) (s : St) : M.ret a s = .ret (a, s) := rfl
@[go_sem] theorem Zjk {α : Type} (a : α) (s : St) : M.of (some a) s = .ret (a, s) := rfl
@[go_sem] theorem Zjl (T : List AV) : exec C call rnd K .skip T = M.ret (.normal, T) := rfl
@[go_sem] theorem Zl7 (T : List AV) : exec C call rnd K .ret T = M.ret (.ret, T) := rfl
@[go_sem] theorem Zjm (i : Nat) (T : List AV) : exec C call rnd K (.exit i) T = M.ret (.exit i, T) := rfl
@[go_sem] theorem Zfp (a b : Code) (T : List AV) (s : St) : exec C call rnd K (.seq a b) T s = (exec C call rnd K a T s).bind (seqK C call rnd K b) := by
 show thenA (exec C call rnd K a T) (exec C call rnd K b) s = _
 unfold thenA M.bind
 congr 1
 funext x
 obtain ⟨⟨e, T'⟩, s'⟩ := x
 cases e <;> rfl
@[go_sem] theorem Zfe (id : Nat) (ops : Array Oper) (T : List AV) (s : St) : exec C call rnd K (.region id ops false) T s = (runOps C call rnd ops.toList ops.toList T s).bind regK := rfl
@[go_sem] theorem Zjn (id : Nat) (ops : Array Oper) (T : List AV) (s : St) : exec C call rnd K (.region id ops true) T s = (drawF C call rnd ops.toList T s).bind regK := rfl
@[go_sem] theorem Zjo (c : Operand) (a b : Code) (T : List AV) (s : St) : exec C call rnd K (.cond c a b) T s = match evA T c with
   | some (.bool b') => condK C call rnd K b' a b T s
   | _ => .fail := by
 show (match evA T c with
   | some (.bool b') => (match b' with | true => exec C call rnd K a T | false => exec C call rnd K b T)
   | _ => M.fail) s = _
 cases evA T c with
 | none => rfl
 | some v => cases v <;> first | rfl | (rename_i b'; cases b' <;> rfl)
@[go_sem] theorem Zfq (id : Nat) (c : Code) (T : List AV) (s : St) : exec C call rnd K (.block id c) T s = (exec C call rnd K c T s).bind (blkK id) := by
 show blockA id (exec C call rnd K c T) s = _
 unfold blockA M.bind
 congr 1
 funext x
 obtain ⟨⟨e, T'⟩, s'⟩ := x
 cases e with
 | exit i => simp only [blkK]; cases Nat.beq i id <;> rfl
 | _ => rfl
@[go_sem] theorem Zl8 (ops : List Oper) (T : List AV) (s : St) : runOps C call rnd ops [] T s = .ret (T, s) := rfl
@[go_sem] theorem Zjp (ops : List Oper) (o : Oper) (l : List Oper) (T : List AV) (s : St) : runOps C call rnd ops (o :: l) T s = match wantedA ops T o with
   | true => (opA C call rnd T o s).bind (opsK C call rnd ops o.dst l T)
   | false => runOps C call rnd ops l (putT T o.dst .undef) s := by
 show (match wantedA ops T o with
   | true => (opA C call rnd T o).bind fun v => runOps C call rnd ops l (putT T o.dst v)
   | false => runOps C call rnd ops l (putT T o.dst .undef)) s = _
 cases wantedA ops T o <;> rfl
@[go_sem] theorem Zl9 (T : List AV) (t : Nat) : evA T (.tmp t) = nth T t := rfl
@[go_sem] theorem Zjq (T : List AV) (f : FuncId) : evA T (.func f) = some (.func f []) := rfl
@[go_sem] theorem Zfr (T : List AV) (v : Value) : evA T (.const v) = ofConst v := rfl
@[go_sem] theorem Zjr (k : IntKind) (n : Int) : ofConst (.int k n) = some (.int k n) := rfl
@[go_sem] theorem Zfs (b : Bool) : ofConst (.bool b) = some (.bool b) := rfl
@[go_sem] theorem Zft : ofConst (.slice none 0 0) = some .nils := rfl
@[go_sem] theorem Zfu : ofConst (.pointer none) = some .nilp := rfl
@[go_sem] theorem Zfv : ofConst (.map none) = some .nilm := rfl
@[go_sem] theorem Zbt {α : Type} (T : List α) {d t : Nat} (v : α) (h : d ≠ t) : nth (setNth T d v) t = nth T t := by rw [Zm, Zm, Y7, List.getElem?_set_ne h]
@[go_sem] theorem Zam {α : Type} (T : List α) {t : Nat} (v : α) (h : t < T.length) : nth (setNth T t v) t = some v := by rw [Zm, Y7]; simp [h]
@[go_sem] theorem Zbu {α : Type} (T : List α) (t : Nat) (v : α) : (setNth T t v).length = T.length := Xe ..
attribute [go_sem] wantedA opA ev1 putT evs partsA done binA intBin unA notB negB resultsA pack optA isOk shutArgs fzOf memN shuts AV.shut flats AV.flat
@[go_sem] theorem Zx (b : Nm) (s : St) : getM b s = match hget s.H b with | some x => .ret (x, s) | none => .fail := rfl
@[go_sem] theorem Xl (b : Nm) (y : Blk) (s : St) : putM b y s = match hget s.H b with | some _ => .ret ((), s.put b y) | none => .fail := rfl
@[go_sem] theorem Z3j (b : Nm) (s : St) : delM b s = match hget s.H b with | some _ => .ret ((), s.del b) | none => .fail := rfl
@[go_sem] theorem Xm (x : Blk) (s : St) : newM x s = .ret (s.name, s.new x) := rfl
theorem Z4b {c : Code} {Q : X × St -> Prop} (I : Nat -> List AV -> St -> Prop)
  (step : ∀ k T s, I k T s -> (exec C call rnd K c T s).Does fun x => match x.1.1 with | .normal => ∃ k', k' < k /\ I k' x.1.2 x.2 | e => Q ((e, x.1.2), x.2)) :
  ∀ (L k : Nat) (T : List AV) (s : St), k < L -> I k T s -> (iter L (exec C call rnd K c) T s).Does Q
 | 0, k, T, s, h, _ => by omega
 | L + 1, k, T, s, h, hI => by
  show ((((exec C call rnd K c T).bind fun x => match x.1 with | .normal => iter L (exec C call rnd K c) x.2 | e => M.ret (e, x.2))) s).Does Q
  rw [Z7, Za]
  refine (step k T s hI).mono ?_
  rintro ⟨⟨e, T'⟩, s'⟩ hx
  cases e with
  | normal => obtain ⟨k', hk, hI'⟩ := hx; exact Z4b I step L k' T' s' (by omega) hI'
  | exit i => exact ⟨_, rfl, hx⟩
  | ret => exact ⟨_, rfl, hx⟩
theorem X3 {c : Code} {T : List AV} {s : St} {Q : X × St -> Prop} (I : Nat -> List AV -> St -> Prop) {k : Nat} (hk : k < K) (h0 : I k T s)
  (step : ∀ k T s, I k T s -> (exec C call rnd K c T s).Does fun x => match x.1.1 with | .normal => ∃ k', k' < k /\ I k' x.1.2 x.2 | e => Q ((e, x.1.2), x.2)) :
  (exec C call rnd K (.loop c) T s).Does Q := Z4b I step K k T s hk h0
theorem Zp {fn : Func} {c : Code} {args : List AV} {s : St} {Q : AV × St -> Prop} (hb : fn.body = some c) (h : ∀ T, T.length = args.length + (fn.ntmps - args.length) -> (∀ i v, nth args i = some v -> nth T i = some v) ->
  (exec C call rnd K c T s).Does fun x => match x.1.1 with | .exit _ => False | _ => (resultsA C x.1.2 fn.results.toList x.2).Does fun y => Q (pack y.1, y.2)) : (bodyA C call rnd K fn args s).Does Q := by
 unfold bodyA
 rw [hb]; simp only
 rw [Z7, Za]
 refine (h (args ++ undefs (fn.ntmps - args.length)) (by simp [Z6w]) fun i v hi => ?_).mono ?_
 ·rw [Zm] at hi ⊢
  rw [List.getElem?_append_left (List.getElem?_eq_some_iff.1 hi).1]; exact hi
 ·rintro ⟨⟨e, T'⟩, s'⟩ hx
  cases e with
  | exit i => exact hx.elim
  | normal => show (((resultsA C T' fn.results.toList).bind fun vs => M.ret (pack vs)) s').Does Q; rw [Z7, Za]; exact hx.mono fun y hy => ⟨_, rfl, hy⟩
  | ret => show (((resultsA C T' fn.results.toList).bind fun vs => M.ret (pack vs)) s').Does Q; rw [Z7, Za]; exact hx.mono fun y hy => ⟨_, rfl, hy⟩
end
section
variable {C : Cfg} {K : Nat}
theorem Z8o {f : FuncId} {fn : Func} {args : List AV} {s : St} {v : AV} (hm : C.mode.get f = some 1) (hf : C.fn.get f = some fn) (hs : shuts args = args) (hfl : flats args = true) (hv : v.flat = true)
  (hb : (bodyA (C.at f) (acall C K) (around C K) (K + 1) fn args s0).All fun x => frozen x.2.H x.1 = some v) : acall C (K + 1) f args s = .ret (v, s) := by
 rw [Zu]
 unfold enterA
 rw [hf]; simp only
 rw [hm]; simp only
 rw [hs, hfl]; simp only
 obtain ⟨h1, h2⟩ := Nice.mach C K
 have := Z1s _ v ((Nice.bodyA (C := C.at f) h1 h2 (K + 1) fn args).pos s0) hv hb
 have e : collapse (bodyA (C.at f) (acall C K) (around C K) (K + 1) fn args ⟨[], 0, [], false, []⟩) = some v := this
 rw [e]; rfl
theorem Z5b {f : FuncId} {fn : Func} {args : List AV} {s : St} {v : AV} (hm : C.mode.get f = some 1) (hf : C.fn.get f = some fn) (hs : shuts args = args) (hfl : flats args = true) (hv : v.flat = true)
  (hb : (bodyA (C.at f) (acall C K) (around C K) (K + 1) fn args s0).Does fun x => frozen x.2.H x.1 = some v) : acall C (K + 1) f args s = .ret (v, s) := Z8o hm hf hs hfl hv hb.all
theorem Zfw {f : FuncId} {fn : Func} {args : List AV} (hm : C.mode.get f = none) (hf : C.fn.get f = some fn) : acall C (K + 1) f args = bodyA (C.at f) (acall C K) (around C K) (K + 1) fn args := by
 rw [Zu]
 unfold enterA
 rw [hf]
 simp only
 rw [hm]
theorem Z08 {f : FuncId} {fn : Func} {b : Nm} {o u : Nat} {rest cs cs' : List AV} {s : St} {v : AV} (hm : C.mode.get f = some 4) (hf : C.fn.get f = some fn) (hb : hget s.H b = some (.cells cs true u)) (hn : namesVs false rest [] = []) (hr : renVs [(b, [0])] rest = some rest)
  (hc : namesVs false cs [] = []) (hcr : renVs [(b, [0])] cs = some cs) (hc' : namesVs true cs' [] = []) (hcr' : renVs [([0], b)] cs' = some cs') (hv : namesV true v.shut [] = []) (hvr : renV [([0], b)] v.shut = some v.shut)
  (hd : (bodyA (C.at f) (acall C K) (around C K) (K + 1) fn (.ptr [0] o :: rest) ⟨[([0], .cells cs true u)], 1, [], false, []⟩).Does fun x => x.1 = v /\ hget x.2.H [0] = some (.cells cs' true u)) :
  acall C (K + 1) f (.ptr b o :: rest) s = .ret (v.shut, s.put b (.cells cs' true u)) := by
 rw [Zu]
 unfold enterA
 rw [hf]; simp only
 rw [hm]; simp only
 obtain ⟨⟨v1, s1⟩, e1, rfl, e2⟩ := hd
 simp only at e2
 unfold handA
 have hl : lendM 200 (namesVs false (.ptr b o :: rest) []) [] [] s = .ret (([b], [.cells cs true u]), s) := by
  show lendM 200 (b :: namesVs false rest []) [] [] s = _
  rw [hn]
  show (getM b).bind (fun x => lendM 199 (namesB false x []) ([] ++ [b]) ([] ++ [x])) s = _
  rw [Z7, Zx, hb]
  show lendM 199 (namesVs false cs []) _ _ s = _
  rw [hc]; rfl
 rw [Z7, hl]
 have hnd : nodupN [b] = true := rfl
 have hz : zipN [b] (namesFrom [] 0 [b].length) = [(b, [0])] := rfl
 have hra : renVs [(b, [0])] (.ptr b o :: rest) = some (.ptr [0] o :: rest) := by simp only [renVs, renV, lookN, Ze, hr]
 have hrb : renBs [(b, [0])] [.cells cs true u] = some [.cells cs true u] := by simp only [renBs, renB, hcr]
 have hcalm : calm [.cells cs true u] = true := rfl
 simp only [Tr.bind_ret, hnd, hz, hra, hrb, hcalm]
 have hst : (⟨zipB (namesFrom [] 0 [b].length) [.cells cs true u], [b].length, [], false, []⟩ : St) = ⟨[([0], .cells cs true u)], 1, [], false, []⟩ := rfl
 rw [hst, e1]
 have ho : oneR true (.ret (v1, s1)) = some (v1.shut, s1.H) := rfl
 have hy : getAll s1.H (namesFrom [] 0 [b].length) = some [.cells cs' true u] := by
  show getAll s1.H [[0]] = _
  simp only [getAll, e2]
 rw [ho]; simp only
 rw [hy]; simp only
 have hb' : namesBs true [.cells cs' true u] [] = [] := by show namesVs true cs' [] = []; exact hc'
 rw [hb', hv]
 have hre : reachL s1.H 200 [] (namesFrom [] 0 [b].length) [] = some ([[0]], []) := rfl
 rw [hre]; simp only
 have hn0 : nodupN [[0]] = true := rfl
 rw [hn0]; simp only
 have hz2 : zipN [[0]] ([b] ++ namesFrom s.pre s.n ([] : List Blk).length) = [([0], b)] := rfl
 rw [Z7]
 show (Tr.ret ((s.pre, s.n), s)).bind _ = _
 rw [Tr.bind_ret]
 rw [hz2]
 have hrb' : renB [([0], b)] (.cells cs' true u) = some (.cells cs' true u) := by simp only [renB, hcr']
 simp only [hvr, hrb', renBs, putAll, newAll, Z7, Xl, hb, Tr.bind_ret, Y4]
end
theorem Zk {x : Int} (h : -9223372036854775808 <= x) (h' : x <= 9223372036854775807) : wrapF .i64 x = x := by
 rw [Y2]; simp only [IntKind.wrap, IntKind.bits, IntKind.signed]; simp; omega
theorem Z6a {x : Int} (h : 0 <= x) (h' : x <= 18446744073709551615) : wrapF .u64 x = x := by
 simp only [wrapF, wrapU]; omega
theorem Z26 (x : Int) : 0 <= wrapF .u64 x /\ wrapF .u64 x <= 18446744073709551615 := by
 simp only [wrapF, wrapU]; omega
theorem Zcb {i n : Nat} (h : i < n) : inR (i : Int) n = some i := by
 unfold inR
 have h1 : decide ((0 : Int) <= (i : Int)) = true := by simp
 have h2 : decide ((i : Int) < (n : Int)) = true := by simp; omega
 rw [h1, h2]; simp
theorem Zcc (k : IntKind) (x y : Int) (h : 0 <= y) : shiftBin .shr k x y = some (.int k (x.fdiv (Nat.pow 2 (min y.toNat (kbits k)) : Nat))) := by
 unfold shiftBin
 have : decide (y < 0) = false := by simp; omega
 rw [this]
theorem Zcd (k : IntKind) (x y : Int) (h : 0 <= y) : shiftBin .shl k x y = some (.int k (wrapF k (x * (Nat.pow 2 (min y.toNat (kbits k)) : Nat)))) := by
 unfold shiftBin
 have : decide (y < 0) = false := by simp; omega
 rw [this]
attribute [go_sem] Zcc Zcd
theorem Yp {α : Type} {f : α -> AV} {l : List α} {i z : Nat} (h : i < l.length) (hz : (f l[i]).cells.length = z) : elemAt z (i : Int) (l.map f) = some (.fptr (f l[i]).cells 0) := by
 unfold elemAt
 rw [Zcb (by simpa using h)]
 have : nth (l.map f) i = some (f l[i]) := by rw [Zm]; simp [h]
 simp only [this, hz, Nat.beq_refl]
theorem Yf {α : Type} {f : α -> AV} {z : Nat} (hz : ∀ a, (f a).cells.length = z) : ∀ l : List α, okZ z (l.map f) = true
 | [] => rfl
 | a :: r => by simp only [List.map_cons, okZ, hz a, Nat.beq_refl]; exact Yf hz r
theorem Zl {α : Type} {f : α -> AV} (hf : ∀ a, (f a).flat = true) : ∀ l : List α, flats (l.map f) = true
 | [] => rfl
 | a :: r => by simp only [List.map_cons, flats, hf a]; exact Zl hf r
def ownV (b : Nm) (l : List AV) : AV := match l with | [] => .nils | _ :: _ => .own b l
def ownH (b : Nm) (z : Nat) (l : List AV) (H : Heap) : Heap := match l with | [] => H | _ :: _ => (b, .tok l.length z) :: H
@[go_sem] theorem Z3k (b : Nm) : ownV b [] = .nils := rfl
@[go_sem] theorem Zff (b : Nm) (z : Nat) (H : Heap) : ownH b z [] H = H := rfl
@[go_sem] theorem Z8p (b : Nm) (l : List AV) : (ownV b l).shut = .lst l := by cases l <;> rfl
@[go_sem] theorem Zfg (b : Nm) (l : List AV) (s : St) : lenA (ownV b l) s = .ret (.int .i64 l.length, s) := by cases l <;> rfl
@[go_sem] theorem Zfh (e : TypeId) (b : Nm) (l : List AV) : hasLen (.slice e) (ownV b l) = true := by cases l <;> rfl
@[go_sem] theorem Zb8 (row : List AV -> Option (List AV)) (H : Heap) (b : Nm) (l : List AV) : freezeG row H (ownV b l) = some (.lst l) := by cases l <;> rfl
@[go_sem] theorem Zfi (b : Nm) (l : List AV) : (ownV b l).okc = true := by cases l <;> rfl
@[go_sem] theorem Zbv (b : Nm) (l : List AV) : (ownV b l).cells = [ownV b l] := by cases l <;> rfl
@[go_sem] theorem Z4c (b : Nm) (l : List AV) : openRow (ownV b l) = true := by cases l <;> rfl
theorem Z4d {i : TI} {b : Nm} {l : List AV} {e : AV} {H : Heap} {n : Nat} {p : Nm} {jr : Bool} (h1 : 1 <= i.size) (hb : 1 <= i.bytes) (hroom : (l.length + 1) * i.bytes <= 140737488355328) (hd : hdel H b = H) :
  ∃ j' : Delta -> Delta, ∀ j, appendF i (ownV b l) 1 [e] ⟨ownH b i.size l H, n, p, jr, j⟩ = .ret (ownV (p ++ [n]) (l ++ [e]), ⟨ownH (p ++ [n]) i.size (l ++ [e]) H, n + 1, p, jr, j' j⟩) /\ (jr = false -> j' j = j) := by
 have hr : roomy l.length 1 i.bytes = true := by
  unfold roomy
  rw [Nat.ble_eq_true_of_le hroom, Nat.ble_eq_true_of_le hb]
 cases l with
 | nil =>
  refine ⟨fun j => match jr with | true => (p ++ [n], some (.tok 1 i.size)) :: j | false => j, fun j => ⟨?_, fun h => by subst h; rfl⟩⟩
  have hr : roomy 0 1 i.bytes = true := hr
  unfold appendF
  simp only [Nat.ble_eq_true_of_le h1, ownV, hr]
  cases jr <;> rfl
 | cons a r =>
  refine ⟨fun j => match jr with | true => (p ++ [n], some (.tok ((a :: r).length + 1) i.size)) :: (b, none) :: j | false => j, fun j => ⟨?_, fun h => by subst h; rfl⟩⟩
  have hg : hget (ownH b i.size (a :: r) H) b = some (.tok (a :: r).length i.size) := Z6 ..
  have hdd : hdel (ownH b i.size (a :: r) H) b = H := by
   show (match eqb b b with | true => hdel H b | false => _) = H
   rw [Ze]; exact hd
  unfold appendF
  simp only [Nat.ble_eq_true_of_le h1, ownV, Z7, Zx, hg, Tr.bind_ret, Nat.beq_refl, hr, Z3j]
  unfold growF
  simp only [Z7, Xm, Tr.bind_ret, Y4, St.del, St.new, St.name, hdd]
  have e1 : ((a :: r) ++ [e]).length = (a :: r).length + 1 := by simp
  rw [e1]
  cases jr <;> simp only [ownH, St.note, List.cons_append, List.length_cons, List.length_append, List.length_nil]
@[go_sem] theorem Z1v (i b : Nm) (x : Blk) (H : Heap) : hget ((i, x) :: H) b = if i = b then some x else hget H b := by
 by_cases h : i = b
 ·subst h; rw [Z6, if_pos rfl]
 ·rw [Z1 _ _ h, if_neg h]
@[go_sem] theorem Zce (i b : Nm) (x y : Blk) (H : Heap) : hset ((i, x) :: H) b y = if i = b then (i, y) :: H else (i, x) :: hset H b y := by
 show (match eqb i b with | true => (i, y) :: H | false => (i, x) :: hset H b y) = _
 by_cases h : i = b
 ·subst h; rw [Ze, if_pos rfl]
 ·rw [Yy h, if_neg h]
@[go_sem] theorem Zcf (i b : Nm) (x : Blk) (H : Heap) : hdel ((i, x) :: H) b = if i = b then hdel H b else (i, x) :: hdel H b := by
 show (match eqb i b with | true => hdel H b | false => (i, x) :: hdel H b) = _
 by_cases h : i = b
 ·subst h; rw [Ze, if_pos rfl]
 ·rw [Yy h, if_neg h]
@[go_sem] theorem Zfj (b : Nm) (y : Blk) : hset [] b y = [] := rfl
@[go_sem] theorem Zfk (b : Nm) : hdel [] b = [] := rfl
attribute [go_sem] Z5q List.cons.injEq reduceIte reduceCtorEq and_true and_false false_and
@[go_sem] theorem Zbw (H : Heap) (n : Nat) (p : Nm) (j : Delta) (i : Nm) (x : Option Blk) : St.note ⟨H, n, p, false, j⟩ i x = j := rfl
@[go_sem] theorem Zbx (H : Heap) (n : Nat) (p : Nm) (j : Delta) (i : Nm) (x : Option Blk) : St.note ⟨H, n, p, true, j⟩ i x = (i, x) :: j := rfl
attribute [go_sem] binM iceRow
section
variable (H : Heap) (n : Nat) (p : Nm) (jr : Bool) (j : Delta)
@[go_sem] theorem Zfx : St.name ⟨H, n, p, jr, j⟩ = p ++ [n] := rfl
@[go_sem] theorem Zjs (x : Blk) : St.new ⟨H, n, p, jr, j⟩ x = ⟨(p ++ [n], x) :: H, n + 1, p, jr, St.note ⟨H, n, p, jr, j⟩ (p ++ [n]) (some x)⟩ := rfl
@[go_sem] theorem Zjt (b : Nm) (x : Blk) : St.put ⟨H, n, p, jr, j⟩ b x = ⟨hset H b x, n, p, jr, St.note ⟨H, n, p, jr, j⟩ b (some x)⟩ := rfl
@[go_sem] theorem Zju (b : Nm) : St.del ⟨H, n, p, jr, j⟩ b = ⟨hdel H b, n, p, jr, St.note ⟨H, n, p, jr, j⟩ b none⟩ := rfl
@[go_sem] theorem Zfy (i : Nat) (H' : Heap) : opSt ⟨H, n, p, jr, j⟩ i H' = ⟨H', 0, p ++ [n, i], true, []⟩ := rfl
@[go_sem] theorem Zby (D : Delta) : drawEnd ⟨H, n, p, false, j⟩ D = ⟨redoH H D, n + 1, p, false, j⟩ := rfl
@[go_sem] theorem Zb9 (D : Delta) : drawEnd ⟨H, n, p, true, j⟩ D = ⟨redoH H D, n + 1, p, true, D ++ j⟩ := rfl
end
@[go_sem] theorem Zla : s0 = ⟨[], 0, [], false, []⟩ := rfl
attribute [go_sem] builtinA lenA hasLen indexAddrA loadA partA storeA fieldAddrA fieldA convA readN writeN AV.cells AV.okc callA allocA buildA makeSliceA madeOf fillA fieldsPlace Yg Zv Jk Jl eqSame bounds2 boundA inB eqTop binRest repeatN rowsA rowA srcF srcA elemsA isSeq openRow
attribute [go_sem] ne_eq not_false_eq_true decide_true decide_false Nat.add_zero Nat.zero_add Nat.beq_refl List.length_cons List.length_nil List.nil_append List.cons_append List.take_succ_cons List.take_zero List.drop_succ_cons List.drop_zero List.map_nil List.append_nil
end Go.Am
namespace Go.Proofs.Ytgnpnfkncbnjnaa
open Go.Am
noncomputable def ty1 : TI := ⟨.func #[] #[] false, 1, 8, false, some .nilf, false⟩
noncomputable def ty2 : TI := ⟨.int .i64, 1, 8, false, some (.int .i64 0), false⟩
noncomputable def ty3 : TI := ⟨.int .i64, 1, 8, false, some (.int .i64 0), false⟩
noncomputable def ty4 : TI := ⟨.bool, 1, 1, false, some (.bool false), false⟩
noncomputable def ty5 : TI := ⟨.int .u8, 1, 1, false, some (.int .u8 0), false⟩
noncomputable def ty9 : TI := ⟨.string, 1, 16, false, some (.str ⟨#[]⟩), false⟩
noncomputable def ty22 : TI := ⟨.slice 3, 1, 24, false, some .nils, false⟩
noncomputable def ty23 : TI := ⟨.pointer 132, 1, 8, false, some .nilp, false⟩
noncomputable def ty26 : TI := ⟨.struct #[⟨ "Lo", 3, 0, false, "", "", 0⟩, ⟨ "Hi", 3, 1, false, "", "", 8⟩], 2, 16, true, some (.agg [(.int .i64 0), (.int .i64 0)]), true⟩
noncomputable def ty33 : TI := ⟨.slice 71, 1, 24, false, some .nils, false⟩
noncomputable def ty34 : TI := ⟨.slice 140, 1, 24, false, some .nils, false⟩
noncomputable def ty35 : TI := ⟨.slice 128, 1, 24, false, some .nils, false⟩
noncomputable def ty36 : TI := ⟨.slice 61, 1, 24, false, some .nils, false⟩
noncomputable def ty37 : TI := ⟨.slice 142, 1, 24, false, some .nils, false⟩
noncomputable def ty39 : TI := ⟨.struct #[⟨ "Vessels", 33, 0, false, "", "", 0⟩, ⟨ "Pipes", 34, 1, false, "", "", 24⟩, ⟨ "Pumps", 35, 2, false, "", "", 48⟩, ⟨ "Leaks", 36, 3, false, "", "", 72⟩, ⟨ "Getters", 37, 4, false, "", "", 96⟩], 5, 120, true, some (.agg [.nils, .nils, .nils, .nils, .nils]), false⟩
noncomputable def ty42 : TI := ⟨.struct #[⟨ "Ticks", 3, 0, false, "", "", 0⟩, ⟨ "Heat", 3, 1, false, "", "", 8⟩, ⟨ "Shut", 22, 2, false, "", "", 16⟩, ⟨ "Flash", 4, 3, false, "", "", 40⟩], 4, 48, true, some (.agg [(.int .i64 0), (.int .i64 0), .nils, (.bool false)]), false⟩
noncomputable def ty47 : TI := ⟨.int .i64, 1, 8, false, some (.int .i64 0), false⟩
noncomputable def ty50 : TI := ⟨.slice 26, 1, 24, false, some .nils, false⟩
noncomputable def ty56 : TI := ⟨.struct #[⟨ "Free", 50, 0, false, "", "", 0⟩, ⟨ "Bound", 50, 1, false, "", "", 24⟩, ⟨ "Room", 50, 2, false, "", "", 48⟩, ⟨ "Most", 3, 3, false, "", "", 72⟩, ⟨ "Flashed", 4, 4, false, "", "", 80⟩], 5, 88, true, some (.agg [.nils, .nils, .nils, (.int .i64 0), (.bool false)]), false⟩
noncomputable def ty61 : TI := ⟨.struct #[⟨ "At", 3, 0, false, "", "", 0⟩, ⟨ "Gas", 26, 1, false, "", "", 8⟩], 3, 24, true, some (.agg [(.int .i64 0), (.int .i64 0), (.int .i64 0)]), true⟩
noncomputable def ty69 : TI := ⟨.slice 138, 1, 24, false, some .nils, false⟩
noncomputable def ty71 : TI := ⟨.struct #[⟨ "Volume", 3, 0, false, "", "", 0⟩, ⟨ "Free", 26, 1, false, "", "", 8⟩, ⟨ "Bound", 26, 3, false, "", "", 24⟩, ⟨ "Bands", 69, 5, false, "", "", 40⟩], 6, 64, true, some (.agg [(.int .i64 0), (.int .i64 0), (.int .i64 0), (.int .i64 0), (.int .i64 0), .nils]), false⟩
noncomputable def ty73 : TI := ⟨.slice 42, 1, 24, false, some .nils, false⟩
noncomputable def ty75 : TI := ⟨.slice 84, 1, 24, false, some .nils, false⟩
noncomputable def ty77 : TI := ⟨.struct #[⟨ "Suspects", 3, 0, false, "", "", 0⟩, ⟨ "Trials", 75, 1, false, "", "", 8⟩], 2, 32, true, some (.agg [(.int .i64 0), .nils]), false⟩
noncomputable def ty84 : TI := ⟨.struct #[⟨ "Of", 22, 0, false, "", "", 0⟩, ⟨ "Cost", 3, 1, false, "", "", 24⟩], 2, 32, true, some (.agg [.nils, (.int .i64 0)]), false⟩
noncomputable def ty86 : TI := ⟨.pointer 84, 1, 8, false, some .nilp, false⟩
noncomputable def ty98 : TI := ⟨.slice 105, 1, 24, false, some .nils, false⟩
noncomputable def ty105 : TI := ⟨.struct #[⟨ "Trial", 3, 0, false, "", "", 0⟩, ⟨ "In", 4, 1, false, "", "", 8⟩], 2, 16, true, some (.agg [(.int .i64 0), (.bool false)]), true⟩
noncomputable def ty128 : TI := ⟨.struct #[⟨ "At", 3, 0, false, "", "", 0⟩, ⟨ "Part", 26, 1, false, "", "", 8⟩], 3, 24, true, some (.agg [(.int .i64 0), (.int .i64 0), (.int .i64 0)]), true⟩
noncomputable def ty130 : TI := ⟨.int .u64, 1, 8, false, some (.int .u64 0), false⟩
noncomputable def ty132 : TI := ⟨.struct #[⟨ "word", 130, 0, false, "", "thermion/thermionkit", 0⟩], 1, 8, true, some (.agg [(.int .u64 0)]), true⟩
noncomputable def ty138 : TI := ⟨.struct #[⟨ "From", 3, 0, false, "", "", 0⟩, ⟨ "Rate", 26, 1, false, "", "", 8⟩], 3, 24, true, some (.agg [(.int .i64 0), (.int .i64 0), (.int .i64 0)]), true⟩
noncomputable def ty140 : TI := ⟨.struct #[⟨ "A", 3, 0, false, "", "", 0⟩, ⟨ "B", 3, 1, false, "", "", 8⟩, ⟨ "Out", 26, 2, false, "", "", 16⟩, ⟨ "Back", 26, 4, false, "", "", 32⟩], 6, 48, true, some (.agg [(.int .i64 0), (.int .i64 0), (.int .i64 0), (.int .i64 0), (.int .i64 0), (.int .i64 0)]), true⟩
noncomputable def ty142 : TI := ⟨.struct #[⟨ "At", 3, 0, false, "", "", 0⟩, ⟨ "Part", 26, 1, false, "", "", 8⟩, ⟨ "Room", 26, 3, false, "", "", 24⟩], 5, 40, true, some (.agg [(.int .i64 0), (.int .i64 0), (.int .i64 0), (.int .i64 0), (.int .i64 0)]), true⟩
noncomputable def ty148 : TI := ⟨.pointer 151, 1, 8, false, some .nilp, false⟩
noncomputable def ty151 : TI := ⟨.struct #[⟨ "v", 39, 0, false, "", "thermion/pump", 0⟩, ⟨ "g", 56, 5, false, "", "thermion/pump", 120⟩], 10, 208, true, some (.agg [.nils, .nils, .nils, .nils, .nils, .nils, .nils, .nils, (.int .i64 0), (.bool false)]), false⟩
noncomputable def ty154 : TI := ⟨.func #[212] #[] false, 1, 8, false, some .nilf, false⟩
noncomputable def ty155 : TI := ⟨.func #[212] #[] false, 1, 8, false, some .nilf, false⟩
noncomputable def ty158 : TI := ⟨.int .u64, 1, 8, false, some (.int .u64 0), false⟩
noncomputable def ty162 : TI := ⟨.struct #[⟨ "cost", 3, 0, false, "", "thermion/pump", 0⟩, ⟨ "trial", 3, 1, false, "", "thermion/pump", 8⟩], 2, 16, true, some (.agg [(.int .i64 0), (.int .i64 0)]), true⟩
noncomputable def ty163 : TI := ⟨.pointer 193, 1, 8, false, some .nilp, false⟩
noncomputable def ty168 : TI := ⟨.func #[3, 26, 3] #[47] false, 1, 8, false, some .nilf, false⟩
noncomputable def ty169 : TI := ⟨.func #[140] #[47] false, 1, 8, false, some .nilf, false⟩
noncomputable def ty170 : TI := ⟨.func #[128] #[47] false, 1, 8, false, some .nilf, false⟩
noncomputable def ty171 : TI := ⟨.func #[61] #[47] false, 1, 8, false, some .nilf, false⟩
noncomputable def ty172 : TI := ⟨.func #[142] #[47] false, 1, 8, false, some .nilf, false⟩
noncomputable def ty174 : TI := ⟨.func #[] #[47] false, 1, 8, false, some .nilf, false⟩
noncomputable def ty176 : TI := ⟨.func #[71] #[47] false, 1, 8, false, some .nilf, false⟩
noncomputable def ty181 : TI := ⟨.map 3 26, 1, 8, false, some .nilm, false⟩
noncomputable def ty190 : TI := ⟨.slice 158, 1, 24, false, some .nils, false⟩
noncomputable def ty191 : TI := ⟨.map 158 162, 1, 8, false, some .nilm, false⟩
noncomputable def ty193 : TI := ⟨.struct #[⟨ "h", 77, 0, false, "", "thermion/pump", 0⟩, ⟨ "of", 190, 2, false, "", "thermion/pump", 32⟩, ⟨ "known", 191, 3, false, "", "thermion/pump", 56⟩], 4, 64, true, some (.agg [(.int .i64 0), .nils, .nils, .nilm]), false⟩
noncomputable def ty210 : TI := ⟨.func #[148, 42] #[] false, 1, 8, false, some .nilf, false⟩
noncomputable def ty211 : TI := ⟨.array 5 210, 5, 40, true, some (.agg [.nilf, .nilf, .nilf, .nilf, .nilf]), false⟩
noncomputable def ty212 : TI := ⟨.func #[148] #[4] false, 1, 8, false, some .nilf, false⟩
noncomputable def ty214 : TI := ⟨.slice 174, 1, 24, false, some .nils, false⟩
noncomputable def ty215 : TI := ⟨.array 2 26, 4, 32, true, some (.agg [(.int .i64 0), (.int .i64 0), (.int .i64 0), (.int .i64 0)]), true⟩
noncomputable def ty220 : TI := ⟨.int .u32, 1, 4, false, some (.int .u32 0), false⟩
noncomputable def ty230 : TI := ⟨.func #[3, 3, 26] #[] false, 1, 8, false, some .nilf, false⟩
noncomputable def ty231 : TI := ⟨.array 2 50, 2, 48, true, some (.agg [.nils, .nils]), false⟩
noncomputable def tyT : NT TI := (.node 130 ty130 (.node 42 ty42 (.node 23 ty23 (.node 4 ty4 (.node 2 ty2 (.node 1 ty1 .leaf .leaf) (.node 3 ty3 .leaf .leaf)) (.node 9 ty9 (.node 5 ty5 .leaf .leaf) (.node 22 ty22 .leaf .leaf))) (.node 35 ty35 (.node 33 ty33 (.node 26 ty26 .leaf .leaf) (.node 34 ty34 .leaf .leaf)) (.node 37 ty37 (.node 36 ty36 .leaf .leaf) (.node 39 ty39 .leaf .leaf)))) (.node 75 ty75 (.node 61 ty61 (.node 50 ty50 (.node 47 ty47 .leaf .leaf) (.node 56 ty56 .leaf .leaf)) (.node 71 ty71 (.node 69 ty69 .leaf .leaf) (.node 73 ty73 .leaf .leaf))) (.node 98 ty98 (.node 84 ty84 (.node 77 ty77 .leaf .leaf) (.node 86 ty86 .leaf .leaf)) (.node 128 ty128 (.node 105 ty105 .leaf .leaf) .leaf)))) (.node 172 ty172 (.node 155 ty155 (.node 142 ty142 (.node 138 ty138 (.node 132 ty132 .leaf .leaf) (.node 140 ty140 .leaf .leaf)) (.node 151 ty151 (.node 148 ty148 .leaf .leaf) (.node 154 ty154 .leaf .leaf))) (.node 168 ty168 (.node 162 ty162 (.node 158 ty158 .leaf .leaf) (.node 163 ty163 .leaf .leaf)) (.node 170 ty170 (.node 169 ty169 .leaf .leaf) (.node 171 ty171 .leaf .leaf)))) (.node 211 ty211 (.node 190 ty190 (.node 176 ty176 (.node 174 ty174 .leaf .leaf) (.node 181 ty181 .leaf .leaf)) (.node 193 ty193 (.node 191 ty191 .leaf .leaf) (.node 210 ty210 .leaf .leaf))) (.node 220 ty220 (.node 214 ty214 (.node 212 ty212 .leaf .leaf) (.node 215 ty215 .leaf .leaf)) (.node 231 ty231 (.node 230 ty230 .leaf .leaf) .leaf)))))
noncomputable def fnT : NT Func := (.node 108 Try.f108 (.node 84 Try.f84 (.node 39 Try.f39 (.node 35 Try.f35 (.node 20 Try.f20 (.node 7 Try.f7 .leaf .leaf) (.node 25 Try.f25 .leaf .leaf)) (.node 37 Try.f37 (.node 36 Try.f36 .leaf .leaf) (.node 38 Try.f38 .leaf .leaf))) (.node 44 Try.f44 (.node 41 Try.f41 (.node 40 Try.f40 .leaf .leaf) (.node 42 Try.f42 .leaf .leaf)) (.node 58 Try.f58 (.node 49 Try.f49 .leaf .leaf) (.node 83 Try.f83 .leaf .leaf)))) (.node 101 Try.f101 (.node 97 Try.f97 (.node 94 Try.f94 (.node 85 Try.f85 .leaf .leaf) (.node 95 Try.f95 .leaf .leaf)) (.node 99 Try.f99 (.node 98 Try.f98 .leaf .leaf) (.node 100 Try.f100 .leaf .leaf))) (.node 105 Try.f105 (.node 103 Try.f103 (.node 102 Try.f102 .leaf .leaf) (.node 104 Try.f104 .leaf .leaf)) (.node 107 Try.f107 (.node 106 Try.f106 .leaf .leaf) .leaf)))) (.node 151 Try.f151 (.node 116 Try.f116 (.node 112 Try.f112 (.node 110 Try.f110 (.node 109 Try.f109 .leaf .leaf) (.node 111 Try.f111 .leaf .leaf)) (.node 114 Try.f114 (.node 113 Try.f113 .leaf .leaf) (.node 115 Try.f115 .leaf .leaf))) (.node 147 Try.f147 (.node 118 Try.f118 (.node 117 Try.f117 .leaf .leaf) (.node 126 Try.f126 .leaf .leaf)) (.node 149 Try.f149 (.node 148 Try.f148 .leaf .leaf) (.node 150 Try.f150 .leaf .leaf)))) (.node 159 Try.f159 (.node 155 Try.f155 (.node 153 Try.f153 (.node 152 Try.f152 .leaf .leaf) (.node 154 Try.f154 .leaf .leaf)) (.node 157 Try.f157 (.node 156 Try.f156 .leaf .leaf) (.node 158 Try.f158 .leaf .leaf))) (.node 179 Try.f179 (.node 165 Try.f165 (.node 164 Try.f164 .leaf .leaf) (.node 178 Try.f178 .leaf .leaf)) (.node 181 Try.f181 (.node 180 Try.f180 .leaf .leaf) .leaf)))))
noncomputable def mdT : NT Nat := (.node 105 1 (.node 58 1 (.node 39 1 (.node 36 1 (.node 25 4 (.node 20 3 .leaf .leaf) (.node 35 3 .leaf .leaf)) (.node 38 1 (.node 37 1 .leaf .leaf) .leaf)) (.node 42 1 (.node 41 1 (.node 40 4 .leaf .leaf) .leaf) (.node 49 1 (.node 44 4 .leaf .leaf) .leaf))) (.node 98 1 (.node 94 3 (.node 84 4 (.node 83 1 .leaf .leaf) (.node 85 4 .leaf .leaf)) (.node 97 3 (.node 95 1 .leaf .leaf) .leaf)) (.node 102 3 (.node 101 1 (.node 100 1 .leaf .leaf) .leaf) (.node 104 3 (.node 103 3 .leaf .leaf) .leaf)))) (.node 151 3 (.node 118 3 (.node 109 3 (.node 107 3 (.node 106 1 .leaf .leaf) (.node 108 3 .leaf .leaf)) (.node 113 1 (.node 110 3 .leaf .leaf) .leaf)) (.node 148 3 (.node 147 3 (.node 126 1 .leaf .leaf) .leaf) (.node 150 3 (.node 149 3 .leaf .leaf) .leaf))) (.node 159 1 (.node 156 3 (.node 154 3 (.node 153 3 .leaf .leaf) (.node 155 3 .leaf .leaf)) (.node 158 1 (.node 157 3 .leaf .leaf) .leaf)) (.node 178 1 (.node 165 1 (.node 164 1 .leaf .leaf) .leaf) (.node 181 1 (.node 179 1 .leaf .leaf) .leaf)))))
noncomputable def fzT : NT (List Nat) := (.node 108 [] (.node 84 [] (.node 39 [] (.node 35 [3] (.node 20 [] (.node 7 [46, 101] .leaf .leaf) (.node 25 [] .leaf .leaf)) (.node 37 [] (.node 36 [] .leaf .leaf) (.node 38 [] .leaf .leaf))) (.node 44 [] (.node 41 [] (.node 40 [] .leaf .leaf) (.node 42 [] .leaf .leaf)) (.node 58 [] (.node 49 [] .leaf .leaf) (.node 83 [] .leaf .leaf)))) (.node 101 [] (.node 97 [] (.node 94 [20, 26, 53] (.node 85 [] .leaf .leaf) (.node 95 [] .leaf .leaf)) (.node 99 [] (.node 98 [] .leaf .leaf) (.node 100 [] .leaf .leaf))) (.node 105 [] (.node 103 [] (.node 102 [] .leaf .leaf) (.node 104 [] .leaf .leaf)) (.node 107 [] (.node 106 [] .leaf .leaf) .leaf)))) (.node 151 [] (.node 116 [] (.node 112 [] (.node 110 [] (.node 109 [] .leaf .leaf) (.node 111 [] .leaf .leaf)) (.node 114 [] (.node 113 [] .leaf .leaf) (.node 115 [] .leaf .leaf))) (.node 147 [] (.node 118 [] (.node 117 [] .leaf .leaf) (.node 126 [] .leaf .leaf)) (.node 149 [] (.node 148 [] .leaf .leaf) (.node 150 [] .leaf .leaf)))) (.node 159 [] (.node 155 [] (.node 153 [] (.node 152 [] .leaf .leaf) (.node 154 [] .leaf .leaf)) (.node 157 [] (.node 156 [] .leaf .leaf) (.node 158 [] .leaf .leaf))) (.node 179 [] (.node 165 [] (.node 164 [] .leaf .leaf) (.node 178 [] .leaf .leaf)) (.node 181 [] (.node 180 [] .leaf .leaf) .leaf)))))
noncomputable def cfg : Cfg := ⟨fnT, tyT, mdT, fzT, some []⟩
end Go.Proofs.Ytgnpnfkncbnjnaa
namespace Go.Proofs.Ytgnpnfkncbnjnaa
open Go Go.Am
@[go_sem] theorem Zlb : cfg.ty.get 1 = some ty1 := by kernel_rfl
@[go_sem] theorem Zlc : cfg.ty.get 2 = some ty2 := by kernel_rfl
@[go_sem] theorem Za5 : cfg.ty.get 3 = some ty3 := by kernel_rfl
@[go_sem] theorem Zld : cfg.ty.get 4 = some ty4 := by kernel_rfl
@[go_sem] theorem Zle : cfg.ty.get 5 = some ty5 := by kernel_rfl
@[go_sem] theorem Zlf : cfg.ty.get 9 = some ty9 := by kernel_rfl
@[go_sem] theorem Zjv : cfg.ty.get 22 = some ty22 := by kernel_rfl
@[go_sem] theorem Zjw : cfg.ty.get 23 = some ty23 := by kernel_rfl
@[go_sem] theorem Zjx : cfg.ty.get 26 = some ty26 := by kernel_rfl
@[go_sem] theorem Zjy : cfg.ty.get 33 = some ty33 := by kernel_rfl
@[go_sem] theorem Zjz : cfg.ty.get 34 = some ty34 := by kernel_rfl
@[go_sem] theorem Zk0 : cfg.ty.get 35 = some ty35 := by kernel_rfl
@[go_sem] theorem Zk1 : cfg.ty.get 36 = some ty36 := by kernel_rfl
@[go_sem] theorem Zk2 : cfg.ty.get 37 = some ty37 := by kernel_rfl
@[go_sem] theorem Zk3 : cfg.ty.get 39 = some ty39 := by kernel_rfl
@[go_sem] theorem Zk4 : cfg.ty.get 42 = some ty42 := by kernel_rfl
@[go_sem] theorem Zk5 : cfg.ty.get 47 = some ty47 := by kernel_rfl
@[go_sem] theorem Zk6 : cfg.ty.get 50 = some ty50 := by kernel_rfl
@[go_sem] theorem Zk7 : cfg.ty.get 56 = some ty56 := by kernel_rfl
@[go_sem] theorem Zk8 : cfg.ty.get 61 = some ty61 := by kernel_rfl
@[go_sem] theorem Zk9 : cfg.ty.get 69 = some ty69 := by kernel_rfl
@[go_sem] theorem Zka : cfg.ty.get 71 = some ty71 := by kernel_rfl
@[go_sem] theorem Zkb : cfg.ty.get 73 = some ty73 := by kernel_rfl
@[go_sem] theorem Zkc : cfg.ty.get 75 = some ty75 := by kernel_rfl
@[go_sem] theorem Zkd : cfg.ty.get 77 = some ty77 := by kernel_rfl
@[go_sem] theorem Z6b : cfg.ty.get 84 = some ty84 := by kernel_rfl
@[go_sem] theorem Zke : cfg.ty.get 86 = some ty86 := by kernel_rfl
@[go_sem] theorem Zkf : cfg.ty.get 98 = some ty98 := by kernel_rfl
@[go_sem] theorem Zfz : cfg.ty.get 105 = some ty105 := by kernel_rfl
@[go_sem] theorem Zg0 : cfg.ty.get 128 = some ty128 := by kernel_rfl
@[go_sem] theorem Zg1 : cfg.ty.get 130 = some ty130 := by kernel_rfl
@[go_sem] theorem Zg2 : cfg.ty.get 132 = some ty132 := by kernel_rfl
@[go_sem] theorem Zg3 : cfg.ty.get 138 = some ty138 := by kernel_rfl
@[go_sem] theorem Zg4 : cfg.ty.get 140 = some ty140 := by kernel_rfl
@[go_sem] theorem Zg5 : cfg.ty.get 142 = some ty142 := by kernel_rfl
@[go_sem] theorem Zg6 : cfg.ty.get 148 = some ty148 := by kernel_rfl
@[go_sem] theorem Zg7 : cfg.ty.get 151 = some ty151 := by kernel_rfl
@[go_sem] theorem Zg8 : cfg.ty.get 154 = some ty154 := by kernel_rfl
@[go_sem] theorem Zg9 : cfg.ty.get 155 = some ty155 := by kernel_rfl
@[go_sem] theorem Zba : cfg.ty.get 158 = some ty158 := by kernel_rfl
@[go_sem] theorem Z8q : cfg.ty.get 162 = some ty162 := by kernel_rfl
@[go_sem] theorem Zga : cfg.ty.get 163 = some ty163 := by kernel_rfl
@[go_sem] theorem Zgb : cfg.ty.get 168 = some ty168 := by kernel_rfl
@[go_sem] theorem Zgc : cfg.ty.get 169 = some ty169 := by kernel_rfl
@[go_sem] theorem Zgd : cfg.ty.get 170 = some ty170 := by kernel_rfl
@[go_sem] theorem Zge : cfg.ty.get 171 = some ty171 := by kernel_rfl
@[go_sem] theorem Zgf : cfg.ty.get 172 = some ty172 := by kernel_rfl
@[go_sem] theorem Zgg : cfg.ty.get 174 = some ty174 := by kernel_rfl
@[go_sem] theorem Zgh : cfg.ty.get 176 = some ty176 := by kernel_rfl
@[go_sem] theorem Zgi : cfg.ty.get 181 = some ty181 := by kernel_rfl
@[go_sem] theorem Zgj : cfg.ty.get 190 = some ty190 := by kernel_rfl
@[go_sem] theorem Zgk : cfg.ty.get 191 = some ty191 := by kernel_rfl
@[go_sem] theorem Zgl : cfg.ty.get 193 = some ty193 := by kernel_rfl
@[go_sem] theorem Zgm : cfg.ty.get 210 = some ty210 := by kernel_rfl
@[go_sem] theorem Zgn : cfg.ty.get 211 = some ty211 := by kernel_rfl
@[go_sem] theorem Zgo : cfg.ty.get 212 = some ty212 := by kernel_rfl
@[go_sem] theorem Zgp : cfg.ty.get 214 = some ty214 := by kernel_rfl
@[go_sem] theorem Zgq : cfg.ty.get 215 = some ty215 := by kernel_rfl
@[go_sem] theorem Zgr : cfg.ty.get 220 = some ty220 := by kernel_rfl
@[go_sem] theorem Zgs : cfg.ty.get 230 = some ty230 := by kernel_rfl
@[go_sem] theorem Zgt : cfg.ty.get 231 = some ty231 := by kernel_rfl
attribute [go_sem] Cfg.desc ty1 ty2 ty3 ty4 ty5 ty9 ty22 ty23 ty26 ty33 ty34 ty35 ty36 ty37 ty39 ty42 ty47 ty50 ty56 ty61 ty69 ty71 ty73 ty75 ty77 ty84 ty86 ty98 ty105 ty128 ty130 ty132 ty138 ty140 ty142 ty148 ty151 ty154 ty155 ty158 ty162 ty163 ty168 ty169 ty170 ty171 ty172 ty174 ty176 ty181 ty190 ty191 ty193 ty210 ty211 ty212 ty214 ty215 ty220 ty230 ty231
theorem Zgu : cfg.fn.get 7 = some Try.f7 := by kernel_rfl
theorem Zgv : cfg.mode.get 7 = none := by kernel_rfl
theorem Zcg : cfg.fn.get 20 = some Try.f20 := by kernel_rfl
theorem Zch : cfg.mode.get 20 = some 3 := by kernel_rfl
theorem Zci : cfg.fn.get 25 = some Try.f25 := by kernel_rfl
theorem Zcj : cfg.mode.get 25 = some 4 := by kernel_rfl
theorem Zck : cfg.fn.get 40 = some Try.f40 := by kernel_rfl
theorem Zcl : cfg.mode.get 40 = some 4 := by kernel_rfl
theorem Zan : cfg.fn.get 41 = some Try.f41 := by kernel_rfl
theorem Zao : cfg.mode.get 41 = some 1 := by kernel_rfl
theorem Zcm : cfg.fn.get 42 = some Try.f42 := by kernel_rfl
theorem Zcn : cfg.mode.get 42 = some 1 := by kernel_rfl
theorem Zco : cfg.fn.get 44 = some Try.f44 := by kernel_rfl
theorem Zcp : cfg.mode.get 44 = some 4 := by kernel_rfl
theorem Zcq : cfg.fn.get 58 = some Try.f58 := by kernel_rfl
theorem Zcr : cfg.mode.get 58 = some 1 := by kernel_rfl
theorem Zcs : cfg.fn.get 84 = some Try.f84 := by kernel_rfl
theorem Zct : cfg.mode.get 84 = some 4 := by kernel_rfl
theorem Zcu : cfg.fn.get 85 = some Try.f85 := by kernel_rfl
theorem Zcv : cfg.mode.get 85 = some 4 := by kernel_rfl
theorem Zbb : cfg.fn.get 101 = some Try.f101 := by kernel_rfl
theorem Zbc : cfg.mode.get 101 = some 1 := by kernel_rfl
theorem Z8r : cfg.fn.get 102 = some Try.f102 := by kernel_rfl
theorem Z8s : cfg.mode.get 102 = some 3 := by kernel_rfl
theorem Z8t : cfg.fn.get 103 = some Try.f103 := by kernel_rfl
theorem Z8u : cfg.mode.get 103 = some 3 := by kernel_rfl
theorem Zbd : cfg.fn.get 105 = some Try.f105 := by kernel_rfl
theorem Zbe : cfg.mode.get 105 = some 1 := by kernel_rfl
theorem Zbf : cfg.fn.get 126 = some Try.f126 := by kernel_rfl
theorem Zbg : cfg.mode.get 126 = some 1 := by kernel_rfl
theorem Zbh : cfg.fn.get 165 = some Try.f165 := by kernel_rfl
theorem Zbi : cfg.mode.get 165 = some 1 := by kernel_rfl
@[go_sem] theorem Zlg : (cfg.at 7).cur = some [46, 101] := by kernel_rfl
@[go_sem] theorem Zkg : (cfg.at 20).cur = some [] := by kernel_rfl
@[go_sem] theorem Zkh : (cfg.at 25).cur = some [] := by kernel_rfl
@[go_sem] theorem Zki : (cfg.at 35).cur = some [3] := by kernel_rfl
@[go_sem] theorem Zkj : (cfg.at 36).cur = some [] := by kernel_rfl
@[go_sem] theorem Zkk : (cfg.at 37).cur = some [] := by kernel_rfl
@[go_sem] theorem Zkl : (cfg.at 38).cur = some [] := by kernel_rfl
@[go_sem] theorem Zkm : (cfg.at 39).cur = some [] := by kernel_rfl
@[go_sem] theorem Zkn : (cfg.at 40).cur = some [] := by kernel_rfl
@[go_sem] theorem Zko : (cfg.at 41).cur = some [] := by kernel_rfl
@[go_sem] theorem Zkp : (cfg.at 42).cur = some [] := by kernel_rfl
@[go_sem] theorem Zkq : (cfg.at 44).cur = some [] := by kernel_rfl
@[go_sem] theorem Zkr : (cfg.at 49).cur = some [] := by kernel_rfl
@[go_sem] theorem Zks : (cfg.at 58).cur = some [] := by kernel_rfl
@[go_sem] theorem Zkt : (cfg.at 83).cur = some [] := by kernel_rfl
@[go_sem] theorem Zku : (cfg.at 84).cur = some [] := by kernel_rfl
@[go_sem] theorem Zkv : (cfg.at 85).cur = some [] := by kernel_rfl
@[go_sem] theorem Zkw : (cfg.at 94).cur = some [20, 26, 53] := by kernel_rfl
@[go_sem] theorem Zkx : (cfg.at 95).cur = some [] := by kernel_rfl
@[go_sem] theorem Zky : (cfg.at 97).cur = some [] := by kernel_rfl
@[go_sem] theorem Zkz : (cfg.at 98).cur = some [] := by kernel_rfl
@[go_sem] theorem Zl0 : (cfg.at 99).cur = some [] := by kernel_rfl
@[go_sem] theorem Zgw : (cfg.at 100).cur = some [] := by kernel_rfl
@[go_sem] theorem Zgx : (cfg.at 101).cur = some [] := by kernel_rfl
@[go_sem] theorem Zgy : (cfg.at 102).cur = some [] := by kernel_rfl
@[go_sem] theorem Zgz : (cfg.at 103).cur = some [] := by kernel_rfl
@[go_sem] theorem Zh0 : (cfg.at 104).cur = some [] := by kernel_rfl
@[go_sem] theorem Zh1 : (cfg.at 105).cur = some [] := by kernel_rfl
@[go_sem] theorem Zh2 : (cfg.at 106).cur = some [] := by kernel_rfl
@[go_sem] theorem Zh3 : (cfg.at 107).cur = some [] := by kernel_rfl
@[go_sem] theorem Zh4 : (cfg.at 108).cur = some [] := by kernel_rfl
@[go_sem] theorem Zh5 : (cfg.at 109).cur = some [] := by kernel_rfl
@[go_sem] theorem Zh6 : (cfg.at 110).cur = some [] := by kernel_rfl
@[go_sem] theorem Zh7 : (cfg.at 111).cur = some [] := by kernel_rfl
@[go_sem] theorem Zh8 : (cfg.at 112).cur = some [] := by kernel_rfl
@[go_sem] theorem Zh9 : (cfg.at 113).cur = some [] := by kernel_rfl
@[go_sem] theorem Zha : (cfg.at 114).cur = some [] := by kernel_rfl
@[go_sem] theorem Zhb : (cfg.at 115).cur = some [] := by kernel_rfl
@[go_sem] theorem Zhc : (cfg.at 116).cur = some [] := by kernel_rfl
@[go_sem] theorem Zhd : (cfg.at 117).cur = some [] := by kernel_rfl
@[go_sem] theorem Zhe : (cfg.at 118).cur = some [] := by kernel_rfl
@[go_sem] theorem Zhf : (cfg.at 126).cur = some [] := by kernel_rfl
@[go_sem] theorem Zhg : (cfg.at 147).cur = some [] := by kernel_rfl
@[go_sem] theorem Zhh : (cfg.at 148).cur = some [] := by kernel_rfl
@[go_sem] theorem Zhi : (cfg.at 149).cur = some [] := by kernel_rfl
@[go_sem] theorem Zhj : (cfg.at 150).cur = some [] := by kernel_rfl
@[go_sem] theorem Zhk : (cfg.at 151).cur = some [] := by kernel_rfl
@[go_sem] theorem Zhl : (cfg.at 152).cur = some [] := by kernel_rfl
@[go_sem] theorem Zhm : (cfg.at 153).cur = some [] := by kernel_rfl
@[go_sem] theorem Zhn : (cfg.at 154).cur = some [] := by kernel_rfl
@[go_sem] theorem Zho : (cfg.at 155).cur = some [] := by kernel_rfl
@[go_sem] theorem Zhp : (cfg.at 156).cur = some [] := by kernel_rfl
@[go_sem] theorem Zhq : (cfg.at 157).cur = some [] := by kernel_rfl
@[go_sem] theorem Zhr : (cfg.at 158).cur = some [] := by kernel_rfl
@[go_sem] theorem Zhs : (cfg.at 159).cur = some [] := by kernel_rfl
@[go_sem] theorem Zht : (cfg.at 164).cur = some [] := by kernel_rfl
@[go_sem] theorem Zhu : (cfg.at 165).cur = some [] := by kernel_rfl
@[go_sem] theorem Zhv : (cfg.at 178).cur = some [] := by kernel_rfl
@[go_sem] theorem Zhw : (cfg.at 179).cur = some [] := by kernel_rfl
@[go_sem] theorem Zhx : (cfg.at 180).cur = some [] := by kernel_rfl
@[go_sem] theorem Zhy : (cfg.at 181).cur = some [] := by kernel_rfl
end Go.Proofs.Ytgnpnfkncbnjnaa
namespace Go.Am
open Go
noncomputable section
def beforeOk (B : List (List Nat)) (i : Nat) : List Nat -> Bool
 | [] => true
 | g :: r => match Nat.blt g i, memN g ((nth B i).getD []) with
  | true, false => false
  | _, _ => beforeOk B i r
def beforeAll (B : List (List Nat)) (G : List Nat) : Nat -> Bool
 | 0 => true
 | i + 1 => match beforeOk B i G with | true => beforeAll B G i | false => false
def drawOk (ops : List Oper) (G WS : List Nat) : Bool :=
 match beforeAll (predsAll [] ops) G ops.length with
 | true => ordEach (predsAll [] ops) ops.length WS
 | false => false
section
variable (C : Cfg) (call : FuncId -> List AV -> M AV) (rnd : Nm -> List AV -> M AV)
def drawW (ops : List Oper) (s : St) (G WS : List Nat) : Nat -> List Oper -> List AV -> Heap -> Delta -> Tr (List AV × Heap × Delta)
 | _, [], T, Hc, D => .ret (T, Hc, D)
 | i, o :: r, T, Hc, D => match wantedA ops T o with
  | true => (opA C call rnd T o (opSt s i Hc)).bind fun x => match memN i G with
   | false => (match x.2.j with
    | [] => drawW ops s G WS (i + 1) r (putT T o.dst x.1) Hc D
    | _ :: _ => .fail)
   | true => (match memN i WS with
    | true => drawW ops s G WS (i + 1) r (putT T o.dst x.1) x.2.H (x.2.j ++ D)
    | false => (match oldIds (s.pre ++ [s.n, i]) x.2.j with
     | [] => drawW ops s G WS (i + 1) r (putT T o.dst x.1) x.2.H (x.2.j ++ D)
     | _ :: _ => .fail))
  | false => drawW ops s G WS (i + 1) r (putT T o.dst .undef) Hc D
end
theorem Xn {B : List (List Nat)} {i : Nat} : ∀ G, beforeOk B i G = true -> ∀ g ∈ G, g < i -> memN g ((nth B i).getD []) = true
 | [], _, g, h, _ => by simp at h
 | a :: r, h, g, hg, hlt => by
  unfold beforeOk at h
  cases h1 : Nat.blt a i with
  | false =>
   rw [h1] at h
   rcases List.mem_cons.1 hg with rfl | hg
   ·have : Nat.blt g i = true := by simp [Nat.blt]; omega
    rw [this] at h1; cases h1
   ·exact Xn r h g hg hlt
  | true =>
   cases h2 : memN a ((nth B i).getD []) with
   | false => rw [h1, h2] at h; cases h
   | true =>
    rw [h1, h2] at h
    rcases List.mem_cons.1 hg with rfl | hg
    ·exact h2
    ·exact Xn r h g hg hlt
theorem Ji {B : List (List Nat)} {G : List Nat} : ∀ n, beforeAll B G n = true -> ∀ i, i < n -> ∀ g ∈ G, g < i -> memN g ((nth B i).getD []) = true
 | 0, _, i, hi => by omega
 | n + 1, h, i, hi => by
  unfold beforeAll at h
  cases h1 : beforeOk B n G with
  | false => rw [h1] at h; cases h
  | true =>
   rw [h1] at h
   by_cases e : i = n
   ·subst e; exact Xn G h1
   ·exact Ji n h i (by omega)
theorem Z8v : ∀ (a b : List Nat), (∀ n ∈ a, memN n b = true) -> subN a b = true
 | [], b, _ => rfl
 | n :: r, b, h => by
  unfold subN
  rw [h n List.mem_cons_self]
  exact Z8v r b fun m hm => h m (List.mem_cons_of_mem _ hm)
section
variable {C : Cfg} {call : FuncId -> List AV -> M AV} {rnd : Nm -> List AV -> M AV}
theorem Yq (hc : ∀ f args, Nice (call f args)) (hr : ∀ l args, Nice (rnd l args)) {ops : List Oper} {s : St} {G WS : List Nat} (hB : beforeAll (predsAll [] ops) G ops.length = true) {Q : List AV × Heap × Delta -> Prop} :
  ∀ (l : List Oper) (i : Nat) (T : List AV) (Hc Hd : Heap) (nz : List Nat) (D : Delta) (W : List Nat), i + l.length = ops.length -> (∀ b, hget Hc b = hget Hd b) -> (∀ k ∈ nz, k ∈ G /\ k < i) -> (∀ k ∈ W, k ∈ WS) -> (∀ b, hget Hd b = hget (redoH s.H D) b) ->
   (drawW C call rnd ops s G WS i l T Hc D).Does Q ->
   ∃ x Hf, drawFP C call rnd ops s (predsAll [] ops) i l T Hd nz D W = some x /\ (∀ k ∈ x.2.2, k ∈ WS) /\ Q (x.1, Hf, x.2.1) /\ ∀ b, hget Hf b = hget (redoH s.H x.2.1) b
 | [], i, T, Hc, Hd, nz, D, W, _, he, _, hW, hD, h => by
  obtain ⟨a, ha, hq⟩ := h
  injection ha with ha; subst ha
  exact ⟨_, Hc, rfl, hW, hq, fun b => (he b).trans (hD b)⟩
 | o :: r, i, T, Hc, Hd, nz, D, W, hi, he, hnz, hW, hD, h => by
  unfold drawW at h
  unfold drawFP
  have hnz' : ∀ k ∈ nz, k ∈ G /\ k < i + 1 := fun k hk => ⟨(hnz k hk).1, by have := (hnz k hk).2; omega⟩
  cases hw : wantedA ops T o with
  | false =>
   rw [hw] at h
   exact Yq hc hr hB r (i + 1) _ Hc Hd nz D W (by simp at hi ⊢; omega) he hnz' hW hD h
  | true =>
   rw [hw] at h; simp only at h ⊢
   have hs : subN nz ((nth (predsAll [] ops) i).getD []) = true := Z8v _ _ fun k hk => Ji _ hB i (by simp at hi; omega) k (hnz k hk).1 (hnz k hk).2
   rw [hs]; simp only
   rw [Za] at h
   obtain ⟨x, hx, h⟩ := h
   have hone : one (opA C call rnd T o (opSt s i Hc)) = some (x.1, x.2.j) := by rw [hx]; rfl
   rw [Z1i hc hr he hone]
   simp only
   have hjr := (Nice.opA (C := C) hc hr T o).jr (opSt s i Hc)
   rw [hx] at hjr
   obtain ⟨d', d1, d2, _⟩ := JrR.j (hjr : JrR _ x.2) rfl
   have hd' : d' = x.2.j := by rw [d1]; exact (List.append_nil d').symm
   have hH : ∀ b, hget x.2.H b = hget (redoH Hd x.2.j) b := fun b => by
    rw [d2 b, Z8, Z8, hd']
    show (lkD x.2.j b).getD (hget Hc b) = _
    rw [he b]
   have hDD : ∀ b, hget (redoH Hd x.2.j) b = hget (redoH s.H (x.2.j ++ D)) b := fun b => by
    rw [Z8, Z8, hD b, Z8, J2]
    cases lkD x.2.j b <;> rfl
   cases hg : memN i G with
   | false =>
    rw [hg] at h; simp only at h
    cases hj : x.2.j with
    | cons a b => rw [hj] at h; obtain ⟨_, h, _⟩ := h; cases h
    | nil =>
     rw [hj] at h
     exact Yq hc hr hB r (i + 1) _ Hc Hd nz D W (by simp at hi ⊢; omega) he hnz' hW hD h
   | true =>
    rw [hg] at h; simp only at h
    have hiG := (Zr _ _).1 hg
    have go : ∀ (h : (drawW C call rnd ops s G WS (i + 1) r (putT T o.dst x.1) x.2.H (x.2.j ++ D)).Does Q) (hw : memN i WS = true \/ oldIds (s.pre ++ [s.n, i]) x.2.j = []),
      ∃ y Hf, (match x.2.j with
       | [] => drawFP C call rnd ops s (predsAll [] ops) (i + 1) r (putT T o.dst x.1) Hd nz D W
       | d => drawFP C call rnd ops s (predsAll [] ops) (i + 1) r (putT T o.dst x.1) (redoH Hd d) (i :: nz) (d ++ D) (match oldIds (s.pre ++ [s.n, i]) d with | [] => W | _ => i :: W)) = some y /\ (∀ k ∈ y.2.2, k ∈ WS) /\ Q (y.1, Hf, y.2.1) /\ ∀ b, hget Hf b = hget (redoH s.H y.2.1) b := by
     intro h hwr
     cases hj : x.2.j with
     | nil =>
      rw [hj] at h
      exact Yq hc hr hB r (i + 1) _ x.2.H Hd nz D W (by simp at hi ⊢; omega) (fun b => by rw [hH b, hj]; rfl) hnz' hW hD h
     | cons e d =>
      rw [hj] at h hH hDD hwr
      simp only
      have h2 : ∀ k ∈ i :: nz, k ∈ G /\ k < i + 1 := fun k hk => by
       rcases List.mem_cons.1 hk with rfl | hk
       ·exact ⟨hiG, by omega⟩
       ·exact hnz' k hk
      cases ho : oldIds (s.pre ++ [s.n, i]) (e :: d) with
      | nil => exact Yq hc hr hB r (i + 1) _ x.2.H (redoH Hd (e :: d)) (i :: nz) ((e :: d) ++ D) W (by simp at hi ⊢; omega) hH h2 hW hDD h
      | cons a b =>
       have hwi : memN i WS = true := hwr.resolve_right (by rw [ho]; simp)
       exact Yq hc hr hB r (i + 1) _ x.2.H (redoH Hd (e :: d)) (i :: nz) ((e :: d) ++ D) (i :: W) (by simp at hi ⊢; omega) hH h2 (fun k hk => by
        rcases List.mem_cons.1 hk with rfl | hk
        ·exact (Zr _ _).1 hwi
        ·exact hW k hk) hDD h
    cases hws : memN i WS with
    | true => rw [hws] at h; exact go h (.inl hws)
    | false =>
     rw [hws] at h; simp only at h
     cases ho : oldIds (s.pre ++ [s.n, i]) x.2.j with
     | cons a b => rw [ho] at h; obtain ⟨_, h, _⟩ := h; cases h
     | nil => rw [ho] at h; exact go h (.inr ho)
theorem Za6 (hc : ∀ f args, Nice (call f args)) (hr : ∀ l args, Nice (rnd l args)) {ops : List Oper} {s : St} {T : List AV} (G WS : List Nat) (hok : drawOk ops G WS = true) {Q : List AV × St -> Prop}
  (h : (drawW C call rnd ops s G WS 0 ops T s.H []).Does fun x => Q (x.1, drawEnd s x.2.2)) : (drawF C call rnd ops T s).Does Q := by
 unfold drawOk at hok
 cases hB : beforeAll (predsAll [] ops) G ops.length with
 | false => rw [hB] at hok; cases hok
 | true =>
  rw [hB] at hok; simp only at hok
  obtain ⟨x, Hf, h1, h2, h3, h4⟩ := Yq hc hr hB ops 0 T s.H s.H [] [] [] (by simp) (fun _ => rfl) (by simp) (by simp) (fun _ => rfl) h
  unfold drawF
  rw [h1]; simp only
  have hall : ∀ W : List Nat, (∀ k ∈ W, k ∈ WS) -> ordEach (predsAll [] ops) ops.length W = true := by
   have hsp : ∀ k ∈ WS, ordAll (predsAll [] ops) k ops.length = true := by
    clear h2 h3 h4 h1 h
    revert hok
    induction WS with
    | nil => intro _ k hk; simp at hk
    | cons a r ih =>
     intro hok k hk
     unfold ordEach at hok
     cases ha : ordAll (predsAll [] ops) a ops.length with
     | false => rw [ha] at hok; cases hok
     | true =>
      rw [ha] at hok
      rcases List.mem_cons.1 hk with rfl | hk
      ·exact ha
      ·exact ih hok k hk
   intro W
   induction W with
   | nil => intro _; rfl
   | cons a r ih =>
    intro hW
    unfold ordEach
    rw [hsp a (hW a List.mem_cons_self)]
    exact ih fun k hk => hW k (List.mem_cons_of_mem _ hk)
  rw [hall _ h2]
  exact ⟨_, rfl, h3⟩
theorem J1 {C0 : Cfg} {K : Nat} {ops : List Oper} {s : St} {T : List AV} (G WS : List Nat) (hok : drawOk ops G WS = true) {Q : List AV × St -> Prop}
  (h : (drawW C (acall C0 K) (around C0 K) ops s G WS 0 ops T s.H []).Does fun x => Q (x.1, drawEnd s x.2.2)) : (drawF C (acall C0 K) (around C0 K) ops T s).Does Q :=
 Za6 (Nice.mach C0 K).1 (Nice.mach C0 K).2 G WS hok h
@[go_sem] theorem Zl1 (ops : List Oper) (s : St) (G WS : List Nat) (i : Nat) (T : List AV) (Hc : Heap) (D : Delta) : drawW C call rnd ops s G WS i [] T Hc D = .ret (T, Hc, D) := rfl
def dwK (C : Cfg) (call : FuncId -> List AV -> M AV) (rnd : Nm -> List AV -> M AV) (ops : List Oper) (s : St) (G WS : List Nat) (i : Nat) (d : Option Tmp) (r : List Oper) (T : List AV) (Hc : Heap) (D : Delta) (x : AV × St) : Tr (List AV × Heap × Delta) := match memN i G with
   | false => (match x.2.j with
    | [] => drawW C call rnd ops s G WS (i + 1) r (putT T d x.1) Hc D
    | _ :: _ => .fail)
   | true => (match memN i WS with
    | true => drawW C call rnd ops s G WS (i + 1) r (putT T d x.1) x.2.H (x.2.j ++ D)
    | false => (match oldIds (s.pre ++ [s.n, i]) x.2.j with
     | [] => drawW C call rnd ops s G WS (i + 1) r (putT T d x.1) x.2.H (x.2.j ++ D)
     | _ :: _ => .fail))
@[go_sem] theorem Zhz (ops : List Oper) (s : St) (G WS : List Nat) (i : Nat) (d : Option Tmp) (r : List Oper) (T : List AV) (Hc : Heap) (D : Delta) (v : AV) (s1 : St) : dwK C call rnd ops s G WS i d r T Hc D (v, s1) = match memN i G with
   | false => (match s1.j with
    | [] => drawW C call rnd ops s G WS (i + 1) r (putT T d v) Hc D
    | _ :: _ => .fail)
   | true => (match memN i WS with
    | true => drawW C call rnd ops s G WS (i + 1) r (putT T d v) s1.H (s1.j ++ D)
    | false => (match oldIds (s.pre ++ [s.n, i]) s1.j with
     | [] => drawW C call rnd ops s G WS (i + 1) r (putT T d v) s1.H (s1.j ++ D)
     | _ :: _ => .fail)) := rfl
@[go_sem] theorem Zi0 (ops : List Oper) (s : St) (G WS : List Nat) (i : Nat) (o : Oper) (r : List Oper) (T : List AV) (Hc : Heap) (D : Delta) : drawW C call rnd ops s G WS i (o :: r) T Hc D = match wantedA ops T o with
  | true => (opA C call rnd T o (opSt s i Hc)).bind (dwK C call rnd ops s G WS i o.dst r T Hc D)
  | false => drawW C call rnd ops s G WS (i + 1) r (putT T o.dst .undef) Hc D := rfl
end
end
@[go_sem] theorem op_j (s : St) (i : Nat) (H : Heap) : (opSt s i H).j = [] := rfl
@[go_sem] theorem op_H (s : St) (i : Nat) (H : Heap) : (opSt s i H).H = H := rfl
end Go.Am
namespace Go.Proofs.Ytgnpnfkncbnjnaa
open Go Go.Am
@[go_sem] theorem Zlh (f : FuncId) : (cfg.at f).fn = cfg.fn := rfl
@[go_sem] theorem Zli (f : FuncId) : (cfg.at f).ty = cfg.ty := rfl
@[go_sem] theorem Zi1 (f : FuncId) : (cfg.at f).mode = cfg.mode := rfl
structure Rg where
 lo : Int
 hi : Int
 deriving DecidableEq, Inhabited
structure Rel where
 frm : Int
 rate : Rg
 deriving DecidableEq, Inhabited
structure Ves where
 vol : Int
 free : Rg
 bound : Rg
 bands : List Rel
 deriving DecidableEq, Inhabited
structure Pip where
 a : Int
 b : Int
 out : Rg
 back : Rg
 deriving DecidableEq, Inhabited
structure Pmp where
 at' : Int
 part : Rg
 deriving DecidableEq, Inhabited
structure Inl where
 at' : Int
 gas : Rg
 deriving DecidableEq, Inhabited
structure Gtr where
 at' : Int
 part : Rg
 room : Rg
 deriving DecidableEq, Inhabited
structure Vac where
 vessels : List Ves
 pipes : List Pip
 pumps : List Pmp
 leaks : List Inl
 getters : List Gtr
 deriving DecidableEq, Inhabited
structure Bk where
 ticks : Int
 heat : Int
 shut : List Int
 flash : Bool
 deriving DecidableEq, Inhabited
structure Gs where
 free : List Rg
 bound : List Rg
 room : List Rg
 most : Int
 flashed : Bool
 deriving DecidableEq, Inhabited
structure Tri where
 of : List Int
 cost : Int
 deriving DecidableEq, Inhabited
structure Hnt where
 suspects : Int
 trials : List Tri
 deriving DecidableEq, Inhabited
structure Try' where
 trial : Int
 inn : Bool
 deriving DecidableEq, Inhabited
@[go_sem] def iV (n : Int) : AV := .int .i64 n
@[go_sem] def rgV (r : Rg) : AV := .agg [.int .i64 r.lo, .int .i64 r.hi]
@[go_sem] def relV (x : Rel) : AV := .agg [.int .i64 x.frm, .int .i64 x.rate.lo, .int .i64 x.rate.hi]
@[go_sem] def vesV (x : Ves) : AV := .agg [.int .i64 x.vol, .int .i64 x.free.lo, .int .i64 x.free.hi, .int .i64 x.bound.lo, .int .i64 x.bound.hi, .lst (x.bands.map relV)]
@[go_sem] def pipV (x : Pip) : AV := .agg [.int .i64 x.a, .int .i64 x.b, .int .i64 x.out.lo, .int .i64 x.out.hi, .int .i64 x.back.lo, .int .i64 x.back.hi]
@[go_sem] def pmpV (x : Pmp) : AV := .agg [.int .i64 x.at', .int .i64 x.part.lo, .int .i64 x.part.hi]
@[go_sem] def inlV (x : Inl) : AV := .agg [.int .i64 x.at', .int .i64 x.gas.lo, .int .i64 x.gas.hi]
@[go_sem] def gtrV (x : Gtr) : AV := .agg [.int .i64 x.at', .int .i64 x.part.lo, .int .i64 x.part.hi, .int .i64 x.room.lo, .int .i64 x.room.hi]
@[go_sem] def vacV (v : Vac) : AV := .agg [.lst (v.vessels.map vesV), .lst (v.pipes.map pipV), .lst (v.pumps.map pmpV), .lst (v.leaks.map inlV), .lst (v.getters.map gtrV)]
@[go_sem] def bkV (s : Bk) : AV := .agg [.int .i64 s.ticks, .int .i64 s.heat, .lst (s.shut.map iV), .bool s.flash]
@[go_sem] def gsV (g : Gs) : AV := .agg [.lst (g.free.map rgV), .lst (g.bound.map rgV), .lst (g.room.map rgV), .int .i64 g.most, .bool g.flashed]
@[go_sem] def triV (t : Tri) : AV := .agg [.lst (t.of.map iV), .int .i64 t.cost]
@[go_sem] def hntV (h : Hnt) : AV := .agg [.int .i64 h.suspects, .lst (h.trials.map triV)]
@[go_sem] def tryV (t : Try') : AV := .agg [.int .i64 t.trial, .bool t.inn]
@[go_sem] theorem fl_i (l : List Int) : flats (l.map iV) = true := Zl (f := iV) (fun _ => rfl) l
@[go_sem] theorem Za7 (l : List Rg) : flats (l.map rgV) = true := Zl (f := rgV) (fun _ => rfl) l
@[go_sem] theorem Zcw (l : List Rel) : flats (l.map relV) = true := Zl (f := relV) (fun _ => rfl) l
@[go_sem] theorem Zcx (l : List Ves) : flats (l.map vesV) = true := Zl (f := vesV) (fun x => by simp only [vesV, AV.flat, flats, Zcw]) l
@[go_sem] theorem Zcy (l : List Pip) : flats (l.map pipV) = true := Zl (f := pipV) (fun _ => rfl) l
@[go_sem] theorem Zcz (l : List Pmp) : flats (l.map pmpV) = true := Zl (f := pmpV) (fun _ => rfl) l
@[go_sem] theorem Zd0 (l : List Inl) : flats (l.map inlV) = true := Zl (f := inlV) (fun _ => rfl) l
@[go_sem] theorem Zd1 (l : List Gtr) : flats (l.map gtrV) = true := Zl (f := gtrV) (fun _ => rfl) l
@[go_sem] theorem Z2t (l : List Tri) : flats (l.map triV) = true := Zl (f := triV) (fun x => by simp only [triV, AV.flat, flats, fl_i]) l
@[go_sem] theorem Zl2 (l : List Try') : flats (l.map tryV) = true := Zl (f := tryV) (fun _ => rfl) l
@[go_sem] theorem Zlj (l : List Bk) : flats (l.map bkV) = true := Zl (f := bkV) (fun x => by simp only [bkV, AV.flat, flats, fl_i]) l
@[go_sem] theorem Zl3 (l : List Vac) : flats (l.map vacV) = true := Zl (f := vacV) (fun x => by simp only [vacV, AV.flat, flats, Zcx, Zcy, Zcz, Zd0, Zd1]) l
@[go_sem] theorem Zlk (l : List Gs) : flats (l.map gsV) = true := Zl (f := gsV) (fun x => by simp only [gsV, AV.flat, flats, Za7]) l
@[go_sem] theorem z_i (l : List Int) : okZ 1 (l.map iV) = true := Yf (f := iV) (z := 1) (fun _ => rfl) l
@[go_sem] theorem z_rg (l : List Rg) : okZ 2 (l.map rgV) = true := Yf (f := rgV) (z := 2) (fun _ => rfl) l
@[go_sem] theorem Zll (l : List Rel) : okZ 3 (l.map relV) = true := Yf (f := relV) (z := 3) (fun _ => rfl) l
@[go_sem] theorem Zlm (l : List Ves) : okZ 6 (l.map vesV) = true := Yf (f := vesV) (z := 6) (fun _ => rfl) l
@[go_sem] theorem Zln (l : List Pip) : okZ 6 (l.map pipV) = true := Yf (f := pipV) (z := 6) (fun _ => rfl) l
@[go_sem] theorem Zlo (l : List Pmp) : okZ 3 (l.map pmpV) = true := Yf (f := pmpV) (z := 3) (fun _ => rfl) l
@[go_sem] theorem Zlp (l : List Inl) : okZ 3 (l.map inlV) = true := Yf (f := inlV) (z := 3) (fun _ => rfl) l
@[go_sem] theorem Zlq (l : List Gtr) : okZ 5 (l.map gtrV) = true := Yf (f := gtrV) (z := 5) (fun _ => rfl) l
@[go_sem] theorem Zlr (l : List Tri) : okZ 2 (l.map triV) = true := Yf (f := triV) (z := 2) (fun _ => rfl) l
@[go_sem] theorem Zls (l : List Try') : okZ 2 (l.map tryV) = true := Yf (f := tryV) (z := 2) (fun _ => rfl) l
@[go_sem] theorem z_bk (l : List Bk) : okZ 4 (l.map bkV) = true := Yf (f := bkV) (z := 4) (fun _ => rfl) l
attribute [go_sem] List.length_map
end Go.Proofs.Ytgnpnfkncbnjnaa
namespace Go.Proofs.Ytgnpnfkncbnjnaa
attribute [local go_sem_proc] Int.reduceEq Int.reduceNeg Nat.reduceEqDiff Nat.reduceLT Nat.reduceAdd Nat.reduceSub Nat.reduceMul Int.reduceLE Int.reduceLT Int.reduceToNat Nat.reduceLeDiff
attribute [local go_sem] Int.toNat_natCast Bool.not_true Bool.not_false
open Go Go.Am
attribute [local congr] Z5 Z2 Z3
attribute [local go_sem] Go.Am.buildSliceA Go.Am.frozen Go.Am.freezeG Go.Am.freezeGs Go.Am.minmax
def nextW (w : Int) : Int := wrapF .u64 (w + 11400714819323198485)
def xorU (a b : Int) : Int := wrapF .u64 (Nat.xor (ib .u64 a) (ib .u64 b))
def shrU (a : Int) (k : Nat) : Int := a.fdiv (Nat.pow 2 (min k (kbits .u64)) : Nat)
def mixA (z : Int) : Int := wrapF .u64 (xorU z (shrU z 30) * 13787848793156543929)
def mixB (z : Int) : Int := wrapF .u64 (xorU z (shrU z 27) * 10723151780598845931)
def mixC (z : Int) : Int := xorU z (shrU z 31)
def mixW (z : Int) : Int := mixC (mixB (mixA z))
theorem Z4e (z : Int) : 0 <= mixW z /\ mixW z <= 18446744073709551615 := Z26 _
theorem Z4f (w : Int) (b : Nm) (u : Nat) (K : Nat) (s : St) (hb : hget s.H b = some (.cells [.int .u64 w] true u)) :
  acall cfg (K + 1) 84 [.ptr b 0] s = .ret (.int .u64 (mixW (nextW w)), s.put b (.cells [.int .u64 (nextW w)] true u)) := by
 refine Z08 (v := .int .u64 (mixW (nextW w))) Zct Zcs hb rfl rfl rfl rfl rfl rfl rfl rfl ?_
 refine Zp rfl fun T hT' hA => ?_
 have a0 := hA 0 _ rfl
 have hT : T.length = 30 := hT'
 clear hA hT'
 simp -implicitDefEqProofs only [go_sem, a0, hT, Try.results84]
 exact ⟨rfl, rfl⟩
def uptoN (w n : Int) : Int := if n < 1 then 0 else (mixW (nextW w)).tmod n
theorem Yr (w n : Int) (h : 1 <= n) : 0 <= uptoN w n /\ uptoN w n < n := by
 have hm := Z4e (nextW w)
 have h1 := Int.tmod_nonneg n hm.1
 have h2 := Int.tmod_lt_of_pos (mixW (nextW w)) (show 0 < n by omega)
 unfold uptoN
 rw [if_neg (by omega)]
 omega
theorem X8 (w n : Int) (b : Nm) (u : Nat) (K : Nat) (s : St) (hb : hget s.H b = some (.cells [.int .u64 w] true u)) (hn : n <= 9223372036854775807) :
  acall cfg (K + 2) 25 [.ptr b 0, .int .i64 n] s = .ret (.int .i64 (uptoN w n), s.put b (.cells [.int .u64 (nextW w)] true u)) := by
 refine Z08 (v := .int .i64 (uptoN w n)) Zcj Zci hb rfl rfl rfl rfl rfl rfl rfl rfl ?_
 refine Zp rfl fun T hT' hA => ?_
 have a0 := hA 0 _ rfl
 have a1 := hA 1 _ rfl
 have hT : T.length = 15 := hT'
 clear hA hT'
 have hn0 := Z4f w [0] u K ⟨[([0], .cells [.int .u64 w] true u)], 1, [], false, []⟩ rfl
 simp -implicitDefEqProofs only [go_sem, a0, a1, hT, hn0]
 simp only [Za]
 refine Js (fun h => ?_) (fun h => ?_)
 ·simp -implicitDefEqProofs only [go_sem, hT, Try.results25]
  unfold uptoN; rw [if_pos h]
 ·have hw : wrapF .u64 n = n := Z6a (by omega) (by omega)
  have hd0 : decide (n = 0) = false := by simp; omega
  have hm := Z4e (nextW w)
  have hm1 := Int.tmod_nonneg n hm.1
  have hm2 := Int.tmod_lt_of_pos (mixW (nextW w)) (show 0 < n by omega)
  have hw2 : wrapF .i64 ((mixW (nextW w)).tmod n) = (mixW (nextW w)).tmod n := Zk (by omega) (by omega)
  simp -implicitDefEqProofs only [go_sem, a1, hT, hw, hd0, hw2, Try.results25]
  unfold uptoN; rw [if_neg h]
def oneB (w n : Int) : Bool := decide (uptoN w n = 0)
theorem Z09 (w n : Int) (b : Nm) (u : Nat) (K : Nat) (s : St) (hb : hget s.H b = some (.cells [.int .u64 w] true u)) (hn : n <= 9223372036854775807) :
  acall cfg (K + 3) 44 [.ptr b 0, .int .i64 n] s = .ret (.bool (oneB w n), s.put b (.cells [.int .u64 (nextW w)] true u)) := by
 refine Z08 (v := .bool (oneB w n)) Zcp Zco hb rfl rfl rfl rfl rfl rfl rfl rfl ?_
 refine Zp rfl fun T hT' hA => ?_
 have a0 := hA 0 _ rfl
 have a1 := hA 1 _ rfl
 have hT : T.length = 9 := hT'
 clear hA hT'
 have hn0 := X8 w n [0] u K ⟨[([0], .cells [.int .u64 w] true u)], 1, [], false, []⟩ rfl hn
 simp -implicitDefEqProofs only [go_sem, a0, a1, hT, hn0, Try.results44]
 rfl
def betweenN (w lo hi : Int) : Int := lo + uptoN w (hi - lo + 1)
theorem Z0a (w lo hi : Int) (h : lo <= hi) : lo <= betweenN w lo hi /\ betweenN w lo hi <= hi := by
 have := Yr w (hi - lo + 1) (by omega)
 unfold betweenN; omega
theorem Z4g (w lo hi : Int) (b : Nm) (u : Nat) (K : Nat) (s : St) (hb : hget s.H b = some (.cells [.int .u64 w] true u)) (h1 : -1000000000000 <= lo) (h2 : lo <= hi) (h3 : hi <= 1000000000000) :
  acall cfg (K + 3) 85 [.ptr b 0, .int .i64 lo, .int .i64 hi] s = .ret (.int .i64 (betweenN w lo hi), s.put b (.cells [.int .u64 (nextW w)] true u)) := by
 refine Z08 (v := .int .i64 (betweenN w lo hi)) Zcv Zcu hb rfl rfl rfl rfl rfl rfl rfl rfl ?_
 refine Zp rfl fun T hT' hA => ?_
 have a0 := hA 0 _ rfl
 have a1 := hA 1 _ rfl
 have a2 := hA 2 _ rfl
 have hT : T.length = 15 := hT'
 clear hA hT'
 have hr := Z0a w lo hi h2
 have w1 : wrapF .i64 (hi - lo) = hi - lo := Zk (by omega) (by omega)
 have w2 : wrapF .i64 (hi - lo + 1) = hi - lo + 1 := Zk (by omega) (by omega)
 have w3 : wrapF .i64 (lo + uptoN w (hi - lo + 1)) = betweenN w lo hi := Zk (by unfold betweenN at hr; omega) (by unfold betweenN at hr; omega)
 have hn0 := X8 w (hi - lo + 1) [0] u K ⟨[([0], .cells [.int .u64 w] true u)], 1, [], false, []⟩ rfl (by omega)
 simp -implicitDefEqProofs only [go_sem, a0, a1, a2, hT, w1, w2, hn0, w3, Try.results85]
end Go.Proofs.Ytgnpnfkncbnjnaa
namespace Go.Proofs.Ytgnpnfkncbnjnaa
attribute [local go_sem_proc] Int.reduceEq Int.reduceNeg Nat.reduceEqDiff Nat.reduceLT Nat.reduceAdd Nat.reduceSub Nat.reduceMul Int.reduceLE Int.reduceLT Int.reduceToNat Nat.reduceLeDiff
attribute [local go_sem] Int.toNat_natCast Bool.not_true Bool.not_false
open Go Go.Am
attribute [local congr] Z5 Z2 Z3
attribute [local go_sem] Go.Am.buildSliceA Go.Am.frozen Go.Am.freezeG Go.Am.freezeGs Go.Am.minmax
def fromB (n lo hi : Int) : Bool := decide (lo <= n /\ n <= hi)
theorem Z1w (n lo hi : Int) (K : Nat) (s : St) : acall cfg (K + 1) 105 [.int .i64 n, .int .i64 lo, .int .i64 hi] s = .ret (.bool (fromB n lo hi), s) := by
 refine Z5b Zbe Zbd (by first | rfl | simp -implicitDefEqProofs only [redoH, redo1, go_sem]) (by first | rfl | simp -implicitDefEqProofs only [redoH, redo1, go_sem]) (by first | rfl | simp -implicitDefEqProofs only [redoH, redo1, go_sem]) ?_
 refine Zp rfl fun T hT' hA => ?_
 have a0 := hA 0 _ rfl
 have a1 := hA 1 _ rfl
 have a2 := hA 2 _ rfl
 have hT : T.length = 15 := hT'
 clear hA hT'
 unfold fromB
 by_cases h1 : lo <= n <;> by_cases h2 : n <= hi <;> simp -implicitDefEqProofs only [go_sem, a0, a1, a2, hT, h1, h2, Try.results105, and_self]
def plusR (a b : Rg) : Rg := ⟨wrapF .i64 (a.lo + b.lo), wrapF .i64 (a.hi + b.hi)⟩
def downN (n q : Int) : Int := wrapF .i64 ((wrapF .i64 (n * q)).tdiv 1000000)
def upN (n q : Int) : Int := wrapF .i64 ((wrapF .i64 (wrapF .i64 (wrapF .i64 (n * q) + 1000000) - 1)).tdiv 1000000)
end Go.Proofs.Ytgnpnfkncbnjnaa
namespace Go.Am
open Go
section
variable {C : Cfg} {K : Nat}
theorem X9 (H : Heap) (k : Nat) (bs : List Nm) (xs : List Blk) : reachL H (k + 1) [] bs xs = some (bs, xs) := rfl
theorem Y0 (H : Heap) (k : Nat) (b : Nm) (r bs : List Nm) (xs : List Blk) : reachL H (k + 1) (b :: r) bs xs = (match memNm b bs with
   | true => reachL H k r bs xs
   | false => (match hget H b with
    | some x => reachL H k (namesB true x r) (bs ++ [b]) (xs ++ [x])
    | none => reachL H k r bs xs)) := rfl
theorem Xa (k : Nat) (bs : List Nm) (xs : List Blk) (s : St) : lendM (k + 1) [] bs xs s = .ret ((bs, xs), s) := rfl
theorem Xb (k : Nat) (b : Nm) (r bs : List Nm) (xs : List Blk) : lendM (k + 1) (b :: r) bs xs = (match memNm b bs with
   | true => lendM k r bs xs
   | false => (getM b).bind fun x => lendM k (namesB false x r) (bs ++ [b]) (xs ++ [x])) := rfl
theorem Z8w {f : FuncId} {fn : Func} {args cs : List AV} {u : Nat} {s : St} (hm : C.mode.get f = some 3) (hf : C.fn.get f = some fn) (hn : namesVs false args [] = []) (hr : renVs [] args = some args)
  (hc : namesVs true cs [] = []) (hcr : ∀ mp, renVs mp cs = some cs)
  (hd : (bodyA (C.at f) (acall C K) (around C K) (K + 1) fn args s0).Does fun x => ∃ b, x.1 = .ptr b 0 /\ hget x.2.H b = some (.cells cs true u)) :
  acall C (K + 1) f args s = .ret (.ptr s.name 0, s.new (.cells cs true u)) := by
 rw [Zu]
 unfold enterA
 rw [hf]; simp only
 rw [hm]; simp only
 obtain ⟨⟨v1, s1⟩, e1, b, rfl, e2⟩ := hd
 simp only at e2
 unfold handA
 have hl : lendM 200 (namesVs false args []) [] [] s = .ret (([], []), s) := by rw [hn]; exact Xa 199 _ _ _
 rw [Z7, hl]
 have hnd : nodupN [] = true := rfl
 have hz : zipN [] (namesFrom [] 0 ([] : List Nm).length) = [] := rfl
 have hrb : renBs [] [] = some [] := rfl
 have hcalm : calm [] = true := rfl
 simp only [Tr.bind_ret, hnd, hz, hr, hrb, hcalm]
 have hst : (⟨zipB (namesFrom [] 0 ([] : List Nm).length) [], ([] : List Nm).length, [], false, []⟩ : St) = s0 := rfl
 rw [hst, e1]
 have ho : oneR false (.ret (.ptr b 0, s1)) = some (.ptr b 0, s1.H) := rfl
 have hy : getAll s1.H (namesFrom [] 0 ([] : List Nm).length) = some [] := rfl
 rw [ho]; simp only
 rw [hy]; simp only
 have hnv : namesV true (.ptr b 0) (namesBs true [] []) = [b] := rfl
 rw [hnv]
 have hre0 : ∀ k, reachL s1.H (k + 2) [b] [] [] = some ([b], [.cells cs true u]) := fun k => by
  rw [Y0]
  have : memNm b [] = false := rfl
  rw [this]; simp only
  rw [e2]; simp only
  show reachL s1.H (k + 1) (namesVs true cs []) [b] [_] = _
  rw [hc, X9]
 have hre : reachL s1.H 200 [b] (namesFrom [] 0 ([] : List Nm).length) [] = some ([b], [.cells cs true u]) := hre0 198
 rw [hre]; simp only
 have hn0 : nodupN [b] = true := rfl
 rw [hn0]; simp only
 rw [Z7]
 show (Tr.ret ((s.pre, s.n), s)).bind _ = _
 rw [Tr.bind_ret]
 have hz2 : zipN [b] ([] ++ namesFrom s.pre s.n ([Blk.cells cs true u] : List Blk).length) = [(b, s.pre ++ [s.n])] := rfl
 simp only
 rw [hz2]
 have hv2 : renV [(b, s.pre ++ [s.n])] (.ptr b 0) = some (.ptr (s.pre ++ [s.n]) 0) := by simp only [renV, lookN, Ze]
 have hb2 : renB [(b, s.pre ++ [s.n])] (.cells cs true u) = some (.cells cs true u) := by simp only [renB, hcr]
 simp only [hv2, renBs, hb2, putAll, newAll, Z7, Xm, Tr.bind_ret, Y4]
 rfl
end
theorem Z6z {C : Cfg} {sT e : TypeId} {i : TI} {zv : AV} (hd : C.desc sT = some (.slice e)) (hi : C.ty.get e = some i) (hz : i.zero = some zv) (hzl : Nat.beq zv.cells.length i.size = true) (h1 : Nat.ble 1 i.size = true) (hb : Nat.ble 1 i.bytes = true)
  {b : Nm} {l : List AV} {x : AV} {H : Heap} {n z : Nat} {p : Nm} {j : Delta} (hzz : i.size = z) (hx : Nat.beq x.cells.length i.size = true) (hroom : (l.length + 1) * i.bytes <= 140737488355328) (hdl : hdel H b = H) :
  appendA C true sT sT (ownV b l) (.lst [x]) ⟨ownH b z l H, n, p, false, j⟩ = .ret (ownV (p ++ [n]) (l ++ [x]), ⟨ownH (p ++ [n]) z (l ++ [x]) H, n + 1, p, false, j⟩) := by
 obtain ⟨j', h⟩ := Z4d (i := i) (b := b) (l := l) (e := x) (H := H) (n := n) (p := p) (jr := false) (Nat.le_of_ble_eq_true h1) (Nat.le_of_ble_eq_true hb) hroom hdl
 have h2 := (h j).1
 rw [(h j).2 rfl, hzz] at h2
 unfold appendA
 have hsrc : srcF i zv (.slice e) (.lst [x]) = M.ret (1, [x]) := by
  show (match okZ i.size [x] with | true => M.ret (([x] : List AV).length, [x]) | false => M.fail) = _
  simp only [okZ, hx]; rfl
 rw [hd]; simp only
 rw [hi]; simp only
 rw [hz]; simp only
 rw [hzl]; simp only
 rw [Z4c]; simp only
 rw [hsrc, Z7, Y4, Tr.bind_ret]
 exact h2
theorem Z70 {C : Cfg} {α : Type} {f : α -> AV} {sT e : TypeId} {i : TI} {zv : AV} (hd : C.desc sT = some (.slice e)) (hi : C.ty.get e = some i) (hz : i.zero = some zv) (hzl : Nat.beq zv.cells.length i.size = true) (h1 : Nat.ble 1 i.size = true) (hb : Nat.ble 1 i.bytes = true)
  {b : Nm} {l : List α} {x : α} {H : Heap} {n z : Nat} {p : Nm} {j : Delta} (hzz : i.size = z) (hx : Nat.beq (f x).cells.length i.size = true) (hroom : (l.length + 1) * i.bytes <= 140737488355328) (hdl : hdel H b = H) :
  appendA C true sT sT (ownV b (l.map f)) (.lst [f x]) ⟨ownH b z (l.map f) H, n, p, false, j⟩ = .ret (ownV (p ++ [n]) ((l ++ [x]).map f), ⟨ownH (p ++ [n]) z ((l ++ [x]).map f) H, n + 1, p, false, j⟩) := by
 have := Z6z (l := l.map f) (x := f x) (b := b) (H := H) (n := n) (p := p) (j := j) hd hi hz hzl h1 hb hzz hx (by simpa using hroom) hdl
 rw [this]; simp
end Go.Am
namespace Go.Proofs.Ytgnpnfkncbnjnaa
attribute [local go_sem_proc] Int.reduceEq Int.reduceNeg Nat.reduceEqDiff Nat.reduceLT Nat.reduceAdd Nat.reduceSub Nat.reduceMul Int.reduceLE Int.reduceLT Int.reduceToNat Nat.reduceLeDiff
attribute [local go_sem] Int.toNat_natCast Bool.not_true Bool.not_false
open Go Go.Am
attribute [local congr] Z5 Z2 Z3
attribute [local go_sem] Go.Am.buildSliceA Go.Am.frozen Go.Am.freezeG Go.Am.freezeGs Go.Am.minmax
def diceW (l : List Int) (w : Int) : Int := l.foldl (fun w x => nextW (xorU w (wrapF .u64 x))) w
def newDice (l : List Int) : Int := diceW l (wrapF .u64 (wrapF .u64 (l.length : Int) + 1374496523))
theorem Z4h (l : List Int) (K : Nat) (s : St) (hK : l.length < K) (hl : l.length <= 9223372036854775807) :
  acall cfg (K + 2) 20 [.lst (l.map iV)] s = .ret (.ptr s.name 0, s.new (.cells [.int .u64 (newDice l)] true 0)) := by
 refine Z8w Zch Zcg rfl (by simp -implicitDefEqProofs only [renVs, renV, fl_i]) rfl (fun _ => rfl) ?_
 refine Zp rfl fun T hT' hA => ?_
 have a0 := hA 0 _ rfl
 have hT : T.length = 33 := hT'
 clear hA hT'
 simp -implicitDefEqProofs only [go_sem, a0, hT]
 simp only [Za]
 refine X3 (fun k T s' => T.length = 33 /\ nth T 0 = some (.lst (l.map iV)) /\ nth T 3 = some (.ptr [0] 0) /\ ∃ (i m : Nat) (w : Int), nth T 4 = some (.int .i64 i) /\ i <= l.length /\ k = l.length - i /\ s' = ⟨[([0], .cells [.int .u64 w] true 0)], m, [], false, []⟩ /\ newDice l = diceW (l.drop i) w) (k := l.length) (by omega) ?_ ?_
 ·exact ⟨by simp -implicitDefEqProofs only [go_sem, hT], by simp -implicitDefEqProofs only [go_sem, a0], by simp -implicitDefEqProofs only [go_sem, hT], 0, _, _, by simp -implicitDefEqProofs only [go_sem, hT]; rfl, by omega, by omega, rfl, rfl⟩
 clear a0 hT
 rintro k T s' ⟨hT, a0, a3, i, m, w, a4, hi, rfl, rfl, hw⟩
 simp -implicitDefEqProofs only [go_sem, a0, a4, hT]
 simp only [Za]
 refine Js (fun h => ?_) (fun h => ?_)
 ·have hlt : i < l.length := by omega
  have hw1 : wrapF .i64 ((i : Int) + 1) = ((i + 1 : Nat) : Int) := by rw [Zk (by omega) (by omega)]; simp
  have he := Yp (f := iV) (z := 1) hlt rfl
  simp -implicitDefEqProofs only [go_sem]
  simp only [Za]
  refine J1 [13] [13] (by kernel_rfl) ?_
  simp -implicitDefEqProofs only [redoH, redo1, go_sem, a0, a3, a4, hT, he]
  have hn0 : ∀ m, acall cfg (K + 1) 84 [.ptr [0] 0] ⟨[([0], .cells [.int .u64 (xorU w (wrapF .u64 l[i]))] true 0)], m, [], false, []⟩ = .ret (.int .u64 (mixW (nextW (xorU w (wrapF .u64 l[i])))), ⟨[([0], .cells [.int .u64 (nextW (xorU w (wrapF .u64 l[i])))] true 0)], m, [], false, []⟩) := fun m => Z4f _ [0] 0 K _ rfl
  unfold xorU at hn0
  simp -implicitDefEqProofs only [go_sem, a0, a3, a4, hT, hn0, hw1]
  refine ⟨l.length - (i + 1), by omega, trivial, trivial, trivial, i + 1, _, _, rfl, by omega, rfl, rfl, ?_⟩
  rw [hw, List.drop_eq_getElem_cons hlt]
  rfl
 ·have hil : i = l.length := by omega
  subst hil
  simp -implicitDefEqProofs only [go_sem, a3, hT, Try.results20]
  rw [List.drop_length] at hw
  refine ⟨_, rfl, ?_⟩
  simp -implicitDefEqProofs only [go_sem, hw]
  rfl
theorem Za8 (a b : Int) : max a b = if a < b then b else a := by rw [Int.max_def]; split <;> split <;> omega
def firstL (n : Nat) : List Int := (List.range n).map fun (i : Nat) => (i : Int)
theorem Z1x (n : Nat) : firstL (n + 1) = firstL n ++ [(n : Int)] := by unfold firstL; rw [List.range_succ, List.map_append]; rfl
theorem Xo (n : Nat) : (firstL n).length = n := by simp [firstL]
theorem Z6c : cfg.desc 22 = some (.slice 3) := by kernel_rfl
theorem Z71 (n : Nat) (K : Nat) (s : St) (hK : n < K) (hn : n <= 1000000) : acall cfg (K + 1) 42 [.int .i64 n] s = .ret (.lst ((firstL n).map iV), s) := by
 refine Z5b Zcn Zcm rfl rfl (by simp -implicitDefEqProofs only [AV.flat, fl_i]) ?_
 refine Zp rfl fun T hT' hA => ?_
 have a0 := hA 0 _ rfl
 have hT : T.length = 15 := hT'
 clear hA hT'
 simp -implicitDefEqProofs only [go_sem]
 simp only [Za]
 refine X3 (fun k T s' => T.length = 15 /\ nth T 0 = some (.int .i64 n) /\ ∃ (i m : Nat) (b : Nm), nth T 4 = some (.int .i64 i) /\ nth T 3 = some (ownV b ((firstL i).map iV)) /\ i <= n /\ k = n - i /\ s' = ⟨ownH b 1 ((firstL i).map iV) [], m, [], false, []⟩) (k := n) (by omega) ?_ ?_
 ·exact ⟨by simp -implicitDefEqProofs only [go_sem, hT], by simp -implicitDefEqProofs only [go_sem, a0], 0, 0, [], by simp -implicitDefEqProofs only [go_sem, hT]; rfl, by simp -implicitDefEqProofs only [go_sem, hT]; rfl, by omega, rfl, rfl⟩
 clear a0 hT
 rintro k T s' ⟨hT, a0, i, m, b, a4, a3, hi, rfl, rfl⟩
 simp -implicitDefEqProofs only [go_sem, a0, a4, hT]
 simp only [Za]
 refine Js (fun h => ?_) (fun h => ?_)
 ·have hw1 : wrapF .i64 ((i : Int) + 1) = ((i + 1 : Nat) : Int) := by rw [Zk (by omega) (by omega)]; simp
  have h1 := Z70 (C := cfg.at 42) (f := iV) (b := b) (l := firstL i) (x := (i : Int)) (H := []) (n := m) (p := []) (j := []) (z := 1) Z6c Za5 rfl rfl rfl rfl rfl rfl (by rw [Xo]; show (i + 1) * 8 <= _; omega) rfl
  rw [<- Z1x] at h1
  simp only [iV] at h1
  simp -implicitDefEqProofs only [go_sem, a0, a3, a4, hT, h1, hw1]
  exact ⟨n - (i + 1), by omega, trivial, trivial, i + 1, m + 1, [m], rfl, rfl, by omega, rfl, rfl⟩
 ·have : i = n := by omega
  subst this
  simp -implicitDefEqProofs only [go_sem, a3, hT, Try.results42]
end Go.Proofs.Ytgnpnfkncbnjnaa
namespace Go.Proofs.Ytgnpnfkncbnjnaa
attribute [local go_sem_proc] Int.reduceEq Int.reduceNeg Nat.reduceEqDiff Nat.reduceLT Nat.reduceAdd Nat.reduceSub Nat.reduceMul Int.reduceLE Int.reduceLT Int.reduceToNat Nat.reduceLeDiff
attribute [local go_sem] Int.toNat_natCast Bool.not_true Bool.not_false
open Go Go.Am
attribute [local congr] Z5 Z2 Z3
attribute [local go_sem] Go.Am.buildSliceA Go.Am.frozen Go.Am.freezeG Go.Am.freezeGs Go.Am.minmax
theorem bitU (n : Int) (h1 : 0 <= n) (h2 : n <= 11) : wrapF .u64 (1 * ((Nat.pow 2 (min n.toNat (kbits .u64)) : Nat) : Int)) = ((2 ^ n.toNat : Nat) : Int) := by
 obtain ⟨k, rfl⟩ : ∃ k : Nat, n = k := ⟨n.toNat, by omega⟩
 have : k <= 11 := by omega
 have h : ∀ k : Fin 12, wrapF .u64 (1 * ((Nat.pow 2 (min (k.val : Int).toNat (kbits .u64)) : Nat) : Int)) = ((2 ^ (k.val : Int).toNat : Nat) : Int) := by decide
 exact h ⟨k, by omega⟩
theorem ib_u (a : Nat) (h : a < 4096) : ib .u64 (a : Int) = a := by
 simp only [ib]; omega
theorem wr_u (a : Nat) (h : a < 4096) : wrapF .u64 (a : Int) = a := Z6a (by omega) (by omega)
theorem Z5c (a b : Nat) (h1 : a < 4096) (h2 : b < 4096) : a ||| b < 4096 := Nat.or_lt_two_pow (n := 12) h1 h2
theorem Z6d (a b : Nat) (h1 : a < 4096) : a &&& b < 4096 := Nat.lt_of_le_of_lt Nat.and_le_left h1
theorem Z6e (n : Int) (h : n <= 11) : 2 ^ n.toNat < 4096 := Nat.pow_lt_pow_right (n := 12) (by omega) (by omega)
theorem orU (a b : Nat) (h1 : a < 4096) (h2 : b < 4096) : wrapF .u64 ((Nat.lor (ib .u64 (a : Int)) (ib .u64 (b : Int)) : Nat) : Int) = ((a ||| b : Nat) : Int) := by
 rw [ib_u a h1, ib_u b h2]; exact wr_u _ (Z5c a b h1 h2)
def suspE (many last : Int) : List Int -> Int
 | [] => 0
 | n :: l => if fromB n 0 (many - 1) then if n <= last then 11 else suspE many n l else 7
def setN (s : Nat) (l : List Int) : Nat := l.foldl (fun s n => s ||| 2 ^ n.toNat) s
theorem Xp (many : Int) (l : List Int) (K : Nat) (s : St) (hK : l.length < K) (hl : l.length <= 1000000000000) (h1 : 1 <= many) (h2 : many <= 12) :
  acall cfg (K + 2) 101 [.int .i64 many, .lst (l.map iV)] s = (.ret (.tuple [.int .u64 (if suspE many (-1) l = 0 then ((setN 0 l : Nat) : Int) else 0), .int .i64 (suspE many (-1) l)], s)) := by
 refine Z5b Zbc Zbb (by first | rfl | simp -implicitDefEqProofs only [redoH, redo1, go_sem]) (by first | rfl | simp -implicitDefEqProofs only [go_sem]) (by first | rfl | simp -implicitDefEqProofs only [redoH, redo1, go_sem]) ?_
 refine Zp rfl fun T hT' hA => ?_
 have a0 := hA 0 _ rfl
 have a1 := hA 1 _ rfl
 have hT : T.length = 33 := hT'
 clear hA hT'
 have hw : wrapF .i64 (many - 1) = many - 1 := Zk (by omega) (by omega)
 simp -implicitDefEqProofs only [go_sem, a1, hT]
 simp only [Za]
 refine X3 (fun k T s' => T.length = 33 /\ nth T 0 = some (.int .i64 many) /\ s' = s0 /\ nth T 10 = some (.lst (l.map iV)) /\ nth T 11 = some (.int .i64 l.length) /\ ∃ (i m : Nat) (last : Int), nth T 12 = some (.int .i64 i) /\ nth T 7 = some (.int .i64 last) /\ nth T 6 = some (.int .u64 m) /\ i <= l.length /\ k = l.length - i /\ m < 4096 /\ suspE many (-1) l = suspE many last (l.drop i) /\ setN 0 l = setN m (l.drop i)) (k := l.length) (by omega) ?_ ?_
 ·exact ⟨by simp -implicitDefEqProofs only [go_sem, hT], by simp -implicitDefEqProofs only [go_sem, a0], rfl, by simp -implicitDefEqProofs only [go_sem, hT], by simp -implicitDefEqProofs only [go_sem, hT], 0, 0, -1, by simp -implicitDefEqProofs only [go_sem, hT]; rfl, by simp -implicitDefEqProofs only [go_sem, hT], by simp -implicitDefEqProofs only [go_sem, hT]; rfl, by omega, by omega, by omega, rfl, rfl⟩
 clear a0 a1 hT
 rintro k T s' ⟨hT, a0, rfl, a10, a11, i, m, last, a12, a7, a6, hi, rfl, hm, he, hs⟩
 simp -implicitDefEqProofs only [go_sem, a11, a12, hT]
 simp only [Za]
 refine Js (fun h => ?_) (fun h => ?_)
 ·have hlt : i < l.length := by omega
  have hw1 : wrapF .i64 ((i : Int) + 1) = ((i + 1 : Nat) : Int) := by rw [Zk (by omega) (by omega)]; simp
  have hel := Yp (f := iV) (z := 1) hlt rfl
  have hc := Z1w l[i] 0 (many - 1) K ⟨[], 0, [], false, []⟩
  rw [List.drop_eq_getElem_cons hlt] at he hs
  simp only [suspE] at he
  simp only [setN, List.foldl_cons] at hs
  simp -implicitDefEqProofs only [go_sem, a0, a10, a12, hT, hel, hw, hc]
  by_cases c1 : fromB l[i] 0 (many - 1) = true
  ·have c1' : 0 <= l[i] /\ l[i] <= many - 1 := by unfold fromB at c1; exact of_decide_eq_true c1
   rw [if_pos c1] at he
   have c3 := c1'.1
   simp -implicitDefEqProofs only [go_sem, a7, hT, c1]
   by_cases c2 : l[i] <= last
   ·simp only [c2, if_true] at he
    simp -implicitDefEqProofs only [go_sem, hT, c2, he, Try.results101]
   ·simp only [c2, if_false] at he
    have hb := bitU l[i] (by omega) (by omega)
    simp -implicitDefEqProofs only [go_sem, a0, a10, a11, a12, a6, hT, c2, c3, hb, hw1]
    have hp := Z6e l[i] (by omega)
    exact ⟨l.length - (i + 1), by omega, trivial, trivial, trivial, trivial, trivial, i + 1, m ||| 2 ^ l[i].toNat, l[i], rfl, rfl, by rw [orU _ _ hm hp], by omega, rfl, Z5c _ _ hm hp, he, hs⟩
  ·simp only [c1] at he
   simp -implicitDefEqProofs only [go_sem, hT, c1, he, Try.results101]
 ·have hil : i = l.length := by omega
  subst hil
  rw [List.drop_length] at he hs
  simp only [suspE] at he
  simp only [setN, List.foldl_nil] at hs
  simp -implicitDefEqProofs only [go_sem, a6, hT, he, hs, setN, Try.results101]
end Go.Proofs.Ytgnpnfkncbnjnaa
namespace Go.Proofs.Ytgnpnfkncbnjnaa
attribute [local go_sem_proc] Int.reduceEq Int.reduceNeg Nat.reduceEqDiff Nat.reduceLT Nat.reduceAdd Nat.reduceSub Nat.reduceMul Int.reduceLE Int.reduceLT Int.reduceToNat Nat.reduceLeDiff
attribute [local go_sem] Int.toNat_natCast Bool.not_true Bool.not_false
open Go Go.Am
attribute [local congr] Z5 Z2 Z3
attribute [local go_sem] Go.Am.buildSliceA Go.Am.frozen Go.Am.freezeG Go.Am.freezeGs Go.Am.minmax
def trialsE (many : Int) : List Tri -> Int
 | [] => 0
 | t :: l => if suspE many (-1) t.of = 0 then (if fromB t.cost 0 1000 = true then trialsE many l else 2) else suspE many (-1) t.of
def huntE (h : Hnt) : Int := if fromB h.suspects 1 12 = true then (if 12 < h.trials.length then 8 else trialsE h.suspects h.trials) else 2
def Hnt.Ok (h : Hnt) (m : Nat) : Prop := h.trials.length <= 1000000000000 /\ ∀ t ∈ h.trials, t.of.length < m /\ t.of.length <= 1000000000000
theorem Z27 (h : Hnt) (K : Nat) (s : St) (hK : 13 < K) (ho : h.Ok K) : acall cfg (K + 3) 58 [hntV h] s = .ret (.int .i64 (huntE h), s) := by
 refine Z5b Zcr Zcq (by first | rfl | simp -implicitDefEqProofs only [redoH, redo1, go_sem]) (by first | rfl | simp -implicitDefEqProofs only [go_sem]) (by first | rfl | simp -implicitDefEqProofs only [redoH, redo1, go_sem]) ?_
 refine Zp rfl fun T hT' hA => ?_
 have a0 := hA 0 _ rfl
 have hT : T.length = 40 := hT'
 clear hA hT'
 have hc := fun s => Z1w h.suspects 1 12 (K + 1) s
 have hl := ho.1
 simp -implicitDefEqProofs only [go_sem, a0, hT, hc]
 unfold huntE
 by_cases c1 : fromB h.suspects 1 12 = true
 ·have c1' : 1 <= h.suspects /\ h.suspects <= 12 := by unfold fromB at c1; exact of_decide_eq_true c1
  simp -implicitDefEqProofs only [go_sem, hT, c1]
  by_cases c2 : 12 < h.trials.length
  ·have c2' : (12 : Int) < (h.trials.length : Int) := by omega
   simp -implicitDefEqProofs only [go_sem, hT, c2, c2', Try.results58]
  ·have c2' : ¬ (12 : Int) < (h.trials.length : Int) := by omega
   simp -implicitDefEqProofs only [go_sem, hT, c2, c2']
   simp only [Za]
   refine X3 (fun k T s' => T.length = 40 /\ nth T 1 = some (.ptr [0] 0) /\ nth T 18 = some (.lst (h.trials.map triV)) /\ nth T 19 = some (.int .i64 h.trials.length) /\ ∃ (i m : Nat) (H : Heap), s' = ⟨H, m, [], false, []⟩ /\ 0 < m /\ hget H [0] = some (.cells [.int .i64 h.suspects, .lst (h.trials.map triV)] true 0) /\ nth T 20 = some (.int .i64 i) /\ i <= h.trials.length /\ k = h.trials.length - i /\ trialsE h.suspects h.trials = trialsE h.suspects (h.trials.drop i)) (k := h.trials.length) (by omega) ?_ ?_
   ·exact ⟨by simp -implicitDefEqProofs only [go_sem, hT], by simp -implicitDefEqProofs only [go_sem, hT], by simp -implicitDefEqProofs only [go_sem, hT], by simp -implicitDefEqProofs only [go_sem, hT], 0, _, _, rfl, by omega, rfl, by simp -implicitDefEqProofs only [go_sem, hT]; rfl, by omega, by omega, rfl⟩
   clear a0 hT
   rintro k T s' ⟨hT, a1, a18, a19, i, m, H, rfl, hm, hH, a20, hi, rfl, he⟩
   simp -implicitDefEqProofs only [go_sem, a19, a20, hT]
   simp only [Za]
   refine Js (fun hh => ?_) (fun hh => ?_)
   ·have hlt : i < h.trials.length := by omega
    have hw1 : wrapF .i64 ((i : Int) + 1) = ((i + 1 : Nat) : Int) := by rw [Zk (by omega) (by omega)]; simp
    have hel := Yp (f := triV) (z := 2) hlt rfl
    have hx := ho.2 _ (List.getElem_mem hlt)
    have hs := fun s => Xp h.suspects h.trials[i].of K s (by omega) (by omega) c1'.1 c1'.2
    have hc2 := fun s => Z1w h.trials[i].cost 0 1000 (K + 1) s
    rw [List.drop_eq_getElem_cons hlt] at he
    simp only [trialsE] at he
    have hm0 : ¬ m = 0 := by omega
    simp -implicitDefEqProofs only [go_sem, a1, a18, a20, hT, hel, hH, hs, hm0]
    by_cases c3 : suspE h.suspects (-1) h.trials[i].of = 0
    ·rw [if_pos c3] at he
     simp -implicitDefEqProofs only [go_sem, hT, hc2, c3]
     by_cases c4 : fromB h.trials[i].cost 0 1000 = true
     ·rw [if_pos c4] at he
      simp -implicitDefEqProofs only [go_sem, a1, a18, a19, a20, hT, c4, hw1]
      exact ⟨h.trials.length - (i + 1), by omega, trivial, trivial, trivial, trivial, i + 1, _, _, rfl, by omega, (by simp -implicitDefEqProofs only [go_sem, hm0, hH]), rfl, by omega, rfl, he⟩
     ·rw [if_neg c4] at he
      simp -implicitDefEqProofs only [go_sem, hT, c4, he, Try.results58]
    ·rw [if_neg c3] at he
     have hd3 : decide (suspE h.suspects (-1) h.trials[i].of = 0) = false := decide_eq_false c3
     simp -implicitDefEqProofs only [go_sem, hT, c3, he, Try.results58]
   ·have hil : i = h.trials.length := by omega
    subst hil
    rw [List.drop_length] at he
    simp only [trialsE] at he
    simp -implicitDefEqProofs only [go_sem, hT, he, Try.results58]
 ·simp -implicitDefEqProofs only [go_sem, hT, c1, Try.results58]
end Go.Proofs.Ytgnpnfkncbnjnaa
namespace Go.Proofs.Ytgnpnfkncbnjnaa
attribute [local go_sem_proc] Int.reduceEq Int.reduceNeg Nat.reduceEqDiff Nat.reduceLT Nat.reduceAdd Nat.reduceSub Nat.reduceMul Int.reduceLE Int.reduceLT Int.reduceToNat Nat.reduceLeDiff
attribute [local go_sem] Int.toNat_natCast Bool.not_true Bool.not_false
open Go Go.Am
attribute [local congr] Z5 Z2 Z3
attribute [local go_sem] Go.Am.buildSliceA Go.Am.frozen Go.Am.freezeG Go.Am.freezeGs Go.Am.minmax
def andU (a b : Int) : Int := wrapF .u64 ((Nat.land (ib .u64 a) (ib .u64 b) : Nat) : Int)
def andI (a b : Int) : Int := wrapF .i64 ((Nat.land (ib .i64 a) (ib .i64 b) : Nat) : Int)
def on1 (x : Int) : Int := wrapF .u64 (andU (shrU x 1) 6148914691236517205 + andU x 6148914691236517205)
def on2 (x : Int) : Int := wrapF .u64 (andU (shrU x 2) 3689348814741910323 + andU x 3689348814741910323)
def on3 (x : Int) : Int := andU (wrapF .u64 (shrU x 4 + x)) 1085102592571150095
def on4 (x : Int) : Int := wrapF .u64 (x + shrU x 8)
def on5 (x : Int) : Int := wrapF .u64 (x + shrU x 16)
def on6 (x : Int) : Int := wrapF .u64 (x + shrU x 32)
def onesN (x : Int) : Int := andI (wrapF .i64 (on6 (on5 (on4 (on3 (on2 (on1 x))))))) 127
theorem Z5d (x : Int) (K : Nat) (s : St) : acall cfg (K + 1) 165 [.int .u64 x] s = .ret (.int .i64 (onesN x), s) := by
 refine Z5b Zbi Zbh (by first | rfl | simp -implicitDefEqProofs only [redoH, redo1, go_sem]) (by first | rfl | simp -implicitDefEqProofs only [redoH, redo1, go_sem]) (by first | rfl | simp -implicitDefEqProofs only [redoH, redo1, go_sem]) ?_
 refine Zp rfl fun T hT' hA => ?_
 have a0 := hA 0 _ rfl
 have hT : T.length = 35 := hT'
 clear hA hT'
 simp -implicitDefEqProofs only [go_sem, a0, hT, Try.results165]
 rfl
theorem Z4i (x : Int) (K : Nat) (s : St) : acall cfg (K + 2) 126 [.int .u64 x] s = .ret (.int .i64 (onesN x), s) := by
 refine Z5b Zbg Zbf (by first | rfl | simp -implicitDefEqProofs only [redoH, redo1, go_sem]) (by first | rfl | simp -implicitDefEqProofs only [redoH, redo1, go_sem]) (by first | rfl | simp -implicitDefEqProofs only [redoH, redo1, go_sem]) ?_
 refine Zp rfl fun T hT' hA => ?_
 have a0 := hA 0 _ rfl
 have hT : T.length = 8 := hT'
 clear hA hT'
 have hc := fun s => Z5d x K s
 simp -implicitDefEqProofs only [go_sem, a0, hT, hc, Try.results126]
noncomputable def oneOk (m : Nat) : Bool := (onesN m).beq' 1 == Nat.beq (Nat.land m (m - 1)) 0
noncomputable def allOk (p : Nat -> Bool) : Nat -> Bool := Nat.rec true fun k r => match p (k + 1) with
 | true => r
 | false => false
theorem Z2u (p : Nat -> Bool) : ∀ n, allOk p n = true -> ∀ m, 1 <= m -> m <= n -> p m = true := by
 intro n
 induction n with
 | zero => intro _ m h1 h2; omega
 | succ n ih =>
  intro h m h1 h2
  have hu : allOk p (n + 1) = (match p (n + 1) with | true => allOk p n | false => false) := rfl
  rw [hu] at h
  cases ho : p (n + 1) with
  | false => rw [ho] at h; cases h
  | true =>
   rw [ho] at h
   rcases Nat.lt_or_eq_of_le h2 with h3 | h3
   ·exact ih h m h1 (by omega)
   ·rw [h3]; exact ho
theorem Z72 : allOk oneOk 4095 = true := by kernel_rfl
theorem Z8x {m : Nat} (h1 : 1 <= m) (h2 : m < 4096) : oneOk m = true := Z2u oneOk 4095 Z72 m h1 (by omega)
end Go.Proofs.Ytgnpnfkncbnjnaa
namespace Go.Am
theorem Z8y {x i : Nat} (h : x < 4096) (hb : x.testBit i = true) : i < 12 := by
 by_cases hi : i < 12
 ·exact hi
 ·have h2 : 2 ^ 12 <= 2 ^ i := Nat.pow_le_pow_right (by decide) (by omega)
  rw [Nat.testBit_lt_two_pow (show x < 2 ^ i from Nat.lt_of_lt_of_le h h2)] at hb
  cases hb
def restN (s o : Nat) : Nat := s &&& (o ^^^ 4095)
theorem X2 (s o i : Nat) (h : s < 4096) : (restN s o).testBit i = (s.testBit i && !(o.testBit i)) := by
 unfold restN
 rw [Nat.testBit_and, Nat.testBit_xor, show (4095 : Nat) = 2 ^ 12 - 1 from rfl, Nat.testBit_two_pow_sub_one]
 cases hs : s.testBit i with
 | false => simp
 | true => simp [Z8y h hs]
theorem Zbj (s o : Nat) (h : s < 4096) : s &&& (o ^^^ 18446744073709551615) = restN s o := by
 apply Nat.eq_of_testBit_eq
 intro i
 rw [X2 s o i h, Nat.testBit_and, Nat.testBit_xor, show (18446744073709551615 : Nat) = 2 ^ 64 - 1 from rfl, Nat.testBit_two_pow_sub_one]
 cases hs : s.testBit i with
 | false => simp
 | true =>
  have h2 := Z8y h hs
  have h3 : i < 64 := by omega
  rw [decide_eq_true h3]; simp
theorem Z5e (s o : Nat) : restN s o <= s := Nat.and_le_left
theorem Z3l (s o : Nat) (h : s < 4096) (hin : s &&& o ≠ 0) : restN s o < s := by
 have h1 := Z5e s o
 rcases Nat.lt_or_eq_of_le h1 with h2 | h2
 ·exact h2
 ·refine absurd ?_ hin
  apply Nat.eq_of_testBit_eq
  intro i
  have := X2 s o i h
  rw [h2] at this
  rw [Nat.testBit_and, Nat.zero_testBit]
  cases hs : s.testBit i <;> cases ho : o.testBit i <;> simp_all
theorem Za9 (s o : Nat) (h : s < 4096) (hr : restN s o ≠ 0) : s &&& o < s := by
 have h1 : s &&& o <= s := Nat.and_le_left
 rcases Nat.lt_or_eq_of_le h1 with h2 | h2
 ·exact h2
 ·refine absurd ?_ hr
  apply Nat.eq_of_testBit_eq
  intro i
  rw [X2 s o i h, Nat.zero_testBit]
  have : (s &&& o).testBit i = s.testBit i := by rw [h2]
  rw [Nat.testBit_and] at this
  cases hs : s.testBit i <;> cases ho : o.testBit i <;> simp_all
end Go.Am
namespace Go.Am
open Go
section
variable {C : Cfg} {K : Nat}
theorem Z8z {f : FuncId} {fn : Func} {b mm : Nm} {k : IntKind} {n x0 : Int} {k0 : IntKind} {l0 l1 : List AV} {ov : AV} {es : List (AV × AV)} {s : St} {v : AV} {Q : List (AV × AV) -> Prop}
  (hm : C.mode.get f = some 3) (hf : C.fn.get f = some fn) (hbm : eqb mm b = false) (ho : ov = .lst l1 \/ ∃ t, ov = .own t l1 /\ eqb t b = false /\ eqb t mm = false)
  (hl0 : flats l0 = true) (hl1 : flats l1 = true) (hes : flatE es = true)
  (hb : hget s.H b = some (.cells [.int k0 x0, .lst l0, ov, .map mm] true 0)) (hmm : hget s.H mm = some (.map es false))
  (hvn : ∀ r, namesV true v r = r) (hvr : ∀ mp, renV mp v = some v)
  (hd : (bodyA (C.at f) (acall C K) (around C K) (K + 1) fn [.ptr [0] 0, .int k n] ⟨[([0], .cells [.int k0 x0, .lst l0, .lst l1, .map [1]] true 0), ([1], .map es false)], 2, [], false, []⟩).Does fun x => x.1 = v /\ hget x.2.H [0] = some (.cells [.int k0 x0, .lst l0, .lst l1, .map [1]] true 0) /\ ∃ es', hget x.2.H [1] = some (.map es' false) /\ flatE es' = true /\ Q es') :
  ∃ es', Q es' /\ flatE es' = true /\ acall C (K + 1) f [.ptr b 0, .int k n] s = .ret (v, (s.put b (.cells [.int k0 x0, .lst l0, .lst l1, .map mm] true 0)).put mm (.map es' false)) := by
 obtain ⟨⟨v1, s1⟩, e1, rfl, e2, es', e3, hes', hQ⟩ := hd
 simp only at e2 e3
 refine ⟨es', hQ, hes', ?_⟩
 rw [Zu]
 unfold enterA
 rw [hf]; simp only
 rw [hm]; simp only
 unfold handA
 have hno : ∀ r, namesV false ov r = r := by rcases ho with rfl | ⟨t, rfl, _⟩ <;> exact fun _ => rfl
 have hl0' : ∀ j, lendM (j + 3) [b] [] [] s = .ret (([b, mm], [.cells [.int k0 x0, .lst l0, ov, .map mm] true 0, .map es false]), s) := fun j => by
  rw [Xb]
  have h0 : memNm b [] = false := rfl
  rw [h0]; simp only
  rw [Z7, Zx, hb]
  show lendM (j + 2) (namesV false (.int k0 x0) (namesV false (.lst l0) (namesV false ov [mm]))) [b] _ s = _
  rw [hno]
  show lendM (j + 2) [mm] [b] _ s = _
  rw [Xb]
  have : memNm mm [b] = false := by simp only [memNm, hbm]
  rw [this]; simp only
  rw [Z7, Zx, hmm]
  show lendM (j + 1) [] _ _ s = _
  rw [Xa]
  rfl
 have hl : lendM 200 (namesVs false [.ptr b 0, .int k n] []) [] [] s = .ret (([b, mm], [.cells [.int k0 x0, .lst l0, ov, .map mm] true 0, .map es false]), s) := hl0' 197
 rw [Z7, hl]
 have hnd : nodupN [b, mm] = true := by
  have : memNm b [mm] = false := by
   simp only [memNm]
   cases h : eqb b mm with
   | false => rfl
   | true => rw [Xd] at h; subst h; rw [Ze] at hbm; cases hbm
  simp only [nodupN, this]; rfl
 have hz : zipN [b, mm] (namesFrom [] 0 [b, mm].length) = [(b, [0]), (mm, [1])] := rfl
 have hra : renVs [(b, [0]), (mm, [1])] [.ptr b 0, .int k n] = some [.ptr [0] 0, .int k n] := by simp only [renVs, renV, lookN, Ze]
 have hro : renV [(b, [0]), (mm, [1])] ov = some (.lst l1) := by
  rcases ho with rfl | ⟨t, rfl, h1, h2⟩
  ·simp only [renV, hl1]
  ·simp only [renV, hl1, lookN, h1, h2]
 have hrb : renBs [(b, [0]), (mm, [1])] [.cells [.int k0 x0, .lst l0, ov, .map mm] true 0, .map es false] = some [.cells [.int k0 x0, .lst l0, .lst l1, .map [1]] true 0, .map es false] := by
  simp only [renBs, renB, renVs, hro, renV, hl0, lookN, hbm, Ze, hes]
 have hcalm : calm [.cells [.int k0 x0, .lst l0, ov, .map mm] true 0, .map es false] = true := rfl
 simp only [Tr.bind_ret, hnd, hz, hra, hrb, hcalm]
 have hst : (⟨zipB (namesFrom [] 0 [b, mm].length) [.cells [.int k0 x0, .lst l0, .lst l1, .map [1]] true 0, .map es false], [b, mm].length, [], false, []⟩ : St) = ⟨[([0], .cells [.int k0 x0, .lst l0, .lst l1, .map [1]] true 0), ([1], .map es false)], 2, [], false, []⟩ := rfl
 rw [hst, e1]
 have ho1 : oneR false (.ret (v1, s1)) = some (v1, s1.H) := rfl
 have hy : getAll s1.H (namesFrom [] 0 [b, mm].length) = some [.cells [.int k0 x0, .lst l0, .lst l1, .map [1]] true 0, .map es' false] := by
  show getAll s1.H [[0], [1]] = _
  simp only [getAll, e2, e3]
 rw [ho1]; simp only
 rw [hy]; simp only
 rw [hvn]
 have hb' : namesBs true [.cells [.int k0 x0, .lst l0, .lst l1, .map [1]] true 0, .map es' false] [] = [[1]] := rfl
 rw [hb']
 have hre0 : ∀ j, reachL s1.H (j + 2) [[1]] [[0], [1]] [] = some ([[0], [1]], []) := fun j => by
  rw [Y0]
  have h0 : memNm [1] [[0], [1]] = true := rfl
  rw [h0]
  exact X9 ..
 have hre : reachL s1.H 200 [[1]] (namesFrom [] 0 [b, mm].length) [] = some ([[0], [1]], []) := hre0 198
 rw [hre]; simp only
 have hn0 : nodupN [[0], [1]] = true := rfl
 rw [hn0]; simp only
 have hz2 : zipN [[0], [1]] ([b, mm] ++ namesFrom s.pre s.n ([] : List Blk).length) = [([0], b), ([1], mm)] := rfl
 rw [Z7]
 show (Tr.ret ((s.pre, s.n), s)).bind _ = _
 rw [Tr.bind_ret]
 rw [hz2]
 have hlk : lookN [1] [([0], b), ([1], mm)] = some mm := rfl
 have hrb' : renBs [([0], b), ([1], mm)] [.cells [.int k0 x0, .lst l0, .lst l1, .map [1]] true 0, .map es' false] = some [.cells [.int k0 x0, .lst l0, .lst l1, .map mm] true 0, .map es' false] := by
  simp only [renBs, renB, renVs, renV, hl0, hl1, hlk, hes']
 have hmm' : hget (s.put b (.cells [.int k0 x0, .lst l0, .lst l1, .map mm] true 0)).H mm = some (.map es false) := by
  show hget (hset s.H b _) mm = _
  rw [Z0 _ _ (by rintro rfl; rw [Ze] at hbm; cases hbm)]; exact hmm
 have hz0 : ∀ mp, renBs mp [] = some [] := fun _ => rfl
 simp only [hvr, hrb', hz0, putAll, newAll, Z7, Xl, hb, hmm', Tr.bind_ret, Y4]
end
end Go.Am
namespace Go.Proofs.Ytgnpnfkncbnjnaa
attribute [local go_sem_proc] Int.reduceEq Int.reduceNeg Nat.reduceEqDiff Nat.reduceLT Nat.reduceAdd Nat.reduceSub Nat.reduceMul Int.reduceLE Int.reduceLT Int.reduceToNat Nat.reduceLeDiff
attribute [local go_sem] Int.toNat_natCast Bool.not_true Bool.not_false
open Go Go.Am
attribute [local congr] Z5 Z2 Z3
attribute [local go_sem] Go.Am.buildSliceA Go.Am.frozen Go.Am.freezeG Go.Am.freezeGs Go.Am.minmax
def aloneB (s : Nat) : Bool := Nat.beq (s &&& (s - 1)) 0
def stepC (rec : Nat -> Int × Int) (s : Nat) (x : Int × Int) (i : Nat) (t : Nat × Int) : Int × Int :=
 if s &&& t.1 = 0 then x else if restN s t.1 = 0 then x else
 if (rec (s &&& t.1)).1 < 0 then x else if (rec (restN s t.1)).1 < 0 then x else
 if x.1 < 0 then (t.2 + max (rec (s &&& t.1)).1 (rec (restN s t.1)).1, (i : Int))
 else if t.2 + max (rec (s &&& t.1)).1 (rec (restN s t.1)).1 < x.1 then (t.2 + max (rec (s &&& t.1)).1 (rec (restN s t.1)).1, (i : Int)) else x
def foldC (rec : Nat -> Int × Int) (s : Nat) : Int × Int -> Nat -> List (Nat × Int) -> Int × Int
 | x, _, [] => x
 | x, i, t :: l => foldC rec s (stepC rec s x i t) (i + 1) l
def bestF (ts : List (Nat × Int)) : Nat -> Nat -> Int × Int
 | 0, _ => (0, -1)
 | f + 1, s => if aloneB s = true then (0, -1) else foldC (bestF ts f) s (-1, -1) 0 ts
def bestS (ts : List (Nat × Int)) (s : Nat) : Int × Int := bestF ts s s
theorem Z5f {r1 r2 : Nat -> Int × Int} {s : Nat} (hs : s < 4096) (h : ∀ k, k < s -> r1 k = r2 k) (x : Int × Int) (i : Nat) (t : Nat × Int) : stepC r1 s x i t = stepC r2 s x i t := by
 unfold stepC
 split
 ·rfl
 ·split
  ·rfl
  ·rename_i h1 h2
   rw [h _ (Za9 s t.1 hs h2), h _ (Z3l s t.1 hs h1)]
theorem Z1y {r1 r2 : Nat -> Int × Int} {s : Nat} (hs : s < 4096) (h : ∀ k, k < s -> r1 k = r2 k) (l : List (Nat × Int)) : ∀ (x : Int × Int) (i : Nat), foldC r1 s x i l = foldC r2 s x i l := by
 induction l with
 | nil => intro x i; rfl
 | cons t l ih => intro x i; simp only [foldC]; rw [Z5f hs h, ih]
theorem Z6f (ts : List (Nat × Int)) : ∀ (f g s : Nat), s < 4096 -> s <= f -> s <= g -> bestF ts f s = bestF ts g s := by
 intro f
 induction f with
 | zero =>
  intro g s h1 h2 h3
  have : s = 0 := by omega
  subst this
  cases g with
  | zero => rfl
  | succ g => rfl
 | succ f ih =>
  intro g s h1 h2 h3
  cases g with
  | zero =>
   have : s = 0 := by omega
   subst this; rfl
  | succ g =>
   simp only [bestF]
   rw [Z1y h1 fun k hk => ih g k (by omega) (by omega) (by omega)]
theorem Z0b (ts : List (Nat × Int)) (s : Nat) (hs : s < 4096) : bestS ts s = if aloneB s = true then (0, -1) else foldC (bestS ts) s (-1, -1) 0 ts := by
 have h0 : bestS ts s = bestF ts (s + 1) s := Z6f ts s (s + 1) s hs (by omega) (by omega)
 rw [h0]
 simp only [bestF]
 rw [Z1y hs fun k hk => Z6f ts s k k (by omega) (by omega) (by omega)]
 rfl
def setsOf (h : Hnt) : List (Nat × Int) := h.trials.map fun t => (setN 0 t.of, t.cost)
def uV (n : Nat) : AV := .int .u64 (n : Int)
def chV (c : Int × Int) : AV := .agg [.int .i64 c.1, .int .i64 c.2]
def Memo (ts : List (Nat × Int)) (es : List (AV × AV)) : Prop := ∀ e ∈ es, ∃ k, k < 4096 /\ e = (uV k, chV (bestS ts k))
theorem Z3m : cfg.desc 191 = some (.map 158 162) := by kernel_rfl
theorem Z3n : cfg.desc 158 = some (.int .u64) := by kernel_rfl
theorem Z1z (ts : List (Nat × Int)) (m : Nat) : ∀ (es : List (AV × AV)) (i : Nat), Memo ts es -> findA (.int .u64 m) es i = some none \/ ∃ j, findA (.int .u64 m) es i = some (some (j, chV (bestS ts m))) := by
 intro es
 induction es with
 | nil => intro i _; exact .inl rfl
 | cons e es ih =>
  intro i hm
  obtain ⟨k, hk, rfl⟩ := hm e List.mem_cons_self
  have hr : Memo ts es := fun e he => hm e (List.mem_cons_of_mem _ he)
  have he : eqSame (.int .u64 m) (uV k) = some (decide ((m : Int) = (k : Int))) := rfl
  by_cases hmk : m = k
  ·subst hmk
   refine .inr ⟨i, ?_⟩
   unfold findA
   simp only [he, decide_true]
  ·have h0 : decide ((m : Int) = (k : Int)) = false := decide_eq_false (by omega)
   unfold findA
   simp only [he, h0]
   exact ih (i + 1) hr
theorem Z4j {es : List (AV × AV)} {m : Nat} {b : Nm} {s : St} (hg : hget s.H b = some (.map es false)) (hf : findA (.int .u64 m) es 0 = some none) :
  lookupA (cfg.at 103) 191 (.map b) (.int .u64 m) true s = .ret (.tuple [.agg [.int .i64 0, .int .i64 0], .bool false], s) := by
 unfold lookupA
 rw [show (cfg.at 103).desc 191 = some (.map 158 162) from Z3m]
 simp only [Z7, entriesA, Zx, hg, Tr.bind_ret, Y4]
 rw [show (cfg.at 103).desc 158 = some (.int .u64) from Z3n, show (cfg.at 103).ty = cfg.ty from rfl, Z8q]
 simp only [hf, keyKind, decide_true]
 rfl
theorem Z4k {es : List (AV × AV)} {m : Nat} {b : Nm} {s : St} {j : Nat} {v : AV} (hg : hget s.H b = some (.map es false)) (hf : findA (.int .u64 m) es 0 = some (some (j, v))) :
  lookupA (cfg.at 103) 191 (.map b) (.int .u64 m) true s = .ret (.tuple [v, .bool true], s) := by
 unfold lookupA
 rw [show (cfg.at 103).desc 191 = some (.map 158 162) from Z3m]
 simp only [Z7, entriesA, Zx, hg, Tr.bind_ret, Y4]
 rw [show (cfg.at 103).desc 158 = some (.int .u64) from Z3n, show (cfg.at 103).ty = cfg.ty from rfl, Z8q]
 simp only [hf, keyKind, decide_true]
 rfl
theorem Z5g {es : List (AV × AV)} {m : Nat} {b : Nm} {s : St} {c : Int × Int} (hg : hget s.H b = some (.map es false)) (hf : findA (.int .u64 m) es 0 = some none) :
  updateA (cfg.at 103) 191 (.map b) (.int .u64 m) (chV c) s = .ret ((), s.put b (.map (es ++ [(uV m, chV c)]) false)) := by
 unfold updateA
 rw [show (cfg.at 103).desc 191 = some (.map 158 162) from Z3m]
 simp only [Z7, Zx, hg, Tr.bind_ret]
 rw [show (cfg.at 103).desc 158 = some (.int .u64) from Z3n]
 simp only [hf, keyKind, decide_true]
 show putM b _ s = _
 rw [Xl, hg]
 rfl
theorem Z5h {es : List (AV × AV)} {m j : Nat} {v : AV} {b : Nm} {s : St} {c : Int × Int} (hg : hget s.H b = some (.map es false)) (hf : findA (.int .u64 m) es 0 = some (some (j, v))) :
  updateA (cfg.at 103) 191 (.map b) (.int .u64 m) (chV c) s = .ret ((), s.put b (.map (setNth es j (uV m, chV c)) false)) := by
 unfold updateA
 rw [show (cfg.at 103).desc 191 = some (.map 158 162) from Z3m]
 simp only [Z7, Zx, hg, Tr.bind_ret]
 rw [show (cfg.at 103).desc 158 = some (.int .u64) from Z3n]
 simp only [hf, keyKind, decide_true]
 show putM b _ s = _
 rw [Xl, hg]
 rfl
theorem Zaa {ts : List (Nat × Int)} {m : Nat} (hm : m < 4096) : ∀ {es : List (AV × AV)} (j : Nat), Memo ts es -> Memo ts (setNth es j (uV m, chV (bestS ts m))) := by
 intro es
 induction es with
 | nil => intro j h; cases j <;> exact h
 | cons e es ih =>
  intro j h
  have hr : Memo ts es := fun e he => h e (List.mem_cons_of_mem _ he)
  cases j with
  | zero =>
   intro a ha
   rcases List.mem_cons.1 ha with rfl | ha
   ·exact ⟨m, hm, rfl⟩
   ·exact hr a ha
  | succ j =>
   intro a ha
   rcases List.mem_cons.1 ha with rfl | ha
   ·exact h _ List.mem_cons_self
   ·exact ih j hr a ha
theorem Zab {ts : List (Nat × Int)} {m : Nat} (hm : m < 4096) {es : List (AV × AV)} (h : Memo ts es) : Memo ts (es ++ [(uV m, chV (bestS ts m))]) := by
 intro a ha
 rcases List.mem_append.1 ha with ha | ha
 ·exact h a ha
 ·rcases List.mem_cons.1 ha with rfl | ha
  ·exact ⟨m, hm, rfl⟩
  ·cases ha
theorem Z20 {ts : List (Nat × Int)} {es : List (AV × AV)} {m : Nat} (hm : m < 4096) (h : Memo ts es) : ∃ es', Memo ts es' /\ ∀ (b : Nm) (s : St), hget s.H b = some (.map es false) ->
  updateA (cfg.at 103) 191 (.map b) (.int .u64 m) (chV (bestS ts m)) s = .ret ((), s.put b (.map es' false)) := by
 rcases Z1z ts m es 0 h with hf | ⟨j, hf⟩
 ·exact ⟨_, Zab hm h, fun b s hg => Z5g hg hf⟩
 ·exact ⟨_, Zaa hm j h, fun b s hg => Z5h hg hf⟩
theorem Z73 {rec : Nat -> Int × Int} {m : Nat} (hm : m < 4096) (hr : ∀ k, k < m -> -1 <= (rec k).1 /\ (rec k).1 <= 1000 * k) {x : Int × Int} (hx : -1 <= x.1 /\ x.1 <= 1000 * m) (i : Nat) {t : Nat × Int} (ht : 0 <= t.2 /\ t.2 <= 1000) :
  -1 <= (stepC rec m x i t).1 /\ (stepC rec m x i t).1 <= 1000 * m := by
 unfold stepC
 split
 ·exact hx
 ·split
  ·exact hx
  ·rename_i h1 h2
   have i1 := Za9 m t.1 hm h2
   have i2 := Z3l m t.1 hm h1
   have r1 := hr _ i1
   have r2 := hr _ i2
   generalize m &&& t.1 = I at *
   generalize restN m t.1 = R at *
   split
   ·exact hx
   ·split
    ·exact hx
    ·split
     ·simp only; omega
     ·split
      ·simp only; omega
      ·exact hx
theorem Z74 {rec : Nat -> Int × Int} {m : Nat} (hm : m < 4096) (hr : ∀ k, k < m -> -1 <= (rec k).1 /\ (rec k).1 <= 1000 * k) (l : List (Nat × Int)) (hl : ∀ t ∈ l, 0 <= t.2 /\ t.2 <= 1000) :
  ∀ (x : Int × Int) (i : Nat), -1 <= x.1 /\ x.1 <= 1000 * m -> -1 <= (foldC rec m x i l).1 /\ (foldC rec m x i l).1 <= 1000 * m := by
 induction l with
 | nil => intro x i hx; exact hx
 | cons t l ih => intro x i hx; exact ih (fun t ht => hl t (List.mem_cons_of_mem _ ht)) _ _ (Z73 hm hr hx i (hl t List.mem_cons_self))
theorem Z2v (ts : List (Nat × Int)) (hl : ∀ t ∈ ts, 0 <= t.2 /\ t.2 <= 1000) : ∀ m, m < 4096 -> -1 <= (bestS ts m).1 /\ (bestS ts m).1 <= 1000 * m := by
 intro m
 induction m using Nat.strongRecOn with
 | ind m ih =>
 intro hm
 rw [Z0b ts m hm]
 split
 ·simp only; omega
 ·exact Z74 hm (fun k hk => ih k hk (by omega)) ts hl _ _ (by simp only; omega)
theorem Z90 (many : Int) : ∀ (l : List Tri), trialsE many l = 0 -> ∀ t ∈ l, suspE many (-1) t.of = 0 /\ 0 <= t.cost /\ t.cost <= 1000 := by
 intro l
 induction l with
 | nil => intro _ t ht; cases ht
 | cons a l ih =>
  intro h t ht
  simp only [trialsE] at h
  by_cases c1 : suspE many (-1) a.of = 0
  ·rw [if_pos c1] at h
   by_cases c2 : fromB a.cost 0 1000 = true
   ·rw [if_pos c2] at h
    rcases List.mem_cons.1 ht with rfl | ht
    ·unfold fromB at c2
     exact ⟨c1, of_decide_eq_true c2⟩
    ·exact ih h t ht
   ·rw [if_neg c2] at h; cases h
  ·rw [if_neg c1] at h; exact absurd h c1
theorem Zap (many : Int) (h2 : many <= 12) : ∀ (l : List Int) (last : Int) (s : Nat), s < 4096 -> suspE many last l = 0 -> setN s l < 4096 := by
 intro l
 induction l with
 | nil => intro _ s hs _; exact hs
 | cons n l ih =>
  intro last s hs he
  simp only [suspE] at he
  by_cases c1 : fromB n 0 (many - 1) = true
  ·rw [if_pos c1] at he
   unfold fromB at c1
   have c1' := of_decide_eq_true c1
   by_cases c2 : n <= last
   ·rw [if_pos c2] at he; cases he
   ·rw [if_neg c2] at he
    exact ih n _ (Z5c _ _ hs (Z6e n (by omega))) he
  ·rw [if_neg c1] at he; cases he
theorem Z21 {h : Hnt} (hh : huntE h = 0) : 1 <= h.suspects /\ h.suspects <= 12 /\ h.trials.length <= 12 /\ ∀ t ∈ h.trials, suspE h.suspects (-1) t.of = 0 /\ 0 <= t.cost /\ t.cost <= 1000 := by
 unfold huntE at hh
 by_cases c1 : fromB h.suspects 1 12 = true
 ·rw [if_pos c1] at hh
  unfold fromB at c1
  have c1' := of_decide_eq_true c1
  by_cases c2 : 12 < h.trials.length
  ·rw [if_pos c2] at hh; cases hh
  ·rw [if_neg c2] at hh
   exact ⟨c1'.1, c1'.2, by omega, Z90 _ _ hh⟩
 ·rw [if_neg c1] at hh; cases hh
theorem Zbk {h : Hnt} (hh : huntE h = 0) : ∀ t ∈ setsOf h, t.1 < 4096 /\ 0 <= t.2 /\ t.2 <= 1000 := by
 intro t ht
 obtain ⟨a, ha, rfl⟩ := List.mem_map.1 ht
 obtain ⟨h1, h2, h3, h4⟩ := Z21 hh
 have := h4 a ha
 exact ⟨Zap h.suspects h2 a.of (-1) 0 (by omega) this.1, this.2⟩
theorem Je {m : Nat} (h1 : 1 <= m) (h2 : m < 4096) : onesN m = 1 ↔ aloneB m = true := by
 have h := Z8x h1 h2
 unfold oneOk at h
 have h3 := eq_of_beq h
 have h4 : aloneB m = Nat.beq (Nat.land m (m - 1)) 0 := rfl
 rw [h4, <- h3]
 rw [Int.beq'_eq_beq]
 exact beq_iff_eq.symm
theorem Yk {ts : List (Nat × Int)} : ∀ {es : List (AV × AV)}, Memo ts es -> flatE es = true := by
 intro es
 induction es with
 | nil => intro _; rfl
 | cons e es ih =>
  intro h
  obtain ⟨k, _, rfl⟩ := h e List.mem_cons_self
  exact ih fun e he => h e (List.mem_cons_of_mem _ he)
theorem Z91 (h : Hnt) (hh : huntE h = 0) (hl : h.trials.length <= 12) : ∀ (m : Nat), 1 <= m -> m < 4096 -> ∀ (K : Nat) (s : St) (b mm : Nm) (ov : AV) (es : List (AV × AV)), 20 < K -> eqb mm b = false -> (ov = .lst ((setsOf h).map fun t => uV t.1) \/ ∃ t, ov = .own t ((setsOf h).map fun t => uV t.1) /\ eqb t b = false /\ eqb t mm = false) ->
  hget s.H b = some (.cells [.int .i64 h.suspects, .lst (h.trials.map triV), ov, .map mm] true 0) -> hget s.H mm = some (.map es false) -> Memo (setsOf h) es ->
  ∃ es', Memo (setsOf h) es' /\ flatE es' = true /\ acall cfg (K + m + 1) 103 [.ptr b 0, .int .u64 m] s = .ret (chV (bestS (setsOf h) m), (s.put b (.cells [.int .i64 h.suspects, .lst (h.trials.map triV), .lst ((setsOf h).map fun t => uV t.1), .map mm] true 0)).put mm (.map es' false)) := by
 intro m
 induction m using Nat.strongRecOn with
 | ind m ih =>
 intro h1 h2 K s b mm ov es hK hbm ho hb hmm hme
 obtain ⟨hs1, hs2, hlen, htr⟩ := Z21 hh
 have hsets := Zbk hh
 refine Z8z Z8u Z8t hbm ho (Z2t _) (Zl (f := fun t : Nat × Int => uV t.1) (fun _ => rfl) _) (Yk hme) hb hmm (fun _ => rfl) (fun _ => rfl) ?_
 refine Zp rfl fun T hT' hA => ?_
 have a0 := hA 0 _ rfl
 have a1 := hA 1 _ rfl
 have hT : T.length = 102 := hT'
 clear hA hT'
 have hc := fun s => Z4i m (K + m - 2) s
 rw [show K + m - 2 + 2 = K + m by omega] at hc
 have hbs := Z0b (setsOf h) m h2
 simp -implicitDefEqProofs only [go_sem, a1, hT, hc]
 by_cases c1 : onesN m = 1
 ·rw [if_pos ((Je h1 h2).1 c1)] at hbs
  simp -implicitDefEqProofs only [go_sem, hT, c1, Try.results103]
  exact ⟨by rw [hbs]; rfl, trivial, es, rfl, Yk hme, hme⟩
 ·rw [if_neg (fun c => c1 ((Je h1 h2).2 c))] at hbs
  rcases Z1z (setsOf h) m es 0 hme with hf | ⟨j, hf⟩
  ·have hlk := fun (H : Heap) (n : Nat) (hg : hget H [1] = some (.map es false)) => Z4j (b := [1]) (s := ⟨H, n, [], false, []⟩) hg hf
   simp -implicitDefEqProofs only [go_sem, a0, a1, hT, c1, hlk]
   generalize hrow : (setsOf h).map (fun t => uV t.1) = row at *
   have hsl : (setsOf h).length = h.trials.length := by simp [setsOf]
   have hrl : row.length = h.trials.length := by rw [<- hrow]; simp [setsOf]
   simp only [Za]
   refine X3 (fun k T s' => T.length = 102 /\ nth T 0 = some (.ptr [0] 0) /\ nth T 1 = some (.int .u64 m) /\ nth T 4 = some (.ptr [2] 0) /\ nth T 7 = some (.ptr [4] 0) /\ nth T 34 = some (.lst row) /\ nth T 35 = some (.int .i64 h.trials.length) /\ ∃ (i n : Nat) (x : Int × Int) (es : List (AV × AV)) (H : Heap) (c2 : List AV), s' = ⟨H, n + 5, [], false, []⟩ /\ nth T 36 = some (.int .i64 i) /\ i <= h.trials.length /\ k = h.trials.length - i /\
    hget H [0] = some (.cells [.int .i64 h.suspects, .lst (h.trials.map triV), .lst row, .map [1]] true 0) /\ hget H [1] = some (.map es false) /\ hget H [2] = some (.cells [.int .i64 0, .int .i64 0] true 0) /\ hget H [4] = some (.cells [.int .i64 x.1, .int .i64 x.2] true 0) /\ Memo (setsOf h) es /\ -1 <= x.1 /\ x.1 <= 1000 * m /\
    bestS (setsOf h) m = foldC (bestS (setsOf h)) m x i ((setsOf h).drop i)) (k := h.trials.length) (by omega) ?_ ?_
   ·exact ⟨by simp -implicitDefEqProofs only [go_sem, hT], by simp -implicitDefEqProofs only [go_sem, a0], by simp -implicitDefEqProofs only [go_sem, a1], by simp -implicitDefEqProofs only [go_sem, hT], by simp -implicitDefEqProofs only [go_sem, hT], by simp -implicitDefEqProofs only [go_sem, hT], by simp -implicitDefEqProofs only [go_sem, hT, hsl], 0, 0, (-1, -1), es, _, [], rfl, by simp -implicitDefEqProofs only [go_sem, hT]; rfl, by omega, by omega, rfl, rfl, rfl, rfl, hme, by simp only; omega, by simp only; omega, hbs⟩
   clear a0 a1 hT hlk hf hme
   rintro k T s' ⟨hT, a0, a1, a4, a7, a34, a35, i, n, x, es, H, _, rfl, a36, hi, rfl, g0, g1, g2, g4, hme, hx1, hx2, he⟩
   simp -implicitDefEqProofs only [go_sem, a35, a36, hT]
   simp only [Za]
   refine Js (fun hlt0 => ?_) (fun hlt0 => ?_)
   ·have hlt : i < h.trials.length := by omega
    have hli : i < (setsOf h).length := by simp [setsOf]; omega
    have hk1 : h.trials.length - (i + 1) < h.trials.length - i := by omega
    have hz0 : ∀ k : Nat, k = 0 -> (k : Int) = 0 := fun k hk => by omega
    have hz1 : ∀ k : Nat, ¬ k = 0 -> ¬ (k : Int) = 0 := fun k hk => by omega
    have hn1 : ∀ k : Nat, (k + 1 = k) = False := fun k => by simp
    have hw1 : wrapF .i64 ((i : Int) + 1) = ((i + 1 : Nat) : Int) := by rw [Zk (by omega) (by omega)]; simp
    have hel : elemAt 1 (i : Int) row = some (.fptr (uV (setsOf h)[i].1).cells 0) := by rw [<- hrow]; exact Yp (f := fun t : Nat × Int => uV t.1) (z := 1) hli rfl
    have hel2 := Yp (f := triV) (z := 2) hlt rfl
    have hsi : (setsOf h)[i].2 = h.trials[i].cost := by simp [setsOf]
    rw [List.drop_eq_getElem_cons hli] at he
    simp only [foldC, stepC] at he
    rw [hsi] at he
    obtain ⟨ho4, hc0, hc1⟩ := hsets _ (List.getElem_mem hli)
    rw [hsi] at hc0 hc1
    generalize (setsOf h)[i].1 = o at *
    have hand : wrapF .u64 ((Nat.land (ib .u64 (m : Int)) (ib .u64 (o : Int)) : Nat) : Int) = ((m &&& o : Nat) : Int) := by rw [ib_u m h2, ib_u o ho4]; exact wr_u _ (Z6d m o h2)
    have hrest : wrapF .u64 ((Nat.land (ib .u64 (m : Int)) (Nat.xor (ib .u64 (o : Int)) (ones .u64)) : Nat) : Int) = ((restN m o : Nat) : Int) := by
     rw [ib_u m h2, ib_u o ho4]
     have : Nat.land m (Nat.xor o (ones .u64)) = restN m o := Zbj m o h2
     rw [this]; exact wr_u _ (Nat.lt_of_le_of_lt (Z5e m o) h2)
    have hI := Za9 m o h2
    have hR := Z3l m o h2
    generalize m &&& o = I at *
    generalize restN m o = R at *
    simp only [uV] at hel
    simp -implicitDefEqProofs only [go_sem, a1, a34, a36, hT, hel, hand, hrest]
    by_cases d1 : I = 0
    ·have d1' : (I : Int) = 0 := hz0 _ d1
     rw [if_pos d1] at he
     simp -implicitDefEqProofs only [go_sem, a0, a1, a4, a7, a34, a35, a36, hT, d1', hw1]
     exact ⟨h.trials.length - (i + 1), hk1, trivial, trivial, trivial, trivial, trivial, trivial, trivial, i + 1, n, x, es, H, [], rfl, rfl, hlt, rfl, g0, g1, g2, g4, hme, hx1, hx2, he⟩
    ·have d1' : ¬ (I : Int) = 0 := hz1 _ d1
     rw [if_neg d1] at he
     by_cases d2 : R = 0
     ·have d2' : (R : Int) = 0 := hz0 _ d2
      rw [if_pos d2] at he
      simp -implicitDefEqProofs only [go_sem, a0, a1, a4, a7, a34, a35, a36, hT, d1', d2', hw1]
      exact ⟨h.trials.length - (i + 1), hk1, trivial, trivial, trivial, trivial, trivial, trivial, trivial, i + 1, n, x, es, H, [], rfl, rfl, hlt, rfl, g0, g1, g2, g4, hme, hx1, hx2, he⟩
     ·have d2' : ¬ (R : Int) = 0 := hz1 _ d2
      rw [if_neg d2] at he
      have hI1 := hI d2
      have hR1 := hR d1
      simp -implicitDefEqProofs only [go_sem, a0, hT, d1', d2']
      clear hand hrest
      obtain ⟨es1, hme1, _, e1⟩ := ih I hI1 (by omega) (by omega) (K + m - I - 1) ⟨H, n + 5, [], false, []⟩ [0] [1] (.lst row) es (by omega) rfl (.inl rfl) g0 g1 hme
      rw [show K + m - I - 1 + I + 1 = K + m by omega] at e1
      obtain ⟨H1, rfl, q0, q1, q2, q4⟩ : ∃ H1, H1 = hset (hset H [0] (.cells [.int .i64 h.suspects, .lst (h.trials.map triV), .lst row, .map [1]] true 0)) [1] (.map es1 false) /\ hget H1 [0] = some (.cells [.int .i64 h.suspects, .lst (h.trials.map triV), .lst row, .map [1]] true 0) /\ hget H1 [1] = some (.map es1 false) /\ hget H1 [2] = some (.cells [.int .i64 0, .int .i64 0] true 0) /\ hget H1 [4] = some (.cells [.int .i64 x.1, .int .i64 x.2] true 0) := by
       refine ⟨_, rfl, ?_, ?_, ?_, ?_⟩
       ·rw [Z0 _ _ (by decide), Z4 _ g0]
       ·exact Z4 (x := .map es false) _ (by rw [Z0 _ _ (by decide)]; exact g1)
       ·rw [Z0 _ _ (by decide), Z0 _ _ (by decide)]; exact g2
       ·rw [Z0 _ _ (by decide), Z0 _ _ (by decide)]; exact g4
      have e1' : acall cfg (K + m) 103 [.ptr [0] 0, .int .u64 I] ⟨H, n + 5, [], false, []⟩ = .ret (chV (bestS (setsOf h) I), ⟨hset (hset H [0] (.cells [.int .i64 h.suspects, .lst (h.trials.map triV), .lst row, .map [1]] true 0)) [1] (.map es1 false), n + 5, [], false, []⟩) := e1
      generalize hset (hset H [0] (.cells [.int .i64 h.suspects, .lst (h.trials.map triV), .lst row, .map [1]] true 0)) [1] (.map es1 false) = H1 at *
      obtain ⟨es2, hme2, _, e2⟩ := ih R hR1 (by omega) (by omega) (K + m - R - 1) ⟨H1, n + 5, [], false, []⟩ [0] [1] (.lst row) es1 (by omega) rfl (.inl rfl) q0 q1 hme1
      rw [show K + m - R - 1 + R + 1 = K + m by omega] at e2
      obtain ⟨H2, hH2, r0, r1, r2, r4⟩ : ∃ H2, H2 = hset (hset H1 [0] (.cells [.int .i64 h.suspects, .lst (h.trials.map triV), .lst row, .map [1]] true 0)) [1] (.map es2 false) /\ hget H2 [0] = some (.cells [.int .i64 h.suspects, .lst (h.trials.map triV), .lst row, .map [1]] true 0) /\ hget H2 [1] = some (.map es2 false) /\ hget H2 [2] = some (.cells [.int .i64 0, .int .i64 0] true 0) /\ hget H2 [4] = some (.cells [.int .i64 x.1, .int .i64 x.2] true 0) := by
       refine ⟨_, rfl, ?_, ?_, ?_, ?_⟩
       ·rw [Z0 _ _ (by decide), Z4 _ q0]
       ·exact Z4 (x := .map es1 false) _ (by rw [Z0 _ _ (by decide)]; exact q1)
       ·rw [Z0 _ _ (by decide), Z0 _ _ (by decide)]; exact q2
       ·rw [Z0 _ _ (by decide), Z0 _ _ (by decide)]; exact q4
      have e2' : acall cfg (K + m) 103 [.ptr [0] 0, .int .u64 R] ⟨H1, n + 5, [], false, []⟩ = .ret (chV (bestS (setsOf h) R), ⟨H2, n + 5, [], false, []⟩) := by rw [hH2]; exact e2
      clear hH2 e1 e2
      have rI := Z2v (setsOf h) (fun t ht => (hsets t ht).2) I (by omega)
      have rR := Z2v (setsOf h) (fun t ht => (hsets t ht).2) R (by omega)
      simp only [chV] at e1' e2'
      generalize bestS (setsOf h) I = A at *
      generalize bestS (setsOf h) R = B at *
      simp -implicitDefEqProofs only [go_sem, a0, hT, e1', e2', hn1]
      clear e1' e2' hel
      have L0 : ∀ X Y, hget (([n + 5 + 1], X) :: ([n + 5], Y) :: H2) [0] = some (.cells [.int .i64 h.suspects, .lst (h.trials.map triV), .lst row, .map [1]] true 0) := fun X Y => by simp -implicitDefEqProofs only [go_sem, r0]
      have L1 : ∀ X Y, hget (([n + 5 + 1], X) :: ([n + 5], Y) :: H2) [1] = some (.map es2 false) := fun X Y => by simp -implicitDefEqProofs only [go_sem, r1]
      have L2 : ∀ X Y, hget (([n + 5 + 1], X) :: ([n + 5], Y) :: H2) [2] = some (.cells [.int .i64 0, .int .i64 0] true 0) := fun X Y => by simp -implicitDefEqProofs only [go_sem, r2]
      have L4 : ∀ X Y, hget (([n + 5 + 1], X) :: ([n + 5], Y) :: H2) [4] = some (.cells [.int .i64 x.1, .int .i64 x.2] true 0) := fun X Y => by simp -implicitDefEqProofs only [go_sem, r4]
      have P0 : ∀ X Y Z, hget (([n + 5 + 1], X) :: ([n + 5], Y) :: hset H2 [4] Z) [0] = some (.cells [.int .i64 h.suspects, .lst (h.trials.map triV), .lst row, .map [1]] true 0) := fun X Y Z => by simp -implicitDefEqProofs only [go_sem]; rw [Z0 _ _ (by decide)]; exact r0
      have P1 : ∀ X Y Z, hget (([n + 5 + 1], X) :: ([n + 5], Y) :: hset H2 [4] Z) [1] = some (.map es2 false) := fun X Y Z => by simp -implicitDefEqProofs only [go_sem]; rw [Z0 _ _ (by decide)]; exact r1
      have P2 : ∀ X Y Z, hget (([n + 5 + 1], X) :: ([n + 5], Y) :: hset H2 [4] Z) [2] = some (.cells [.int .i64 0, .int .i64 0] true 0) := fun X Y Z => by simp -implicitDefEqProofs only [go_sem]; rw [Z0 _ _ (by decide)]; exact r2
      have P4 : ∀ X Y Z, hget (([n + 5 + 1], X) :: ([n + 5], Y) :: hset H2 [4] Z) [4] = some Z := fun X Y Z => by simp -implicitDefEqProofs only [go_sem]; exact Z4 _ r4
      by_cases f1 : A.1 < 0
      ·rw [if_pos f1] at he
       simp -implicitDefEqProofs only [go_sem, a0, a1, a4, a7, a34, a35, a36, hT, f1, hn1, hw1]
       exact ⟨h.trials.length - (i + 1), hk1, trivial, trivial, trivial, trivial, trivial, trivial, trivial, i + 1, n + 2, x, es2, _, [], rfl, rfl, hlt, rfl, L0 _ _, L1 _ _, L2 _ _, L4 _ _, hme2, hx1, hx2, he⟩
      ·rw [if_neg f1] at he
       by_cases f2 : B.1 < 0
       ·rw [if_pos f2] at he
        simp -implicitDefEqProofs only [go_sem, a0, a1, a4, a7, a34, a35, a36, hT, f1, f2, hn1, hw1]
        exact ⟨h.trials.length - (i + 1), hk1, trivial, trivial, trivial, trivial, trivial, trivial, trivial, i + 1, n + 2, x, es2, _, [], rfl, rfl, hlt, rfl, L0 _ _, L1 _ _, L2 _ _, L4 _ _, hme2, hx1, hx2, he⟩
       ·rw [if_neg f2] at he
        simp -implicitDefEqProofs only [go_sem, hT, f1, f2]
        simp only [Za]
        refine J1 [] [] (by kernel_rfl) ?_
        rw [Za8] at he
        have hwA : wrapF .i64 (h.trials[i].cost + A.1) = h.trials[i].cost + A.1 := Zk (by omega) (by omega)
        have hwB : wrapF .i64 (h.trials[i].cost + B.1) = h.trials[i].cost + B.1 := Zk (by omega) (by omega)
        by_cases f3 : A.1 < B.1
        ·rw [if_pos f3] at he
         by_cases f4 : x.1 < 0
         ·rw [if_pos f4] at he
          simp -implicitDefEqProofs only [redoH, go_sem, a0, a1, a4, a7, a34, a35, a36, hT, r0, r4, f3, hn1, hel2, hwB, f4, hw1]
          exact ⟨h.trials.length - (i + 1), hk1, trivial, trivial, trivial, trivial, trivial, trivial, trivial, i + 1, n + 3, (h.trials[i].cost + B.1, (i : Int)), es2, _, [], rfl, rfl, hlt, rfl, P0 _ _ _, P1 _ _ _, P2 _ _ _, P4 _ _ _, hme2, by simp only; omega, by simp only; omega, he⟩
         ·rw [if_neg f4] at he
          by_cases f5 : h.trials[i].cost + B.1 < x.1
          ·rw [if_pos f5] at he
           simp -implicitDefEqProofs only [redoH, go_sem, a0, a1, a4, a7, a34, a35, a36, hT, r0, r4, f3, hn1, hel2, hwB, f4, f5, hw1]
           exact ⟨h.trials.length - (i + 1), hk1, trivial, trivial, trivial, trivial, trivial, trivial, trivial, i + 1, n + 3, (h.trials[i].cost + B.1, (i : Int)), es2, _, [], rfl, rfl, hlt, rfl, P0 _ _ _, P1 _ _ _, P2 _ _ _, P4 _ _ _, hme2, by simp only; omega, by simp only; omega, he⟩
          ·rw [if_neg f5] at he
           simp -implicitDefEqProofs only [redoH, go_sem, a0, a1, a4, a7, a34, a35, a36, hT, r0, r4, f3, hn1, hel2, hwB, f4, f5, hw1]
           exact ⟨h.trials.length - (i + 1), hk1, trivial, trivial, trivial, trivial, trivial, trivial, trivial, i + 1, n + 3, x, es2, _, [], rfl, rfl, hlt, rfl, L0 _ _, L1 _ _, L2 _ _, L4 _ _, hme2, hx1, hx2, he⟩
        ·rw [if_neg f3] at he
         by_cases f4 : x.1 < 0
         ·rw [if_pos f4] at he
          simp -implicitDefEqProofs only [redoH, go_sem, a0, a1, a4, a7, a34, a35, a36, hT, r0, r4, f3, hn1, hel2, hwA, f4, hw1]
          exact ⟨h.trials.length - (i + 1), hk1, trivial, trivial, trivial, trivial, trivial, trivial, trivial, i + 1, n + 3, (h.trials[i].cost + A.1, (i : Int)), es2, _, [], rfl, rfl, hlt, rfl, P0 _ _ _, P1 _ _ _, P2 _ _ _, P4 _ _ _, hme2, by simp only; omega, by simp only; omega, he⟩
         ·rw [if_neg f4] at he
          by_cases f5 : h.trials[i].cost + A.1 < x.1
          ·rw [if_pos f5] at he
           simp -implicitDefEqProofs only [redoH, go_sem, a0, a1, a4, a7, a34, a35, a36, hT, r0, r4, f3, hn1, hel2, hwA, f4, f5, hw1]
           exact ⟨h.trials.length - (i + 1), hk1, trivial, trivial, trivial, trivial, trivial, trivial, trivial, i + 1, n + 3, (h.trials[i].cost + A.1, (i : Int)), es2, _, [], rfl, rfl, hlt, rfl, P0 _ _ _, P1 _ _ _, P2 _ _ _, P4 _ _ _, hme2, by simp only; omega, by simp only; omega, he⟩
          ·rw [if_neg f5] at he
           simp -implicitDefEqProofs only [redoH, go_sem, a0, a1, a4, a7, a34, a35, a36, hT, r0, r4, f3, hn1, hel2, hwA, f4, f5, hw1]
           exact ⟨h.trials.length - (i + 1), hk1, trivial, trivial, trivial, trivial, trivial, trivial, trivial, i + 1, n + 3, x, es2, _, [], rfl, rfl, hlt, rfl, L0 _ _, L1 _ _, L2 _ _, L4 _ _, hme2, hx1, hx2, he⟩
   ·have hil : i = h.trials.length := by omega
    subst hil
    rw [<- hsl, List.drop_length] at he
    simp only [foldC] at he
    obtain ⟨es', hme', hu⟩ := Z20 h2 hme
    rw [he] at hu ⊢
    have hu' := hu [1] ⟨H, 0, [n + 5, 6], true, []⟩ g1
    simp only [chV] at hu'
    simp -implicitDefEqProofs only [go_sem]
    simp only [Za]
    refine J1 [6] [6] (by kernel_rfl) ?_
    simp -implicitDefEqProofs only [redoH, redo1, go_sem, a0, a1, a7, hT, g0, g1, g4, hu', Try.results103]
    have v0 := (Z0 H (i := [1]) (j := [0]) (.map es' false) (by decide)).trans g0
    have v1 := Z4 (.map es' false) g1
    have v2 := (Z0 H (i := [1]) (j := [2]) (.map es' false) (by decide)).trans g2
    have v4 := (Z0 H (i := [1]) (j := [4]) (.map es' false) (by decide)).trans g4
    generalize hset H [1] (.map es' false) = H' at *
    have z0 := fun Z => (Z0 H' (i := [2]) (j := [0]) Z (by decide)).trans v0
    have z1 := fun Z => (Z0 H' (i := [2]) (j := [1]) Z (by decide)).trans v1
    have z2 := fun Z => Z4 Z v2
    simp -implicitDefEqProofs only [go_sem, a4, hT, v2, v4, z0, z1, z2]
    exact ⟨rfl, trivial, es', rfl, Yk hme', hme'⟩
  ·have hlk := fun (H : Heap) (n : Nat) (hg : hget H [1] = some (.map es false)) => Z4k (b := [1]) (s := ⟨H, n, [], false, []⟩) hg hf
   simp only [chV] at hlk
   simp -implicitDefEqProofs only [go_sem, a0, a1, hT, c1, hlk, Try.results103]
   exact ⟨rfl, trivial, es, rfl, Yk hme, hme⟩
end Go.Proofs.Ytgnpnfkncbnjnaa
namespace Go.Am
open Go
noncomputable section
section
variable (C : Cfg) (call : FuncId -> List AV -> M AV) (rnd : Nm -> List AV -> M AV)
def drawH (ops : List Oper) (s : St) (B : List (List Nat)) (WS : List Nat) : Nat -> List Oper -> List AV -> List Delta -> Tr (List AV × List Delta)
 | _, [], T, ds => .ret (T, ds)
 | i, o :: r, T, ds => match wantedA ops T o with
  | true => (opA C call rnd T o (opSt s i (overlay s.H ((nth B i).getD []) 0 ds))).bind fun x => match memN i WS with
   | true => drawH ops s B WS (i + 1) r (putT T o.dst x.1) (ds ++ [x.2.j])
   | false => (match oldIds (s.pre ++ [s.n, i]) x.2.j with
    | [] => drawH ops s B WS (i + 1) r (putT T o.dst x.1) (ds ++ [x.2.j])
    | _ :: _ => .fail)
  | false => drawH ops s B WS (i + 1) r (putT T o.dst .undef) (ds ++ [[]])
end
section
variable {C : Cfg} {call : FuncId -> List AV -> M AV} {rnd : Nm -> List AV -> M AV}
theorem Z22 (s : St) : ∀ (ds : List Delta) (d : Delta) (i : Nat), olds s i (ds ++ [d]) = olds s i ds ++ [oldIds (s.pre ++ [s.n, i + ds.length]) d]
 | [], d, i => rfl
 | e :: r, d, i => by
  simp only [List.cons_append, olds, Z22 s r d (i + 1), List.length_cons]
  rw [show i + 1 + r.length = i + (r.length + 1) by omega]
@[go_sem] theorem Zl4 (ops : List Oper) (s : St) (B : List (List Nat)) (WS : List Nat) (i : Nat) (T : List AV) (ds : List Delta) : drawH C call rnd ops s B WS i [] T ds = .ret (T, ds) := rfl
end
def dhK (C : Cfg) (call : FuncId -> List AV -> M AV) (rnd : Nm -> List AV -> M AV) (ops : List Oper) (s : St) (B : List (List Nat)) (WS : List Nat) (i : Nat) (d : Option Tmp) (r : List Oper) (T : List AV) (ds : List Delta) (x : AV × St) : Tr (List AV × List Delta) := match memN i WS with
 | true => drawH C call rnd ops s B WS (i + 1) r (putT T d x.1) (ds ++ [x.2.j])
 | false => (match oldIds (s.pre ++ [s.n, i]) x.2.j with
  | [] => drawH C call rnd ops s B WS (i + 1) r (putT T d x.1) (ds ++ [x.2.j])
  | _ :: _ => .fail)
section
variable {C : Cfg} {call : FuncId -> List AV -> M AV} {rnd : Nm -> List AV -> M AV}
@[go_sem] theorem Zi2 (ops : List Oper) (s : St) (B : List (List Nat)) (WS : List Nat) (i : Nat) (d : Option Tmp) (r : List Oper) (T : List AV) (ds : List Delta) (v : AV) (s1 : St) : dhK C call rnd ops s B WS i d r T ds (v, s1) = match memN i WS with
 | true => drawH C call rnd ops s B WS (i + 1) r (putT T d v) (ds ++ [s1.j])
 | false => (match oldIds (s.pre ++ [s.n, i]) s1.j with
  | [] => drawH C call rnd ops s B WS (i + 1) r (putT T d v) (ds ++ [s1.j])
  | _ :: _ => .fail) := rfl
@[go_sem] theorem Zi3 (ops : List Oper) (s : St) (B : List (List Nat)) (WS : List Nat) (i : Nat) (o : Oper) (r : List Oper) (T : List AV) (ds : List Delta) : drawH C call rnd ops s B WS i (o :: r) T ds = match wantedA ops T o with
  | true => (opA C call rnd T o (opSt s i (overlay s.H ((nth B i).getD []) 0 ds))).bind (dhK C call rnd ops s B WS i o.dst r T ds)
  | false => drawH C call rnd ops s B WS (i + 1) r (putT T o.dst .undef) (ds ++ [[]]) := rfl
@[go_sem] theorem Zbz (p : Nm) : oldIds p [] = [] := rfl
attribute [go_sem] overlay allD Option.getD_some
end
end
end Go.Am
namespace Go.Proofs.Ytgnpnfkncbnjnaa
open Go Go.Am
attribute [local congr] Z5 Z2 Z3
attribute [local go_sem] Go.Am.buildSliceA Go.Am.frozen Go.Am.freezeG Go.Am.freezeGs Go.Am.minmax
end Go.Proofs.Ytgnpnfkncbnjnaa
namespace Go.Am
open Go
section
variable {C : Cfg} {K : Nat}
theorem Z5i {f : FuncId} {fn : Func} {args : List AV} {k0 : IntKind} {x0 : Int} {l0 l1 : List AV} {n1 z1 : Nat} {s : St} {es : List (AV × AV)} (hm : C.mode.get f = some 3) (hf : C.fn.get f = some fn) (hn : namesVs false args [] = []) (hr : renVs [] args = some args)
  (hl0 : flats l0 = true) (hl1 : flats l1 = true) (hes : flatE es = true)
  (hd : (bodyA (C.at f) (acall C K) (around C K) (K + 1) fn args s0).Does fun x => ∃ b t mm, x.1 = .ptr b 0 /\ eqb t b = false /\ eqb mm b = false /\ eqb mm t = false /\ hget x.2.H b = some (.cells [.int k0 x0, .lst l0, .own t l1, .map mm] true 0) /\ hget x.2.H t = some (.tok n1 z1) /\ hget x.2.H mm = some (.map es false)) :
  acall C (K + 1) f args s = .ret (.ptr (s.pre ++ [s.n]) 0, ((s.new (.cells [.int k0 x0, .lst l0, .own (s.pre ++ [s.n + 1]) l1, .map (s.pre ++ [s.n + 2])] true 0)).new (.tok n1 z1)).new (.map es false)) := by
 rw [Zu]
 unfold enterA
 rw [hf]; simp only
 rw [hm]; simp only
 obtain ⟨⟨v1, s1⟩, e1, b, t, mm, rfl, htb, hmb, hmt, e2, e3, e4⟩ := hd
 simp only at e2 e3 e4
 unfold handA
 have hl : lendM 200 (namesVs false args []) [] [] s = .ret (([], []), s) := by rw [hn]; exact Xa 199 _ _ _
 rw [Z7, hl]
 have hnd : nodupN [] = true := rfl
 have hz : zipN [] (namesFrom [] 0 ([] : List Nm).length) = [] := rfl
 have hrb : renBs [] [] = some [] := rfl
 have hcalm : calm [] = true := rfl
 simp only [Tr.bind_ret, hnd, hz, hr, hrb, hcalm]
 have hst : (⟨zipB (namesFrom [] 0 ([] : List Nm).length) [], ([] : List Nm).length, [], false, []⟩ : St) = s0 := rfl
 rw [hst, e1]
 have ho : oneR false (.ret (.ptr b 0, s1)) = some (.ptr b 0, s1.H) := rfl
 have hy : getAll s1.H (namesFrom [] 0 ([] : List Nm).length) = some [] := rfl
 rw [ho]; simp only
 rw [hy]; simp only
 have hnv : namesV true (.ptr b 0) (namesBs true [] []) = [b] := rfl
 rw [hnv]
 have hre0 : ∀ k, reachL s1.H (k + 4) [b] [] [] = some ([b, t, mm], [.cells [.int k0 x0, .lst l0, .own t l1, .map mm] true 0, .tok n1 z1, .map es false]) := fun k => by
  rw [Y0]
  have m0 : memNm b [] = false := rfl
  rw [m0]; simp only
  rw [e2]; simp only
  show reachL s1.H (k + 3) [t, mm] [b] [_] = _
  rw [Y0]
  have m1 : memNm t [b] = false := by simp only [memNm, htb]
  rw [m1]; simp only
  rw [e3]; simp only
  show reachL s1.H (k + 2) [mm] [b, t] [_, _] = _
  rw [Y0]
  have m2 : memNm mm [b, t] = false := by simp only [memNm, hmb, hmt]
  rw [m2]; simp only
  rw [e4]; simp only
  show reachL s1.H (k + 1) [] [b, t, mm] _ = _
  rw [X9]; rfl
 have hre : reachL s1.H 200 [b] (namesFrom [] 0 ([] : List Nm).length) [] = some ([b, t, mm], [.cells [.int k0 x0, .lst l0, .own t l1, .map mm] true 0, .tok n1 z1, .map es false]) := hre0 196
 rw [hre]; simp only
 have sym : ∀ {a b : Nm}, eqb a b = false -> eqb b a = false := fun {a b} h => by
  cases h2 : eqb b a with
  | false => rfl
  | true => rw [Xd] at h2; subst h2; rw [Ze] at h; cases h
 have hn0 : nodupN [b, t, mm] = true := by simp only [nodupN, memNm, sym htb, sym hmb, sym hmt]
 rw [hn0]; simp only
 rw [Z7]
 show (Tr.ret ((s.pre, s.n), s)).bind _ = _
 rw [Tr.bind_ret]
 have hz2 : zipN [b, t, mm] ([] ++ namesFrom s.pre s.n ([.cells [.int k0 x0, .lst l0, .own t l1, .map mm] true 0, .tok n1 z1, .map es false] : List Blk).length) = [(b, s.pre ++ [s.n]), (t, s.pre ++ [s.n + 1]), (mm, s.pre ++ [s.n + 2])] := rfl
 simp only
 rw [hz2]
 have hz0 : ∀ mp, renBs mp [] = some [] := fun _ => rfl
 have hv2 : renV [(b, s.pre ++ [s.n]), (t, s.pre ++ [s.n + 1]), (mm, s.pre ++ [s.n + 2])] (.ptr b 0) = some (.ptr (s.pre ++ [s.n]) 0) := by simp only [renV, lookN, Ze]
 have hb2 : renBs [(b, s.pre ++ [s.n]), (t, s.pre ++ [s.n + 1]), (mm, s.pre ++ [s.n + 2])] [.cells [.int k0 x0, .lst l0, .own t l1, .map mm] true 0, .tok n1 z1, .map es false] = some [.cells [.int k0 x0, .lst l0, .own (s.pre ++ [s.n + 1]) l1, .map (s.pre ++ [s.n + 2])] true 0, .tok n1 z1, .map es false] := by
  simp only [renBs, renB, renVs, renV, hl0, hl1, hes, lookN, Ze, htb, hmb, hmt]
 simp only [hv2, hz0, hb2, putAll, newAll, Z7, Xm, Tr.bind_ret, Y4]
theorem Z92 {f : FuncId} {fn : Func} {args : List AV} {k0 : IntKind} {x0 : Int} {l0 : List AV} {s : St} {es : List (AV × AV)} (hm : C.mode.get f = some 3) (hf : C.fn.get f = some fn) (hn : namesVs false args [] = []) (hr : renVs [] args = some args)
  (hl0 : flats l0 = true) (hes : flatE es = true)
  (hd : (bodyA (C.at f) (acall C K) (around C K) (K + 1) fn args s0).Does fun x => ∃ b mm, x.1 = .ptr b 0 /\ eqb mm b = false /\ hget x.2.H b = some (.cells [.int k0 x0, .lst l0, .nils, .map mm] true 0) /\ hget x.2.H mm = some (.map es false)) :
  acall C (K + 1) f args s = .ret (.ptr (s.pre ++ [s.n]) 0, (s.new (.cells [.int k0 x0, .lst l0, .nils, .map (s.pre ++ [s.n + 1])] true 0)).new (.map es false)) := by
 rw [Zu]
 unfold enterA
 rw [hf]; simp only
 rw [hm]; simp only
 obtain ⟨⟨v1, s1⟩, e1, b, mm, rfl, hmb, e2, e4⟩ := hd
 simp only at e2 e4
 unfold handA
 have hl : lendM 200 (namesVs false args []) [] [] s = .ret (([], []), s) := by rw [hn]; exact Xa 199 _ _ _
 rw [Z7, hl]
 have hnd : nodupN [] = true := rfl
 have hz : zipN [] (namesFrom [] 0 ([] : List Nm).length) = [] := rfl
 have hrb : renBs [] [] = some [] := rfl
 have hcalm : calm [] = true := rfl
 simp only [Tr.bind_ret, hnd, hz, hr, hrb, hcalm]
 have hst : (⟨zipB (namesFrom [] 0 ([] : List Nm).length) [], ([] : List Nm).length, [], false, []⟩ : St) = s0 := rfl
 rw [hst, e1]
 have ho : oneR false (.ret (.ptr b 0, s1)) = some (.ptr b 0, s1.H) := rfl
 have hy : getAll s1.H (namesFrom [] 0 ([] : List Nm).length) = some [] := rfl
 rw [ho]; simp only
 rw [hy]; simp only
 have hnv : namesV true (.ptr b 0) (namesBs true [] []) = [b] := rfl
 rw [hnv]
 have hre0 : ∀ k, reachL s1.H (k + 3) [b] [] [] = some ([b, mm], [.cells [.int k0 x0, .lst l0, .nils, .map mm] true 0, .map es false]) := fun k => by
  rw [Y0]
  have m0 : memNm b [] = false := rfl
  rw [m0]; simp only
  rw [e2]; simp only
  show reachL s1.H (k + 2) [mm] [b] [_] = _
  rw [Y0]
  have m2 : memNm mm [b] = false := by simp only [memNm, hmb]
  rw [m2]; simp only
  rw [e4]; simp only
  show reachL s1.H (k + 1) [] [b, mm] _ = _
  rw [X9]; rfl
 have hre : reachL s1.H 200 [b] (namesFrom [] 0 ([] : List Nm).length) [] = some ([b, mm], [.cells [.int k0 x0, .lst l0, .nils, .map mm] true 0, .map es false]) := hre0 197
 rw [hre]; simp only
 have sym : ∀ {a b : Nm}, eqb a b = false -> eqb b a = false := fun {a b} h => by
  cases h2 : eqb b a with
  | false => rfl
  | true => rw [Xd] at h2; subst h2; rw [Ze] at h; cases h
 have hn0 : nodupN [b, mm] = true := by simp only [nodupN, memNm, sym hmb]
 rw [hn0]; simp only
 rw [Z7]
 show (Tr.ret ((s.pre, s.n), s)).bind _ = _
 rw [Tr.bind_ret]
 have hz2 : zipN [b, mm] ([] ++ namesFrom s.pre s.n ([.cells [.int k0 x0, .lst l0, .nils, .map mm] true 0, .map es false] : List Blk).length) = [(b, s.pre ++ [s.n]), (mm, s.pre ++ [s.n + 1])] := rfl
 simp only
 rw [hz2]
 have hz0 : ∀ mp, renBs mp [] = some [] := fun _ => rfl
 have hv2 : renV [(b, s.pre ++ [s.n]), (mm, s.pre ++ [s.n + 1])] (.ptr b 0) = some (.ptr (s.pre ++ [s.n]) 0) := by simp only [renV, lookN, Ze]
 have hb2 : renBs [(b, s.pre ++ [s.n]), (mm, s.pre ++ [s.n + 1])] [.cells [.int k0 x0, .lst l0, .nils, .map mm] true 0, .map es false] = some [.cells [.int k0 x0, .lst l0, .nils, .map (s.pre ++ [s.n + 1])] true 0, .map es false] := by
  simp only [renBs, renB, renVs, renV, hl0, hes, lookN, Ze, hmb]
 simp only [hv2, hz0, hb2, putAll, newAll, Z7, Xm, Tr.bind_ret, Y4]
end
end Go.Am
namespace Go.Am
open Go
theorem Z0u {α : Type} (p l : List α) (i : Nat) : nth (p ++ l) (p.length + i) = nth l i := by
 rw [Zm, Zm, List.getElem?_append_right (by omega)]; congr 1; omega
theorem Z3o (post : List AV) : ∀ (r pre : List AV), readN (pre ++ r ++ post) pre.length r.length = some r
 | [], pre => rfl
 | a :: r, pre => by
  have h1 : nth (pre ++ (a :: r) ++ post) pre.length = some a := by
   rw [List.append_assoc]
   have := Z0u pre ((a :: r) ++ post) 0
   rw [Nat.add_zero] at this
   rw [this]; rfl
  have h2 := Z3o post r (pre ++ [a])
  have e1 : pre ++ [a] ++ r ++ post = pre ++ (a :: r) ++ post := by simp
  have e2 : (pre ++ [a]).length = pre.length + 1 := by simp
  rw [e1, e2] at h2
  show readN _ _ (r.length + 1) = _
  unfold readN
  rw [h1]; simp only
  rw [h2]
section
variable {α : Type} {g : α -> List AV} {z : Nat}
theorem Z0c (hz : ∀ a, (g a).length = z) : ∀ l : List α, (l.flatMap g).length = l.length * z
 | [] => by simp
 | a :: r => by simp only [List.flatMap_cons, List.length_append, hz, Z0c hz r, List.length_cons, Nat.succ_mul]; omega
theorem Z23 (hz : ∀ a, (g a).length = z) {f : α -> AV} (hf : ∀ a, rowA z (g a) = f a) : ∀ (l : List α), rowsA z l.length (l.flatMap g) = l.map f
 | [] => rfl
 | a :: r => by
  show rowA z (((a :: r).flatMap g).take z) :: rowsA z r.length (((a :: r).flatMap g).drop z) = _
  have h1 : ((a :: r).flatMap g).take z = g a := by rw [List.flatMap_cons, <- hz a, List.take_left]
  have h2 : ((a :: r).flatMap g).drop z = r.flatMap g := by rw [List.flatMap_cons, <- hz a, List.drop_left]
  rw [h1, h2, Z23 hz hf r, hf]; rfl
end
end Go.Am
namespace Go.Am
open Go
noncomputable section
def ltAll (i : Nat) : List Nat -> Bool
 | [] => true
 | n :: r => match Nat.blt n i with | true => ltAll i r | false => false
def allBack : Nat -> List (List Nat) -> Bool
 | _, [] => true
 | i, l :: r => match ltAll i l with | true => allBack (i + 1) r | false => false
theorem Z2w {i : Nat} : ∀ {l : List Nat}, ltAll i l = true -> ∀ n ∈ l, n < i
 | [], _, n, h => by simp at h
 | a :: r, h, n, hn => by
  unfold ltAll at h
  cases h1 : Nat.blt a i with
  | false => rw [h1] at h; cases h
  | true =>
   rw [h1] at h
   rcases List.mem_cons.1 hn with rfl | hn
   ·rw [Nat.blt_eq] at h1; exact h1
   ·exact Z2w h n hn
theorem Z0r : ∀ (B : List (List Nat)) (j : Nat), allBack j B = true -> ∀ i, ∀ n ∈ (nth B i).getD [], n < j + i
 | [], j, _, i, n, h => by cases h
 | l :: r, j, h, i, n, hn => by
  unfold allBack at h
  cases h1 : ltAll j l with
  | false => rw [h1] at h; cases h
  | true =>
   rw [h1] at h
   cases i with
   | zero => exact Z2w h1 n hn
   | succ i =>
    have := Z0r r (j + 1) h i n hn
    omega
def sameW : List Nm -> List Nm -> Bool
 | [], [] => true
 | a :: x, b :: y => match eqb a b with | true => sameW x y | false => false
 | _, _ => false
theorem Z6g : ∀ {x y : List Nm}, sameW x y = true -> x = y
 | [], [], _ => rfl
 | [], _ :: _, h => by cases h
 | _ :: _, [], h => by cases h
 | a :: x, b :: y, h => by
  unfold sameW at h
  cases h1 : eqb a b with
  | false => rw [h1] at h; cases h
  | true => rw [h1] at h; rw [(Xd a b).1 h1, Z6g h]
@[go_sem] theorem Jf : ∀ x : List Nm, sameW x x = true
 | [] => rfl
 | a :: x => by unfold sameW; rw [Ze]; exact Jf x
def hidB : List Nm -> (List Nm -> Bool) -> Bool
 | [], _ => true
 | y, f => f y
def wAt (W : List (List Nm)) (i : Nat) : List Nm := (nth W i).getD []
section
variable (C : Cfg) (call : FuncId -> List AV -> M AV) (rnd : Nm -> List AV -> M AV)
def drawX (ops : List Oper) (s : St) (B : List (List Nat)) (W : List (List Nm)) : Nat -> List Oper -> List AV -> List Delta -> Tr (List AV × List Delta)
 | _, [], T, ds => .ret (T, ds)
 | i, o :: r, T, ds => match wantedA ops T o with
  | true => (opA C call rnd T o (opSt s i (overlay s.H ((nth B i).getD []) 0 ds))).bind fun x => match sameW (oldIds (s.pre ++ [s.n, i]) x.2.j) (wAt W i), hidB (rivals B i 0 W) fun y => isRet (opA C call rnd T o (opSt s i (hide (overlay s.H ((nth B i).getD []) 0 ds) y))) with
   | true, true => drawX ops s B W (i + 1) r (putT T o.dst x.1) (ds ++ [x.2.j])
   | _, _ => .fail
  | false => (match wAt W i with
   | [] => drawX ops s B W (i + 1) r (putT T o.dst .undef) (ds ++ [[]])
   | _ :: _ => .fail)
end
section
variable {C : Cfg} {call : FuncId -> List AV -> M AV} {rnd : Nm -> List AV -> M AV}
theorem Z6h {W : List (List Nm)} {i : Nat} (h : i < W.length) : W.take (i + 1) = W.take i ++ [wAt W i] := by
 rw [List.take_add_one, <- Zm]
 unfold wAt
 rw [Zm, List.getElem?_eq_getElem h]; rfl
theorem Z75 {t : Tr (AV × St)} (h : isRet t = true) : ∃ x, one t = some x := by
 cases t with
 | ret x => exact ⟨_, rfl⟩
 | _ => cases h
theorem Z93 {t : Tr (AV × St)} {x : AV × Delta} (h : one t = some x) : isRet t = true := by
 cases t with
 | ret x => rfl
 | _ => cases h
theorem Z0l (hc : ∀ f args, Nice (call f args)) (hr : ∀ l args, Nice (rnd l args)) {ops : List Oper} {s : St} {B : List (List Nat)} {W : List (List Nm)} {Q : List AV × List Delta -> Prop} {T0 : List AV} (hB : allBack 0 B = true) (hW : W.length = ops.length) :
  ∀ (l : List Oper) (i : Nat) (done : List Oper) (vs : List AV) (ds : List Delta), done ++ l = ops -> vs.length = i -> ds.length = i -> done.length = i -> olds s 0 ds = W.take i ->
   (drawX C call rnd ops s B W i l (putsT done vs T0) ds).Does Q ->
   ∃ vs2 ds2, drawPass C call rnd ops s B i l (putsT done vs T0) vs ds = some (vs ++ vs2, ds ++ ds2) /\ vs2.length = l.length /\ ds2.length = l.length /\ Q (putsT ops (vs ++ vs2) T0, ds ++ ds2) /\ olds s 0 (ds ++ ds2) = W /\ drawCheck C call rnd ops s B (ds ++ ds2) W (putsT done vs T0) i l vs2 = true
 | [], i, done, vs, ds, ho, hv, hd, hn, hw, h => by
  obtain ⟨a, ha, hq⟩ := h
  injection ha with ha; subst ha
  rw [List.append_nil] at ho; subst ho
  refine ⟨[], [], by simp [drawPass], rfl, rfl, by simpa using hq, ?_, rfl⟩
  rw [List.append_nil, hw, <- hn, <- hW, List.take_length]
 | o :: r, i, done, vs, ds, ho, hv, hd, hn, hw, h => by
  have hi : done.length = vs.length := by omega
  have hlt : i < W.length := by rw [hW, <- ho]; simp; omega
  have hpre : ∀ (q : List Delta) b, hget (overlay s.H ((nth B i).getD []) 0 (ds ++ q)) b = hget (overlay s.H ((nth B i).getD []) 0 ds) b := by
   intro q b
   rw [Zj s.H, Zj s.H, Z02]
   refine Z40 _ b _ _ _ fun j hj => ?_
   cases hm : memN j ((nth B i).getD []) with
   | false => rfl
   | true => have := Z0r B 0 hB i j ((Zr _ _).1 hm); omega
  unfold drawX at h
  unfold drawPass
  cases hwa : wantedA ops (putsT done vs T0) o with
  | false =>
   rw [hwa] at h; simp only at h ⊢
   cases hwi : wAt W i with
   | cons a b => rw [hwi] at h; obtain ⟨_, h, _⟩ := h; cases h
   | nil =>
    rw [hwi] at h; simp only at h
    rw [<- Ye done vs T0 o .undef hi.symm] at h ⊢
    obtain ⟨vs2, ds2, g1, g2, g3, g4, g5, g6⟩ := Z0l hc hr hB hW r (i + 1) (done ++ [o]) (vs ++ [.undef]) (ds ++ [[]]) (by simp [ho]) (by simp [hv]) (by simp [hd]) (by simp [hn]) (by
     rw [Z22, hw, Z6h hlt, hwi]; rfl) h
    refine ⟨.undef :: vs2, [] :: ds2, by rw [g1]; simp, by simp [g2], by simp [g3], by simpa using g4, by simpa using g5, ?_⟩
    unfold drawCheck
    rw [Ye done vs T0 o .undef hi.symm] at g6
    simp only [List.append_assoc, List.singleton_append] at g6
    cases hri : rivals B i 0 W with
    | nil => exact g6
    | cons a b => simp only; rw [hwa]; exact g6
  | true =>
   rw [hwa] at h; simp only at h ⊢
   rw [Za] at h
   obtain ⟨x, hx, h⟩ := h
   have hone : one (opA C call rnd (putsT done vs T0) o (opSt s i (overlay s.H ((nth B i).getD []) 0 ds))) = some (x.1, x.2.j) := by rw [hx]; rfl
   rw [hone]; simp only
   cases hsa : sameW (oldIds (s.pre ++ [s.n, i]) x.2.j) (wAt W i) with
   | false => rw [hsa] at h; obtain ⟨_, h, _⟩ := h; cases h
   | true =>
    rw [hsa] at h
    cases hhi : hidB (rivals B i 0 W) fun y => isRet (opA C call rnd (putsT done vs T0) o (opSt s i (hide (overlay s.H ((nth B i).getD []) 0 ds) y))) with
    | false => rw [hhi] at h; obtain ⟨_, h, _⟩ := h; cases h
    | true =>
     rw [hhi] at h; simp only at h
     rw [<- Ye done vs T0 o x.1 hi.symm] at h ⊢
     obtain ⟨vs2, ds2, g1, g2, g3, g4, g5, g6⟩ := Z0l hc hr hB hW r (i + 1) (done ++ [o]) (vs ++ [x.1]) (ds ++ [x.2.j]) (by simp [ho]) (by simp [hv]) (by simp [hd]) (by simp [hn]) (by
      rw [Z22, hw, Z6h hlt, Nat.zero_add, hd, Z6g hsa]) h
     refine ⟨x.1 :: vs2, x.2.j :: ds2, by rw [g1]; simp, by simp [g2], by simp [g3], by simpa using g4, by simpa using g5, ?_⟩
     unfold drawCheck
     rw [Ye done vs T0 o x.1 hi.symm] at g6
     simp only [List.append_assoc, List.singleton_append] at g6
     cases hri : rivals B i 0 W with
     | nil => exact g6
     | cons a b =>
      simp only
      rw [hwa]; simp only
      rw [hri] at hhi
      obtain ⟨y, hy⟩ := Z75 (hhi : isRet _ = true)
      have h2 := Z1i hc hr (H' := hide (overlay s.H ((nth B i).getD []) 0 (ds ++ x.2.j :: ds2)) (a :: b)) (fun b => by rw [X4, X4, hpre]) hy
      rw [Z93 h2]
      exact g6
theorem Zac (hc : ∀ f args, Nice (call f args)) (hr : ∀ l args, Nice (rnd l args)) {ops : List Oper} {s : St} {T : List AV} (B : List (List Nat)) (W : List (List Nm)) (hB : predsAll [] ops = B) (hb : allBack 0 B = true) (hW : W.length = ops.length) {Q : List AV × St -> Prop}
  (h : (drawX C call rnd ops s B W 0 ops T []).Does fun x => Q (x.1, drawEnd s (allD x.2))) : (drawF C call rnd ops T s).Does Q := by
 rw [Z3e hc hr]
 subst hB
 obtain ⟨vs, ds, h1, h2, h3, h4, h5, h6⟩ := Z0l (C := C) (call := call) (rnd := rnd) (T0 := T) hc hr hb hW ops 0 [] [] [] rfl rfl rfl rfl (by simp [olds]) h
 unfold drawA
 have h1' : drawPass C call rnd ops s (predsAll [] ops) 0 ops T [] [] = some (vs, ds) := h1
 rw [h1']; simp only
 have h5' : olds s 0 ds = W := h5
 rw [h5']
 have h6' : drawCheck C call rnd ops s (predsAll [] ops) ds W T 0 ops vs = true := h6
 rw [h6']
 cases allNil W with
 | true => exact ⟨_, rfl, h4⟩
 | false => exact ⟨_, rfl, h4⟩
theorem Z0m {C0 : Cfg} {K : Nat} {ops : List Oper} {s : St} {T : List AV} (B : List (List Nat)) (W : List (List Nm)) (hB : predsAll [] ops = B) (hb : allBack 0 B = true) (hW : W.length = ops.length) {Q : List AV × St -> Prop}
  (h : (drawX C (acall C0 K) (around C0 K) ops s B W 0 ops T []).Does fun x => Q (x.1, drawEnd s (allD x.2))) : (drawF C (acall C0 K) (around C0 K) ops T s).Does Q :=
 Zac (Nice.mach C0 K).1 (Nice.mach C0 K).2 B W hB hb hW h
@[go_sem] theorem Zl5 (ops : List Oper) (s : St) (B : List (List Nat)) (W : List (List Nm)) (i : Nat) (T : List AV) (ds : List Delta) : drawX C call rnd ops s B W i [] T ds = .ret (T, ds) := rfl
end
def dxK (C : Cfg) (call : FuncId -> List AV -> M AV) (rnd : Nm -> List AV -> M AV) (ops : List Oper) (s : St) (B : List (List Nat)) (W : List (List Nm)) (i : Nat) (o : Oper) (r : List Oper) (T : List AV) (ds : List Delta) (x : AV × St) : Tr (List AV × List Delta) := match sameW (oldIds (s.pre ++ [s.n, i]) x.2.j) (wAt W i), hidB (rivals B i 0 W) fun y => isRet (opA C call rnd T o (opSt s i (hide (overlay s.H ((nth B i).getD []) 0 ds) y))) with
   | true, true => drawX C call rnd ops s B W (i + 1) r (putT T o.dst x.1) (ds ++ [x.2.j])
   | _, _ => .fail
section
variable {C : Cfg} {call : FuncId -> List AV -> M AV} {rnd : Nm -> List AV -> M AV}
@[go_sem] theorem Zi4 (ops : List Oper) (s : St) (B : List (List Nat)) (W : List (List Nm)) (i : Nat) (o : Oper) (r : List Oper) (T : List AV) (ds : List Delta) (v : AV) (s1 : St) : dxK C call rnd ops s B W i o r T ds (v, s1) = match sameW (oldIds (s.pre ++ [s.n, i]) s1.j) (wAt W i) with
   | true => (match hidB (rivals B i 0 W) fun y => isRet (opA C call rnd T o (opSt s i (hide (overlay s.H ((nth B i).getD []) 0 ds) y))) with
    | true => drawX C call rnd ops s B W (i + 1) r (putT T o.dst v) (ds ++ [s1.j])
    | false => .fail)
   | false => .fail := by
 unfold dxK
 simp only
 cases sameW (oldIds (s.pre ++ [s.n, i]) s1.j) (wAt W i) with
 | false => rfl
 | true => cases hidB (rivals B i 0 W) fun y => isRet (opA C call rnd T o (opSt s i (hide (overlay s.H ((nth B i).getD []) 0 ds) y))) <;> rfl
@[go_sem] theorem Zi5 (ops : List Oper) (s : St) (B : List (List Nat)) (W : List (List Nm)) (i : Nat) (o : Oper) (r : List Oper) (T : List AV) (ds : List Delta) : drawX C call rnd ops s B W i (o :: r) T ds = match wantedA ops T o with
  | true => (opA C call rnd T o (opSt s i (overlay s.H ((nth B i).getD []) 0 ds))).bind (dxK C call rnd ops s B W i o r T ds)
  | false => (match wAt W i with
   | [] => drawX C call rnd ops s B W (i + 1) r (putT T o.dst .undef) (ds ++ [[]])
   | _ :: _ => .fail) := rfl
@[go_sem] theorem Zfl (f : List Nm -> Bool) : hidB [] f = true := rfl
@[go_sem] theorem Zd2 (a : Nm) (l : List Nm) (f : List Nm -> Bool) : hidB (a :: l) f = f (a :: l) := rfl
@[go_sem] theorem Zd3 {α : Type} (a : α) : isRet (.ret a) = true := rfl
@[go_sem] theorem Zbl (p i : Nm) (x : Option Blk) (r : Delta) : oldIds p ((i, x) :: r) = match isPre p i with | true => oldIds p r | false => i :: oldIds p r := rfl
@[go_sem] theorem Zd4 (y : Nm) : isPre [] y = true := rfl
@[go_sem] theorem Zc0 (a : Nat) (x y : Nm) : isPre (a :: x) (a :: y) = isPre x y := by show (match Nat.beq a a with | true => isPre x y | false => false) = _; rw [Nat.beq_refl]
@[go_sem] theorem Zfm {a b : Nat} (x y : Nm) (h : ¬ a = b) : isPre (a :: x) (b :: y) = false := by
 show (match Nat.beq a b with | true => isPre x y | false => false) = _
 cases h2 : Nat.beq a b with
 | false => rfl
 | true => exact absurd (Nat.eq_of_beq_eq_true h2) h
attribute [go_sem] wAt rivals hide
end
end
end Go.Am
namespace Go.Proofs.Ytgnpnfkncbnjnaa
open Go Go.Am
attribute [local congr] Z5 Z2 Z3
attribute [local go_sem] Go.Am.buildSliceA Go.Am.frozen Go.Am.freezeG Go.Am.freezeGs Go.Am.minmax
end Go.Proofs.Ytgnpnfkncbnjnaa
