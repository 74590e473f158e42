/- The statement PumpExact holds for every input, without further conditions. -/
import Derived.Test.YtgnpnfkncbnjnaaP3
import Derived.Test.YtgnpnfkncbnjnaaChecked
import Derived.Test.YtgnpnfkncbnjnaaRows
import Derived.ProofKit
import Derived.KernelRfl
set_option linter.unusedSimpArgs false
set_option linter.unusedVariables false
set_option maxHeartbeats 4000000
set_option maxRecDepth 100000
namespace Go.Proofs.Ytgnpnfkncbnjnaa
open Go Go.Am
theorem Y3 {r : Rg} {m : Int} : spansE r m = 0 ↔ RgG m r := by
 unfold spansE
 constructor
 ·intro h
  split at h
  ·exact absurd h (by decide)
  ·split at h
   ·exact absurd h (by decide)
   ·split at h
    ·exact absurd h (by decide)
    ·exact ⟨by omega, by omega, by omega⟩
 ·rintro ⟨h1, h2, h3⟩
  rw [if_neg (by omega), if_neg (by omega), if_neg (by omega)]
theorem Yc {n lo hi : Int} : fromB n lo hi = true ↔ lo <= n /\ n <= hi := by unfold fromB; rw [decide_eq_true_iff]
theorem Y8 {α : Type} {f : α -> Int} : ∀ {l : List α}, firstE f l = 0 ↔ ∀ a ∈ l, f a = 0
 | [] => ⟨(fun _ _ h => nomatch h), fun _ => rfl⟩
 | a :: r => by
  unfold firstE
  by_cases h : f a = 0
  ·rw [if_pos h, Y8]; simp [h]
  ·rw [if_neg h]; simp [h]
theorem Z46 {n a most : Int} {r : Rg} : atE n a r most = 0 ↔ (0 <= a /\ a < n) /\ RgG most r := by
 unfold atE
 by_cases h : fromB a 0 (n - 1) = true
 ·rw [if_pos h, Y3]
  rw [Yc] at h
  constructor
  ·intro g; exact ⟨by omega, g⟩
  ·exact And.right
 ·rw [if_neg h]
  rw [Yc] at h
  constructor
  ·intro g; exact absurd g (by decide)
  ·rintro ⟨g, _⟩; exact absurd (show 0 <= a /\ a <= n - 1 by omega) h
structure PipB (n : Int) (p : Pip) : Prop where
 a : 0 <= p.a /\ p.a < n
 b : 0 <= p.b /\ p.b < n
 ab : p.a ≠ p.b
 out : RgG 1000000 p.out
 back : RgG 1000000 p.back
theorem Zbc {n : Int} {p : Pip} : pipE n p = 0 ↔ PipB n p := by
 unfold pipE
 by_cases h : fromB p.a 0 (n - 1) = true /\ fromB p.b 0 (n - 1) = true
 ·rw [if_pos h]
  rw [Yc, Yc] at h
  by_cases e : p.a = p.b
  ·rw [if_pos e]
   constructor
   ·intro g; exact absurd g (by decide)
   ·intro g; exact absurd e g.ab
  ·rw [if_neg e]
   by_cases g : spansE p.out 1000000 = 0
   ·rw [if_pos g, Y3]
    exact ⟨fun k => ⟨by omega, by omega, e, Y3.1 g, k⟩, fun k => k.back⟩
   ·rw [if_neg g]
    exact ⟨fun k => absurd k g, fun k => absurd (Y3.2 k.out) g⟩
 ·rw [if_neg h]
  constructor
  ·intro g; exact absurd g (by decide)
  ·intro g; exact absurd ⟨Yc.2 (by have := g.a; omega), Yc.2 (by have := g.b; omega)⟩ h
def BandsB : Bool -> Int -> List Rel -> Prop
 | _, _, [] => True
 | first, last, b :: r => (0 <= b.frm /\ b.frm <= 2000) /\ (first = false -> last < b.frm) /\ RgG 1000000 b.rate /\ BandsB false b.frm r
theorem Z64 : ∀ {l : List Rel} {i : Nat} {last : Int}, bandsE i last l = 0 ↔ BandsB (decide (i = 0)) last l
 | [], _, _ => ⟨fun _ => trivial, fun _ => rfl⟩
 | b :: r, i, last => by
  unfold bandsE BandsB
  by_cases h : fromB b.frm 0 2000 = true
  ·rw [if_pos h]
   rw [Yc] at h
   by_cases e : 0 < i /\ b.frm <= last
   ·rw [if_pos e]
    constructor
    ·intro g; exact absurd g (by decide)
    ·rintro ⟨_, g, _⟩
     have := g (by simp; omega)
     omega
   ·rw [if_neg e]
    by_cases g : spansE b.rate 1000000 = 0
    ·rw [if_pos g, Z64]
     rw [show decide (i + 1 = 0) = false by simp]
     constructor
     ·intro k; exact ⟨h, fun q => by simp at q; omega, Y3.1 g, k⟩
     ·rintro ⟨_, _, _, k⟩; exact k
    ·rw [if_neg g]
     constructor
     ·intro k; exact absurd k g
     ·rintro ⟨_, _, k, _⟩; exact absurd (Y3.2 k) g
  ·rw [if_neg h]
   constructor
   ·intro g; exact absurd g (by decide)
   ·rintro ⟨k, _⟩; exact absurd (Yc.2 k) h
structure VesB (x : Ves) : Prop where
 vol : 1 <= x.vol /\ x.vol <= 1000000
 free : RgG 1000000000 x.free
 bound : RgG 1000000000 x.bound
 len : x.bands.length <= 8
 bands : BandsB true 0 x.bands
theorem Zbd {x : Ves} : vesE x = 0 ↔ VesB x := by
 unfold vesE
 by_cases h : fromB x.vol 1 1000000 = true
 ·rw [if_pos h]
  rw [Yc] at h
  by_cases h1 : spansE x.free 1000000000 = 0
  ·rw [if_pos h1]
   by_cases h2 : spansE x.bound 1000000000 = 0
   ·rw [if_pos h2]
    by_cases h3 : 8 < x.bands.length
    ·rw [if_pos h3]
     constructor
     ·intro g; exact absurd g (by decide)
     ·intro g; have := g.len; omega
    ·rw [if_neg h3, Z64]
     exact ⟨fun g => ⟨h, Y3.1 h1, Y3.1 h2, by omega, g⟩, fun g => g.bands⟩
   ·rw [if_neg h2]
    exact ⟨fun g => absurd g h2, fun g => absurd (Y3.2 g.bound) h2⟩
  ·rw [if_neg h1]
   exact ⟨fun g => absurd g h1, fun g => absurd (Y3.2 g.free) h1⟩
 ·rw [if_neg h]
  constructor
  ·intro g; exact absurd g (by decide)
  ·intro g; exact absurd (Yc.2 g.vol) h
def sumI {α : Type} (f : α -> Int) : List α -> Int
 | [] => 0
 | a :: r => f a + sumI f r
theorem Zu {α : Type} (f : α -> Int) (a : α) (r : List α) : sumI f (a :: r) = f a + sumI f r := rfl
theorem Ju {α : Type} (f : α -> Int) : sumI f [] = 0 := rfl
theorem Xa {α : Type} {f : α -> Int} : ∀ {l : List α}, (∀ a ∈ l, 0 <= f a) -> 0 <= sumI f l
 | [], _ => Int.le_refl _
 | a :: r, h => by have := Xa (l := r) fun b hb => h b (List.mem_cons_of_mem _ hb); have := h a List.mem_cons_self; simp only [Zu]; omega
theorem Z32 {α : Type} {f g : α -> Int} : ∀ {l : List α}, (∀ a ∈ l, f a <= g a) -> sumI f l <= sumI g l
 | [], _ => Int.le_refl _
 | a :: r, h => by have := Z32 (l := r) fun b hb => h b (List.mem_cons_of_mem _ hb); have := h a List.mem_cons_self; simp only [Zu]; omega
theorem Z33 {α : Type} {f : α -> Int} {q : Int} : ∀ {l : List α}, (∀ a ∈ l, f a <= q) -> sumI f l <= q * l.length
 | [], _ => by simp [sumI]
 | a :: r, h => by
  have h1 := Z33 (l := r) fun b hb => h b (List.mem_cons_of_mem _ hb)
  have h2 := h a List.mem_cons_self
  rw [Zu, List.length_cons, Int.natCast_add, Int.mul_add]; simp only [Int.natCast_one, Int.mul_one]; omega
def openP (shut : List Int) : Nat -> List Pip -> List Pip
 | _, [] => []
 | k, p :: r => if (k : Int) ∈ shut then openP shut (k + 1) r else p :: openP shut (k + 1) r
theorem Jg {shut : List Int} : ∀ {k : Nat} {l : List Pip} {p : Pip}, p ∈ openP shut k l -> p ∈ l
 | k, [], p, h => h
 | k, q :: r, p, h => by
  unfold openP at h
  split at h
  ·exact List.mem_cons_of_mem _ (Jg h)
  ·rcases List.mem_cons.1 h with rfl | h
   ·exact List.mem_cons_self
   ·exact List.mem_cons_of_mem _ (Jg h)
theorem Z34 {shut : List Int} : ∀ (k : Nat) (l : List Pip), (openP shut k l).length <= l.length
 | k, [] => Nat.le_refl _
 | k, q :: r => by
  unfold openP
  have := Z34 (shut := shut) (k + 1) r
  split
  ·rw [List.length_cons]; omega
  ·rw [List.length_cons, List.length_cons]; omega
theorem Z35 : ∀ (k : Nat) (l : List Pip), openP [] k l = l
 | k, [] => rfl
 | k, q :: r => by unfold openP; rw [if_neg (by simp), Z35]
theorem Z65 {shut : List Int} {f : Pip -> Int} : ∀ {k : Nat} {l : List Pip}, (∀ p ∈ l, 0 <= f p) -> sumI f (openP shut k l) <= sumI f l
 | k, [], _ => Int.le_refl _
 | k, q :: r, h => by
  have h1 := Z65 (shut := shut) (k := k + 1) (l := r) fun b hb => h b (List.mem_cons_of_mem _ hb)
  have h2 := h q List.mem_cons_self
  unfold openP
  split
  ·simp only [Zu]; omega
  ·simp only [Zu]; omega
def pLo (x : Int) (p : Pip) : Int := (if p.a = x then p.out.lo else 0) + (if p.b = x then p.back.lo else 0)
def pHi (x : Int) (p : Pip) : Int := (if p.a = x then p.out.hi else 0) + (if p.b = x then p.back.hi else 0)
def mLo (x : Int) (p : Pmp) : Int := if p.at' = x then p.part.lo else 0
def mHi (x : Int) (p : Pmp) : Int := if p.at' = x then p.part.hi else 0
theorem pb {n : Int} {p : Pip} (h : PipB n p) (x : Int) : 0 <= pLo x p /\ pLo x p <= pHi x p /\ pHi x p <= 2000000 := by
 have := h.out; have := h.back
 obtain ⟨a1, a2, a3⟩ := h.out
 obtain ⟨b1, b2, b3⟩ := h.back
 unfold pLo pHi
 split <;> split <;> omega
theorem mb {p : Pmp} (h : RgG 1000000 p.part) (x : Int) : 0 <= mLo x p /\ mLo x p <= mHi x p /\ mHi x p <= 1000000 := by
 obtain ⟨a1, a2, a3⟩ := h
 unfold mLo mHi
 split <;> omega
theorem Xx {a b : Rg} (h1 : 0 <= a.lo) (h2 : 0 <= a.hi) (h3 : 0 <= b.lo) (h4 : 0 <= b.hi) (h5 : a.lo + b.lo <= 9223372036854775807) (h6 : a.hi + b.hi <= 9223372036854775807) : plusR a b = ⟨a.lo + b.lo, a.hi + b.hi⟩ := by
 unfold plusR
 rw [Z8 (by omega) h5, Z8 (by omega) h6]
theorem Z1i {n x : Int} {shut : List Int} : ∀ {l : List Pip} {k : Nat} {acc : Rg}, (∀ p ∈ l, PipB n p) -> 0 <= acc.lo -> acc.lo <= acc.hi -> acc.hi + 2000000 * l.length <= 1000000000000 -> outP x shut k acc l = ⟨acc.lo + sumI (pLo x) (openP shut k l), acc.hi + sumI (pHi x) (openP shut k l)⟩
 | [], k, acc, _, _, _, _ => by simp [outP, openP, sumI]
 | p :: r, k, acc, h, h1, h2, h3 => by
  have hr : ∀ q ∈ r, PipB n q := fun q hq => h q (List.mem_cons_of_mem _ hq)
  have hp := h p List.mem_cons_self
  obtain ⟨a1, a2, a3⟩ := hp.out
  obtain ⟨b1, b2, b3⟩ := hp.back
  rw [List.length_cons, Int.natCast_add] at h3
  simp only [Int.natCast_one] at h3
  unfold outP openP
  by_cases c : (k : Int) ∈ shut
  ·rw [if_pos c, if_pos c]
   exact Z1i hr h1 h2 (by omega)
  ·rw [if_neg c, if_neg c]
   have e1 : plusR acc p.out = ⟨acc.lo + p.out.lo, acc.hi + p.out.hi⟩ := Xx h1 (by omega) a1 (by omega) (by omega) (by omega)
   by_cases c1 : p.a = x
   ·by_cases c2 : p.b = x
    ·rw [if_pos c2, if_pos c1, e1]
     rw [Xx (by show 0 <= acc.lo + p.out.lo; omega) (by show 0 <= acc.hi + p.out.hi; omega) b1 (by omega) (by show acc.lo + p.out.lo + _ <= _; omega) (by show acc.hi + p.out.hi + _ <= _; omega)]
     rw [Z1i hr (by show 0 <= acc.lo + p.out.lo + p.back.lo; omega) (by show acc.lo + p.out.lo + p.back.lo <= acc.hi + p.out.hi + p.back.hi; omega) (by show acc.hi + p.out.hi + p.back.hi + _ <= _; omega)]
     simp only [Zu, pLo, pHi]
     rw [if_pos c1, if_pos c2, if_pos c1, if_pos c2]
     congr 1 <;> (try simp only) <;> omega
    ·rw [if_neg c2, if_pos c1, e1]
     rw [Z1i hr (by show 0 <= acc.lo + p.out.lo; omega) (by show acc.lo + p.out.lo <= acc.hi + p.out.hi; omega) (by show acc.hi + p.out.hi + _ <= _; omega)]
     simp only [Zu, pLo, pHi]
     rw [if_pos c1, if_neg c2, if_pos c1, if_neg c2]
     congr 1 <;> (try simp only) <;> omega
   ·by_cases c2 : p.b = x
    ·rw [if_pos c2, if_neg c1]
     rw [Xx h1 (by omega) b1 (by omega) (by omega) (by omega)]
     rw [Z1i hr (by show 0 <= acc.lo + p.back.lo; omega) (by show acc.lo + p.back.lo <= acc.hi + p.back.hi; omega) (by show acc.hi + p.back.hi + _ <= _; omega)]
     simp only [Zu, pLo, pHi]
     rw [if_neg c1, if_pos c2, if_neg c1, if_pos c2]
     congr 1 <;> (try simp only) <;> omega
    ·rw [if_neg c2, if_neg c1]
     rw [Z1i hr h1 h2 (by omega)]
     simp only [Zu, pLo, pHi]
     rw [if_neg c1, if_neg c2, if_neg c1, if_neg c2]
     congr 1 <;> (try simp only) <;> omega
theorem Z76 {x : Int} : ∀ {l : List Pmp} {acc : Rg}, (∀ p ∈ l, RgG 1000000 p.part) -> 0 <= acc.lo -> acc.lo <= acc.hi -> acc.hi + 1000000 * l.length <= 1000000000000 -> outM x acc l = ⟨acc.lo + sumI (mLo x) l, acc.hi + sumI (mHi x) l⟩
 | [], acc, _, _, _, _ => by simp [outM, sumI]
 | p :: r, acc, h, h1, h2, h3 => by
  have hr : ∀ q ∈ r, RgG 1000000 q.part := fun q hq => h q (List.mem_cons_of_mem _ hq)
  obtain ⟨a1, a2, a3⟩ := h p List.mem_cons_self
  rw [List.length_cons, Int.natCast_add] at h3
  simp only [Int.natCast_one] at h3
  unfold outM
  by_cases c1 : p.at' = x
  ·rw [if_pos c1, Xx h1 (by omega) a1 (by omega) (by omega) (by omega)]
   rw [Z76 hr (by show 0 <= acc.lo + p.part.lo; omega) (by show acc.lo + p.part.lo <= acc.hi + p.part.hi; omega) (by show acc.hi + p.part.hi + _ <= _; omega)]
   simp only [Zu, mLo, mHi]
   rw [if_pos c1, if_pos c1]
   congr 1 <;> (try simp only) <;> omega
  ·rw [if_neg c1]
   rw [Z76 hr h1 h2 (by omega)]
   simp only [Zu, mLo, mHi]
   rw [if_neg c1, if_neg c1]
   congr 1 <;> (try simp only) <;> omega
def outLo (v : Vac) (x : Int) (ps : List Pip) : Int := sumI (pLo x) ps + sumI (mLo x) v.pumps
def outHi (v : Vac) (x : Int) (ps : List Pip) : Int := sumI (pHi x) ps + sumI (mHi x) v.pumps
structure VB (v : Vac) : Prop where
 n1 : 1 <= v.vessels.length
 n8 : v.vessels.length <= 8
 p16 : v.pipes.length <= 16
 m8 : v.pumps.length <= 8
 l8 : v.leaks.length <= 8
 g8 : v.getters.length <= 8
 ves : ∀ x ∈ v.vessels, VesB x
 pip : ∀ p ∈ v.pipes, PipB v.vessels.length p
 pmp : ∀ q ∈ v.pumps, (0 <= q.at' /\ q.at' < v.vessels.length) /\ RgG 1000000 q.part
 inl : ∀ q ∈ v.leaks, (0 <= q.at' /\ q.at' < v.vessels.length) /\ RgG 100000 q.gas
 gtr : ∀ q ∈ v.getters, ((0 <= q.at' /\ q.at' < v.vessels.length) /\ RgG 1000000 q.part) /\ RgG 1000000000 q.room
 out : ∀ i : Nat, i < v.vessels.length -> outHi v i v.pipes <= 1000000
theorem Zbe {v : Vac} {n x : Int} {shut : List Int} (h1 : ∀ p ∈ v.pipes, PipB n p) (h2 : ∀ q ∈ v.pumps, RgG 1000000 q.part) (h3 : v.pipes.length <= 16) (h4 : v.pumps.length <= 8) : outR v x shut = ⟨outLo v x (openP shut 0 v.pipes), outHi v x (openP shut 0 v.pipes)⟩ := by
 unfold outR
 have hm : ∀ p ∈ openP shut 0 v.pipes, PipB n p := fun p hp => h1 p (Jg hp)
 have b1 : 0 <= sumI (pLo x) (openP shut 0 v.pipes) := Xa fun p hp => (pb (hm p hp) x).1
 have b2 : sumI (pLo x) (openP shut 0 v.pipes) <= sumI (pHi x) (openP shut 0 v.pipes) := Z32 fun p hp => (pb (hm p hp) x).2.1
 have b3 : sumI (pHi x) (openP shut 0 v.pipes) <= 2000000 * (openP shut 0 v.pipes).length := Z33 fun p hp => (pb (hm p hp) x).2.2
 have b4 := Z34 (shut := shut) 0 v.pipes
 rw [Z1i h1 (Int.le_refl _) (Int.le_refl _) (by show 0 + _ <= _; omega)]
 rw [Z76 h2 (by show 0 <= 0 + _; omega) (by show 0 + _ <= 0 + _; omega) (by show 0 + _ + _ <= _; omega)]
 unfold outLo outHi
 congr 1 <;> (try simp only) <;> omega
theorem VB.outR_eq {v : Vac} (h : VB v) (x : Int) (shut : List Int) : outR v x shut = ⟨outLo v x (openP shut 0 v.pipes), outHi v x (openP shut 0 v.pipes)⟩ :=
 Zbe h.pip (fun q hq => (h.pmp q hq).2) h.p16 h.m8
theorem Z1j {v : Vac} : ∀ {k i : Nat}, outB v i k = false ↔ ∀ j : Nat, i <= j -> j < i + k -> (outR v j []).hi <= 1000000
 | 0, i => ⟨fun _ j h1 h2 => absurd h2 (by omega), fun _ => rfl⟩
 | k + 1, i => by
  unfold outB
  rw [Bool.or_eq_false_iff, Z1j]
  constructor
  ·rintro ⟨h1, h2⟩ j h3 h4
   rw [decide_eq_false_iff_not] at h1
   by_cases e : j = i
   ·subst e; omega
   ·exact h2 j (by omega) (by omega)
  ·intro h
   exact ⟨by rw [decide_eq_false_iff_not]; have := h i (Nat.le_refl _) (by omega); omega, fun j h1 h2 => h j (by omega) (by omega)⟩
theorem Z66 {v : Vac} : checkE v = 0 ↔ VB v := by
 constructor
 ·intro h
  obtain ⟨h1, h2, h3, h4, h5, h6⟩ := Z83 h
  unfold checkE at h
  rw [if_neg (by omega)] at h
  split at h
  ·exact absurd h (by decide)
  ·split at h
   ·rename_i g1
    split at h
    ·rename_i g2
     unfold partsE at g2
     split at g2
     ·rename_i p1
      split at g2
      ·rename_i p2
       split at g2
       ·rename_i p3
        have q1 := fun p hp => Zbc.1 (Y8.1 p1 p hp)
        have q2 := fun p hp => Z46.1 (Y8.1 p2 p hp)
        have q3 := fun p hp => Z46.1 (Y8.1 p3 p hp)
        have q4 : ∀ p ∈ v.getters, ((0 <= p.at' /\ p.at' < v.vessels.length) /\ RgG 1000000 p.part) /\ RgG 1000000000 p.room := fun p hp => by
         have := Y8.1 g2 p hp
         unfold getE at this
         split at this
         ·rename_i k1; exact ⟨Z46.1 k1, Y3.1 this⟩
         ·rename_i k1; exact absurd this k1
        refine ⟨h1, h2, h3, h4, h5, h6, fun x hx => Zbd.1 (Y8.1 g1 x hx), q1, q2, q3, q4, fun i hi => ?_⟩
        split at h
        ·exact absurd h (by decide)
        ·rename_i k1
         have k2 := Z1j.1 (Bool.not_eq_true _ ▸ k1) i (Nat.zero_le _) (by omega)
         rw [Zbe q1 (fun q hq => (q2 q hq).2) h3 h4, Z35] at k2
         exact k2
       ·rename_i p3; exact absurd g2 p3
      ·rename_i p2; exact absurd g2 p2
     ·rename_i p1; exact absurd g2 p1
    ·rename_i g2; exact absurd h g2
   ·rename_i g1; exact absurd h g1
 ·intro h
  have h0 := h.n1; have h1 := h.n8; have h2 := h.p16; have h3 := h.m8; have h4 := h.l8; have h5 := h.g8
  unfold checkE
  rw [if_neg (by omega), if_neg (by unfold overB; simp only [Bool.or_eq_true, decide_eq_true_eq]; omega), if_pos (Y8.2 fun x hx => Zbd.2 (h.ves x hx))]
  have hp : partsE v = 0 := by
   unfold partsE
   rw [if_pos (Y8.2 fun p hp => Zbc.2 (h.pip p hp)), if_pos (Y8.2 fun p hp => Z46.2 (h.pmp p hp)), if_pos (Y8.2 fun p hp => Z46.2 (h.inl p hp))]
   refine Y8.2 fun p hp => ?_
   unfold getE
   rw [if_pos (Z46.2 (h.gtr p hp).1)]
   exact Y3.2 (h.gtr p hp).2
  rw [if_pos hp, if_neg]
  rw [Bool.not_eq_true]
  refine Z1j.2 fun j _ hj => ?_
  rw [h.outR_eq, Z35]
  exact h.out j (by omega)
end Go.Proofs.Ytgnpnfkncbnjnaa
namespace Go.Proofs.Ytgnpnfkncbnjnaa
open Go Go.Am
def dn (n q : Int) : Int := n * q / 1000000
def ups (n q : Int) : Int := (n * q + 999999) / 1000000
theorem Z67 {n q N : Int} (h0 : 0 <= n) (h1 : n <= N) (q0 : 0 <= q) (q1 : q <= 1000000) : 0 <= n * q /\ n * q <= N * 1000000 :=
 ⟨Int.mul_nonneg h0 q0, Int.mul_le_mul h1 q1 q0 (by omega)⟩
theorem Z47 {n q : Int} (h0 : 0 <= n) (q0 : 0 <= q) (q1 : q <= 1000000) : 0 <= n * q /\ n * q <= n * 1000000 := Z67 h0 (Int.le_refl _) q0 q1
theorem Zfy {n q : Int} (h0 : 0 <= n) (q0 : 0 <= q) (q1 : q <= 1000000) : 0 <= dn n q /\ dn n q <= n := by
 have := Z47 h0 q0 q1
 unfold dn
 omega
theorem Zbf {n q : Int} (h0 : 0 <= n) (q0 : 0 <= q) (q1 : q <= 1000000) : 0 <= ups n q /\ ups n q <= n := by
 have := Z47 h0 q0 q1
 unfold ups
 omega
theorem Zdf {n n' q q' : Int} (h0 : 0 <= n) (h1 : n <= n') (q0 : 0 <= q) (q1 : q <= q') : dn n q <= ups n' q' := by
 have : n * q <= n' * q' := Int.mul_le_mul h1 q1 q0 (by omega)
 unfold dn ups
 omega
theorem Z8c {n q : Int} (h0 : 0 <= n) (h1 : n <= 5000000000000) (q0 : 0 <= q) (q1 : q <= 1000000) : downN n q = dn n q := by
 have hb := Z67 h0 h1 q0 q1
 have hd := Zfy h0 q0 q1
 unfold downN
 rw [Z8 (x := n * q) (by omega) (by omega), Int.tdiv_eq_ediv_of_nonneg hb.1]
 unfold dn at *
 exact Z8 (by omega) (by omega)
theorem Zdg {n q : Int} (h0 : 0 <= n) (h1 : n <= 5000000000000) (q0 : 0 <= q) (q1 : q <= 1000000) : upN n q = ups n q := by
 have hb := Z67 h0 h1 q0 q1
 have hd := Zbf h0 q0 q1
 unfold upN
 rw [Z8 (x := n * q) (by omega) (by omega), Z8 (x := n * q + 1000000) (by omega) (by omega), Z8 (x := n * q + 1000000 - 1) (by omega) (by omega)]
 rw [show n * q + 1000000 - 1 = n * q + 999999 by omega, Int.tdiv_eq_ediv_of_nonneg (by omega)]
 unfold ups at *
 exact Z8 (by omega) (by omega)
def Row (m : Int) (F : List Rg) : Prop := ∀ r ∈ F, RgG m r
theorem Row.at {m : Int} {F : List Rg} (h : Row m F) (hm : 0 <= m) (a : Int) : RgG m (atR F a) := by
 unfold atR
 cases e : F[a.toNat]? with
 | none => exact Z94 m hm
 | some r => exact h r (List.mem_of_getElem? e)
theorem RgG.mono {m m' : Int} {r : Rg} (h : RgG m r) (hm : m <= m') : RgG m' r := ⟨h.lo, h.le, Int.le_trans h.hi hm⟩
theorem Zbg {h : Int} : ∀ {l : List Rel} {q : Rg} {f : Bool} {last : Int}, RgG 1000000 q -> BandsB f last l -> RgG 1000000 (rateP h q l)
 | [], q, _, _, hq, _ => hq
 | b :: r, q, f, last, hq, ⟨_, _, h3, h4⟩ => by
  unfold rateP
  split
  ·exact hq
  ·exact Zbg h3 h4
theorem Zcw {h : Int} {x : Ves} {f b : Rg} (hx : VesB x) (hf : RgG 68719476736 f) (hb : RgG 68719476736 b) : relFr h x f b = ⟨f.lo + dn b.lo (rateP h ⟨0, 0⟩ x.bands).lo, f.hi + ups b.hi (rateP h ⟨0, 0⟩ x.bands).hi⟩ /\ RgG 137438953472 (relFr h x f b) := by
 obtain ⟨q1, q2, q3⟩ := Zbg (h := h) (Z94 1000000 (by decide)) hx.bands
 unfold relFr
 generalize rateP h ⟨0, 0⟩ x.bands = q at *
 obtain ⟨f1, f2, f3⟩ := hf
 obtain ⟨b1, b2, b3⟩ := hb
 have d1 := Zfy b1 q1 (by omega)
 have d2 := Zbf (n := b.hi) (q := q.hi) (by omega) (by omega) q3
 have d3 := Zdf b1 b2 q1 q2
 rw [Z8c b1 (by omega) q1 (by omega), Zdg (by omega) (by omega) (by omega) q3]
 rw [Xx f1 (by omega) d1.1 d2.1 (by show f.lo + dn _ _ <= _; omega) (by show f.hi + ups _ _ <= _; omega)]
 exact ⟨rfl, by show 0 <= f.lo + dn _ _; omega, by show f.lo + dn _ _ <= f.hi + ups _ _; omega, by show f.hi + ups _ _ <= _; omega⟩
theorem Zcx {h : Int} {x : Ves} {b : Rg} (hx : VesB x) (hb : RgG 68719476736 b) : relBo h x b = ⟨dn b.lo (1000000 - (rateP h ⟨0, 0⟩ x.bands).hi), ups b.hi (1000000 - (rateP h ⟨0, 0⟩ x.bands).lo)⟩ /\ RgG 68719476736 (relBo h x b) /\ (relBo h x b).lo <= b.lo /\ (relBo h x b).hi <= b.hi := by
 obtain ⟨q1, q2, q3⟩ := Zbg (h := h) (Z94 1000000 (by decide)) hx.bands
 unfold relBo
 generalize rateP h ⟨0, 0⟩ x.bands = q at *
 obtain ⟨b1, b2, b3⟩ := hb
 rw [Z8 (x := 1000000 - q.hi) (by omega) (by omega), Z8 (x := 1000000 - q.lo) (by omega) (by omega)]
 have d1 := Zfy (n := b.lo) (q := 1000000 - q.hi) b1 (by omega) (by omega)
 have d2 := Zbf (n := b.hi) (q := 1000000 - q.lo) (by omega) (by omega) (by omega)
 have d3 := Zdf (n := b.lo) (n' := b.hi) (q := 1000000 - q.hi) (q' := 1000000 - q.lo) b1 b2 (by omega) (by omega)
 rw [Z8c b1 (by omega) (by omega) (by omega), Zdg (by omega) (by omega) (by omega) (by omega)]
 exact ⟨rfl, ⟨d1.1, d3, by show ups _ _ <= _; omega⟩, d1.2, d2.2⟩
def fLo (F : List Rg) (x : Int) (p : Pip) : Int := (if x = p.b then (atR F p.a).lo * p.out.lo else 0) + (if x = p.a then (atR F p.b).lo * p.back.lo else 0)
def fHi (F : List Rg) (x : Int) (p : Pip) : Int := (if x = p.b then (atR F p.a).hi * p.out.hi else 0) + (if x = p.a then (atR F p.b).hi * p.back.hi else 0)
theorem Z36 {f r : Rg} (hf : RgG 137438953472 f) (hr : RgG 1000000 r) : mulR f r = ⟨f.lo * r.lo, f.hi * r.hi⟩ /\ RgG 137438953472000000 (mulR f r) := by
 obtain ⟨f1, f2, f3⟩ := hf
 obtain ⟨r1, r2, r3⟩ := hr
 have b1 := Z67 f1 (show f.lo <= 137438953472 by omega) r1 (by omega)
 have b2 := Z67 (show 0 <= f.hi by omega) f3 (show 0 <= r.hi by omega) r3
 have b3 : f.lo * r.lo <= f.hi * r.hi := Int.mul_le_mul f2 r2 r1 (by omega)
 unfold mulR
 rw [Z8 (x := f.lo * r.lo) (by omega) (by omega), Z8 (x := f.hi * r.hi) (by omega) (by omega)]
 exact ⟨rfl, b1.1, b3, b2.2⟩
theorem fb {n : Int} {F : List Rg} {p : Pip} (hF : Row 137438953472 F) (hp : PipB n p) (x : Int) : 0 <= fLo F x p /\ fLo F x p <= fHi F x p /\ fHi F x p <= 137438953472000000 := by
 obtain ⟨e1, a1, a2, a3⟩ := Z36 (hF.at (by decide) p.a) hp.out
 obtain ⟨e2, b1, b2, b3⟩ := Z36 (hF.at (by decide) p.b) hp.back
 rw [e1] at a1 a2 a3
 rw [e2] at b1 b2 b3
 simp only at a1 a2 a3 b1 b2 b3
 have := hp.ab
 unfold fLo fHi
 split
 ·rw [if_neg (by omega), if_neg (by omega)]; omega
 ·split <;> omega
theorem Z12 {n x : Int} {F : List Rg} {shut : List Int} (hF : Row 137438953472 F) : ∀ {l : List Pip} {k : Nat} {acc : Rg}, (∀ p ∈ l, PipB n p) -> 0 <= acc.lo -> acc.lo <= acc.hi -> acc.hi + 137438953472000000 * l.length <= 9223372036854775807 -> flowS F shut x k acc l = ⟨acc.lo + sumI (fLo F x) (openP shut k l), acc.hi + sumI (fHi F x) (openP shut k l)⟩
 | [], k, acc, _, _, _, _ => by simp [flowS, openP, sumI]
 | p :: r, k, acc, h, h1, h2, h3 => by
  have hr : ∀ q ∈ r, PipB n q := fun q hq => h q (List.mem_cons_of_mem _ hq)
  have hp := h p List.mem_cons_self
  obtain ⟨e1, a1, a2, a3⟩ := Z36 (hF.at (by decide) p.a) hp.out
  obtain ⟨e2, b1, b2, b3⟩ := Z36 (hF.at (by decide) p.b) hp.back
  rw [e1] at a1 a2 a3
  rw [e2] at b1 b2 b3
  simp only at a1 a2 a3 b1 b2 b3
  have hab := hp.ab
  rw [List.length_cons, Int.natCast_add] at h3
  simp only [Int.natCast_one] at h3
  unfold flowS openP
  by_cases c : (k : Int) ∈ shut
  ·rw [if_pos c, if_pos c]
   exact Z12 hF hr h1 h2 (by omega)
  ·rw [if_neg c, if_neg c, e1, e2]
   by_cases c1 : x = p.a
   ·have c2 : ¬ x = p.b := by omega
    rw [if_pos c1, if_neg c2]
    rw [Xx h1 (by omega) b1 (by show 0 <= (atR F p.b).hi * _; omega) (by show acc.lo + (atR F p.b).lo * _ <= _; omega) (by show acc.hi + (atR F p.b).hi * _ <= _; omega)]
    rw [Z12 hF hr (by show 0 <= acc.lo + (atR F p.b).lo * _; omega) (by show acc.lo + (atR F p.b).lo * _ <= acc.hi + (atR F p.b).hi * _; omega) (by show acc.hi + (atR F p.b).hi * _ + _ <= _; omega)]
    simp only [Zu, fLo, fHi]
    rw [if_neg c2, if_pos c1, if_neg c2, if_pos c1]
    congr 1 <;> (try simp only) <;> omega
   ·rw [if_neg c1]
    by_cases c2 : x = p.b
    ·rw [if_pos c2]
     rw [Xx h1 (by omega) a1 (by show 0 <= (atR F p.a).hi * _; omega) (by show acc.lo + (atR F p.a).lo * _ <= _; omega) (by show acc.hi + (atR F p.a).hi * _ <= _; omega)]
     rw [Z12 hF hr (by show 0 <= acc.lo + (atR F p.a).lo * _; omega) (by show acc.lo + (atR F p.a).lo * _ <= acc.hi + (atR F p.a).hi * _; omega) (by show acc.hi + (atR F p.a).hi * _ + _ <= _; omega)]
     simp only [Zu, fLo, fHi]
     rw [if_pos c2, if_neg c1, if_pos c2, if_neg c1]
     congr 1 <;> (try simp only) <;> omega
    ·rw [if_neg c2]
     rw [Z12 hF hr h1 h2 (by omega)]
     simp only [Zu, fLo, fHi]
     rw [if_neg c2, if_neg c1, if_neg c2, if_neg c1]
     congr 1 <;> (try simp only) <;> omega
def floLo (v : Vac) (ps : List Pip) (F : List Rg) (x : Int) : Int := (atR F x).lo * (1000000 - outHi v x ps) + sumI (fLo F x) ps
def floHi (v : Vac) (ps : List Pip) (F : List Rg) (x : Int) : Int := (atR F x).hi * (1000000 - outLo v x ps) + sumI (fHi F x) ps
theorem VB.outs {v : Vac} (h : VB v) (shut : List Int) {i : Nat} (hi : i < v.vessels.length) : 0 <= outLo v i (openP shut 0 v.pipes) /\ outLo v i (openP shut 0 v.pipes) <= outHi v i (openP shut 0 v.pipes) /\ outHi v i (openP shut 0 v.pipes) <= 1000000 := by
 have hm : ∀ p ∈ openP shut 0 v.pipes, PipB v.vessels.length p := fun p hp => h.pip p (Jg hp)
 have b1 : 0 <= sumI (pLo i) (openP shut 0 v.pipes) := Xa fun p hp => (pb (hm p hp) i).1
 have b2 : sumI (pLo i) (openP shut 0 v.pipes) <= sumI (pHi i) (openP shut 0 v.pipes) := Z32 fun p hp => (pb (hm p hp) i).2.1
 have b3 : sumI (pHi i) (openP shut 0 v.pipes) <= sumI (pHi i) v.pipes := Z65 fun p hp => by have := pb (h.pip p hp) i; omega
 have c1 : 0 <= sumI (mLo i) v.pumps := Xa fun p hp => (mb (h.pmp p hp).2 i).1
 have c2 : sumI (mLo i) v.pumps <= sumI (mHi i) v.pumps := Z32 fun p hp => (mb (h.pmp p hp).2 i).2.1
 have := h.out i hi
 unfold outLo outHi at *
 omega
theorem Zfz {v : Vac} (h : VB v) {F : List Rg} (hF : Row 137438953472 F) (hl : F.length = v.vessels.length) (shut : List Int) {i : Nat} (hi : i < F.length) :
  (flowG v shut F)[i]? = some ⟨floLo v (openP shut 0 v.pipes) F i / 1000000, (floHi v (openP shut 0 v.pipes) F i + 999999) / 1000000⟩ /\ 0 <= floLo v (openP shut 0 v.pipes) F i /\ floLo v (openP shut 0 v.pipes) F i <= floHi v (openP shut 0 v.pipes) F i /\ floHi v (openP shut 0 v.pipes) F i <= 4600000000000000000 := by
 obtain ⟨o1, o2, o3⟩ := h.outs shut (show i < v.vessels.length by omega)
 have hm : ∀ p ∈ openP shut 0 v.pipes, PipB v.vessels.length p := fun p hp => h.pip p (Jg hp)
 have b1 : 0 <= sumI (fLo F i) (openP shut 0 v.pipes) := Xa fun p hp => (fb hF (hm p hp) i).1
 have b2 : sumI (fLo F i) (openP shut 0 v.pipes) <= sumI (fHi F i) (openP shut 0 v.pipes) := Z32 fun p hp => (fb hF (hm p hp) i).2.1
 have b3 : sumI (fHi F i) (openP shut 0 v.pipes) <= 137438953472000000 * (openP shut 0 v.pipes).length := Z33 fun p hp => (fb hF (hm p hp) i).2.2
 have b4 := Z34 (shut := shut) 0 v.pipes
 have b5 := h.p16
 have hg : (flowG v shut F)[i]? = some (quoR (flowS F shut i 0 (begR v shut F i) v.pipes)) := by
  unfold flowG
  rw [List.getElem?_map, List.getElem?_range hi]; rfl
 rw [hg]
 have hb : begR v shut F i = ⟨(atR F i).lo * (1000000 - outHi v i (openP shut 0 v.pipes)), (atR F i).hi * (1000000 - outLo v i (openP shut 0 v.pipes))⟩ /\ RgG 137438953472000000 (begR v shut F i) := by
  unfold begR
  rw [h.outR_eq]
  simp only
  rw [Z8 (x := 1000000 - outHi v i (openP shut 0 v.pipes)) (by omega) (by omega), Z8 (x := 1000000 - outLo v i (openP shut 0 v.pipes)) (by omega) (by omega)]
  exact Z36 (hF.at (by decide) i) ⟨by show 0 <= 1000000 - _; omega, by show 1000000 - _ <= 1000000 - _; omega, by show 1000000 - _ <= _; omega⟩
 obtain ⟨e1, c1, c2, c3⟩ := hb
 rw [Z12 hF h.pip c1 c2 (by omega), e1]
 rw [e1] at c1 c2 c3
 simp only at c1 c2 c3
 unfold floLo floHi
 simp only
 generalize (atR F i).lo * (1000000 - outHi v i (openP shut 0 v.pipes)) = A at *
 generalize (atR F i).hi * (1000000 - outLo v i (openP shut 0 v.pipes)) = B at *
 generalize sumI (fLo F i) (openP shut 0 v.pipes) = C at *
 generalize sumI (fHi F i) (openP shut 0 v.pipes) = D at *
 refine ⟨?_, by omega, by omega, by omega⟩
 unfold quoR
 simp only
 rw [Z8 (x := B + D + 1000000) (by omega) (by omega), Z8 (x := B + D + 1000000 - 1) (by omega) (by omega), show B + D + 1000000 - 1 = B + D + 999999 by omega, Int.tdiv_eq_ediv_of_nonneg (by omega), Int.tdiv_eq_ediv_of_nonneg (by omega)]
 rw [Z8 (x := (A + C) / 1000000) (by omega) (by omega), Z8 (x := (B + D + 999999) / 1000000) (by omega) (by omega)]
structure GB (v : Vac) (g : Gs) : Prop where
 fits : Fits v g
 f : Row 68719476736 g.free
 b : Row 68719476736 g.bound
 r : Row 68719476736 g.room
 m : 0 <= g.most /\ g.most <= 68719476736
structure Steps (v : Vac) (g : Gs) (s : Bk) : Prop where
 m1 : g.most <= (beginT v g s).most /\ (beginT v g s).most <= 68719476736
 f2 : Row 137438953472 (relT v (beginT v g s) s).free
 b2 : Row 68719476736 (relT v (beginT v g s) s).bound
 f3 : Row 5000000000000 (flowT v (relT v (beginT v g s) s) s).free
 f4 : Row 5000000000000 (getT v (flowT v (relT v (beginT v g s) s) s) s).free
 r4 : Row 68719476736 (getT v (flowT v (relT v (beginT v g s) s) s) s).room
 r4l : ∀ i, (atR (getT v (flowT v (relT v (beginT v g s) s) s) s).room i).lo <= (atR g.room i).lo /\ (atR (getT v (flowT v (relT v (beginT v g s) s) s) s).room i).hi <= (atR g.room i).hi
end Go.Proofs.Ytgnpnfkncbnjnaa
namespace Go.Proofs.Ytgnpnfkncbnjnaa
attribute [local go_sem_proc] Int.reduceEq Int.reduceNeg Nat.reduceEqDiff Nat.reduceLT Nat.reduceAdd Nat.reduceSub Nat.reduceMul Int.reduceLE Int.reduceLT Int.reduceToNat Nat.reduceLeDiff
attribute [local go_sem] Int.toNat_natCast Bool.not_true Bool.not_false
open Go Go.Am
attribute [local congr] Z7 Z5 Z6
def runG (v : Vac) (l : List Bk) : Gs := (flatT l).foldl (tickT v) (beginG v)
def runE (v : Vac) (l : List Bk) : Gs × Int := if runsE v l = 0 then (runG v l, 0) else (zeroG, runsE v l)
theorem Z68 (v : Vac) : ∀ (l : List Bk) (g : Gs), runT (fun (_ : Bool) _ => some true) v true g l = .inl (true, l.foldl (tickT v) g)
 | [], g => rfl
 | s :: r, g => by
  show runT (fun (_ : Bool) _ => some true) v true (tickT v g s) r = _
  rw [Z68 v r]; rfl
theorem Z69 (v : Vac) (c : Bool) (l : List Bk) : allT (fun (_ : Bool) _ => some true) v c l = .inl (true, runG v l) := by
 show runT (fun (_ : Bool) _ => some true) v true (beginG v) (flatT l) = _
 rw [Z68]; rfl
theorem Zg0 {H : Heap} {d : Nat} {b : Nm} (l : List Rg) (hb : l ≠ [] -> hget H b = some (rgB l)) : freezeG (freezeD H (d + 1)) H (rowX .nils b l.length) = some (.lst (l.map rgV)) := by
 cases l with
 | nil => rfl
 | cons a r => exact Z3x (g := rgC) (z := 2) Z1f (by decide) (f := rgV) (fun _ => rfl) (row := freezeD H (d + 1)) (H := H) (a :: r) (Zde _) (hb (by simp)) (a :: r).length false
theorem Z77 {H : Heap} {f b r : Nm} {g : Gs} {e : Int} (h1 : hget H f = some (rgB g.free)) (h2 : hget H b = some (rgB g.bound)) (h3 : g.room ≠ [] -> hget H r = some (rgB g.room)) : Go.Am.frozen H (.tuple [.agg [.slice f 0 g.free.length g.free.length false, .slice b 0 g.bound.length g.bound.length false, rowX .nils r g.room.length, .int .i64 g.most, .bool g.flashed], .int .i64 e]) = some (gasP (g, e)) := by
 have h4 : freezeG (freezeD H 6) H (.tuple [.agg [.slice f 0 g.free.length g.free.length false, .slice b 0 g.bound.length g.bound.length false, rowX .nils r g.room.length, .int .i64 g.most, .bool g.flashed], .int .i64 e]) = some (.tuple [gsV g, .int .i64 e]) := by
  show (match freezeGs (freezeD H 6) H [.agg [.slice f 0 g.free.length g.free.length false, .slice b 0 g.bound.length g.bound.length false, rowX .nils r g.room.length, .int .i64 g.most, .bool g.flashed], .int .i64 e] with | some l => some (AV.tuple l) | none => none) = _
  have h5 : freezeG (freezeD H 6) H (.agg [.slice f 0 g.free.length g.free.length false, .slice b 0 g.bound.length g.bound.length false, rowX .nils r g.room.length, .int .i64 g.most, .bool g.flashed]) = some (gsV g) := by
   show (match freezeGs (freezeD H 6) H [.slice f 0 g.free.length g.free.length false, .slice b 0 g.bound.length g.bound.length false, rowX .nils r g.room.length, .int .i64 g.most, .bool g.flashed] with | some l => some (AV.agg l) | none => none) = _
   simp only [freezeGs, Z8b g.free h1, Z8b g.bound h2, Zg0 g.room h3]
   rfl
  simp only [freezeGs, h5]
  rfl
 unfold Go.Am.frozen
 rw [h4]
 have h5 : (AV.tuple [gsV g, .int .i64 e]).flat = true := by simp only [gsV, AV.flat, flats, Zap]
 simp only [h5]
 rfl
theorem Zg1 (v : Vac) (l : List Bk) (K : Nat) (H : Heap) (n : Nat) : acall cfg (K + 1) 99 [vacV v, .lst (l.map bkV)] ⟨H, n, [], false, []⟩ = .ret (.func 152 [.ptr [n] 0, .ptr [n + 1] 0], ⟨([n + 1], .cells [.lst (l.map bkV)] true 0) :: ([n], vacC v) :: H, n + 2, [], false, []⟩) := by
 suffices h : (acall cfg (K + 1) 99 [vacV v, .lst (l.map bkV)] ⟨H, n, [], false, []⟩).Does fun x => x = (.func 152 [.ptr [n] 0, .ptr [n + 1] 0], ⟨([n + 1], .cells [.lst (l.map bkV)] true 0) :: ([n], vacC v) :: H, n + 2, [], false, []⟩) by
  obtain ⟨a, e, rfl⟩ := h; exact e
 rw [Z4s Zhc Zhb]
 refine Z9 rfl fun T hT' hA => ?_
 have a0 := hA 0 _ rfl
 have a1 := hA 1 _ rfl
 have hT : T.length = 6 := hT'
 clear hA hT'
 unfold vacV at a0
 unfold vacC
 simp -implicitDefEqProofs only [go_sem, a0, a1, hT, Try.results99]
theorem Zcy (v : Vac) (l : List Bk) (K : Nat) (s : St) (hK : 3000 < K) (hv : v.Lens K) (hl : BkL K l) : acall cfg (K + 14) 37 [vacV v, .lst (l.map bkV)] s = .ret (gasP (runE v l), s) := by
 refine Z0p Zd9 Zd8 (by first | rfl | simp -implicitDefEqProofs only [redoH, redo1, go_sem]) (by first | rfl | simp -implicitDefEqProofs only [go_sem]) (by first | rfl | simp -implicitDefEqProofs only [go_sem]) ?_
 refine Z9 rfl fun T hT' hA => ?_
 have a0 := hA 0 _ rfl
 have a1 := hA 1 _ rfl
 have hT : T.length = 25 := hT'
 clear hA hT'
 have hr := fun s => Zb8 v l (K + 1) s (by omega) (hv.more 1) ⟨hl.1, fun x hx => by have := hl.2 x hx; omega⟩
 simp only [vacV] at hr
 unfold runE
 by_cases c0 : runsE v l = 0
 ·rw [if_pos c0]
  obtain ⟨hz, hl20, hrs⟩ := Z63 c0
  have hva := Z87 hz
  have hst : ∀ s ∈ l, 0 <= s.ticks /\ s.ticks <= 2000 /\ s.shut.length <= 40 := fun s hs => Zb9 hva (Z45 hrs s hs)
  have h99 := fun H n => Zg1 v l (K + 12) H n
  simp only [vacV] at h99
  simp -implicitDefEqProofs only [go_sem, a0, a1, hT, hr, c0, h99]
  simp only [Z4]
  refine Z75 (nxt := fun (_ : Bool) _ => some true) (fun L c H => hget H [0] = some (vacC v) /\ hget H [1] = some (.cells [.nils, .nils, .nils, .int .i64 0, .bool false] true 0) /\ hget H [2] = some (.cells [if c = true then .ptr [6, 4, 0] 0 else .nilp] true 0) /\ hget H [3] = some (vacC v) /\ hget H [4] = some (.cells [.lst (l.map bkV)] true 0) /\ hget H [5] = some L) (fun _ _ _ => False) false (by simp -implicitDefEqProofs only [go_sem, hT] <;> rfl) hva (by omega) hst hl20
   (P := fun T => T.length = 25 /\ nth T 7 = some (.ptr [2] 0) /\ nth T 4 = some (.ptr [1] 0)) (by exact ⟨by simp -implicitDefEqProofs only [go_sem, hT], by simp -implicitDefEqProofs only [go_sem, hT], by simp -implicitDefEqProofs only [go_sem, hT]⟩) ?_
  clear a0 a1 hT T hr h99
  rintro T ⟨hT, a7, a4⟩ L hL
  refine ⟨⟨?_, ?_, ?_, ?_⟩, ?_, ?_, ?_, ?_⟩
  ·intro c g H n hn hI hs hf
   left
   obtain ⟨i0, i1, i2, i3, i4, i5⟩ := hI
   subst hL
   suffices hd : (around cfg (K + 11 + 1) [5] [.ptr [6, 4, 0] 0] ⟨H, n, [], false, []⟩).Does fun x => ∃ H', x = (.bool true, (⟨H', n, [], false, []⟩ : St)) /\ (∀ q : Nm, q ≠ [2] -> q ≠ [5] -> hget H' q = hget H q) /\ hget H' [2] = some (.cells [.ptr [6, 4, 0] 0] true 0) /\ hget H' [5] = hget H [5] by
    obtain ⟨x, e, H', rfl, k1, k2, k3⟩ := hd
    exact ⟨true, H', n, rfl, e, Nat.le_refl _, ⟨(k1 _ (by decide) (by decide)).trans i0, (k1 _ (by decide) (by decide)).trans i1, k2, (k1 _ (by decide) (by decide)).trans i3, (k1 _ (by decide) (by decide)).trans i4, k3.trans i5⟩, fun q h1 h2 => k1 _ (n11 (by omega)) (n11 (by omega)),
     ⟨(k1 _ n31 n31).trans hs.x, (k1 _ n31 n31).trans hs.f, (k1 _ n31 n31).trans hs.b, fun e => (k1 _ n31 n31).trans (hs.r e)⟩⟩
   refine Z95 i5 rfl ?_
   simp -implicitDefEqProofs only [go_sem, a7, hT]
   refine ⟨trivial, _, _, _, _, _, i5, ?_⟩
   have k2 : ∀ Y, hget (hset H [5] Y) [2] = hget H [2] := fun Y => hs11 (by decide)
   have k5 : ∀ X Y, hget (hset (hset H [5] Y) [2] X) [5] = some Y := fun X Y => (hs11 (by decide)).trans (hss i5)
   simp -implicitDefEqProofs only [go_sem, i2, k2]
   refine ⟨_, _, _, _, _, _, k5 _ _, ?_⟩
   simp -implicitDefEqProofs only [go_sem, jumpOf]
   refine ⟨_, rfl, fun q h1 h2 => ?_, ?_, ?_⟩
   ·rw [Z3 _ _ (Ne.symm h2), Z3 _ _ (Ne.symm h1), Z3 _ _ (Ne.symm h2)]
   ·rw [Z3 _ _ (by decide)]
    exact hss ((k2 _).trans i2)
   ·rw [hss (k5 _ _), i5]
  ·rintro c H H' ⟨i0, i1, i2, i3, i4, i5⟩ hk
   exact ⟨(hk 0 (by omega)).trans i0, (hk 1 (by omega)).trans i1, (hk 2 (by omega)).trans i2, (hk 3 (by omega)).trans i3, (hk 4 (by omega)).trans i4, (hk 5 (by omega)).trans i5⟩
  ·exact fun c H h => h.2.2.2.1
  ·exact fun c H h => h.2.2.2.2.1
  ·exact ⟨rfl, rfl, rfl, rfl, rfl, rfl⟩
  ·exact fun c H h => h.2.2.2.2.2
  ·intro c g H n hall hI hs hn
   rw [Z69] at hall
   injection hall with hall
   obtain ⟨rfl, rfl⟩ := Prod.mk.inj hall
   obtain ⟨i0, i1, i2, i3, i4, i5⟩ := hI
   have hs : SysAt .nils H [6, 4, 0] [6, 2, 0] [6, 2, 1] [6, 2, 2] v (runG v l) := hs
   have i2 : hget H [2] = some (.cells [.ptr [6, 4, 0] 0] true 0) := i2
   have k2 : ∀ Y, hget (hset H [5] Y) [2] = hget H [2] := fun Y => hs11 (by decide)
   have k1 : ∀ Y, hget (hset H [5] Y) [1] = hget H [1] := fun Y => hs11 (by decide)
   have k6 : ∀ Y, hget (hset H [5] Y) [6, 4, 0] = hget H [6, 4, 0] := fun Y => hs13
   have k3 : ∀ X Y, hget (hset (hset H [5] Y) [1] X) [1] = some X := fun X Y => hss ((k1 Y).trans i1)
   have g4 := hs.x
   unfold sysB at g4
   simp -implicitDefEqProofs only [go_sem, a7, a4, hT, i1, i2, k1, k2, k3, k6, g4, Try.results37]
   exact Z77 (hs13.trans (hs13.trans hs.f)) (hs13.trans (hs13.trans hs.b)) (fun e => hs13.trans (hs13.trans (hs.r e)))
  ·intro c g H n hall
   rw [Z69] at hall
   cases hall
 ·rw [if_neg c0]
  simp -implicitDefEqProofs only [go_sem, a0, a1, hT, hr, c0, Try.results37]
  exact Z74 _ _
end Go.Proofs.Ytgnpnfkncbnjnaa
namespace Go.Proofs.Ytgnpnfkncbnjnaa
open Go Go.Am
attribute [local congr] Z7 Z5 Z6
end Go.Proofs.Ytgnpnfkncbnjnaa
namespace Go.Proofs.Ytgnpnfkncbnjnaa
open Go Go.Am
attribute [local congr] Z7 Z5 Z6
end Go.Proofs.Ytgnpnfkncbnjnaa
namespace Go.Proofs.Ytgnpnfkncbnjnaa
open Go Go.Am
attribute [local congr] Z7 Z5 Z6
end Go.Proofs.Ytgnpnfkncbnjnaa
namespace Go.Proofs.Ytgnpnfkncbnjnaa
open Go Go.Am
attribute [local congr] Z7 Z5 Z6
attribute [local go_sem] Go.Am.frozen Go.Am.freezeG Go.Am.freezeGs
end Go.Proofs.Ytgnpnfkncbnjnaa
namespace Go.Proofs.Ytgnpnfkncbnjnaa
open Go Go.Am
attribute [local congr] Z7 Z5 Z6
end Go.Proofs.Ytgnpnfkncbnjnaa
namespace Go.Proofs.Ytgnpnfkncbnjnaa
open Go Go.Am
theorem Z78 {v : Vac} {s : Bk} (h : stageE v s = 0) : 0 <= s.ticks /\ s.ticks <= 2000 := by
 unfold stageE at h
 split at h
 ·rename_i h1; exact Yc.1 h1.1
 ·exact absurd h (by decide)
theorem Z37 {v : Vac} : ∀ {l : List Bk} {q : Int}, 0 <= q -> q + 2000 * l.length <= 1000000 -> (runsS v q l = 0 ↔ (∀ s ∈ l, stageE v s = 0) /\ q + sumI Bk.ticks l <= 2000)
 | [], q, _, _ => by
  unfold runsS
  rw [Ju]
  by_cases h : 2000 < q
  ·rw [if_pos h]; constructor
   ·intro g; exact absurd g (by decide)
   ·rintro ⟨_, g⟩; omega
  ·rw [if_neg h]; exact ⟨fun _ => ⟨fun s hs => (nomatch hs), by omega⟩, fun _ => rfl⟩
 | a :: r, q, h0, h1 => by
  unfold runsS
  rw [List.length_cons, Int.natCast_add] at h1
  simp only [Int.natCast_one] at h1
  by_cases h : stageE v a = 0
  ·have ht := Z78 h
   rw [if_pos h, Z8 (by omega) (by omega), Z37 (by omega) (by omega), Zu]
   constructor
   ·rintro ⟨g1, g2⟩
    refine ⟨fun s hs => ?_, by omega⟩
    rcases List.mem_cons.1 hs with rfl | hs
    ·exact h
    ·exact g1 s hs
   ·rintro ⟨g1, g2⟩
    exact ⟨fun s hs => g1 s (List.mem_cons_of_mem _ hs), by omega⟩
  ·rw [if_neg h]
   constructor
   ·intro g; exact absurd g h
   ·rintro ⟨g, _⟩; exact absurd (g a List.mem_cons_self) h
theorem Zcz {v : Vac} {l : List Bk} : runsE v l = 0 ↔ checkE v = 0 /\ l.length <= 20 /\ (∀ s ∈ l, stageE v s = 0) /\ sumI Bk.ticks l <= 2000 := by
 constructor
 ·intro h
  obtain ⟨h1, h2, h3⟩ := Z63 h
  obtain ⟨h4, h5⟩ := (Z37 (by decide) (by omega)).1 h3
  exact ⟨h1, h2, h4, by omega⟩
 ·rintro ⟨h1, h2, h3, h4⟩
  unfold runsE
  rw [if_pos h1, if_neg (by omega)]
  exact (Z37 (by decide) (by omega)).2 ⟨h3, by omega⟩
end Go.Proofs.Ytgnpnfkncbnjnaa
namespace Go.Proofs.Ytgnpnfkncbnjnaa
open Go Go.Am
attribute [local congr] Z7 Z5 Z6
attribute [local go_sem] Go.Am.frozen Go.Am.freezeG Go.Am.freezeGs
end Go.Proofs.Ytgnpnfkncbnjnaa
namespace Go.Proofs.Ytgnpnfkncbnjnaa
open Go Go.Am
attribute [local congr] Z7 Z5 Z6
attribute [local go_sem] Go.Am.frozen Go.Am.freezeG Go.Am.freezeGs
end Go.Proofs.Ytgnpnfkncbnjnaa
namespace Go.Proofs.Ytgnpnfkncbnjnaa
open Go Go.Am
attribute [local congr] Z7 Z5 Z6
end Go.Proofs.Ytgnpnfkncbnjnaa
namespace Go.Proofs.Ytgnpnfkncbnjnaa
open Go Go.Am
def halfV (gas : Int) : Vac := ⟨[⟨10, ⟨gas, gas⟩, ⟨0, 0⟩, []⟩], [], [⟨0, ⟨500000, 500000⟩⟩], [], []⟩
def exG (lo hi gas : Int) : Gs := ⟨[⟨lo, hi⟩], [⟨0, 0⟩], [], gas, false⟩
theorem Zbh {gas : Int} (h0 : 0 <= gas) (h1 : gas <= 1048576) : VB (halfV gas) := by
 refine ⟨Nat.le_refl 1, (by show 1 <= 8; decide), (by show 0 <= 16; decide), (by show 1 <= 8; decide), (by show 0 <= 8; decide), (by show 0 <= 8; decide), fun x hx => ?_, (fun p hp => nomatch hp), fun q hq => ?_, (fun q hq => nomatch hq), (fun q hq => nomatch hq), fun i hi => ?_⟩
 ·rw [show (halfV gas).vessels = [⟨10, ⟨gas, gas⟩, ⟨0, 0⟩, []⟩] from rfl, List.mem_singleton] at hx
  subst hx
  exact ⟨⟨by show (1 : Int) <= 10; decide, by show (10 : Int) <= 1000000; decide⟩, ⟨h0, Int.le_refl _, by show gas <= _; omega⟩, Z94 _ (by decide), by show 0 <= 8; decide, trivial⟩
 ·rw [show (halfV gas).pumps = [⟨0, ⟨500000, 500000⟩⟩] from rfl, List.mem_singleton] at hq
  subst hq
  exact ⟨⟨by decide, by show (0 : Int) < 1; decide⟩, ⟨by decide, by decide, by decide⟩⟩
 ·show outHi (halfV gas) i [] <= _
  unfold outHi
  rw [show (halfV gas).pumps = [⟨0, ⟨500000, 500000⟩⟩] from rfl, Ju, Zu, Ju]
  unfold mHi
  split <;> decide
theorem Zg2 {lo hi gas t : Int} (h0 : 0 <= lo) (h1 : lo <= hi) (h2 : hi <= gas) (h3 : gas <= 1048576) : tickT (halfV gas) (exG lo hi gas) ⟨t, 0, [], false⟩ = exG (lo / 2) ((hi + 1) / 2) gas := by
 have hv := Zbh (gas := gas) (by omega) h3
 have hb : VesB ⟨10, ⟨gas, gas⟩, ⟨0, 0⟩, []⟩ := hv.ves _ List.mem_cons_self
 have e1 : relF 0 (halfV gas).vessels [⟨lo, hi⟩] [⟨0, 0⟩] = [⟨lo, hi⟩] := by
  show [relFr 0 _ ⟨lo, hi⟩ ⟨0, 0⟩] = _
  rw [(Zcw (h := 0) hb (f := ⟨lo, hi⟩) (b := ⟨0, 0⟩) ⟨h0, h1, by show hi <= _; omega⟩ (Z94 _ (by decide))).1]
  show [(⟨lo + dn 0 0, hi + ups 0 0⟩ : Rg)] = _
  rw [show dn 0 0 = 0 from by decide, show ups 0 0 = 0 from by decide, Int.add_zero, Int.add_zero]
 have e2 : relB 0 (halfV gas).vessels [⟨0, 0⟩] = [⟨0, 0⟩] := by
  show [relBo 0 _ ⟨0, 0⟩] = _
  rw [(Zcx (h := 0) hb (b := ⟨0, 0⟩) (Z94 _ (by decide))).1]
  show [(⟨dn 0 (1000000 - 0), ups 0 (1000000 - 0)⟩ : Rg)] = _
  rw [show dn 0 (1000000 - 0) = 0 from by decide, show ups 0 (1000000 - 0) = 0 from by decide]
 have e3 : flowG (halfV gas) [] [⟨lo, hi⟩] = [⟨lo / 2, (hi + 1) / 2⟩] := by
  have hF : Row 137438953472 [(⟨lo, hi⟩ : Rg)] := fun r hr => by
   rw [List.mem_singleton] at hr; subst hr; exact ⟨h0, h1, by show hi <= _; omega⟩
  have := (Zfz hv hF rfl [] (i := 0) (by show 0 < 1; decide)).1
  have ho : ∀ x : Int, outHi (halfV gas) 0 [] = 500000 /\ outLo (halfV gas) 0 [] = 500000 := fun x => ⟨rfl, rfl⟩
  rw [show openP [] 0 (halfV gas).pipes = [] from rfl] at this
  unfold floLo floHi at this
  rw [Ju, Ju, show outHi (halfV gas) ((0 : Nat) : Int) [] = 500000 from rfl, show outLo (halfV gas) ((0 : Nat) : Int) [] = 500000 from rfl] at this
  rw [show atR [(⟨lo, hi⟩ : Rg)] ((0 : Nat) : Int) = ⟨lo, hi⟩ from rfl] at this
  simp only at this
  have hl : (flowG (halfV gas) [] [⟨lo, hi⟩]).length = 1 := by rw [Jf]; rfl
  obtain ⟨r, hr⟩ := List.length_eq_one_iff.1 hl
  rw [hr] at this ⊢
  simp only [List.getElem?_cons_zero, Option.some.injEq] at this
  rw [this]
  congr 2 <;> omega
 have hg : getT (halfV gas) (flowT (halfV gas) (relT (halfV gas) (beginT (halfV gas) (exG lo hi gas) ⟨t, 0, [], false⟩) ⟨t, 0, [], false⟩) ⟨t, 0, [], false⟩) ⟨t, 0, [], false⟩ = exG (lo / 2) ((hi + 1) / 2) gas := by
  unfold getT
  rw [if_neg (by show ¬ (false || false) = true; decide)]
  show (⟨leakR (flowG (halfV gas) [] (relF 0 (halfV gas).vessels [⟨lo, hi⟩] [⟨0, 0⟩])) [], relB 0 (halfV gas).vessels [⟨0, 0⟩], [], gas, false || false⟩ : Gs) = _
  rw [e1, e2, e3]
  rfl
 unfold tickT
 rw [hg]
 show (⟨[cutR gas ⟨lo / 2, (hi + 1) / 2⟩], [cutR gas ⟨0, 0⟩], [], gas, false⟩ : Gs) = _
 unfold cutR min2 exG
 simp only
 rw [if_neg (by omega), if_neg (by omega), if_neg (by omega)]
def loI (g : Int) : Nat -> Int
 | 0 => g
 | i + 1 => loI g i / 2
def hiI (g : Int) : Nat -> Int
 | 0 => g
 | i + 1 => (hiI g i + 1) / 2
theorem Zd0 {g : Int} (h : 0 <= g) : ∀ i, 0 <= loI g i /\ loI g i <= hiI g i /\ hiI g i <= g /\ loI g i * (2 ^ i : Nat) <= g /\ g <= hiI g i * (2 ^ i : Nat)
 | 0 => ⟨h, Int.le_refl _, Int.le_refl _, by show g * 1 <= g; omega, by show g <= g * 1; omega⟩
 | i + 1 => by
  obtain ⟨h1, h2, h3, h4, h5⟩ := Zd0 h i
  have hp : ((2 ^ (i + 1) : Nat) : Int) = 2 * (2 ^ i : Nat) := by rw [Nat.pow_succ]; omega
  have hp0 : (0 : Int) <= ((2 ^ i : Nat) : Int) := Int.natCast_nonneg _
  unfold loI hiI
  rw [hp]
  generalize loI g i = a at *
  generalize hiI g i = b at *
  generalize ((2 ^ i : Nat) : Int) = q at *
  refine ⟨by omega, by omega, by omega, ?_, ?_⟩
  ·rw [<- Int.mul_assoc]
   have : a / 2 * 2 <= a := by omega
   have := Int.mul_le_mul_of_nonneg_right this hp0
   omega
  ·rw [<- Int.mul_assoc]
   have : b <= (b + 1) / 2 * 2 := by omega
   have := Int.mul_le_mul_of_nonneg_right this hp0
   omega
theorem Zhl {gas : Int} (h0 : 0 <= gas) (h1 : gas <= 1048576) (q : Nat) : runG (halfV gas) [⟨(q : Int), 0, [], false⟩] = exG (loI gas q) (hiI gas q) gas := by
 have hb : beginG (halfV gas) = exG gas gas gas := by
  show (⟨[⟨gas, gas⟩], [⟨0, 0⟩], [], wrapF .i64 (0 + (gas + 0)), false⟩ : Gs) = _
  rw [Z8 (by omega) (by omega)]
  unfold exG
  congr 1; omega
 have hf : flatT [(⟨(q : Int), 0, [], false⟩ : Bk)] = List.replicate q ⟨(q : Int), 0, [], false⟩ := by
  rw [Z44]; simp [flatT]
 unfold runG
 rw [hb, hf]
 have key : ∀ (k i : Nat) (z : Bk), z.heat = 0 -> z.shut = [] -> z.flash = false -> (List.replicate k z).foldl (tickT (halfV gas)) (exG (loI gas i) (hiI gas i) gas) = exG (loI gas (i + k)) (hiI gas (i + k)) gas := by
  intro k
  induction k with
  | zero => intro i z _ _ _; rfl
  | succ k ih =>
   intro i z hz1 hz2 hz3
   obtain ⟨b1, b2, b3, _, _⟩ := Zd0 h0 i
   rw [List.replicate_succ, List.foldl_cons]
   have : tickT (halfV gas) (exG (loI gas i) (hiI gas i) gas) z = exG (loI gas (i + 1)) (hiI gas (i + 1)) gas := by
    obtain ⟨zt, zh, zs, zf⟩ := z
    subst hz1; subst hz2; subst hz3
    exact Zg2 b1 b2 b3 h1
   rw [this, ih (i + 1) z hz1 hz2 hz3, show i + 1 + k = i + (k + 1) by omega]
 have := key q 0 ⟨(q : Int), 0, [], false⟩ rfl rfl rfl
 rw [Nat.zero_add] at this
 exact this
end Go.Proofs.Ytgnpnfkncbnjnaa
namespace Go.Am
open Go
section
variable {C : Cfg} {K : Nat}
theorem Zbi {f : FuncId} {fn : Func} {args args' : List AV} {s s' : St} {v : AV} (hm : C.mode.get f = some 1) (hf : C.fn.get f = some fn) (hfl : flats (shuts args) = false) (hi : iceA args s = .ret (args', s')) (hs : shuts args' = args') (hfl' : flats args' = true)
  (hc : acall C (K + 1) f args' s' = .ret (v, s')) : acall C (K + 1) f args s = .ret (v, s') := by
 rw [Y9] at hc ⊢
 unfold enterA at hc ⊢
 rw [hf] at hc ⊢; simp only at hc ⊢
 rw [hm] at hc ⊢; simp only at hc ⊢
 rw [hs, hfl'] at hc
 simp only at hc
 rw [hfl]; simp only
 rw [Zb, hi]
 simp only [Tr.bind_ret]
 exact hc
theorem Zg3 {args args' : List AV} {s s' : St} {bs : List Nm} {xs : List Blk} (hl : lendM 200 (namesVs false args []) [] [] s = .ret ((bs, xs), s)) (ha : iceAll bs s = .ret ((), s'))
  (hi : iceGs (iceD (zipB bs xs) 6) (zipB bs xs) args = some args') (hfl : flats args' = true) : iceA args s = .ret (args', s') := by
 unfold iceA
 rw [Zb, hl]
 simp only [Tr.bind_ret]
 rw [Zb, ha]
 simp only [Tr.bind_ret, hi, hfl]
 rfl
theorem Zd1 {b : Nm} {cs : List AV} {u : Nat} {s : St} (h : hget s.H b = some (.cells cs true u)) : iceB b s = .ret ((), s.put b (.cells cs false u)) := by
 unfold iceB
 rw [Zb, Yf, h]
 simp only [Tr.bind_ret]
 rw [Y5, h]
theorem Z79 {b : Nm} {r : List Nm} {s s' : St} (h : iceB b s = .ret ((), s')) : iceAll (b :: r) s = iceAll r s' := by
 show ((iceB b).bind fun _ => iceAll r) s = _
 rw [Zb, h]; rfl
theorem Z97 {s : St} : iceAll [] s = .ret ((), s) := rfl
end
end Go.Am
namespace Go.Proofs.Ytgnpnfkncbnjnaa
open Go Go.Am
theorem Zbj (k : Nat) (s : St) : acall cfg (k + 300) 39 [] s = .ret (.bool true, s) := by kernel_rfl
end Go.Proofs.Ytgnpnfkncbnjnaa
namespace Go.Proofs.Ytgnpnfkncbnjnaa
open Go Go.Am
def I64 (n : Int) : Prop := -9223372036854775808 <= n /\ n <= 9223372036854775807
def Arg {α : Type} (t : TypeId) (d : Nat) (cells : α -> List AV) (ok : α -> Prop) : Prop := ∀ cs, Content Try.prog d t cs -> ∃ a, cs = cells a /\ ok a
theorem Zbk (d : Nat) : Arg 3 (d + 1) (fun n => [iV n]) I64 := by
 intro cs h
 unfold Content at h
 rw [show Try.prog.underlying 3 = some (.int .i64) by kernel_rfl] at h
 obtain ⟨n, rfl, hn⟩ := h
 refine ⟨n, rfl, ?_⟩
 simp only [Lit.wf, Bool.and_eq_true, decide_eq_true_eq] at hn
 exact hn
theorem Arg.to {α β : Type} {t d : Nat} {c : α -> List AV} {k : α -> Prop} (h : Arg t d c k) (g : α -> β) {c' : β -> List AV} {k' : β -> Prop} (hc : ∀ a, c a = c' (g a)) (hk : ∀ a, k a -> k' (g a)) : Arg t d c' k' := fun cs hx => by
 obtain ⟨a, rfl, ha⟩ := h cs hx
 exact ⟨g a, hc a, hk a ha⟩
def Len {α : Type} (l : List α) : Prop := l.length <= 9223372036854775807
def Tri.I (t : Tri) : Prop := (Len t.of /\ ∀ a ∈ t.of, I64 a) /\ I64 t.cost
def Hnt.I (h : Hnt) : Prop := I64 h.suspects /\ Len h.trials /\ ∀ t ∈ h.trials, t.I
def Rg.I (r : Rg) : Prop := I64 r.lo /\ I64 r.hi
def Rel.I (x : Rel) : Prop := I64 x.frm /\ x.rate.I
def Ves.I (x : Ves) : Prop := I64 x.vol /\ x.free.I /\ x.bound.I /\ Len x.bands /\ ∀ a ∈ x.bands, a.I
def Pip.I (x : Pip) : Prop := I64 x.a /\ I64 x.b /\ x.out.I /\ x.back.I
def Pmp.I (x : Pmp) : Prop := I64 x.at' /\ x.part.I
def Inl.I (x : Inl) : Prop := I64 x.at' /\ x.gas.I
def Gtr.I (x : Gtr) : Prop := I64 x.at' /\ x.part.I /\ x.room.I
def Vac.I (v : Vac) : Prop := (Len v.vessels /\ ∀ a ∈ v.vessels, a.I) /\ (Len v.pipes /\ ∀ a ∈ v.pipes, a.I) /\ (Len v.pumps /\ ∀ a ∈ v.pumps, a.I) /\ (Len v.leaks /\ ∀ a ∈ v.leaks, a.I) /\ (Len v.getters /\ ∀ a ∈ v.getters, a.I)
def Bk.I (s : Bk) : Prop := I64 s.ticks /\ I64 s.heat /\ (Len s.shut /\ ∀ a ∈ s.shut, I64 a)
def Gs.I (g : Gs) : Prop := (Len g.free /\ ∀ a ∈ g.free, a.I) /\ (Len g.bound /\ ∀ a ∈ g.bound, a.I) /\ (Len g.room /\ ∀ a ∈ g.room, a.I) /\ I64 g.most
end Go.Proofs.Ytgnpnfkncbnjnaa
namespace Go.Proofs.Ytgnpnfkncbnjnaa
open Go Go.Am
attribute [local congr] Z7 Z5 Z6
attribute [local go_sem] Go.Am.frozen Go.Am.freezeG Go.Am.freezeGs Go.Am.minmax
theorem VacG.lens {v : Vac} (h : VacG v) (K : Nat) (hK : 10 < K) : v.Lens K :=
 ⟨⟨by have := h.n4; omega, by have := h.n4; omega⟩, ⟨by have := h.np; omega, by have := h.np; omega⟩, ⟨by have := h.nm; omega, by have := h.nm; omega⟩, ⟨by have := h.nl; omega, by have := h.nl; omega⟩, ⟨by have := h.ng; omega, by have := h.ng; omega⟩, fun x hx => by have := (h.ves x hx).len; omega⟩
theorem Vac.I.lens {v : Vac} (h : v.I) (K : Nat) (h1 : v.vessels.length < K) (h2 : v.pipes.length < K) (h3 : v.pumps.length < K) (h4 : v.leaks.length < K) (h5 : v.getters.length < K) : v.Lens K :=
 ⟨⟨h1, h.1.1⟩, ⟨h2, h.2.1.1⟩, ⟨h3, h.2.2.1.1⟩, ⟨h4, h.2.2.2.1.1⟩, ⟨h5, h.2.2.2.2.1⟩, fun x hx => (h.1.2 x hx).2.2.2.1⟩
end Go.Proofs.Ytgnpnfkncbnjnaa
namespace Go.Proofs.Ytgnpnfkncbnjnaa
attribute [local go_sem_proc] Int.reduceEq Int.reduceNeg Nat.reduceEqDiff Nat.reduceLT Nat.reduceAdd Nat.reduceSub Nat.reduceMul Int.reduceLE Int.reduceLT Int.reduceToNat Nat.reduceLeDiff
attribute [local go_sem] Int.toNat_natCast Bool.not_true Bool.not_false
open Go Go.Am
attribute [local congr] Z7 Z5 Z6
attribute [local go_sem] Go.Am.frozen Go.Am.freezeG Go.Am.freezeGs
theorem Zbl (a b : Int) (K : Nat) (s : St) : acall cfg (K + 1) 38 [.int .i64 a, .int .i64 b] s = .ret (.agg [.int .i64 a, .int .i64 b], s) := by
 refine Z0p Zh2 Zh1 (by first | rfl | simp -implicitDefEqProofs only [redoH, redo1, go_sem]) (by first | rfl | simp -implicitDefEqProofs only [redoH, redo1, go_sem]) (by first | rfl | simp -implicitDefEqProofs only [redoH, redo1, go_sem]) ?_
 refine Z9 rfl fun T hT' hA => ?_
 have a0 := hA 0 _ rfl
 have a1 := hA 1 _ rfl
 have hT : T.length = 8 := hT'
 clear hA hT'
 simp -implicitDefEqProofs only [go_sem, a0, a1, hT, Try.results38]
theorem Z48 (a : Int) (K : Nat) (s : St) : acall cfg (K + 2) 36 [.int .i64 a] s = .ret (.agg [.int .i64 a, .int .i64 a], s) := by
 refine Z0p Zh0 Zgz (by first | rfl | simp -implicitDefEqProofs only [redoH, redo1, go_sem]) (by first | rfl | simp -implicitDefEqProofs only [redoH, redo1, go_sem]) (by first | rfl | simp -implicitDefEqProofs only [redoH, redo1, go_sem]) ?_
 refine Z9 rfl fun T hT' hA => ?_
 have a0 := hA 0 _ rfl
 have hT : T.length = 6 := hT'
 clear hA hT'
 have h := fun s => Zbl a a K s
 simp -implicitDefEqProofs only [go_sem, a0, hT, h, Try.results36]
def halfB (lo hi : Int) : List AV := [.int .i64 10, .int .i64 lo, .int .i64 hi, .int .i64 0, .int .i64 0, .nils]
theorem Zbm (K : Nat) (H : Heap) (n : Nat) (p : Nm) (jr : Bool) (j : Delta) : acall cfg (K + 3) 35 [] ⟨H, n, p, jr, j⟩ = .ret (.agg [.slice (p ++ [n]) 0 1 1 true, .nils, .lst [.agg [.int .i64 0, .int .i64 500000, .int .i64 500000]], .nils, .nils], St.new ⟨H, n, p, jr, j⟩ (.cells (halfB 1000 1000) true 6)) := by
 have hd : (bodyA (cfg.at 35) (acall cfg (K + 2)) (around cfg (K + 2)) (K + 2 + 1) Try.f35 [] ⟨[], 0, [], false, []⟩).Does fun x => x.1 = .agg [.slice [1] 0 1 1 true, .nils, .lst [.agg [.int .i64 0, .int .i64 500000, .int .i64 500000]], .nils, .nils] /\ hget x.2.H [1] = some (.cells (halfB 1000 1000) true 6) := by
  refine Z9 rfl fun T hT' hA => ?_
  have hT : T.length = 8 := hT'
  clear hA hT'
  have h := fun a s => Z48 a K s
  have hb : ∀ (c : AV) s, buildSliceA (cfg.at 35) true 35 1 [(0, .agg [.int .i64 0, .int .i64 500000, .int .i64 500000])] s = .ret (.lst [.agg [.int .i64 0, .int .i64 500000, .int .i64 500000]], s) := fun c s => by
   simp -implicitDefEqProofs only [go_sem, Go.Am.buildSliceA]
  simp -implicitDefEqProofs only [go_sem, hT, h, Go.Am.buildSliceA, Try.results35]
  exact ⟨trivial, rfl⟩
 obtain ⟨⟨v1, s1⟩, e, h1, h2⟩ := hd
 simp only at h1 h2
 subst h1
 refine Z11 (bs := []) (xs := []) (xs0 := []) (args' := []) (ys' := []) (zs' := [.cells (halfB 1000 1000) true 6]) (s2 := ⟨H, n, p, jr, j⟩) Zgy Zgx rfl rfl rfl rfl rfl ⟨_, e, [], [[1]], [.cells (halfB 1000 1000) true 6], rfl, ?_, rfl, ?_, rfl, rfl⟩ rfl rfl
 ·show reachL s1.H (199 + 1) [[1]] [] [] = _
  rw [Xu]
  simp only [memNm, h2]
  rfl
 ·rfl
theorem Zbn {gas : Int} {q : Nat} (h0 : 0 <= gas) (h1 : gas <= 1048576) (hq : q <= 2000) (K : Nat) (hK : 3100 < K) (s : St) (b : Nm) (hb : hget s.H b = some (.cells (halfB gas gas) true 6)) :
  acall cfg (K + 14) 37 [.agg [.slice b 0 1 1 true, .lst [], .lst [.agg [.int .i64 0, .int .i64 500000, .int .i64 500000]], .lst [], .lst []], .lst [.agg [.int .i64 (q : Int), .int .i64 0, .lst [], .bool false]]] s = .ret (gasP (exG (loI gas q) (hiI gas q) gas, 0), s.put b (.cells (halfB gas gas) false 6)) := by
 obtain ⟨H, n, p, jr, j⟩ := s
 have hv := Zbh h0 h1
 have hst : stageE (halfV gas) ⟨(q : Int), 0, [], false⟩ = 0 := by
  unfold stageE
  rw [if_pos ⟨Yc.2 (by show (0 : Int) <= (q : Int) /\ (q : Int) <= 2000; omega), Yc.2 (by show (0 : Int) <= 0 /\ (0 : Int) <= 2000; decide)⟩]
  rfl
 have hr : runE (halfV gas) [⟨(q : Int), 0, [], false⟩] = (exG (loI gas q) (hiI gas q) gas, 0) := by
  unfold runE
  rw [if_pos (Zcz.2 ⟨Z66.2 hv, by show 1 <= 20; decide, fun s hs => by rw [List.mem_singleton] at hs; rw [hs]; exact hst, by rw [Zu, Ju]; show (q : Int) + 0 <= 2000; omega⟩), Zhl h0 h1]
 have hc := Zcy (halfV gas) [⟨(q : Int), 0, [], false⟩] K (St.put ⟨H, n, p, jr, j⟩ b (.cells (halfB gas gas) false 6)) (by omega) ((Z87 (Z66.2 hv)).lens _ (by omega)) ⟨by show 1 <= _; decide, fun s hs => by rw [List.mem_singleton] at hs; rw [hs]; exact ⟨by show 0 < _; omega, by show 0 <= _; decide⟩⟩
 rw [hr] at hc
 refine Zbi (args' := [vacV (halfV gas), .lst (List.map bkV [⟨(q : Int), 0, [], false⟩])]) Zd9 Zd8 rfl (Zg3 (bs := [b]) (xs := [.cells (halfB gas gas) true 6]) ?_ ?_ ?_ rfl) rfl rfl hc
 ·show lendM (199 + 1) [b] [] [] _ = _
  rw [Yd 199 rfl hb]
  exact Y1 198 _ _ _
 ·rw [Z79 (Zd1 hb), Z97]
 ·show iceGs _ [(b, .cells (halfB gas gas) true 6)] _ = _
  simp only [iceGs, iceG, Z2]
  rfl
set_option maxHeartbeats 2000000 in
theorem Z98 (gas0 ticks0 : Int) (K : Nat) (hK : 4000 < K) :
  (acall cfg (K + 320) 4 [.int .i64 gas0, .int .i64 ticks0] s0).Does fun x => x.1 = .bool true := by
 rw [Z4s Zl5 Zl4]
 refine Z9 rfl fun T hT' hA => ?_
 have a0 := hA 0 _ rfl
 have a1 := hA 1 _ rfl
 have hT : T.length = 75 := hT'
 clear hA hT'
 have haw := fun s => Zbj (K + 19) s
 have hm1 := fun s => Z7v gas0 1048576 (K + 318) s (by decide)
 have hm2 := fun s => Z7v ticks0 25 (K + 318) s (by decide)
 have r1 := Z2r gas0 1048576 (by decide)
 have r2 := Z2r ticks0 25 (by decide)
 generalize modN gas0 1048576 = gas at *
 generalize modN ticks0 25 = tk at *
 obtain ⟨q, rfl⟩ : ∃ q : Nat, tk = q := ⟨tk.toNat, by omega⟩
 have hha := fun H n p jr j => Zbm (K + 316) H n p jr j
 have ho := fun a s => Z48 a (K + 317) s
 have hof := fun a b s => Zbl a b (K + 318) s
 have hru := fun s b hb => Zbn (gas := gas) (q := q) r1.1 (by omega) (by omega) (K + 305) (by omega) s b hb
 have hb4 : ∀ (z : AV) s, buildSliceA (cfg.at 4) true 73 1 [(0, .agg [.int .i64 (q : Int), .int .i64 0, .nils, .bool false])] s = .ret (.lst [.agg [.int .i64 (q : Int), .int .i64 0, .lst [], .bool false]], s) := fun z s => by
  simp -implicitDefEqProofs only [go_sem, Go.Am.buildSliceA]
 have hb4' := hb4 .nils
 obtain ⟨b1, b2, b3, b4, b5⟩ := Zd0 r1.1 q
 simp only [halfB] at hha hru
 have hin : inR 0 1 = some 0 := rfl
 simp -implicitDefEqProofs only [go_sem, a0, a1, hT, hm1, hm2, hha]
 try simp only [Z4]
 refine Zk [[], [0], [], [2], [1, 0, 3, 2], [4, 1, 0, 3, 2], [5, 4, 1, 0, 3, 2]] [[], [], [], [], [], [], [[0]]] (by kernel_rfl) rfl rfl ?_
 have q11 : (((1 : Nat) : Int) = 1) = True := eq_true rfl
 have hru' := fun s hb => hru s [0] hb
 generalize hG : exG (loI gas q) (hiI gas q) gas = G at hru'
 have hG1 : G.free = [⟨loI gas q, hiI gas q⟩] := by rw [<- hG]; rfl
 simp only [gasP, gsV, hG1, List.map_cons, List.map_nil, rgV] at hru'
 clear hru
 simp -implicitDefEqProofs only [go_sem, Z0, lkn, Zn, lk11, Option.getD_some, Option.getD_none, AV.shut, shuts, hT, ho, hin, hb4', hru', q11, Zj]
 clear hru' hha hb4 hb4' hm1 hm2
 simp only [Z4]
 refine Zm (fun k T s' => T.length = 75 /\ nth T 0 = some (.int .i64 gas) /\ nth T 1 = some (.int .i64 (q : Int)) /\ nth T 6 = some (.ptr [3] 0) /\ ∃ (i : Nat) (H : Heap), nth T 10 = some (.int .i64 i) /\ nth T 8 = some (.int .i64 (loI gas i)) /\ nth T 9 = some (.int .i64 (hiI gas i)) /\ i <= q /\ k = q - i /\ s' = ⟨H, 4, [], false, []⟩ /\ hget H [3] = some (.cells [.lst [.agg [.int .i64 (loI gas q), .int .i64 (hiI gas q)]], .lst (G.bound.map rgV), .lst (G.room.map rgV), .int .i64 G.most, .bool G.flashed] true 0)) (k := q) (by omega) ?_ ?_
 ·refine ⟨by simp -implicitDefEqProofs only [go_sem, hT], by simp -implicitDefEqProofs only [go_sem, hT], by simp -implicitDefEqProofs only [go_sem, hT], by simp -implicitDefEqProofs only [go_sem, hT], 0, _, by simp -implicitDefEqProofs only [go_sem, hT] <;> rfl, by simp -implicitDefEqProofs only [go_sem, hT] <;> rfl, by simp -implicitDefEqProofs only [go_sem, hT] <;> rfl, Nat.zero_le _, rfl, rfl, ?_⟩
  simp (disch := omega) only [Z2]
 clear a0 a1 hT T
 rintro k T s' ⟨hT, a0, a1, a6, i, H, a10, a8, a9, hi, rfl, rfl, g3⟩
 by_cases hil : (i : Int) < (q : Int)
 ·have hkk : q - (i + 1) < q - i := by omega
  obtain ⟨c1, c2, c3, _, _⟩ := Zd0 r1.1 i
  have v1 : wrapF .i64 ((loI gas i).tdiv 2) = loI gas (i + 1) := by
   show _ = loI gas i / 2
   rw [Int.tdiv_eq_ediv_of_nonneg c1, Z8 (by omega) (by omega)]
  have v2 : wrapF .i64 (hiI gas i + 1) = hiI gas i + 1 := Z8 (by omega) (by omega)
  have v3 : wrapF .i64 ((hiI gas i + 1).tdiv 2) = hiI gas (i + 1) := by
   show _ = (hiI gas i + 1) / 2
   rw [Int.tdiv_eq_ediv_of_nonneg (by omega), Z8 (by omega) (by omega)]
  have hi1 : i + 1 <= q := by clear v1 v2 v3; omega
  have hw1 : wrapF .i64 ((i : Int) + 1) = ((i + 1 : Nat) : Int) := Z8 (by clear v1 v2 v3; omega) (by clear v1 v2 v3; omega)
  simp -implicitDefEqProofs only [go_sem, a0, a1, a6, a8, a9, a10, hT, hil, v1, v2, v3, hw1]
  exact ⟨q - (i + 1), hkk, trivial, trivial, trivial, trivial, i + 1, H, rfl, rfl, rfl, hi1, rfl, rfl, g3⟩
 ·have hie : i = q := by omega
  subst hie
  have hp : ((2 ^ i : Nat) : Int) <= 16777216 := by
   have : 2 ^ i <= 2 ^ 24 := Nat.pow_le_pow_right (by decide) (by omega)
   have h24 : 2 ^ 24 = 16777216 := rfl
   omega
  have hp0 : (0 : Int) <= ((2 ^ i : Nat) : Int) := Int.natCast_nonneg _
  have hmin : min ((i : Int)).toNat (kbits .i64) = i := by rw [Int.toNat_natCast]; show min i 64 = i; omega
  have sh : ∀ x : Int, shiftBin .shl .i64 x (i : Int) = some (.int .i64 (wrapF .i64 (x * ((2 ^ i : Nat) : Int)))) := fun x => by
   rw [Zd7 .i64 x (i : Int) (by omega), hmin]; rfl
  have m1 : 0 <= loI gas i * ((2 ^ i : Nat) : Int) := Int.mul_nonneg b1 hp0
  have m2 : hiI gas i * ((2 ^ i : Nat) : Int) <= 1048576 * 16777216 := Int.mul_le_mul (by omega) hp hp0 (by decide)
  have w1 : wrapF .i64 (loI gas i * ((2 ^ i : Nat) : Int)) = loI gas i * ((2 ^ i : Nat) : Int) := Z8 (by omega) (by omega)
  have w2 : wrapF .i64 (hiI gas i * ((2 ^ i : Nat) : Int)) = hiI gas i * ((2 ^ i : Nat) : Int) := Z8 (by omega) (by omega)
  have eqr := Zmg (C := cfg.at 4) ⟨loI gas i, hiI gas i⟩ ⟨loI gas i, hiI gas i⟩ rfl
  rw [decide_eq_true rfl] at eqr
  simp only at eqr
  have p1 : loI gas i * ((2 ^ i : Nat) : Int) <= gas := b4
  have p2 : gas <= hiI gas i * ((2 ^ i : Nat) : Int) := b5
  have hel : elemAt 2 0 [AV.agg [.int .i64 (loI gas i), .int .i64 (hiI gas i)]] = some (.fptr [.int .i64 (loI gas i), .int .i64 (hiI gas i)] 0) := rfl
  have sh1 := sh (loI gas i)
  have sh2 := sh (hiI gas i)
  rw [w1] at sh1
  rw [w2] at sh2
  clear b4 b5 hp hp0 m1 m2 w1 w2 sh
  generalize loI gas i * ((2 ^ i : Nat) : Int) = X at *
  generalize hiI gas i * ((2 ^ i : Nat) : Int) = Y at *
  simp -implicitDefEqProofs only [go_sem, a1, a10, hT, hil]
  try simp only [Z4]
  refine Zk [[], [0], [1, 0], [2, 1, 0], [], [], [4, 5], [3, 2, 1, 0, 6, 4, 5], [7, 3, 2, 1, 0, 6, 4, 5], [8, 7, 3, 2, 1, 0, 6, 4, 5], [8, 7, 3, 2, 1, 0, 6, 4, 5], [9, 10, 8, 7, 3, 2, 1, 0, 6, 4, 5], [8, 7, 3, 2, 1, 0, 6, 4, 5], [11, 9, 10, 12, 8, 7, 3, 2, 1, 0, 6, 4, 5], [13, 11, 9, 10, 12, 8, 7, 3, 2, 1, 0, 6, 4, 5], [14, 13, 11, 9, 10, 12, 8, 7, 3, 2, 1, 0, 6, 4, 5], [15, 14, 13, 11, 9, 10, 12, 8, 7, 3, 2, 1, 0, 6, 4, 5], [15, 14, 13, 11, 9, 10, 12, 8, 7, 3, 2, 1, 0, 6, 4, 5], [16, 17, 15, 14, 13, 11, 9, 10, 12, 8, 7, 3, 2, 1, 0, 6, 4, 5], [15, 14, 13, 11, 9, 10, 12, 8, 7, 3, 2, 1, 0, 6, 4, 5], [18, 16, 17, 19, 15, 14, 13, 11, 9, 10, 12, 8, 7, 3, 2, 1, 0, 6, 4, 5], [20, 18, 16, 17, 19, 15, 14, 13, 11, 9, 10, 12, 8, 7, 3, 2, 1, 0, 6, 4, 5], [21, 20, 18, 16, 17, 19, 15, 14, 13, 11, 9, 10, 12, 8, 7, 3, 2, 1, 0, 6, 4, 5], [22, 21, 20, 18, 16, 17, 19, 15, 14, 13, 11, 9, 10, 12, 8, 7, 3, 2, 1, 0, 6, 4, 5], [23, 22, 21, 20, 18, 16, 17, 19, 15, 14, 13, 11, 9, 10, 12, 8, 7, 3, 2, 1, 0, 6, 4, 5], [24, 23, 22, 21, 20, 18, 16, 17, 19, 15, 14, 13, 11, 9, 10, 12, 8, 7, 3, 2, 1, 0, 6, 4, 5]] [[], [], [], [], [], [], [], [], [], [], [], [], [], [], [], [], [], [], [], [], [], [], [], [], [], []] (by kernel_rfl) rfl rfl ?_
  simp -implicitDefEqProofs only [go_sem, Option.getD_some, a0, a1, a6, a8, a9, hT, g3, hel, hof, eqr, sh1, sh2, p1, p2, haw, Zj, Try.results4]
theorem Zbo (L : List (List AV)) (hl : L.length = [3, 3].length) (hc : ∀ (i : Nat) t acs, [3, 3][i]? = some t -> L[i]? = some acs -> Content Try.prog 12 t acs) :
  ∃ K, Yes (acall cfg K 4 (([3, 3].zip L).map fun x => argOf Try.prog x.1 x.2) s0) := by
 match L, hl with
 | [c0, c1], _ =>
  obtain ⟨x, rfl, _⟩ := Zbk 11 c0 (hc 0 3 c0 rfl rfl)
  obtain ⟨y, rfl, _⟩ := Zbk 11 c1 (hc 1 3 c1 rfl rfl)
  exact ⟨4001 + 320, ⟨(Z98 x y 4001 (by omega)).all⟩⟩
end Go.Proofs.Ytgnpnfkncbnjnaa
namespace Go.Am
open Go Go.RowKit
section
variable {H0 : Type} {enc : TypeId × Value -> H0} {P : Program} {w : World} {held : Bool}
theorem Z8d : ∀ (ts : List TypeId) (vs : List Value) (ds : List (DataW H0)) (ps : List MemPlace), DataW.TrodAll enc P w 0 (fun _ => true) held ts vs ds ps -> ds.length = ts.length
 | [], [], [], ps, _ => rfl
 | t :: ts, v :: vs, d :: ds, ps, h => by
  obtain ⟨p, q, _, h2, _⟩ := h
  simp [Z8d ts vs ds q h2]
 | [], [], _ :: _, _, h => h.elim
 | [], _ :: _, [], _, h => h.elim
 | [], _ :: _, _ :: _, _, h => h.elim
 | _ :: _, [], [], _, h => h.elim
 | _ :: _, [], _ :: _, _, h => h.elim
 | _ :: _, _ :: _, [], _, h => h.elim
end
end Go.Am
namespace Go.Proofs.Ytgnpnfkncbnjnaa
open Go Go.Am
theorem Try.laidOut : laidOutB Try.prog = true := by kernel_rfl
theorem Try.own : ownKnob Try.prog.godebug = none := by kernel_rfl
theorem Try.rowed : mapsRowed Try.prog = true := by kernel_rfl
theorem Try.noStops : (Try.prog.stops == []) = true := by kernel_rfl
theorem Try.noKnobs : (Try.prog.stopKnobs == []) = true := by kernel_rfl
theorem Try.plain : (Rows.pumpKnownRow.plainKeys == Try.prog.plainKeys) = true := by kernel_rfl
theorem Try.heard : Try.prog.stopsHeard = true := by kernel_rfl
theorem Try.enters : Try.prog.mayEnter = true := by kernel_rfl
theorem Try.lifts : (Rows.pumpKnownRow.lifted == Try.prog.liftsFinal) = true := by kernel_rfl
theorem Try.makes : (Try.prog.make == some Rows.pumpKnownRow.make) = true := by kernel_rfl
end Go.Proofs.Ytgnpnfkncbnjnaa
namespace Go.Proofs.Ytgnpnfkncbnjnaa
open Go.Am
theorem tok1 : TyOk Try.prog 1 ty1 := Zc (by kernel_rfl) (by kernel_rfl)
theorem tok2 : TyOk Try.prog 2 ty2 := Zc (by kernel_rfl) (by kernel_rfl)
theorem tok3 : TyOk Try.prog 3 ty3 := Zc (by kernel_rfl) (by kernel_rfl)
theorem tok4 : TyOk Try.prog 4 ty4 := Zc (by kernel_rfl) (by kernel_rfl)
theorem tok5 : TyOk Try.prog 5 ty5 := Zc (by kernel_rfl) (by kernel_rfl)
theorem tok9 : TyOk Try.prog 9 ty9 := Zc (by kernel_rfl) (by kernel_rfl)
theorem Zmj : TyOk Try.prog 22 ty22 := Zc (by kernel_rfl) (by kernel_rfl)
theorem Zmk : TyOk Try.prog 26 ty26 := Zc (by kernel_rfl) (by kernel_rfl)
theorem Zml : TyOk Try.prog 33 ty33 := Zc (by kernel_rfl) (by kernel_rfl)
theorem Zmm : TyOk Try.prog 34 ty34 := Zc (by kernel_rfl) (by kernel_rfl)
theorem Zmn : TyOk Try.prog 35 ty35 := Zc (by kernel_rfl) (by kernel_rfl)
theorem Zmo : TyOk Try.prog 36 ty36 := Zc (by kernel_rfl) (by kernel_rfl)
theorem Zmp : TyOk Try.prog 37 ty37 := Zc (by kernel_rfl) (by kernel_rfl)
theorem Zmq : TyOk Try.prog 39 ty39 := Zc (by kernel_rfl) (by kernel_rfl)
theorem Zmr : TyOk Try.prog 42 ty42 := Zc (by kernel_rfl) (by kernel_rfl)
theorem Zms : TyOk Try.prog 47 ty47 := Zc (by kernel_rfl) (by kernel_rfl)
theorem Zmt : TyOk Try.prog 50 ty50 := Zc (by kernel_rfl) (by kernel_rfl)
theorem Zmu : TyOk Try.prog 56 ty56 := Zc (by kernel_rfl) (by kernel_rfl)
theorem Zmv : TyOk Try.prog 61 ty61 := Zc (by kernel_rfl) (by kernel_rfl)
theorem Zmw : TyOk Try.prog 69 ty69 := Zc (by kernel_rfl) (by kernel_rfl)
theorem Zmx : TyOk Try.prog 71 ty71 := Zc (by kernel_rfl) (by kernel_rfl)
theorem Zmy : TyOk Try.prog 73 ty73 := Zc (by kernel_rfl) (by kernel_rfl)
theorem Zmz : TyOk Try.prog 75 ty75 := Zc (by kernel_rfl) (by kernel_rfl)
theorem Zn0 : TyOk Try.prog 77 ty77 := Zc (by kernel_rfl) (by kernel_rfl)
theorem Zn1 : TyOk Try.prog 84 ty84 := Zc (by kernel_rfl) (by kernel_rfl)
theorem Zhm : TyOk Try.prog 128 ty128 := Zc (by kernel_rfl) (by kernel_rfl)
theorem Zhn : TyOk Try.prog 130 ty130 := Zc (by kernel_rfl) (by kernel_rfl)
theorem Zho : TyOk Try.prog 138 ty138 := Zc (by kernel_rfl) (by kernel_rfl)
theorem Zhp : TyOk Try.prog 140 ty140 := Zc (by kernel_rfl) (by kernel_rfl)
theorem Zhq : TyOk Try.prog 142 ty142 := Zc (by kernel_rfl) (by kernel_rfl)
theorem Zhr : TyOk Try.prog 148 ty148 := Zc (by kernel_rfl) (by kernel_rfl)
theorem Zhs : TyOk Try.prog 151 ty151 := Zc (by kernel_rfl) (by kernel_rfl)
theorem Zht : TyOk Try.prog 154 ty154 := Zc (by kernel_rfl) (by kernel_rfl)
theorem Zhu : TyOk Try.prog 155 ty155 := Zc (by kernel_rfl) (by kernel_rfl)
theorem Zhv : TyOk Try.prog 158 ty158 := Zc (by kernel_rfl) (by kernel_rfl)
theorem Zhw : TyOk Try.prog 162 ty162 := Zc (by kernel_rfl) (by kernel_rfl)
theorem Zhx : TyOk Try.prog 163 ty163 := Zc (by kernel_rfl) (by kernel_rfl)
theorem Zhy : TyOk Try.prog 168 ty168 := Zc (by kernel_rfl) (by kernel_rfl)
theorem Zhz : TyOk Try.prog 169 ty169 := Zc (by kernel_rfl) (by kernel_rfl)
theorem Zi0 : TyOk Try.prog 170 ty170 := Zc (by kernel_rfl) (by kernel_rfl)
theorem Zi1 : TyOk Try.prog 171 ty171 := Zc (by kernel_rfl) (by kernel_rfl)
theorem Zi2 : TyOk Try.prog 172 ty172 := Zc (by kernel_rfl) (by kernel_rfl)
theorem Zi3 : TyOk Try.prog 174 ty174 := Zc (by kernel_rfl) (by kernel_rfl)
theorem Zi4 : TyOk Try.prog 176 ty176 := Zc (by kernel_rfl) (by kernel_rfl)
theorem Zi5 : TyOk Try.prog 181 ty181 := Zc (by kernel_rfl) (by kernel_rfl)
theorem Zi6 : TyOk Try.prog 190 ty190 := Zc (by kernel_rfl) (by kernel_rfl)
theorem Zi7 : TyOk Try.prog 191 ty191 := Zc (by kernel_rfl) (by kernel_rfl)
theorem Zi8 : TyOk Try.prog 193 ty193 := Zc (by kernel_rfl) (by kernel_rfl)
theorem Zi9 : TyOk Try.prog 210 ty210 := Zc (by kernel_rfl) (by kernel_rfl)
theorem Zia : TyOk Try.prog 211 ty211 := Zc (by kernel_rfl) (by kernel_rfl)
theorem Zib : TyOk Try.prog 212 ty212 := Zc (by kernel_rfl) (by kernel_rfl)
theorem Zic : TyOk Try.prog 214 ty214 := Zc (by kernel_rfl) (by kernel_rfl)
theorem Zid : TyOk Try.prog 215 ty215 := Zc (by kernel_rfl) (by kernel_rfl)
theorem Zie : TyOk Try.prog 220 ty220 := Zc (by kernel_rfl) (by kernel_rfl)
theorem Zif : TyOk Try.prog 230 ty230 := Zc (by kernel_rfl) (by kernel_rfl)
theorem Zig : TyOk Try.prog 231 ty231 := Zc (by kernel_rfl) (by kernel_rfl)
theorem fok4 : Try.prog.funcs[4]? = some Try.f4 /\ (Try.f4.name == "runtime.NumGoroutine") = false := ⟨Try.func4, by kernel_rfl⟩
theorem Zn2 : Try.prog.funcs[34]? = some Try.f34 /\ (Try.f34.name == "runtime.NumGoroutine") = false := ⟨Try.func34, by kernel_rfl⟩
theorem Zn3 : Try.prog.funcs[35]? = some Try.f35 /\ (Try.f35.name == "runtime.NumGoroutine") = false := ⟨Try.func35, by kernel_rfl⟩
theorem Zn4 : Try.prog.funcs[36]? = some Try.f36 /\ (Try.f36.name == "runtime.NumGoroutine") = false := ⟨Try.func36, by kernel_rfl⟩
theorem Zn5 : Try.prog.funcs[37]? = some Try.f37 /\ (Try.f37.name == "runtime.NumGoroutine") = false := ⟨Try.func37, by kernel_rfl⟩
theorem Zn6 : Try.prog.funcs[38]? = some Try.f38 /\ (Try.f38.name == "runtime.NumGoroutine") = false := ⟨Try.func38, by kernel_rfl⟩
theorem Zn7 : Try.prog.funcs[39]? = some Try.f39 /\ (Try.f39.name == "runtime.NumGoroutine") = false := ⟨Try.func39, by kernel_rfl⟩
theorem Zn8 : Try.prog.funcs[41]? = some Try.f41 /\ (Try.f41.name == "runtime.NumGoroutine") = false := ⟨Try.func41, by kernel_rfl⟩
theorem Zn9 : Try.prog.funcs[49]? = some Try.f49 /\ (Try.f49.name == "runtime.NumGoroutine") = false := ⟨Try.func49, by kernel_rfl⟩
theorem Zna : Try.prog.funcs[58]? = some Try.f58 /\ (Try.f58.name == "runtime.NumGoroutine") = false := ⟨Try.func58, by kernel_rfl⟩
theorem Znb : Try.prog.funcs[83]? = some Try.f83 /\ (Try.f83.name == "runtime.NumGoroutine") = false := ⟨Try.func83, by kernel_rfl⟩
theorem Znc : Try.prog.funcs[94]? = some Try.f94 /\ (Try.f94.name == "runtime.NumGoroutine") = false := ⟨Try.func94, by kernel_rfl⟩
theorem Znd : Try.prog.funcs[95]? = some Try.f95 /\ (Try.f95.name == "runtime.NumGoroutine") = false := ⟨Try.func95, by kernel_rfl⟩
theorem Zne : Try.prog.funcs[97]? = some Try.f97 /\ (Try.f97.name == "runtime.NumGoroutine") = false := ⟨Try.func97, by kernel_rfl⟩
theorem Znf : Try.prog.funcs[98]? = some Try.f98 /\ (Try.f98.name == "runtime.NumGoroutine") = false := ⟨Try.func98, by kernel_rfl⟩
theorem Zng : Try.prog.funcs[99]? = some Try.f99 /\ (Try.f99.name == "runtime.NumGoroutine") = false := ⟨Try.func99, by kernel_rfl⟩
theorem Zih : Try.prog.funcs[100]? = some Try.f100 /\ (Try.f100.name == "runtime.NumGoroutine") = false := ⟨Try.func100, by kernel_rfl⟩
theorem Zii : Try.prog.funcs[101]? = some Try.f101 /\ (Try.f101.name == "runtime.NumGoroutine") = false := ⟨Try.func101, by kernel_rfl⟩
theorem Zij : Try.prog.funcs[102]? = some Try.f102 /\ (Try.f102.name == "runtime.NumGoroutine") = false := ⟨Try.func102, by kernel_rfl⟩
theorem Zik : Try.prog.funcs[103]? = some Try.f103 /\ (Try.f103.name == "runtime.NumGoroutine") = false := ⟨Try.func103, by kernel_rfl⟩
theorem Zil : Try.prog.funcs[104]? = some Try.f104 /\ (Try.f104.name == "runtime.NumGoroutine") = false := ⟨Try.func104, by kernel_rfl⟩
theorem Zim : Try.prog.funcs[105]? = some Try.f105 /\ (Try.f105.name == "runtime.NumGoroutine") = false := ⟨Try.func105, by kernel_rfl⟩
theorem Zin : Try.prog.funcs[106]? = some Try.f106 /\ (Try.f106.name == "runtime.NumGoroutine") = false := ⟨Try.func106, by kernel_rfl⟩
theorem Zio : Try.prog.funcs[107]? = some Try.f107 /\ (Try.f107.name == "runtime.NumGoroutine") = false := ⟨Try.func107, by kernel_rfl⟩
theorem Zip : Try.prog.funcs[108]? = some Try.f108 /\ (Try.f108.name == "runtime.NumGoroutine") = false := ⟨Try.func108, by kernel_rfl⟩
theorem Ziq : Try.prog.funcs[109]? = some Try.f109 /\ (Try.f109.name == "runtime.NumGoroutine") = false := ⟨Try.func109, by kernel_rfl⟩
theorem Zir : Try.prog.funcs[110]? = some Try.f110 /\ (Try.f110.name == "runtime.NumGoroutine") = false := ⟨Try.func110, by kernel_rfl⟩
theorem Zis : Try.prog.funcs[111]? = some Try.f111 /\ (Try.f111.name == "runtime.NumGoroutine") = false := ⟨Try.func111, by kernel_rfl⟩
theorem Zit : Try.prog.funcs[112]? = some Try.f112 /\ (Try.f112.name == "runtime.NumGoroutine") = false := ⟨Try.func112, by kernel_rfl⟩
theorem Ziu : Try.prog.funcs[113]? = some Try.f113 /\ (Try.f113.name == "runtime.NumGoroutine") = false := ⟨Try.func113, by kernel_rfl⟩
theorem Ziv : Try.prog.funcs[114]? = some Try.f114 /\ (Try.f114.name == "runtime.NumGoroutine") = false := ⟨Try.func114, by kernel_rfl⟩
theorem Ziw : Try.prog.funcs[115]? = some Try.f115 /\ (Try.f115.name == "runtime.NumGoroutine") = false := ⟨Try.func115, by kernel_rfl⟩
theorem Zix : Try.prog.funcs[116]? = some Try.f116 /\ (Try.f116.name == "runtime.NumGoroutine") = false := ⟨Try.func116, by kernel_rfl⟩
theorem Ziy : Try.prog.funcs[117]? = some Try.f117 /\ (Try.f117.name == "runtime.NumGoroutine") = false := ⟨Try.func117, by kernel_rfl⟩
theorem Ziz : Try.prog.funcs[118]? = some Try.f118 /\ (Try.f118.name == "runtime.NumGoroutine") = false := ⟨Try.func118, by kernel_rfl⟩
theorem Zj0 : Try.prog.funcs[126]? = some Try.f126 /\ (Try.f126.name == "runtime.NumGoroutine") = false := ⟨Try.func126, by kernel_rfl⟩
theorem Zj1 : Try.prog.funcs[147]? = some Try.f147 /\ (Try.f147.name == "runtime.NumGoroutine") = false := ⟨Try.func147, by kernel_rfl⟩
theorem Zj2 : Try.prog.funcs[148]? = some Try.f148 /\ (Try.f148.name == "runtime.NumGoroutine") = false := ⟨Try.func148, by kernel_rfl⟩
theorem Zj3 : Try.prog.funcs[149]? = some Try.f149 /\ (Try.f149.name == "runtime.NumGoroutine") = false := ⟨Try.func149, by kernel_rfl⟩
theorem Zj4 : Try.prog.funcs[150]? = some Try.f150 /\ (Try.f150.name == "runtime.NumGoroutine") = false := ⟨Try.func150, by kernel_rfl⟩
theorem Zj5 : Try.prog.funcs[151]? = some Try.f151 /\ (Try.f151.name == "runtime.NumGoroutine") = false := ⟨Try.func151, by kernel_rfl⟩
theorem Zj6 : Try.prog.funcs[152]? = some Try.f152 /\ (Try.f152.name == "runtime.NumGoroutine") = false := ⟨Try.func152, by kernel_rfl⟩
theorem Zj7 : Try.prog.funcs[153]? = some Try.f153 /\ (Try.f153.name == "runtime.NumGoroutine") = false := ⟨Try.func153, by kernel_rfl⟩
theorem Zj8 : Try.prog.funcs[154]? = some Try.f154 /\ (Try.f154.name == "runtime.NumGoroutine") = false := ⟨Try.func154, by kernel_rfl⟩
theorem Zj9 : Try.prog.funcs[155]? = some Try.f155 /\ (Try.f155.name == "runtime.NumGoroutine") = false := ⟨Try.func155, by kernel_rfl⟩
theorem Zja : Try.prog.funcs[156]? = some Try.f156 /\ (Try.f156.name == "runtime.NumGoroutine") = false := ⟨Try.func156, by kernel_rfl⟩
theorem Zjb : Try.prog.funcs[157]? = some Try.f157 /\ (Try.f157.name == "runtime.NumGoroutine") = false := ⟨Try.func157, by kernel_rfl⟩
theorem Zjc : Try.prog.funcs[158]? = some Try.f158 /\ (Try.f158.name == "runtime.NumGoroutine") = false := ⟨Try.func158, by kernel_rfl⟩
theorem Zjd : Try.prog.funcs[159]? = some Try.f159 /\ (Try.f159.name == "runtime.NumGoroutine") = false := ⟨Try.func159, by kernel_rfl⟩
theorem Zje : Try.prog.funcs[164]? = some Try.f164 /\ (Try.f164.name == "runtime.NumGoroutine") = false := ⟨Try.func164, by kernel_rfl⟩
theorem Zjf : Try.prog.funcs[165]? = some Try.f165 /\ (Try.f165.name == "runtime.NumGoroutine") = false := ⟨Try.func165, by kernel_rfl⟩
theorem Zjg : Try.prog.funcs[178]? = some Try.f178 /\ (Try.f178.name == "runtime.NumGoroutine") = false := ⟨Try.func178, by kernel_rfl⟩
theorem Zjh : Try.prog.funcs[179]? = some Try.f179 /\ (Try.f179.name == "runtime.NumGoroutine") = false := ⟨Try.func179, by kernel_rfl⟩
theorem Zji : Try.prog.funcs[180]? = some Try.f180 /\ (Try.f180.name == "runtime.NumGoroutine") = false := ⟨Try.func180, by kernel_rfl⟩
theorem Zjj : Try.prog.funcs[181]? = some Try.f181 /\ (Try.f181.name == "runtime.NumGoroutine") = false := ⟨Try.func181, by kernel_rfl⟩
theorem Znh : AllNT (fun t i => TyOk Try.prog t i) tyT := ⟨Zhp, ⟨Zmr, ⟨Zmk, ⟨tok4, ⟨tok2, ⟨tok1, trivial, trivial⟩, ⟨tok3, trivial, trivial⟩⟩, ⟨tok9, ⟨tok5, trivial, trivial⟩, ⟨Zmj, trivial, trivial⟩⟩⟩, ⟨Zmo, ⟨Zmm, ⟨Zml, trivial, trivial⟩, ⟨Zmn, trivial, trivial⟩⟩, ⟨Zmq, ⟨Zmp, trivial, trivial⟩, trivial⟩⟩⟩, ⟨Zmy, ⟨Zmv, ⟨Zmt, ⟨Zms, trivial, trivial⟩, ⟨Zmu, trivial, trivial⟩⟩, ⟨Zmx, ⟨Zmw, trivial, trivial⟩, trivial⟩⟩, ⟨Zhm, ⟨Zn0, ⟨Zmz, trivial, trivial⟩, ⟨Zn1, trivial, trivial⟩⟩, ⟨Zho, ⟨Zhn, trivial, trivial⟩, trivial⟩⟩⟩⟩, ⟨Zi3, ⟨Zhw, ⟨Zht, ⟨Zhr, ⟨Zhq, trivial, trivial⟩, ⟨Zhs, trivial, trivial⟩⟩, ⟨Zhv, ⟨Zhu, trivial, trivial⟩, trivial⟩⟩, ⟨Zi0, ⟨Zhy, ⟨Zhx, trivial, trivial⟩, ⟨Zhz, trivial, trivial⟩⟩, ⟨Zi2, ⟨Zi1, trivial, trivial⟩, trivial⟩⟩⟩, ⟨Zia, ⟨Zi7, ⟨Zi5, ⟨Zi4, trivial, trivial⟩, ⟨Zi6, trivial, trivial⟩⟩, ⟨Zi9, ⟨Zi8, trivial, trivial⟩, trivial⟩⟩, ⟨Zie, ⟨Zic, ⟨Zib, trivial, trivial⟩, ⟨Zid, trivial, trivial⟩⟩, ⟨Zig, ⟨Zif, trivial, trivial⟩, trivial⟩⟩⟩⟩⟩
theorem Zni : AllNT (fun f fn => Try.prog.funcs[f]? = some fn /\ (fn.name == "runtime.NumGoroutine") = false) fnT := ⟨Zis, ⟨Zne, ⟨Zn7, ⟨Zn4, ⟨Zn2, ⟨fok4, trivial, trivial⟩, ⟨Zn3, trivial, trivial⟩⟩, ⟨Zn6, ⟨Zn5, trivial, trivial⟩, trivial⟩⟩, ⟨Znb, ⟨Zn9, ⟨Zn8, trivial, trivial⟩, ⟨Zna, trivial, trivial⟩⟩, ⟨Znd, ⟨Znc, trivial, trivial⟩, trivial⟩⟩⟩, ⟨Zil, ⟨Zii, ⟨Zng, ⟨Znf, trivial, trivial⟩, ⟨Zih, trivial, trivial⟩⟩, ⟨Zik, ⟨Zij, trivial, trivial⟩, trivial⟩⟩, ⟨Zip, ⟨Zin, ⟨Zim, trivial, trivial⟩, ⟨Zio, trivial, trivial⟩⟩, ⟨Zir, ⟨Ziq, trivial, trivial⟩, trivial⟩⟩⟩⟩, ⟨Zj6, ⟨Ziz, ⟨Ziw, ⟨Ziu, ⟨Zit, trivial, trivial⟩, ⟨Ziv, trivial, trivial⟩⟩, ⟨Ziy, ⟨Zix, trivial, trivial⟩, trivial⟩⟩, ⟨Zj3, ⟨Zj1, ⟨Zj0, trivial, trivial⟩, ⟨Zj2, trivial, trivial⟩⟩, ⟨Zj5, ⟨Zj4, trivial, trivial⟩, trivial⟩⟩⟩, ⟨Zjd, ⟨Zja, ⟨Zj8, ⟨Zj7, trivial, trivial⟩, ⟨Zj9, trivial, trivial⟩⟩, ⟨Zjc, ⟨Zjb, trivial, trivial⟩, trivial⟩⟩, ⟨Zjh, ⟨Zjf, ⟨Zje, trivial, trivial⟩, ⟨Zjg, trivial, trivial⟩⟩, ⟨Zjj, ⟨Zji, trivial, trivial⟩, trivial⟩⟩⟩⟩⟩
theorem Znj : CfgOk Try.prog cfg := Zc1 Zni Znh (by kernel_rfl)
theorem Zg4 : CodesOk cfg := Z8n (by kernel_rfl)
end Go.Proofs.Ytgnpnfkncbnjnaa
namespace Go.Proofs.Ytgnpnfkncbnjnaa
open Go Go.Am Go.ChangeShapes Go.WideShapes Go.ChangeAt Go.RowKit
set_option maxRecDepth 100000 in
theorem Z6a (os : Os) (started : os.Started) (H : Type) (enc : TypeId × Value -> H) :
  ReturnsInHanded {} Try.checked os 4 .any (Rows.pumpExactSpec.pre6 enc Try.prog Try.f4 Rows.pumpExactRow.domain false) (Rows.pumpExactSpec.post enc Try.prog Try.f4 false true false false) := by
 refine returnsInHanded_of_change (C := Try.checked) Try.own started (by kernel_rfl) Try.func4
  (ChangeSpec.witness6 (enc := enc) (C := Try.checked) false ⟨#[], #[.int .i64 0, .int .i64 0], []⟩ 8 (by kernel_rfl) (by kernel_rfl) (by kernel_rfl) (by kernel_rfl)) ?_
 intro W base args ds gs before hval0 hW hcnd _
 have hW' := hW
 obtain ⟨p, q, hA0, hV, rfl, hfz, hnd⟩ := hW
 have hA : DataW.TrodAll enc Try.prog W 0 (fun _ => true) true Try.f4.params.toList args.toList ds p := hA0
 rw [Try.params4] at hA
 obtain ⟨rfl, rfl⟩ := trodVars_none hV
 simp only [List.append_nil] at hW'
 have hlen : ds.length = 2 := Z8d _ _ _ _ hA
 have hsup : (([3, 3] : List TypeId).all fun t => suppB Try.prog 12 t) = true := by as_aux_lemma => kernel_rfl
 have hpar : (([3, 3] : List TypeId).all fun t => Try.prog.readableRec t && Nat.blt t Try.prog.types.size) = true := by as_aux_lemma => kernel_rfl
 refine (Z4r (d := 12) Znj Zg4 hA (fun t ht => List.all_eq_true.1 hsup t ht) (fun j t v e1 e2 => hval0 j t v (by rw [Try.params4]; simpa using e1) (by simpa using e2)) fun L hl hc => Zbo L hl hc).mono fun e W' ⟨he, hb⟩ => ?_
 subst he
 exact ⟨_, rfl, Zc2 Try.laidOut (fun t ht => by rw [Try.params4] at ht; have := List.all_eq_true.1 hpar t ht; rw [Bool.and_eq_true, Nat.blt_eq] at this; exact this) rfl rfl Try.underlying4 hW' (by match ds, hlen with | [_, _], _ => rfl) hb⟩
set_option maxHeartbeats 4000000 in
theorem Z6b : joinedFacts Try.prog 4 Try.f4 Rows.pumpExactSpec Rows.pumpExactRow = true := by
 refine Zak Try.laidOut Try.rowed Try.noStops Try.noKnobs Try.plain Try.heard Try.enters Try.lifts Try.makes (by as_aux_lemma => kernel_rfl) (by as_aux_lemma => kernel_rfl) (by as_aux_lemma => kernel_rfl) (by as_aux_lemma => kernel_rfl) (by as_aux_lemma => kernel_rfl)
  (by as_aux_lemma => kernel_rfl) (by as_aux_lemma => kernel_rfl) (by as_aux_lemma => kernel_rfl) (by as_aux_lemma => kernel_rfl) ?_
 kernel_rfl
theorem exact_holds : Rows.PumpExactSaid :=
 OpenClaim.holds_of_wide 4 Try.f4 rfl rfl rfl rfl rfl rfl rfl ⟨rfl, rfl, rfl, rfl, rfl⟩ rfl rfl rfl rfl rfl (by as_aux_lemma => kernel_rfl) Try.func4 Z6b
  (of_decide_eq_true (by as_aux_lemma => kernel_rfl)) (by as_aux_lemma => unfold Func.isWrapper; first | (rw [if_pos (by decide +kernel)]; kernel_rfl) | (rw [if_neg (by decide +kernel)]; exact ⟨rfl, rfl⟩))
  (fun os started H enc _ => Z6a os started H enc)
end Go.Proofs.Ytgnpnfkncbnjnaa
