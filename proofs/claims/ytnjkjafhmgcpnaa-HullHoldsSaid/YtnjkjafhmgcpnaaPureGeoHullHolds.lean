/- Convex hulls on the grid: the monotone chain, and the sides of a hull, in plain Lean. -/
import Derived.Test.YtnjkjafhmgcpnaaPHullHoldsx11
namespace Go.Proofs.Ytnjkjafhmgcpnaa.Pure
open Go.RowKit Go.Proofs.Ytnjkjafhmgcpnaa.PHullHolds Go.Proofs.YtnjkjafhmgcpnaaW.PrintWords Go.Proofs.YtnjkjafhmgcpnaaW.PrintLast
set_option linter.unusedVariables false
set_option linter.unusedSimpArgs false

/-- An affine functional. -/
def ofn (u v : Int) (p : S28) : Int := u * p.f0 + v * p.f1
theorem fan3 (u v : Int) (a b c d : S28) : turn a b d * (ofn u v c - ofn u v b) = turn a b c * (ofn u v d - ofn u v b) + turn b c d * (ofn u v b - ofn u v a) := by
  unfold turn ofn; grind
theorem quad (a b q p : S28) : turn a q p = turn b q p + turn a b p - turn a b q := by unfold turn; grind
theorem fanA (u v : Int) (a b q p : S28) : turn a q p * (ofn u v b - ofn u v a) = turn a b p * (ofn u v q - ofn u v a) - turn a b q * (ofn u v p - ofn u v a) := by unfold turn ofn; grind
theorem fanT (u v : Int) (a t p q : S28) : turn t p q * (ofn u v t - ofn u v a) = turn a t q * (ofn u v p - ofn u v t) + turn a t p * (ofn u v t - ofn u v q) := by unfold turn ofn; grind
theorem turn_swap (a b q : S28) : turn a b q = - turn a q b := by unfold turn; grind
theorem turn_flip (a b q : S28) : turn b a q = - turn a b q := by unfold turn; grind
theorem turn_rot (a b q : S28) : turn b q a = turn a b q := by unfold turn; grind
theorem turn_aa (a q : S28) : turn a a q = 0 := by unfold turn; grind
theorem turn_aba (a b : S28) : turn a b a = 0 := by unfold turn; grind
theorem turn_abb (a b : S28) : turn a b b = 0 := by unfold turn; grind
theorem pos_of_mul {x y : Int} (h : 0 < x * y) (hy : 0 < y) : 0 < x := by
  rcases Int.lt_trichotomy x 0 with h1 | h1 | h1
  · have := Int.mul_neg_of_neg_of_pos h1 hy; omega
  · subst h1; simp at h
  · exact h1
theorem nonneg_of_mul {x y : Int} (h : 0 ≤ x * y) (hy : 0 < y) : 0 ≤ x := by
  rcases Int.lt_or_le x 0 with h1 | h1
  · have := Int.mul_neg_of_neg_of_pos h1 hy; omega
  · exact h1

def Edges (E : S28 → S28 → Prop) : List S28 → Prop
  | b :: a :: st => E a b ∧ Edges E (a :: st)
  | _ => True
def Gd (u v : Int) (P : List S28) (a b : S28) : Prop := ∀ q ∈ P, 0 ≤ turn a b q ∧ (turn a b q = 0 → ofn u v a ≤ ofn u v q ∧ ofn u v q ≤ ofn u v b)
def Dec (u v : Int) : List S28 → Prop
  | b :: a :: st => ofn u v a < ofn u v b ∧ Dec u v (a :: st)
  | _ => True

theorem lower {u v : Int} {P : List S28} {p : S28} (hp : ∀ q ∈ P, ofn u v q < ofn u v p) : ∀ (st : List S28) (b a : S28), (∀ x ∈ b :: a :: st, x ∈ P) → Edges (Gd u v P) (b :: a :: st) → Dec u v (b :: a :: st) → 0 < turn a b p → Edges (Gd u v (P ++ [p])) (b :: a :: st)
  | [], b, a, hm, he, hd, ht => by
    refine ⟨fun q hq => ?_, trivial⟩
    rcases List.mem_append.1 hq with hq | hq
    · exact he.1 q hq
    · obtain rfl := List.mem_singleton.1 hq
      exact ⟨by omega, fun h => by omega⟩
  | z :: st, b, a, hm, he, hd, ht => by
    refine ⟨fun q hq => ?_, ?_⟩
    · rcases List.mem_append.1 hq with hq | hq
      · exact he.1 q hq
      · obtain rfl := List.mem_singleton.1 hq
        exact ⟨by omega, fun h => by omega⟩
    · refine lower hp st a z (fun x hx => hm x (List.mem_cons_of_mem _ hx)) he.2 hd.2 ?_
      have h1 := he.2.1 b (hm b (by simp))
      have hab := hd.1
      have hza := hd.2.1
      have hbp := hp b (hm b (by simp))
      have h2 : 0 < turn z a b := by
        rcases Int.lt_or_eq_of_le h1.1 with h | h
        · exact h
        · have := h1.2 h.symm; omega
      have hf := fan3 u v z a b p
      refine pos_of_mul (y := ofn u v b - ofn u v a) ?_ (by omega)
      rw [hf]
      have e1 := Int.mul_pos h2 (show 0 < ofn u v p - ofn u v a by omega)
      have e2 := Int.mul_pos ht (show 0 < ofn u v a - ofn u v z by omega)
      omega

theorem push_ok {u v : Int} {P : List S28} {p : S28} (hp : ∀ q ∈ P, ofn u v q < ofn u v p) : ∀ (st : List S28) (t : S28), (∀ x ∈ t :: st, x ∈ P) → Edges (Gd u v P) (t :: st) → Dec u v (t :: st) →
    (∀ q ∈ P, ∀ z, (t :: st).getLast? = some z → ofn u v z ≤ ofn u v q) → (∀ q ∈ P, ofn u v t ≤ ofn u v q → 0 ≤ turn t p q) →
    Edges (Gd u v (P ++ [p])) (push p (t :: st)) ∧ Dec u v (push p (t :: st)) ∧ (∃ s, push p (t :: st) = p :: s ∧ s ≠ [] ∧ ∀ x ∈ s, x ∈ t :: st) ∧ (push p (t :: st)).getLast? = (t :: st).getLast?
  | [], t, hm, he, hd, hb, hh => by
    refine ⟨⟨fun q hq => ?_, trivial⟩, ⟨hp t (hm t (by simp)), trivial⟩, ⟨[t], rfl, by simp, fun x hx => hx⟩, rfl⟩
    rcases List.mem_append.1 hq with hq | hq
    · have h1 := hb q hq t rfl
      exact ⟨hh q hq h1, fun _ => ⟨h1, by have := hp q hq; omega⟩⟩
    · obtain rfl := List.mem_singleton.1 hq
      exact ⟨by rw [turn_abb]; exact Int.le_refl 0, fun _ => ⟨by have := hp t (hm t (by simp)); omega, Int.le_refl _⟩⟩
  | a :: st, b, hm, he, hd, hb, hh => by
    have hap := hp a (hm a (by simp))
    have hbp := hp b (hm b (by simp))
    have hab := hd.1
    by_cases ht : turn a b p ≤ 0
    · have e : push p (b :: a :: st) = push p (a :: st) := by rw [push, if_pos ht]
      rw [e]
      obtain ⟨g1, g2, ⟨s, g3, g4, g5⟩, g6⟩ := push_ok hp st a (fun x hx => hm x (List.mem_cons_of_mem _ hx)) he.2 hd.2 (fun q hq z hz => hb q hq z (by rw [List.getLast?_cons_cons]; exact hz)) (fun q hq hle => by
        have h1 := he.1 q hq
        rw [turn_swap]
        rcases Int.lt_or_le (ofn u v q) (ofn u v b) with hlt | hge
        · have hf := fanA u v a b q p
          suffices 0 ≤ -turn a q p by exact this
          refine nonneg_of_mul (y := ofn u v b - ofn u v a) ?_ (by omega)
          rw [Int.neg_mul, hf]
          have e1 := Int.mul_nonneg h1.1 (show 0 ≤ ofn u v p - ofn u v a by omega)
          have e2 := Int.mul_nonneg (show 0 ≤ - turn a b p by omega) (show 0 ≤ ofn u v q - ofn u v a by omega)
          rw [Int.neg_mul] at e2
          omega
        · have hq2 := hh q hq hge
          have := quad a b q p
          have := turn_swap b p q
          omega)
      exact ⟨g1, g2, ⟨s, g3, g4, fun x hx => List.mem_cons_of_mem _ (g5 x hx)⟩, by rw [g6, List.getLast?_cons_cons]⟩
    · have e : push p (b :: a :: st) = p :: b :: a :: st := by rw [push, if_neg ht]
      rw [e]
      refine ⟨⟨fun q hq => ?_, lower hp st b a hm he hd (by omega)⟩, ⟨hbp, hd⟩, ⟨_, rfl, by simp, fun x hx => hx⟩, by rw [List.getLast?_cons_cons]⟩
      rcases List.mem_append.1 hq with hq | hq
      · rcases Int.lt_or_le (ofn u v q) (ofn u v b) with hlt | hge
        · have h1 := he.1 q hq
          have hf := fanT u v a b p q
          have : 0 < turn b p q := by
            refine pos_of_mul (y := ofn u v b - ofn u v a) ?_ (by omega)
            rw [hf]
            have e1 := Int.mul_nonneg h1.1 (show 0 ≤ ofn u v p - ofn u v b by omega)
            have e2 := Int.mul_pos (show 0 < turn a b p by omega) (show 0 < ofn u v b - ofn u v q by omega)
            omega
          exact ⟨by omega, fun h => by omega⟩
        · exact ⟨hh q hq hge, fun _ => ⟨hge, by have := hp q hq; omega⟩⟩
      · obtain rfl := List.mem_singleton.1 hq
        exact ⟨by rw [turn_abb]; exact Int.le_refl 0, fun _ => ⟨by omega, Int.le_refl _⟩⟩

structure SInv (u v : Int) (P st : List S28) : Prop where
  ne : st ≠ []
  mem : ∀ x ∈ st, x ∈ P
  edges : Edges (Gd u v P) st
  dec : Dec u v st
  top : st.head? = P.getLast?
  bot : st.getLast? = P.head?

theorem stk_inv {u v : Int} : ∀ (l P st : List S28), SInv u v P st → (P ++ l).Pairwise (fun a b => ofn u v a < ofn u v b) → SInv u v (P ++ l) (l.foldl (fun st p => push p st) st)
  | [], P, st, h, _ => by simpa using h
  | p :: l, P, st, h, hs => by
    have e : P ++ p :: l = (P ++ [p]) ++ l := by simp
    rw [e] at hs ⊢
    refine stk_inv l (P ++ [p]) (push p st) ?_ hs
    have hs1 := (List.pairwise_append.1 hs).1
    have hs2 := List.pairwise_append.1 hs1
    have hp : ∀ q ∈ P, ofn u v q < ofn u v p := fun q hq => hs2.2.2 q hq p (by simp)
    obtain ⟨t, st, rfl⟩ := List.exists_cons_of_ne_nil h.ne
    have hP : P ≠ [] := by
      intro e; have := h.mem t (by simp); rw [e] at this; simp at this
    have hbot : ∀ q ∈ P, ∀ z, (t :: st).getLast? = some z → ofn u v z ≤ ofn u v q := by
      intro q hq z hz
      rw [h.bot] at hz
      obtain ⟨y, P', rfl⟩ := List.exists_cons_of_ne_nil hP
      simp at hz; subst hz
      rcases List.mem_cons.1 hq with rfl | hq
      · exact Int.le_refl _
      · have := (List.pairwise_cons.1 hs2.1).1 q hq; omega
    have htop : ∀ q ∈ P, ofn u v t ≤ ofn u v q → 0 ≤ turn t p q := by
      intro q hq hle
      have ht := h.top
      simp at ht
      have hl : q = t ∨ ofn u v q < ofn u v t := by
        rw [eq_comm, List.getLast?_eq_some_iff] at ht
        obtain ⟨ys, rfl⟩ := ht
        rcases List.mem_append.1 hq with hq | hq
        · exact .inr ((List.pairwise_append.1 hs2.1).2.2 q hq t (by simp))
        · exact .inl (List.mem_singleton.1 hq)
      rcases hl with rfl | hl
      · rw [turn_aba]; exact Int.le_refl 0
      · omega
    obtain ⟨g1, g2, ⟨s, g3, g4, g5⟩, g6⟩ := push_ok hp st t h.mem h.edges h.dec hbot htop
    refine ⟨by rw [g3]; simp, fun x hx => ?_, g1, g2, by rw [g3]; simp, ?_⟩
    · rw [g3] at hx
      rcases List.mem_cons.1 hx with rfl | hx
      · simp
      · exact List.mem_append_left _ (h.mem x (g5 x hx))
    · rw [g6, h.bot]
      obtain ⟨y, P', rfl⟩ := List.exists_cons_of_ne_nil hP
      simp

theorem stk_ok {u v : Int} {l : List S28} (hl : l ≠ []) (hs : l.Pairwise (fun a b => ofn u v a < ofn u v b)) : SInv u v l (stk l) := by
  obtain ⟨p, l, rfl⟩ := List.exists_cons_of_ne_nil hl
  have : SInv u v [p] [p] := ⟨by simp, by simp, trivial, trivial, rfl, rfl⟩
  have h := stk_inv l [p] [p] this (by simpa using hs)
  simpa [stk, push] using h

/-! sides of a hull -/
theorem s28_ext {x y : S28} (h0 : x.f0 = y.f0) (h1 : x.f1 = y.f1) : x = y := by cases x; cases y; simp_all
instance decS28 : DecidableEq S28 := fun a b => decidable_of_iff (a.f0 = b.f0 ∧ a.f1 = b.f1) ⟨fun h => s28_ext h.1 h.2, fun h => by rw [h]; exact ⟨rfl, rfl⟩⟩
def mnI (a b : Int) : Int := if b < a then b else a
def mxI (a b : Int) : Int := if a < b then b else a
def betw (p a b : S28) : Prop := turn a b p = 0 ∧ mnI a.f0 b.f0 ≤ p.f0 ∧ p.f0 ≤ mxI a.f0 b.f0 ∧ mnI a.f1 b.f1 ≤ p.f1 ∧ p.f1 ≤ mxI a.f1 b.f1
def Side (l : List S28) (a b : S28) : Prop := a ≠ b ∧ ∀ q ∈ l, 0 ≤ turn a b q ∧ (turn a b q = 0 → betw q a b)
/-- The code of a grid point: its place in the order. -/
def code (p : S28) : Int := ofn 65536 1 p
theorem code_inj {p q : S28} (hp : onG p) (hq : onG q) (h : code p = code q) : p = q := by
  unfold code ofn at h; unfold onG at hp hq
  exact s28_ext (by omega) (by omega)
theorem betw_symm {p a b : S28} (h : betw p a b) : betw p b a := by
  obtain ⟨h0, h1, h2, h3, h4⟩ := h
  refine ⟨by rw [turn_flip, h0]; rfl, ?_, ?_, ?_, ?_⟩ <;> simp only [mnI, mxI] at * <;> split at * <;> split at * <;> omega
theorem mul_le_of {x y z w : Int} (h : x * y = z * w) (hx : 0 < x) (hw : 0 ≤ w) (hwx : w ≤ x) : (0 ≤ z → 0 ≤ y ∧ y ≤ z) ∧ (z ≤ 0 → z ≤ y ∧ y ≤ 0) := by
  refine ⟨fun hz => ⟨?_, ?_⟩, fun hz => ⟨?_, ?_⟩⟩
  · exact nonneg_of_mul (y := x) (by rw [Int.mul_comm, h]; exact Int.mul_nonneg hz hw) hx
  · have : 0 ≤ (z - y) * x := by
      have e : (z - y) * x = z * (x - w) := by grind
      rw [e]; exact Int.mul_nonneg hz (by omega)
    have := nonneg_of_mul this hx; omega
  · have : 0 ≤ (y - z) * x := by
      have e : (y - z) * x = (-z) * (x - w) := by grind
      rw [e]; exact Int.mul_nonneg (by omega) (by omega)
    have := nonneg_of_mul this hx; omega
  · have : 0 ≤ (-y) * x := by
      have e : (-y) * x = (-z) * w := by grind
      rw [e]; exact Int.mul_nonneg (by omega) hw
    have := nonneg_of_mul this hx; omega
theorem betw_of_code {a b q : S28} (ha : onG a) (hb : onG b) (hq : onG q) (h0 : turn a b q = 0) (h1 : code a ≤ code q) (h2 : code q ≤ code b) : betw q a b := by
  refine ⟨h0, ?_⟩
  unfold code ofn at h1 h2
  unfold onG at ha hb hq
  have hx1 : a.f0 ≤ q.f0 := by omega
  have hx2 : q.f0 ≤ b.f0 := by omega
  unfold turn at h0
  unfold mnI mxI
  by_cases hab : a.f0 = b.f0
  · split <;> split <;> split <;> split <;> omega
  · have hm := mul_le_of (x := b.f0 - a.f0) (y := q.f1 - a.f1) (z := b.f1 - a.f1) (w := q.f0 - a.f0) (by omega) (by omega) (by omega) (by omega)
    by_cases hz : 0 ≤ b.f1 - a.f1
    · have := hm.1 hz
      split <;> split <;> split <;> split <;> omega
    · have := hm.2 (by omega)
      split <;> split <;> split <;> split <;> omega
theorem code_of_betw {a b q : S28} (ha : onG a) (hb : onG b) (hq : onG q) (h : betw q a b) (hab : code a ≤ code b) : code a ≤ code q ∧ code q ≤ code b := by
  obtain ⟨h0, h1, h2, h3, h4⟩ := h
  unfold code ofn at *
  unfold onG at ha hb hq
  simp only [mnI, mxI] at h1 h2 h3 h4
  by_cases hx : a.f0 = b.f0
  · rw [hx] at h1 h2
    simp only [Int.lt_irrefl, if_false] at h1 h2
    have : a.f1 ≤ b.f1 := by omega
    rw [if_neg (by omega)] at h3
    split at h4 <;> omega
  · have hlt : a.f0 < b.f0 := by omega
    rw [if_neg (by omega)] at h1
    rw [if_pos hlt] at h2
    unfold turn at h0
    by_cases e1 : q.f0 = a.f0
    · have : (b.f0 - a.f0) * (q.f1 - a.f1) = 0 := by rw [e1] at h0; grind
      have : q.f1 - a.f1 = 0 := (Int.mul_eq_zero.1 this).resolve_left (by omega)
      omega
    · by_cases e2 : q.f0 = b.f0
      · have : (b.f0 - a.f0) * (q.f1 - b.f1) = 0 := by rw [e2] at h0; grind
        have : q.f1 - b.f1 = 0 := (Int.mul_eq_zero.1 this).resolve_left (by omega)
        omega
      · omega
theorem side_unique {l : List S28} {a b c : S28} (hg : ∀ q ∈ l, onG q) (ha : a ∈ l) (hb : b ∈ l) (hc : c ∈ l) (h1 : Side l a b) (h2 : Side l a c) : b = c := by
  have e1 := h1.2 c hc
  have e2 := h2.2 b hb
  have e3 := turn_swap a b c
  have z1 : turn a b c = 0 := by omega
  have z2 : turn a c b = 0 := by omega
  have k1 := e1.2 z1
  have k2 := e2.2 z2
  rcases Int.le_total (code a) (code b) with h | h
  · have := code_of_betw (hg a ha) (hg b hb) (hg c hc) k1 h
    have := code_of_betw (hg a ha) (hg c hc) (hg b hb) k2 (by omega)
    exact code_inj (hg b hb) (hg c hc) (by omega)
  · have := code_of_betw (hg b hb) (hg a ha) (hg c hc) (betw_symm k1) h
    have := code_of_betw (hg c hc) (hg a ha) (hg b hb) (betw_symm k2) (by omega)
    exact code_inj (hg b hb) (hg c hc) (by omega)
theorem side_unique' {l : List S28} {a b c : S28} (hg : ∀ q ∈ l, onG q) (ha : a ∈ l) (hb : b ∈ l) (hc : c ∈ l) (h1 : Side l b a) (h2 : Side l c a) : b = c := by
  have e1 := h1.2 c hc
  have e2 := h2.2 b hb
  have e3 : turn b a c = - turn c a b := by unfold turn; grind
  have z1 : turn b a c = 0 := by omega
  have z2 : turn c a b = 0 := by omega
  have k1 := e1.2 z1
  have k2 := e2.2 z2
  rcases Int.le_total (code b) (code a) with h | h
  · have := code_of_betw (hg b hb) (hg a ha) (hg c hc) k1 h
    have := code_of_betw (hg c hc) (hg a ha) (hg b hb) k2 (by omega)
    exact code_inj (hg b hb) (hg c hc) (by omega)
  · have := code_of_betw (hg a ha) (hg b hb) (hg c hc) (betw_symm k1) h
    have := code_of_betw (hg a ha) (hg c hc) (hg b hb) (betw_symm k2) (by omega)
    exact code_inj (hg b hb) (hg c hc) (by omega)
def Path (R : S28 → S28 → Prop) : List S28 → Prop
  | a :: b :: t => R a b ∧ Path R (b :: t)
  | _ => True
/-- THE HULL: one point, or a closed way of sides that begins at the smallest point. -/
inductive HullP (l : List S28) : List S28 → Prop
  | one (p : S28) (hl : p ∈ l) (h : ∀ q ∈ l, q = p) : HullP l [p]
  | more (h0 : S28) (t : List S28) (hne : t ≠ []) (hm : ∀ x ∈ h0 :: t, x ∈ l) (hmin : ∀ q ∈ l, code h0 ≤ code q) (hp : Path (Side l) (h0 :: t ++ [h0])) (hn : h0 ∉ t) : HullP l (h0 :: t)
theorem path_unique {l : List S28} (hg : ∀ q ∈ l, onG q) {z : S28} (hz : z ∈ l) : ∀ (t t' : List S28) (x : S28), x ∈ l → (∀ y ∈ t, y ∈ l) → (∀ y ∈ t', y ∈ l) → Path (Side l) (x :: t ++ [z]) → Path (Side l) (x :: t' ++ [z]) → z ∉ t → z ∉ t' → t = t'
  | [], [], _, _, _, _, _, _, _, _ => rfl
  | [], y :: t', x, hx, _, hm', h1, h2, _, hn' => by
    have := side_unique hg hx hz (hm' y (by simp)) h1.1 h2.1
    subst this
    exact absurd (List.mem_cons_self) hn'
  | y :: t, [], x, hx, hm, _, h1, h2, hn, _ => by
    have := side_unique hg hx hz (hm y (by simp)) h2.1 h1.1
    subst this
    exact absurd (List.mem_cons_self) hn
  | y :: t, y' :: t', x, hx, hm, hm', h1, h2, hn, hn' => by
    have := side_unique hg hx (hm y (by simp)) (hm' y' (by simp)) h1.1 h2.1
    subst this
    rw [path_unique hg hz t t' y (hm y (by simp)) (fun q hq => hm q (List.mem_cons_of_mem _ hq)) (fun q hq => hm' q (List.mem_cons_of_mem _ hq)) h1.2 h2.2 (fun h => hn (List.mem_cons_of_mem _ h)) (fun h => hn' (List.mem_cons_of_mem _ h))]
theorem hull_unique {l h h' : List S28} (hg : ∀ q ∈ l, onG q) (h1 : HullP l h) (h2 : HullP l h') : h = h' := by
  cases h1 with
  | one p hl hp =>
    cases h2 with
    | one q hl' hq => rw [hp q hl']
    | more h0 t hne hm hmin hpth hn =>
      obtain ⟨y, t, rfl⟩ := List.exists_cons_of_ne_nil hne
      have a := hp h0 (hm h0 (by simp))
      have b := hp y (hm y (by simp))
      exact absurd (a.trans b.symm) hpth.1.1
  | more h0 t hne hm hmin hpth hn =>
    cases h2 with
    | one p hl hp =>
      obtain ⟨y, t, rfl⟩ := List.exists_cons_of_ne_nil hne
      have a := hp h0 (hm h0 (by simp))
      have b := hp y (hm y (by simp))
      exact absurd (a.trans b.symm) hpth.1.1
    | more h0' t' hne' hm' hmin' hpth' hn' =>
      have e : h0 = h0' := code_inj (hg _ (hm h0 (by simp))) (hg _ (hm' h0' (by simp))) (by
        have := hmin h0' (hm' h0' (by simp)); have := hmin' h0 (hm h0 (by simp)); omega)
      subst e
      rw [path_unique hg (hm h0 (by simp)) t t' h0 (hm h0 (by simp)) (fun q hq => hm q (List.mem_cons_of_mem _ hq)) (fun q hq => hm' q (List.mem_cons_of_mem _ hq)) hpth hpth' hn hn']
theorem Side.sub {l l' : List S28} (hs : ∀ x ∈ l', x ∈ l) {a b : S28} (h : Side l a b) : Side l' a b := ⟨h.1, fun q hq => h.2 q (hs q hq)⟩
theorem Path.imp {R R' : S28 → S28 → Prop} (h : ∀ a b, R a b → R' a b) : ∀ {l : List S28}, Path R l → Path R' l
  | [], _ => trivial
  | [_], _ => trivial
  | a :: b :: t, hp => ⟨h _ _ hp.1, Path.imp h hp.2⟩
theorem hull_same {l l' h : List S28} (hs : ∀ x, x ∈ l ↔ x ∈ l') (hh : HullP l h) : HullP l' h := by
  cases hh with
  | one p hl hp => exact .one p ((hs p).1 hl) (fun q hq => hp q ((hs q).2 hq))
  | more h0 t hne hm hmin hpth hn => exact .more h0 t hne (fun x hx => (hs x).1 (hm x hx)) (fun q hq => hmin q ((hs q).2 hq)) (hpth.imp (fun a b h => h.sub (fun x hx => (hs x).2 hx))) hn
/-- The hull of the hull. -/
theorem hull_hull {l h : List S28} (hh : HullP l h) : HullP h h := by
  cases hh with
  | one p hl hp => exact .one p (by simp) (fun q hq => by simpa using hq)
  | more h0 t hne hm hmin hpth hn => exact .more h0 t hne (fun x hx => hx) (fun q hq => hmin q (hm q hq)) (hpth.imp (fun a b h => h.sub hm)) hn
theorem hull_mem {l h : List S28} (hh : HullP l h) : ∀ x ∈ h, x ∈ l := by
  cases hh with
  | one p hl hp => intro x hx; simp at hx; subst hx; exact hl
  | more h0 t hne hm hmin hpth hn => exact hm
theorem hull_ne {l h : List S28} (hh : HullP l h) : h ≠ [] := by cases hh <;> simp

/-! the chains make the hull -/
theorem path_snoc {R : S28 → S28 → Prop} {a b : S28} (hr : R a b) : ∀ {X : List S28}, Path R (X ++ [a]) → Path R (X ++ [a] ++ [b])
  | [], _ => ⟨hr, trivial⟩
  | [x], h => ⟨h.1, hr, trivial⟩
  | x :: y :: X, h => ⟨h.1, path_snoc (X := y :: X) hr h.2⟩
theorem path_join {R : S28 → S28 → Prop} {x : S28} {b : List S28} (hb : Path R (x :: b)) : ∀ {a : List S28}, Path R (a ++ [x]) → Path R (a ++ x :: b)
  | [], _ => hb
  | [y], h => ⟨h.1, hb⟩
  | y :: z :: a, h => ⟨h.1, path_join (a := z :: a) hb h.2⟩
theorem edges_path {u v : Int} {E : S28 → S28 → Prop} : ∀ {st : List S28}, Edges E st → Dec u v st → Path (fun a b => E a b ∧ ofn u v a < ofn u v b) st.reverse
  | [], _, _ => trivial
  | [_], _, _ => trivial
  | b :: a :: st, he, hd => by
    have ih := edges_path (st := a :: st) he.2 hd.2
    rw [List.reverse_cons, List.reverse_cons]
    rw [List.reverse_cons] at ih
    exact path_snoc ⟨he.1, hd.1⟩ ih
theorem dec_lt {u v : Int} : ∀ {b : S28} {st : List S28}, Dec u v (b :: st) → ∀ y ∈ st, ofn u v y < ofn u v b
  | b, [], _, y, hy => by simp at hy
  | b, a :: st, h, y, hy => by
    rcases List.mem_cons.1 hy with rfl | hy
    · exact h.1
    · have := dec_lt h.2 y hy; have := h.1; omega
theorem dec_gt {u v : Int} {z : S28} : ∀ {st : List S28}, Dec u v (st ++ [z]) → ∀ y ∈ st, ofn u v z < ofn u v y
  | [], _, y, hy => by simp at hy
  | [b], h, y, hy => by simp at hy; subst hy; exact h.1
  | b :: a :: st, h, y, hy => by
    have ih := dec_gt (st := a :: st) h.2
    rcases List.mem_cons.1 hy with rfl | hy
    · have := ih a (by simp); have := h.1; omega
    · exact ih y hy
theorem ofn_neg (p : S28) : ofn (-65536) (-1) p = - code p := by unfold code ofn; omega
theorem path_mem {R R' : S28 → S28 → Prop} : ∀ {l : List S28}, (∀ a b, a ∈ l → b ∈ l → R a b → R' a b) → Path R l → Path R' l
  | [], _, _ => trivial
  | [_], _, _ => trivial
  | a :: b :: t, h, hp => ⟨h a b (by simp) (by simp) hp.1, path_mem (fun x y hx hy => h x y (List.mem_cons_of_mem _ hx) (List.mem_cons_of_mem _ hy)) hp.2⟩
/-- s: the points in strict order. -/
theorem chains_hull {l s : List S28} (hg : ∀ q ∈ l, onG q) (hmem : ∀ x, x ∈ l ↔ x ∈ s) (hs : s.Pairwise (fun a b => code a < code b)) (h2 : 2 ≤ s.length) :
    HullP l ((stk s).tail.reverse ++ (stk s.reverse).tail.reverse) := by
  have hne : s ≠ [] := by intro e; rw [e] at h2; simp at h2
  have hner : s.reverse ≠ [] := by simpa using hne
  have hsr : s.reverse.Pairwise (fun a b => ofn (-65536) (-1) a < ofn (-65536) (-1) b) := by
    rw [List.pairwise_reverse]
    refine hs.imp (fun {a b} h => ?_)
    rw [ofn_neg, ofn_neg]; omega
  have I := stk_ok (u := 65536) (v := 1) hne hs
  have J := stk_ok hner hsr
  obtain ⟨f, s', rfl⟩ := List.exists_cons_of_ne_nil hne
  have hfl : ∃ m e, s' = m ++ [e] := by
    rcases List.eq_nil_or_concat s' with h | ⟨m, e, h⟩
    · rw [h] at h2; simp at h2
    · rw [List.concat_eq_append] at h; exact ⟨m, e, h⟩
  obtain ⟨m, e, rfl⟩ := hfl
  have hfe : code f < code e := (List.pairwise_cons.1 hs).1 e (by simp)
  have hI1 := I.top
  have hI2 := I.bot
  have hJ1 := J.top
  have hJ2 := J.bot
  have q1 : (f :: (m ++ [e])).getLast? = some e := by rw [← List.cons_append, List.getLast?_concat]
  have q2 : (f :: (m ++ [e])).reverse.getLast? = some f := by rw [List.reverse_cons, List.getLast?_concat]
  have q3 : (f :: (m ++ [e])).reverse.head? = some e := by simp
  rw [q1] at hI1
  rw [q2] at hJ1
  rw [q3] at hJ2
  simp only [List.head?_cons] at hI2
  have mI := I.mem
  have mJ : ∀ x ∈ stk (f :: (m ++ [e])).reverse, x ∈ f :: (m ++ [e]) := fun x hx => by have := J.mem x hx; rwa [List.mem_reverse] at this
  have dI := I.dec
  have dJ := J.dec
  have eI : Path (fun a b => Gd 65536 1 (f :: (m ++ [e])) a b ∧ ofn 65536 1 a < ofn 65536 1 b) (stk (f :: (m ++ [e]))).reverse := edges_path I.edges dI
  have eJ := edges_path J.edges dJ
  clear I J
  generalize stk (f :: (m ++ [e])).reverse = tJ at *
  generalize stk (f :: (m ++ [e])) = tI at *
  obtain ⟨y, rfl⟩ : ∃ y, tI = e :: y := by
    cases tI with
    | nil => simp at hI1
    | cons a y => simp at hI1; subst hI1; exact ⟨y, rfl⟩
  obtain ⟨x, rfl⟩ : ∃ x, tJ = f :: x := by
    cases tJ with
    | nil => simp at hJ1
    | cons a y => simp at hJ1; subst hJ1; exact ⟨y, rfl⟩
  obtain ⟨z, rfl⟩ : ∃ z, y = z ++ [f] := by
    rcases List.eq_nil_or_concat y with h | ⟨z, e', h⟩
    · subst h; simp at hI2; rw [hI2] at hfe; omega
    · rw [List.concat_eq_append] at h; subst h
      rw [← List.cons_append, List.getLast?_concat] at hI2
      cases hI2
      exact ⟨z, rfl⟩
  obtain ⟨w, rfl⟩ : ∃ w, x = w ++ [e] := by
    rcases List.eq_nil_or_concat x with h | ⟨z, e', h⟩
    · subst h; simp at hJ2; rw [hJ2] at hfe; omega
    · rw [List.concat_eq_append] at h; subst h
      rw [← List.cons_append, List.getLast?_concat] at hJ2
      cases hJ2
      exact ⟨z, rfl⟩
  have hS1 : ∀ a b, a ∈ l → b ∈ l → (Gd 65536 1 (f :: (m ++ [e])) a b ∧ ofn 65536 1 a < ofn 65536 1 b) → Side l a b := fun a b ha hb h => by
    refine ⟨fun e' => by rw [e'] at h; omega, fun q hq => ?_⟩
    have := h.1 q ((hmem q).1 hq)
    exact ⟨this.1, fun h0 => betw_of_code (hg a ha) (hg b hb) (hg q hq) h0 (this.2 h0).1 (this.2 h0).2⟩
  have hS2 : ∀ a b, a ∈ l → b ∈ l → (Gd (-65536) (-1) (f :: (m ++ [e])).reverse a b ∧ ofn (-65536) (-1) a < ofn (-65536) (-1) b) → Side l a b := fun a b ha hb h => by
    refine ⟨fun e' => by rw [e'] at h; omega, fun q hq => ?_⟩
    have := h.1 q (by rw [List.mem_reverse]; exact (hmem q).1 hq)
    refine ⟨this.1, fun h0 => betw_symm (betw_of_code (hg b hb) (hg a ha) (hg q hq) (by rw [turn_flip, h0]; rfl) ?_ ?_)⟩
    · have := (this.2 h0).2; rw [ofn_neg, ofn_neg] at this; omega
    · have := (this.2 h0).1; rw [ofn_neg, ofn_neg] at this; omega
  have pI : Path (Side l) (e :: (z ++ [f])).reverse := path_mem (fun a b ha hb h => hS1 a b ((hmem a).2 (mI a (List.mem_reverse.1 ha))) ((hmem b).2 (mI b (List.mem_reverse.1 hb))) h) eI
  have pJ : Path (Side l) (f :: (w ++ [e])).reverse := path_mem (fun a b ha hb h => hS2 a b ((hmem a).2 (mJ a (List.mem_reverse.1 ha))) ((hmem b).2 (mJ b (List.mem_reverse.1 hb))) h) eJ
  have e1 : (e :: (z ++ [f])).reverse = (f :: z.reverse) ++ [e] := by simp
  have e2 : (f :: (w ++ [e])).reverse = e :: (w.reverse ++ [f]) := by simp
  rw [e1] at pI
  rw [e2] at pJ
  have pth := path_join pJ pI
  show HullP l ((z ++ [f]).reverse ++ (w ++ [e]).reverse)
  rw [List.reverse_append, List.reverse_append]
  show HullP l (f :: (z.reverse ++ (e :: w.reverse)))
  refine .more f _ (by simp) (fun q hq => ?_) (fun q hq => ?_) (by simpa using pth) (fun hq => ?_)
  · rw [hmem]
    simp at hq
    rcases hq with rfl | hq | rfl | hq
    · simp
    · exact mI q (by simp [hq])
    · simp
    · exact mJ q (by simp [hq])
  · have := (hmem q).1 hq
    rcases List.mem_cons.1 this with rfl | h
    · exact Int.le_refl _
    · have := (List.pairwise_cons.1 hs).1 q h; omega
  · simp at hq
    rcases hq with hq | rfl | hq
    · have : ofn 65536 1 f < ofn 65536 1 f := dec_gt (st := e :: z) (z := f) dI f (by simp [hq])
      omega
    · omega
    · have := dec_lt dJ f (by simp [hq])
      omega

/-! points inside a hull -/
def Inside : List S28 → S28 → Prop
  | [], _ => False
  | [a], p => p = a
  | [a, b], p => betw p a b
  | a :: b :: c :: t, p => Path (fun x y => 0 ≤ turn x y p) (a :: b :: c :: t ++ [a])
theorem hull_inside {l h : List S28} (hh : HullP l h) {q : S28} (hq : q ∈ l) : Inside h q := by
  cases hh with
  | one p hl hp => exact hp q hq
  | more h0 t hne hm hmin hpth hn =>
    match t, hne, hpth with
    | [b], _, hpth =>
      have h1 := hpth.1.2 q hq
      have h2 := hpth.2.1.2 q hq
      have := turn_flip h0 b q
      exact h1.2 (by omega)
    | b :: c :: t, _, hpth => exact hpth.imp (fun x y h => (h.2 q hq).1)
theorem betw_both {x y w : S28} (hx : onG x) (hy : onG y) (hw : onG w) (h1 : betw w x y) (h2 : betw x y w) : w = x := by
  rcases Int.le_total (code x) (code y) with h | h
  · have a := code_of_betw hx hy hw h1 h
    have b := code_of_betw hw hy hx (betw_symm h2) a.2
    exact code_inj hw hx (by omega)
  · have a := code_of_betw hy hx hw (betw_symm h1) h
    have b := code_of_betw hy hw hx h2 a.1
    exact code_inj hw hx (by omega)
theorem turn_pos {l : List S28} (hg : ∀ q ∈ l, onG q) {z x y : S28} (hz : z ∈ l) (hx : x ∈ l) (hy : y ∈ l) (h1 : Side l z x) (h2 : Side l x y) (hne : z ≠ y) : 0 < turn z x y := by
  have a := h1.2 y hy
  have b := h2.2 z hz
  rcases Int.lt_or_eq_of_le a.1 with h | h
  · exact h
  · have e : turn x y z = 0 := by rw [turn_rot]; exact h.symm
    exact absurd (betw_both (hg z hz) (hg x hx) (hg y hy) (a.2 h.symm) (b.2 e)) (fun e => hne e.symm)
theorem onLine (x y w p : S28) (u v : Int) : turn y w p * (ofn u v y - ofn u v x) = turn x y w * (ofn u v y - ofn u v p) + turn x y p * (ofn u v w - ofn u v y) := by unfold turn ofn; grind
theorem onLine' (z x y p : S28) (u v : Int) : turn z x p * (ofn u v y - ofn u v x) = turn z x y * (ofn u v p - ofn u v x) + turn x y p * (ofn u v x - ofn u v z) := by unfold turn ofn; grind
theorem inCone (f h z p : S28) (u v : Int) : turn f h z * (ofn u v p - ofn u v f) = turn f h p * (ofn u v z - ofn u v f) + turn z f p * (ofn u v h - ofn u v f) := by unfold turn ofn; grind
theorem nonpos_of_mul {x y : Int} (h : x * y ≤ 0) (hx : 0 < x) : y ≤ 0 := by
  rcases Int.lt_or_le 0 y with h1 | h1
  · have := Int.mul_pos hx h1; omega
  · exact h1
theorem edge_betw {l : List S28} (hg : ∀ q ∈ l, onG q) {z x y w p : S28} (hp : onG p) (hz : z ∈ l) (hx : x ∈ l) (hy : y ∈ l) (hw : w ∈ l) (h1 : Side l z x) (h2 : Side l x y) (h3 : Side l y w) (n1 : z ≠ y) (n2 : x ≠ w)
    (t1 : 0 ≤ turn z x p) (t3 : 0 ≤ turn y w p) (t2 : turn x y p = 0) : betw p x y := by
  have p1 := turn_pos hg hz hx hy h1 h2 n1
  have p2 := turn_pos hg hx hy hw h2 h3 n2
  have i1 := onLine x y w p 65536 1
  have i2 := onLine' z x y p 65536 1
  rw [t2, Int.zero_mul, Int.add_zero] at i1 i2
  have hne : code x ≠ code y := fun e => h2.1 (code_inj (hg x hx) (hg y hy) e)
  rcases Int.lt_or_le (code x) (code y) with h | h
  · have e1 := Int.mul_nonneg t3 (show 0 ≤ ofn 65536 1 y - ofn 65536 1 x by unfold code at h; omega)
    have e2 := Int.mul_nonneg t1 (show 0 ≤ ofn 65536 1 y - ofn 65536 1 x by unfold code at h; omega)
    rw [i1, Int.mul_comm] at e1
    rw [i2, Int.mul_comm] at e2
    have g1 := nonneg_of_mul e1 p2
    have g2 := nonneg_of_mul e2 p1
    exact betw_of_code (hg x hx) (hg y hy) hp t2 (by unfold code; omega) (by unfold code; omega)
  · have e1 : turn y w p * (ofn 65536 1 y - ofn 65536 1 x) ≤ 0 := by
      have := Int.mul_nonneg t3 (show 0 ≤ ofn 65536 1 x - ofn 65536 1 y by unfold code at h; omega)
      have e : turn y w p * (ofn 65536 1 y - ofn 65536 1 x) = - (turn y w p * (ofn 65536 1 x - ofn 65536 1 y)) := by grind
      omega
    have e2 : turn z x p * (ofn 65536 1 y - ofn 65536 1 x) ≤ 0 := by
      have := Int.mul_nonneg t1 (show 0 ≤ ofn 65536 1 x - ofn 65536 1 y by unfold code at h; omega)
      have e : turn z x p * (ofn 65536 1 y - ofn 65536 1 x) = - (turn z x p * (ofn 65536 1 x - ofn 65536 1 y)) := by grind
      omega
    rw [i1] at e1
    rw [i2] at e2
    have g1 := nonpos_of_mul e1 p2
    have g2 := nonpos_of_mul e2 p1
    exact betw_symm (betw_of_code (hg y hy) (hg x hx) hp (by rw [turn_flip, t2]; rfl) (by unfold code; omega) (by unfold code; omega))
theorem alt {l : List S28} (hg : ∀ q ∈ l, onG q) {h0 : S28} (h0l : h0 ∈ l) : ∀ (L : List S28) (z x : S28), z ∈ l → x ∈ l → (∀ y ∈ L, y ∈ l) → Side l z x → Side l x z → Path (Side l) (x :: L ++ [h0]) → h0 = z ∨ h0 = x
  | [], z, x, hz, hx, _, _, h2, hp => .inl (side_unique hg hx h0l hz hp.1 h2)
  | y :: L, z, x, hz, hx, hm, h1, h2, hp => by
    have := side_unique hg hx (hm y (by simp)) hz hp.1 h2
    subst this
    exact (alt hg h0l L x y hx hz (fun q hq => hm q (List.mem_cons_of_mem _ hq)) h2 h1 hp.2).symm
theorem strict {l : List S28} (hg : ∀ q ∈ l, onG q) {h0 : S28} (h0l : h0 ∈ l) (h2 : ∀ x ∈ l, Side l h0 x → Side l x h0 → False) : ∀ (L : List S28) (x : S28), x ∈ l → (∀ y ∈ L, y ∈ l) → Path (Side l) (x :: L ++ [h0]) → Path (fun a b => Side l a b ∧ ¬ Side l b a ∧ a ∈ l ∧ b ∈ l) (x :: L ++ [h0])
  | [], x, hx, _, hp => ⟨⟨hp.1, fun h => h2 x hx h hp.1, hx, h0l⟩, trivial⟩
  | y :: L, x, hx, hm, hp => by
    have hy := hm y (by simp)
    refine ⟨⟨hp.1, fun h => ?_, hx, hy⟩, strict hg h0l h2 L y hy (fun q hq => hm q (List.mem_cons_of_mem _ hq)) hp.2⟩
    rcases alt hg h0l L x y hx hy (fun q hq => hm q (List.mem_cons_of_mem _ hq)) hp.1 h hp.2 with e | e
    · subst e; exact h2 y hy hp.1 h
    · subst e; exact h2 x hx h hp.1
theorem quads {R T : S28 → S28 → Prop} (hT : ∀ z x y w, R z x → R x y → R y w → T x y) {w : S28} : ∀ (L : List S28) (z : S28), Path R (z :: L ++ [w]) → Path T L
  | [], _, _ => trivial
  | [_], _, _ => trivial
  | [x, y], z, h => ⟨hT z x y w h.1 h.2.1 h.2.2.1, trivial⟩
  | x :: y :: y' :: L, z, h => ⟨hT z x y y' h.1 h.2.1 h.2.2.1, quads hT (y :: y' :: L) x h.2⟩
theorem path_end {R : S28 → S28 → Prop} {a b : S28} : ∀ {X : List S28}, Path R (X ++ [a] ++ [b]) → R a b
  | [], h => h.1
  | [x], h => h.2.1
  | x :: y :: X, h => path_end (X := y :: X) h.2
theorem path_and {R R' : S28 → S28 → Prop} : ∀ {l : List S28}, Path R l → Path R' l → Path (fun a b => R a b ∧ R' a b) l
  | [], _, _ => trivial
  | [_], _, _ => trivial
  | a :: b :: t, h, h' => ⟨⟨h.1, h'.1⟩, path_and h.2 h'.2⟩
/-- A POINT INSIDE ADDS NOTHING. -/
theorem hull_add {l h : List S28} (hg : ∀ q ∈ l, onG q) (hh : HullP l h) {p : S28} (hp : onG p) (hi : Inside h p) : HullP (p :: l) h := by
  cases hh with
  | one a hl ha =>
    refine .one a (List.mem_cons_of_mem _ hl) (fun q hq => ?_)
    rcases List.mem_cons.1 hq with rfl | hq
    · exact hi
    · exact ha q hq
  | more h0 t hne hm hmin hpth hn =>
    have h0l := hm h0 (by simp)
    match t, hne, hm, hpth, hn, hi with
    | [b], _, hm, hpth, hn, hi =>
      have hbl := hm b (by simp)
      have hc := code_of_betw (hg h0 h0l) (hg b hbl) hp hi (hmin b hbl)
      refine .more h0 [b] (by simp) (fun x hx => List.mem_cons_of_mem _ (hm x hx)) (fun q hq => ?_) ⟨⟨hpth.1.1, fun q hq => ?_⟩, ⟨hpth.2.1.1, fun q hq => ?_⟩, trivial⟩ hn
      · rcases List.mem_cons.1 hq with rfl | hq
        · exact hc.1
        · exact hmin q hq
      · rcases List.mem_cons.1 hq with rfl | hq
        · exact ⟨by rw [hi.1]; exact Int.le_refl _, fun _ => hi⟩
        · exact hpth.1.2 q hq
      · rcases List.mem_cons.1 hq with rfl | hq
        · exact ⟨by rw [turn_flip, hi.1]; exact Int.le_refl _, fun _ => betw_symm hi⟩
        · exact hpth.2.1.2 q hq
    | b :: c :: t, _, hm, hpth, hn, hi =>
      have hi : Path (fun x y => 0 ≤ turn x y p) (h0 :: b :: c :: t ++ [h0]) := hi
      have hbl := hm b (by simp)
      have n2 : ∀ x ∈ l, Side l h0 x → Side l x h0 → False := fun x hx s1 s2 => by
        have e1 := side_unique hg h0l hx hbl s1 hpth.1
        subst e1
        have e2 := side_unique hg hx h0l (hm c (by simp)) s2 hpth.2.1
        subst e2
        exact hn (by simp)
      have hs := path_and (strict hg h0l n2 (b :: c :: t) h0 h0l (fun q hq => hm q (List.mem_cons_of_mem _ hq)) hpth) hi
      obtain ⟨m, e, hme⟩ : ∃ m e, b :: c :: t = m ++ [e] := by
        rcases List.eq_nil_or_concat (b :: c :: t) with h | ⟨m, e, h⟩
        · cases h
        · rw [List.concat_eq_append] at h; exact ⟨m, e, h⟩
      have he : (Side l e h0 ∧ ¬ Side l h0 e ∧ e ∈ l ∧ h0 ∈ l) ∧ 0 ≤ turn e h0 p := by
        have hs' : Path (fun a b => (Side l a b ∧ ¬ Side l b a ∧ a ∈ l ∧ b ∈ l) ∧ 0 ≤ turn a b p) (h0 :: m ++ [e] ++ [h0]) := by
          have e1 : h0 :: b :: c :: t ++ [h0] = h0 :: m ++ [e] ++ [h0] := by rw [hme]; rfl
          rw [← e1]; exact hs
        exact path_end hs'
      have hb := hs.1
      have hq : Path (fun x y => 0 ≤ turn x y p ∧ (turn x y p = 0 → betw p x y)) (h0 :: b :: c :: t ++ [h0]) := by
        have hT : ∀ z x y w, ((Side l z x ∧ ¬ Side l x z ∧ z ∈ l ∧ x ∈ l) ∧ 0 ≤ turn z x p) → ((Side l x y ∧ ¬ Side l y x ∧ x ∈ l ∧ y ∈ l) ∧ 0 ≤ turn x y p) → ((Side l y w ∧ ¬ Side l w y ∧ y ∈ l ∧ w ∈ l) ∧ 0 ≤ turn y w p) → (0 ≤ turn x y p ∧ (turn x y p = 0 → betw p x y)) := by
          intro z x y w a1 a2 a3
          refine ⟨a2.2, fun h0' => ?_⟩
          exact edge_betw hg hp a1.1.2.2.1 a1.1.2.2.2 a2.1.2.2.2 a3.1.2.2.2 a1.1.1 a2.1.1 a3.1.1 (fun e' => a1.1.2.1 (e' ▸ a2.1.1)) (fun e' => a2.1.2.1 (e' ▸ a3.1.1)) a1.2 a3.2 h0'
        exact quads (w := b) hT (h0 :: b :: c :: t ++ [h0]) e ⟨he, path_snoc (X := h0 :: b :: c :: t) hb hs⟩
      refine .more h0 (b :: c :: t) (by simp) (fun x hx => List.mem_cons_of_mem _ (hm x hx)) (fun q hq' => ?_) ((path_and hpth hq).imp (fun x y h => ⟨h.1.1, fun q hq' => ?_⟩)) hn
      · rcases List.mem_cons.1 hq' with rfl | hq'
        · have tp := turn_pos hg he.1.2.2.1 h0l hbl he.1.1 hb.1.1 (fun e' => he.1.2.1 (e' ▸ hb.1.1))
          have hc := inCone h0 b e q 65536 1
          have r := turn_rot e h0 b
          have m1 := hmin e he.1.2.2.1
          have m2 := hmin b hbl
          have k1 := Int.mul_nonneg hb.2 (show 0 ≤ ofn 65536 1 e - ofn 65536 1 h0 by unfold code at m1; omega)
          have k2 := Int.mul_nonneg he.2 (show 0 ≤ ofn 65536 1 b - ofn 65536 1 h0 by unfold code at m2; omega)
          have k3 : 0 ≤ (ofn 65536 1 q - ofn 65536 1 h0) * turn h0 b e := by rw [Int.mul_comm, hc]; omega
          have := nonneg_of_mul k3 (by omega)
          unfold code; omega
        · exact hmin q hq'
      · rcases List.mem_cons.1 hq' with rfl | hq'
        · exact h.2
        · exact h.1.2 q hq'
end Go.Proofs.Ytnjkjafhmgcpnaa.Pure
