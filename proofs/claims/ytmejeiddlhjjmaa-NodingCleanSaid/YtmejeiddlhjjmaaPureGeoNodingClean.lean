/- Two segments on the grid: that the two classifications agree on crossing and overlapping, in plain Lean. -/
import Derived.Test.YtmejeiddlhjjmaaPureCoreNodingClean
namespace Go.Proofs.Ytmejeiddlhjjmaa.Pure
open Go.RowKit Go.Proofs.Ytmejeiddlhjjmaa.PNodingClean Go.Proofs.YtmejeiddlhjjmaaW.PrintWords Go.Proofs.YtmejeiddlhjjmaaW.PrintLast
set_option linter.unusedVariables false
set_option linter.unusedSimpArgs false

def turn (a b c : S33) : Int := (b.f0 - a.f0) * (c.f1 - a.f1) - (b.f1 - a.f1) * (c.f0 - a.f0)
def onG (p : S33) : Prop := 0 ≤ p.f0 ∧ p.f0 < 32768 ∧ 0 ≤ p.f1 ∧ p.f1 < 32768
theorem mul_bound {p q : Int} (hp : -32768 ≤ p ∧ p ≤ 32768) (hq : -32768 ≤ q ∧ q ≤ 32768) : -1073741824 ≤ p * q ∧ p * q ≤ 1073741824 := by
  have h : (p * q).natAbs ≤ 1073741824 := by
    rw [Int.natAbs_mul]
    exact Nat.mul_le_mul (show p.natAbs ≤ 32768 by omega) (show q.natAbs ≤ 32768 by omega)
  omega
theorem wrap_id {n : Int} (h : -9223372036854775808 ≤ n ∧ n ≤ 9223372036854775807) : wrap64 n = n := by unfold wrap64; omega
theorem turn_wrap {a b c : S33} (ha : onG a) (hb : onG b) (hc : onG c) : wrap64 ((wrap64 ((wrap64 (b.f0 - a.f0)) * (wrap64 (c.f1 - a.f1)))) - (wrap64 ((wrap64 (b.f1 - a.f1)) * (wrap64 (c.f0 - a.f0))))) = turn a b c := by
  unfold onG at ha hb hc
  have h1 := mul_bound (p := b.f0 - a.f0) (q := c.f1 - a.f1) (by omega) (by omega)
  have h2 := mul_bound (p := b.f1 - a.f1) (q := c.f0 - a.f0) (by omega) (by omega)
  rw [wrap_id (n := b.f0 - a.f0) (by omega), wrap_id (n := c.f1 - a.f1) (by omega), wrap_id (n := b.f1 - a.f1) (by omega), wrap_id (n := c.f0 - a.f0) (by omega), wrap_id (n := (b.f0 - a.f0) * (c.f1 - a.f1)) (by omega), wrap_id (n := (b.f1 - a.f1) * (c.f0 - a.f0)) (by omega), wrap_id (n := (b.f0 - a.f0) * (c.f1 - a.f1) - (b.f1 - a.f1) * (c.f0 - a.f0)) (by omega)]
  rfl
/-- TWO VECTORS ALONG A THIRD ONE ARE ALONG EACH OTHER. -/
theorem par {vx vy ux uy wx wy : Int} (hv : vx ≠ 0 ∨ vy ≠ 0) (hu : vx * uy - vy * ux = 0) (hw : vx * wy - vy * wx = 0) : ux * wy - uy * wx = 0 := by
  have h1 : vx * (ux * wy - uy * wx) = 0 := by
    have e : vx * (ux * wy - uy * wx) = ux * (vx * wy - vy * wx) - wx * (vx * uy - vy * ux) := by
      simp only [Int.mul_sub, Int.sub_mul]
      have e1 : vx * (ux * wy) = ux * (vx * wy) := by rw [Int.mul_left_comm]
      have e2 : vx * (uy * wx) = wx * (vx * uy) := by rw [Int.mul_left_comm wx, Int.mul_comm wx]
      have e3 : ux * (vy * wx) = wx * (vy * ux) := by rw [Int.mul_left_comm wx, Int.mul_comm wx, Int.mul_left_comm ux]
      omega
    rw [e, hu, hw]; omega
  have h2 : vy * (ux * wy - uy * wx) = 0 := by
    have e : vy * (ux * wy - uy * wx) = uy * (vx * wy - vy * wx) - wy * (vx * uy - vy * ux) := by
      simp only [Int.mul_sub, Int.sub_mul]
      have e1 : vy * (ux * wy) = wy * (vy * ux) := by rw [Int.mul_left_comm wy, Int.mul_comm wy]
      have e2 : vy * (uy * wx) = uy * (vy * wx) := by rw [Int.mul_left_comm]
      have e3 : uy * (vx * wy) = wy * (vx * uy) := by rw [Int.mul_left_comm wy, Int.mul_comm wy, Int.mul_left_comm uy]
      omega
    rw [e, hu, hw]; omega
  rcases hv with hv | hv
  · exact (Int.mul_eq_zero.1 h1).resolve_left hv
  · exact (Int.mul_eq_zero.1 h2).resolve_left hv
/-- THREE POINTS ON ONE LINE. -/
theorem col3 {p q x y z : S33} (hpq : p ≠ q) (hx : turn p q x = 0) (hy : turn p q y = 0) (hz : turn p q z = 0) : turn x y z = 0 := by
  have hv : q.f0 - p.f0 ≠ 0 ∨ q.f1 - p.f1 ≠ 0 := by
    by_cases h0 : q.f0 - p.f0 = 0
    · by_cases h1 : q.f1 - p.f1 = 0
      · exact absurd (s33_ext (by omega) (by omega)) hpq
      · exact Or.inr h1
    · exact Or.inl h0
  unfold turn at hx hy hz ⊢
  have a := par hv (ux := y.f0 - x.f0) (uy := y.f1 - x.f1) (wx := z.f0 - x.f0) (wy := z.f1 - x.f1) (by
    have e : (q.f0 - p.f0) * (y.f1 - x.f1) - (q.f1 - p.f1) * (y.f0 - x.f0) = ((q.f0 - p.f0) * (y.f1 - p.f1) - (q.f1 - p.f1) * (y.f0 - p.f0)) - ((q.f0 - p.f0) * (x.f1 - p.f1) - (q.f1 - p.f1) * (x.f0 - p.f0)) := by
      simp only [Int.mul_sub, Int.sub_mul]; omega
    rw [e, hx, hy]; rfl) (by
    have e : (q.f0 - p.f0) * (z.f1 - x.f1) - (q.f1 - p.f1) * (z.f0 - x.f0) = ((q.f0 - p.f0) * (z.f1 - p.f1) - (q.f1 - p.f1) * (z.f0 - p.f0)) - ((q.f0 - p.f0) * (x.f1 - p.f1) - (q.f1 - p.f1) * (x.f0 - p.f0)) := by
      simp only [Int.mul_sub, Int.sub_mul]; omega
    rw [e, hx, hz]; rfl)
  exact a
theorem turn_left (a b : S33) : turn a b a = 0 := by unfold turn; simp
theorem turn_right (a b : S33) : turn a b b = 0 := by
  unfold turn
  rw [Int.mul_comm (b.f1 - a.f1)]; omega

def cd (p : S33) : Int := p.f0 * 32768 + p.f1
theorem cd_inj {p q : S33} (hp : onG p) (hq : onG q) (h : cd p = cd q) : p = q := by
  unfold cd onG at *
  exact s33_ext (by omega) (by omega)
theorem lt_cd {p q : S33} (hp : onG p) (hq : onG q) : ltB p.f0 p.f1 q.f0 q.f1 = decide (cd p < cd q) := by
  unfold ltB cd onG at *
  rw [Bool.eq_iff_iff]
  simp
  omega
def inBox (p a b : S33) : Prop := p.f0 ≥ min a.f0 b.f0 ∧ p.f0 ≤ max a.f0 b.f0 ∧ p.f1 ≥ min a.f1 b.f1 ∧ p.f1 ≤ max a.f1 b.f1
instance (p a b : S33) : Decidable (inBox p a b) := by unfold inBox; exact inferInstance
theorem pos_mul_nonneg {p q : Int} (hp : 0 < p) (h : 0 ≤ p * q) : 0 ≤ q := by
  by_cases hq : 0 ≤ q
  · exact hq
  · have : p * q < 0 := Int.mul_neg_of_pos_of_neg hp (by omega)
    omega
/-- ON A LINE, THE BOX IS THE ORDER. -/
theorem box_iff {p a b : S33} (hp : onG p) (ha : onG a) (hb : onG b) (hab : cd a < cd b) (ht : turn a b p = 0) : inBox p a b ↔ cd a ≤ cd p ∧ cd p ≤ cd b := by
  have hx : a.f0 ≤ b.f0 := by unfold cd onG at *; omega
  unfold turn at ht
  constructor
  · intro h
    unfold inBox at h
    by_cases he : a.f0 = b.f0
    · unfold cd onG at *
      have := Int.min_def a.f1 b.f1; have := Int.max_def a.f1 b.f1; have := Int.min_def a.f0 b.f0; have := Int.max_def a.f0 b.f0
      split at * <;> omega
    · have hlt : a.f0 < b.f0 := by omega
      have h0 : a.f0 ≤ p.f0 ∧ p.f0 ≤ b.f0 := by
        have := Int.min_def a.f0 b.f0; have := Int.max_def a.f0 b.f0
        split at * <;> omega
      -- at the ends' own columns the heights are the ends' own
      have hA : p.f0 = a.f0 → p.f1 = a.f1 := fun e => by
        rw [e] at ht
        have : (b.f0 - a.f0) * (p.f1 - a.f1) = 0 := by simpa using ht
        rcases Int.mul_eq_zero.1 this with h | h <;> omega
      have hB : p.f0 = b.f0 → p.f1 = b.f1 := fun e => by
        rw [e] at ht
        have : (b.f0 - a.f0) * (p.f1 - b.f1) = 0 := by
          have e2 : (b.f0 - a.f0) * (p.f1 - b.f1) = (b.f0 - a.f0) * (p.f1 - a.f1) - (b.f1 - a.f1) * (b.f0 - a.f0) := by
            rw [Int.mul_comm (b.f1 - a.f1)]
            simp only [Int.mul_sub]; omega
          rw [e2]; exact ht
        rcases Int.mul_eq_zero.1 this with h | h <;> omega
      unfold cd onG at *
      omega
  · intro h
    unfold inBox
    by_cases he : a.f0 = b.f0
    · have hpx : p.f0 = a.f0 := by unfold cd onG at *; omega
      have hpy : a.f1 ≤ p.f1 ∧ p.f1 ≤ b.f1 := by unfold cd onG at *; omega
      omega
    · have hlt : a.f0 < b.f0 := by omega
      have h0 : a.f0 ≤ p.f0 ∧ p.f0 ≤ b.f0 := by unfold cd onG at *; omega
      have e1 : (b.f0 - a.f0) * (p.f1 - a.f1) = (b.f1 - a.f1) * (p.f0 - a.f0) := by omega
      have e2 : (b.f0 - a.f0) * (b.f1 - p.f1) = (b.f1 - a.f1) * (b.f0 - p.f0) := by
        have : (b.f0 - a.f0) * (b.f1 - p.f1) = (b.f0 - a.f0) * (b.f1 - a.f1) - (b.f0 - a.f0) * (p.f1 - a.f1) := by
          simp only [Int.mul_sub]; omega
        rw [this, e1, Int.mul_comm (b.f0 - a.f0)]
        simp only [Int.mul_sub]; omega
      by_cases hy : a.f1 ≤ b.f1
      · have g1 : 0 ≤ (b.f0 - a.f0) * (p.f1 - a.f1) := by rw [e1]; exact Int.mul_nonneg (by omega) (by omega)
        have g2 : 0 ≤ (b.f0 - a.f0) * (b.f1 - p.f1) := by rw [e2]; exact Int.mul_nonneg (by omega) (by omega)
        have := pos_mul_nonneg (by omega) g1
        have := pos_mul_nonneg (by omega) g2
        omega
      · have g1 : 0 ≤ (b.f0 - a.f0) * (a.f1 - p.f1) := by
          have : (b.f0 - a.f0) * (a.f1 - p.f1) = (a.f1 - b.f1) * (p.f0 - a.f0) := by
            have n1 : (b.f0 - a.f0) * (a.f1 - p.f1) = -((b.f0 - a.f0) * (p.f1 - a.f1)) := by simp only [Int.mul_sub]; omega
            have n2 : (a.f1 - b.f1) * (p.f0 - a.f0) = -((b.f1 - a.f1) * (p.f0 - a.f0)) := by simp only [Int.mul_sub, Int.sub_mul]; omega
            rw [n1, n2, e1]
          rw [this]; exact Int.mul_nonneg (by omega) (by omega)
        have g2 : 0 ≤ (b.f0 - a.f0) * (p.f1 - b.f1) := by
          have : (b.f0 - a.f0) * (p.f1 - b.f1) = (a.f1 - b.f1) * (b.f0 - p.f0) := by
            have n1 : (b.f0 - a.f0) * (p.f1 - b.f1) = -((b.f0 - a.f0) * (b.f1 - p.f1)) := by simp only [Int.mul_sub]; omega
            have n2 : (a.f1 - b.f1) * (b.f0 - p.f0) = -((b.f1 - a.f1) * (b.f0 - p.f0)) := by simp only [Int.mul_sub, Int.sub_mul]; omega
            rw [n1, n2, e2]
          rw [this]; exact Int.mul_nonneg (by omega) (by omega)
        have := pos_mul_nonneg (by omega) g1
        have := pos_mul_nonneg (by omega) g2
        omega
end Go.Proofs.Ytmejeiddlhjjmaa.Pure
