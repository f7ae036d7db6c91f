/- c15, plain: what Apply computes; ChangeJoins. -/
import Derived.Test.YtijoaohckgbneaaGreatPureBase
namespace Go.Proofs.YtijoaohckgbneaaGreat.Pure
open Go.RowKit Go.Proofs.YtijoaohckgbneaaGreat.PAll Go.Proofs.YtijoaohckgbneaaGreatG Go.Proofs.YtijoaohckgbneaaGreatW.PrintWords Go.Proofs.YtijoaohckgbneaaGreatW.PrintLast
set_option linter.unusedVariables false
set_option linter.unusedSimpArgs false
theorem wf_small {n : Int} (h : 1 ≤ n ∧ n ≤ 2147483647) : (Lit.int .i64 n).wf = true := by
  have e1 : IntKind.i64.min = -9223372036854775808 := rfl
  have e2 : IntKind.i64.max = 9223372036854775807 := rfl
  simp [Lit.wf, e1, e2]
  omega
theorem okIds_rising {α : Type} (g : α → Int) : ∀ (l : List α) (p : Int), okIds p (l.map g) → Rising g l ∧ ∀ x ∈ l, p < g x ∧ 1 ≤ g x ∧ g x ≤ 2147483647
  | [], _, _ => ⟨List.Pairwise.nil, fun x hx => by simp at hx⟩
  | x :: l, p, h => by
    obtain ⟨h1, h2⟩ := h
    have h3 := (idE_iff _ _).1 h1
    obtain ⟨h4, h5⟩ := okIds_rising g l (g x) h2
    refine ⟨List.pairwise_cons.2 ⟨fun y hy => (h5 y hy).1, h4⟩, fun y hy => ?_⟩
    rcases List.mem_cons.1 hy with rfl | hy
    · omega
    · have := h5 y hy; omega
theorem chk_good {l0 : List S37} {l1 : List S40} {l2 : List S43} (h : chk l0 l1 l2 = 0) : GD l0 l1 l2 = true := by
  obtain ⟨h1, h2, h3, h4⟩ := (chk_iff _ _ _).1 h
  obtain ⟨r0, b0⟩ := okIds_rising (fun x : S37 => x.f0) l0 0 ((ngo_iff _ _).1 h2).1
  obtain ⟨r1, b1⟩ := okIds_rising (fun x : S40 => x.f0) l1 0 ((wgo_iff _ _ _).1 h3).1
  obtain ⟨r2, b2⟩ := okIds_rising (fun x : S43 => x.f0) l2 0 ((rgo_iff _ _ _ _).1 h4).1
  unfold GD
  simp only [Bool.and_eq_true, decide_eq_true_eq, List.all_eq_true]
  exact ⟨⟨⟨⟨⟨⟨h1, r0⟩, r1⟩, r2⟩, fun x hx => wf_small (b0 x hx).2⟩, fun x hx => wf_small (b1 x hx).2⟩, fun x hx => wf_small (b2 x hx).2⟩
def BdE (B : Nat) (l0 : List S37) (l1 : List S40) (l2 : List S43) : Prop := l0.length ≤ B ∧ l1.length ≤ B ∧ l2.length ≤ B
def RsE (l0 : List S37) (l1 : List S40) (l2 : List S43) : Prop := Rising (fun x : S37 => x.f0) l0 ∧ Rising (fun x : S40 => x.f0) l1 ∧ Rising (fun x : S43 => x.f0) l2
theorem chk_parts {l0 : List S37} {l1 : List S40} {l2 : List S43} (h : chk l0 l1 l2 = 0) : BdE 10000 l0 l1 l2 ∧ RsE l0 l1 l2 := by
  have h2 := GD_out (chk_good h)
  exact ⟨h2.1, h2.2.1⟩
def Hs (l0 : List S37) (l1 : List S40) (l2 : List S43) (a b : Int) : Prop := (a = 1 ∧ b ∈ i37 l0) ∨ (a = 2 ∧ b ∈ i40 l1) ∨ (a = 3 ∧ b ∈ i43 l2)
theorem hasV_iff (l0 : List S37) (l1 : List S40) (l2 : List S43) (a b : Int) : hasV l0 l1 l2 a b = true ↔ Hs l0 l1 l2 a b := by
  unfold hasV Hs
  by_cases h1 : a = 1
  · simp [h1]
  · by_cases h2 : a = 2
    · simp [h2]
    · rw [if_neg h1, if_neg h2]
      by_cases h3 : (i43 l2).contains b = true
      · rw [if_pos h3]
        have : b ∈ i43 l2 := by simpa using h3
        simp [h1, h2, this]
      · rw [if_neg h3]
        have : b ∉ i43 l2 := by simpa using h3
        simp [h1, h2, this]
end Go.Proofs.YtijoaohckgbneaaGreat.Pure
