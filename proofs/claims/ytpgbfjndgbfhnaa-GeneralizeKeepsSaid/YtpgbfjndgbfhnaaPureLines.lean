/- c26, plain: the laws GeneralizeFixes, GeneralizeLine, GeneralizeLines. -/
import Derived.Test.YtpgbfjndgbfhnaaPureLine
namespace Go.Proofs.Ytpgbfjndgbfhnaa.Pure
open Go.RowKit Go.Proofs.Ytpgbfjndgbfhnaa.PAll Go.Proofs.YtpgbfjndgbfhnaaW.PrintWords Go.Proofs.YtpgbfjndgbfhnaaW.PrintLast
set_option linter.unusedVariables false
set_option linter.unusedSimpArgs false
theorem livesAll : mapmakerlaw26_lives.f 100 = some true := by decide +kernel
theorem pts_tot : ∀ l : List S31, (allPts l).length ≤ tot l
  | [] => by simp [allPts]
  | x :: l => by
    have := pts_tot l
    unfold allPts at *
    rw [List.flatMap_cons, List.length_append]
    simp only [tot]
    omega
theorem ok_of (l : List S31) (hw : ∀ y ∈ l, wf31 y) (h : l.length + tot l ≤ 80) : Ok l := by
  refine ⟨fun p hp => ?_, by have := pts_tot l; omega, by omega⟩
  unfold allPts at hp
  obtain ⟨x, hx, hp⟩ := List.mem_flatMap.1 hp
  exact (hw x hx).2.1.2 p hp
theorem fewW (l : List S31) (h0 : l.length ≤ 140737488355328) (hw : ∀ y ∈ l, wf31 y) : ∃ b, Ev (fun k => mapmakerlaw26_few.f k l) b ∧ (b = true → l.length + tot l ≤ 80) :=
  few l h0 (fun y hy => ⟨(hw y hy).2.1.1, (hw y hy).2.2.1.1, (hw y hy).2.2.2.1⟩)
theorem sh_of (l : List S31) (h : l.length + tot l ≤ 80) : ∀ x ∈ l, Sh x := by
  intro x hx
  have := tot_mem l x hx
  exact ⟨by omega, by omega, by omega⟩
theorem lineGo_len (fx : List S40) (lim : Int) : ∀ (n : Nat) (p : List S40) (ns : List Int), (lineGo fx lim n p ns).1.length ≤ p.length ∧ (lineGo fx lim n p ns).2.length ≤ ns.length
  | 0, p, ns => ⟨Nat.le_refl _, Nat.le_refl _⟩
  | n + 1, p, ns => by
    simp only [lineGo]
    split
    · exact ⟨Nat.le_refl _, Nat.le_refl _⟩
    · obtain ⟨h1, h2⟩ := lineGo_len fx lim n (p.take (wk p fx lim).toNat ++ p.drop ((wk p fx lim).toNat + 1)) (ns.take (wk p fx lim).toNat ++ ns.drop ((wk p fx lim).toNat + 1))
      rw [List.length_append, List.length_take, List.length_drop] at h1 h2
      constructor <;> omega
theorem L_sh (fx : List S40) (lim : Int) (x : S31) (h : Sh x) : Sh (L fx lim x) := by
  unfold L
  split
  · obtain ⟨h1, h2⟩ := lineGo_len fx lim x.f1.length x.f1 x.f2
    exact ⟨Nat.le_trans h1 h.1, Nat.le_trans h2 h.2.1, h.2.2⟩
  · exact h
end Go.Proofs.Ytpgbfjndgbfhnaa.Pure
