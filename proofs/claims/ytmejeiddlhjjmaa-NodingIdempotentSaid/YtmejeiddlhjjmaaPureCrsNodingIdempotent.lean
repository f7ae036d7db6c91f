/- The pairs that cross or overlap: the program's list is the reference's. -/
import Derived.Test.YtmejeiddlhjjmaaPureRelNodingIdempotent
namespace Go.Proofs.Ytmejeiddlhjjmaa.Pure
open Go.RowKit Go.Proofs.Ytmejeiddlhjjmaa.PNodingIdempotent Go.Proofs.YtmejeiddlhjjmaaW.PrintWords Go.Proofs.YtmejeiddlhjjmaaW.PrintLast
set_option linter.unusedVariables false
set_option linter.unusedSimpArgs false

noncomputable def hit (s t : S35) : Bool := @decide (X s t ∨ Ov s t) (Classical.propDecidable _)
theorem seg_of {y : S35} (hg : goodS y = true) : Seg (ofS y) := by
  unfold goodS vB at hg
  simp at hg
  obtain ⟨hne, ⟨a1, a2, a3, a4⟩, b1, b2, b3, b4⟩ := hg
  have ha : onG y.f0 := ⟨a1, a2, a3, a4⟩
  have hb : onG y.f1 := ⟨b1, b2, b3, b4⟩
  have hcd : cd y.f0 ≠ cd y.f1 := fun e => by
    have := cd_inj ha hb e
    rcases hne with h | h <;> exact h (by rw [this])
  unfold ofS
  rw [lt_cd hb ha]
  by_cases c : cd y.f1 < cd y.f0
  · rw [decide_eq_true c, if_pos rfl]; exact ⟨hb, ha, c⟩
  · rw [decide_eq_false c, if_neg (by simp)]; exact ⟨ha, hb, by omega⟩
theorem canon_seg (l : List S35) : ∀ s ∈ canonP l, Seg s := by
  intro s hs
  unfold canonP at hs
  obtain ⟨y, hy, rfl⟩ := List.mem_map.1 hs
  exact seg_of (List.mem_filter.1 hy).2
theorem ddGo_sub : ∀ (l : List S35) (p : S35), ∀ x ∈ ddGo35 eqs35 p l, x ∈ l
  | [], p, x, h => h
  | y :: l, p, x, h => by
    rw [ddGo_cons] at h
    split at h
    · exact List.mem_cons_of_mem _ (ddGo_sub l y x h)
    · rcases List.mem_cons.1 h with rfl | h
      · exact List.mem_cons_self
      · exact List.mem_cons_of_mem _ (ddGo_sub l y x h)
theorem dd_sub (l : List S35) : ∀ x ∈ dd35 eqs35 l, x ∈ l := by
  cases l with
  | nil => intro x h; exact h
  | cons y l =>
    intro x h
    rcases List.mem_cons.1 (show x ∈ y :: ddGo35 eqs35 y l from h) with rfl | h
    · exact List.mem_cons_self
    · exact List.mem_cons_of_mem _ (ddGo_sub l y x h)
theorem ddGo_length : ∀ (l : List S35) (p : S35), (ddGo35 eqs35 p l).length ≤ l.length
  | [], p => Nat.le_refl _
  | y :: l, p => by
    rw [ddGo_cons]
    have := ddGo_length l y
    split <;> simp <;> omega
theorem dd_length (l : List S35) : (dd35 eqs35 l).length ≤ l.length := by
  cases l with
  | nil => exact Nat.le_refl _
  | cons y l => have := ddGo_length l y; show (y :: ddGo35 eqs35 y l).length ≤ _; simp; omega
theorem ddGo_mem : ∀ (l : List S35) (p : S35), ∀ x ∈ l, x ∈ p :: ddGo35 eqs35 p l
  | y :: l, p, x, h => by
    rw [ddGo_cons]
    by_cases e : eqs35 y p = true
    · rw [if_pos e]
      have e' := (eqs35_iff _ _).1 e
      subst e'
      rcases List.mem_cons.1 h with rfl | h
      · exact List.mem_cons_self
      · exact ddGo_mem l y x h
    · rw [if_neg e]
      rcases List.mem_cons.1 h with rfl | h
      · exact List.mem_cons_of_mem _ List.mem_cons_self
      · exact List.mem_cons_of_mem _ (ddGo_mem l y x h)
theorem dd_mem (l : List S35) : ∀ x ∈ l, x ∈ dd35 eqs35 l := by
  cases l with
  | nil => intro x h; exact h
  | cons y l =>
    intro x h
    rcases List.mem_cons.1 h with rfl | h
    · exact List.mem_cons_self
    · exact ddGo_mem l y x h
theorem unique_length (l : List S35) : (dd35 eqs35 (sortS (canonP l))).length ≤ l.length := by
  have := dd_length (sortS (canonP l)); rw [sortS_length] at this; have := canonP_length l; omega
theorem livesAll : mapmakerlaw20_lives.f 100 = some true := by decide +kernel
theorem few_some (l : List S35) : mapmakerlaw20_few.f l = some (decide ((l.length : Int) ≤ 24)) := rfl
end Go.Proofs.Ytmejeiddlhjjmaa.Pure
