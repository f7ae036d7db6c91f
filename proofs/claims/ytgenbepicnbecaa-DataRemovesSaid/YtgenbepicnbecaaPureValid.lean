/- c14, plain: what a valid dataset is; the same without one object. -/
import Derived.Test.YtgenbepicnbecaaPureProgUsers
namespace Go.Proofs.Ytgenbepicnbecaa.Pure
open Go.RowKit Go.Proofs.Ytgenbepicnbecaa.PAll Go.Proofs.YtgenbepicnbecaaW.PrintWords Go.Proofs.YtgenbepicnbecaaW.PrintLast
set_option linter.unusedVariables false
set_option linter.unusedSimpArgs false
theorem idE_iff (n p : Int) : idE n p = 0 ↔ 1 ≤ n ∧ n ≤ 2147483647 ∧ p < n := by
  unfold idE
  constructor
  · intro h
    by_cases h1 : n < 1
    · rw [if_pos h1] at h; cases h
    · rw [if_neg h1] at h
      by_cases h2 : n > 2147483647
      · rw [if_pos h2] at h; cases h
      · rw [if_neg h2] at h
        by_cases h3 : n ≤ p
        · rw [if_pos h3] at h; cases h
        · omega
  · rintro ⟨h1, h2, h3⟩
    rw [if_neg (by omega), if_neg (by omega), if_neg (by omega)]
def okIds : Int → List Int → Prop
  | _, [] => True
  | p, x :: r => idE x p = 0 ∧ okIds x r
theorem okIds_filter {α : Type} (g : α → Int) (q : α → Bool) : ∀ (l : List α) (p p' : Int), p' ≤ p → okIds p (l.map g) → okIds p' ((l.filter q).map g)
  | [], _, _, _, _ => trivial
  | x :: l, p, p', hp, h => by
    obtain ⟨h1, h2⟩ := h
    rw [List.filter_cons]
    have h3 := (idE_iff _ _).1 h1
    by_cases hq : q x = true
    · rw [if_pos hq]
      exact ⟨(idE_iff _ _).2 ⟨h3.1, h3.2.1, by omega⟩, okIds_filter g q l _ _ (Int.le_refl _) h2⟩
    · rw [if_neg hq]
      exact okIds_filter g q l _ _ (by omega) h2
theorem ngo_iff : ∀ (l : List S39) (p : Int), ngo p l = 0 ↔ okIds p (i39 l) ∧ ∀ x ∈ l, badc x = false ∧ tchk x.f2 = 0
  | [], p => by simp [ngo, i39, okIds]
  | x :: l, p => by
    have ih := ngo_iff l x.f0
    have e : i39 (x :: l) = x.f0 :: i39 l := rfl
    rw [e]
    simp only [ngo, okIds, List.forall_mem_cons]
    by_cases h1 : idE x.f0 p = 0
    · rw [if_pos h1]
      by_cases h2 : badc x = true
      · rw [if_pos h2]; simp [h2]
      · rw [if_neg h2]
        by_cases h3 : tchk x.f2 = 0
        · rw [if_pos h3, ih]; simp [h1, h2, h3]
        · rw [if_neg h3]; simp [h3]
    · rw [if_neg h1]; simp [h1]
theorem wgo_iff (ids : List Int) : ∀ (l : List S45) (p : Int), wgo ids p l = 0 ↔ okIds p (i45 l) ∧ ∀ x ∈ l, wayE ids x = 0
  | [], p => by simp [wgo, i45, okIds]
  | x :: l, p => by
    have ih := wgo_iff ids l x.f0
    have e : i45 (x :: l) = x.f0 :: i45 l := rfl
    rw [e]
    simp only [wgo, okIds, List.forall_mem_cons]
    by_cases h1 : idE x.f0 p = 0
    · rw [if_pos h1]
      by_cases h2 : wayE ids x = 0
      · rw [if_pos h2, ih]; simp [h1, h2]
      · rw [if_neg h2]; simp [h2]
    · rw [if_neg h1]; simp [h1]
theorem rgo_iff (i0 i1 : List Int) : ∀ (l : List S51) (p : Int), rgo i0 i1 p l = 0 ↔ okIds p (i51 l) ∧ ∀ x ∈ l, relE i0 i1 x = 0
  | [], p => by simp [rgo, i51, okIds]
  | x :: l, p => by
    have ih := rgo_iff i0 i1 l x.f0
    have e : i51 (x :: l) = x.f0 :: i51 l := rfl
    rw [e]
    simp only [rgo, okIds, List.forall_mem_cons]
    by_cases h1 : idE x.f0 p = 0
    · rw [if_pos h1]
      by_cases h2 : relE i0 i1 x = 0
      · rw [if_pos h2, ih]; simp [h1, h2]
      · rw [if_neg h2]; simp [h2]
    · rw [if_neg h1]; simp [h1]
theorem wgo_nine (ids : List Int) : ∀ (l : List S45) (p : Int), okIds p (i45 l) → (∀ x ∈ l, wayE ids x = 0 ∨ wayE ids x = 9) → (∃ x ∈ l, wayE ids x = 9) → wgo ids p l = 9
  | [], _, _, _, ⟨x, hx, _⟩ => absurd hx (by simp)
  | x :: l, p, h, h0, h9 => by
    obtain ⟨h1, h2⟩ := (show idE x.f0 p = 0 ∧ okIds x.f0 (i45 l) from h)
    simp only [wgo]
    rw [if_pos h1]
    by_cases hx : wayE ids x = 0
    · rw [if_pos hx]
      refine wgo_nine ids l _ h2 (fun y hy => h0 y (List.mem_cons_of_mem _ hy)) ?_
      obtain ⟨y, hy, hy9⟩ := h9
      rcases List.mem_cons.1 hy with rfl | hy
      · rw [hx] at hy9; cases hy9
      · exact ⟨y, hy, hy9⟩
    · rw [if_neg hx]; exact (h0 x List.mem_cons_self).resolve_left hx
theorem rgo_nine (i0 i1 : List Int) : ∀ (l : List S51) (p : Int), okIds p (i51 l) → (∀ x ∈ l, relE i0 i1 x = 0 ∨ relE i0 i1 x = 9) → (∃ x ∈ l, relE i0 i1 x = 9) → rgo i0 i1 p l = 9
  | [], _, _, _, ⟨x, hx, _⟩ => absurd hx (by simp)
  | x :: l, p, h, h0, h9 => by
    obtain ⟨h1, h2⟩ := (show idE x.f0 p = 0 ∧ okIds x.f0 (i51 l) from h)
    simp only [rgo]
    rw [if_pos h1]
    by_cases hx : relE i0 i1 x = 0
    · rw [if_pos hx]
      refine rgo_nine i0 i1 l _ h2 (fun y hy => h0 y (List.mem_cons_of_mem _ hy)) ?_
      obtain ⟨y, hy, hy9⟩ := h9
      rcases List.mem_cons.1 hy with rfl | hy
      · rw [hx] at hy9; cases hy9
      · exact ⟨y, hy, hy9⟩
    · rw [if_neg hx]; exact (h0 x List.mem_cons_self).resolve_left hx
theorem chk_iff (l0 : List S39) (l1 : List S45) (l2 : List S51) : chk l0 l1 l2 = 0 ↔ (l0.length ≤ 10000 ∧ l1.length ≤ 10000 ∧ l2.length ≤ 10000) ∧ ngo 0 l0 = 0 ∧ wgo (i39 l0) 0 l1 = 0 ∧ rgo (i39 l0) (i45 l1) 0 l2 = 0 := by
  unfold chk
  by_cases h : 10000 < l0.length ∨ 10000 < l1.length ∨ 10000 < l2.length
  · rw [if_pos h]
    constructor
    · intro h; cases h
    · rintro ⟨h1, _⟩; omega
  · rw [if_neg h]
    by_cases h1 : ngo 0 l0 = 0
    · rw [if_pos h1]
      by_cases h2 : wgo (i39 l0) 0 l1 = 0
      · rw [if_pos h2]; simp [h1, h2]; omega
      · rw [if_neg h2]; simp [h2]
    · rw [if_neg h1]; simp [h1]
theorem wayE_iff (ids : List Int) (x : S45) : wayE ids x = 0 ↔ 2 ≤ x.f1.length ∧ x.f1.length ≤ 2000 ∧ (∀ n ∈ x.f1, n ∈ ids) ∧ tchk x.f2 = 0 := by
  unfold wayE
  by_cases h1 : (x.f1.length : Int) < 2
  · rw [if_pos h1]
    constructor
    · intro h; cases h
    · rintro ⟨h2, _⟩; omega
  · rw [if_neg h1]
    by_cases h2 : (x.f1.length : Int) > 2000
    · rw [if_pos h2]
      constructor
      · intro h; cases h
      · rintro ⟨_, h3, _⟩; omega
    · rw [if_neg h2]
      by_cases h3 : x.f1.any (fun n => !ids.contains n) = true
      · rw [if_pos h3]
        constructor
        · intro h; cases h
        · rintro ⟨_, _, h4, _⟩
          obtain ⟨n, hn, hc⟩ := List.any_eq_true.1 h3
          have := h4 n hn
          simp [this] at hc
      · rw [if_neg h3]
        constructor
        · intro h
          refine ⟨by omega, by omega, fun n hn => ?_, h⟩
          by_cases hc : n ∈ ids
          · exact hc
          · exact absurd (List.any_eq_true.2 ⟨n, hn, by simpa using hc⟩) h3
        · rintro ⟨_, _, _, h⟩; exact h
theorem missF_iff (i0 i1 : List Int) (m : S67) : missF i0 i1 m = false ↔ (m.f0.f0 = 1 ∧ m.f0.f1 ∈ i0) ∨ (m.f0.f0 = 2 ∧ m.f0.f1 ∈ i1) := by
  have hm : missF i0 i1 m = !(m.f0.f0 == 1 && i0.contains m.f0.f1 || m.f0.f0 == 2 && i1.contains m.f0.f1) := rfl
  rw [hm]
  simp only [Bool.not_eq_false', Bool.or_eq_true, Bool.and_eq_true, beq_iff_eq, List.contains_iff_mem]
theorem relE_iff (i0 i1 : List Int) (x : S51) : relE i0 i1 x = 0 ↔ x.f1.length ≤ 200 ∧ x.f1.any (fun m => decide ((m.f1.size : Int) > 64)) = false ∧ (∀ m ∈ x.f1, missF i0 i1 m = false) ∧ tchk x.f2 = 0 := by
  unfold relE
  by_cases h1 : (x.f1.length : Int) > 200
  · rw [if_pos h1]
    constructor
    · intro h; cases h
    · rintro ⟨h2, _⟩; omega
  · rw [if_neg h1]
    by_cases h2 : x.f1.any (fun m => decide ((m.f1.size : Int) > 64)) = true
    · rw [if_pos h2]
      constructor
      · intro h; cases h
      · rintro ⟨_, h3, _⟩; rw [h2] at h3; cases h3
    · rw [if_neg h2]
      by_cases h3 : x.f1.any (missF i0 i1) = true
      · rw [if_pos h3]
        constructor
        · intro h; cases h
        · rintro ⟨_, _, h4, _⟩
          obtain ⟨n, hn, hc⟩ := List.any_eq_true.1 h3
          rw [h4 n hn] at hc; cases hc
      · rw [if_neg h3]
        constructor
        · intro h
          refine ⟨by omega, Bool.eq_false_iff.2 h2, fun n hn => Bool.eq_false_iff.2 (fun hc => h3 (List.any_eq_true.2 ⟨n, hn, hc⟩)), h⟩
        · rintro ⟨_, _, _, h⟩; exact h
theorem wayE_less (ids ids' : List Int) (x : S45) (h : wayE ids x = 0) : (wayE ids' x = 0 ∧ ∀ n ∈ x.f1, n ∈ ids') ∨ (wayE ids' x = 9 ∧ ∃ n ∈ x.f1, n ∉ ids') := by
  obtain ⟨h1, h2, h3, h4⟩ := (wayE_iff _ _).1 h
  by_cases hn : ∀ n ∈ x.f1, n ∈ ids'
  · exact .inl ⟨(wayE_iff _ _).2 ⟨h1, h2, hn, h4⟩, hn⟩
  · have hex : ∃ n ∈ x.f1, n ∉ ids' := by
      apply Classical.byContradiction
      intro hc
      exact hn (fun n hn' => Classical.byContradiction fun h => hc ⟨n, hn', h⟩)
    refine .inr ⟨?_, hex⟩
    unfold wayE
    obtain ⟨n, hn1, hn2⟩ := hex
    rw [if_neg (by omega), if_neg (by omega), if_pos (List.any_eq_true.2 ⟨n, hn1, by simpa using hn2⟩)]
theorem relE_less (i0 i1 j0 j1 : List Int) (x : S51) (h : relE i0 i1 x = 0) : (relE j0 j1 x = 0 ∧ ∀ m ∈ x.f1, missF j0 j1 m = false) ∨ (relE j0 j1 x = 9 ∧ ∃ m ∈ x.f1, missF j0 j1 m = true) := by
  obtain ⟨h1, h2, h3, h4⟩ := (relE_iff _ _ _).1 h
  by_cases hn : ∀ m ∈ x.f1, missF j0 j1 m = false
  · exact .inl ⟨(relE_iff _ _ _).2 ⟨h1, h2, hn, h4⟩, hn⟩
  · have hex : ∃ m ∈ x.f1, missF j0 j1 m = true := by
      apply Classical.byContradiction
      intro hc
      exact hn (fun n hn' => Bool.eq_false_iff.2 (fun h => hc ⟨n, hn', h⟩))
    refine .inr ⟨?_, hex⟩
    unfold relE
    rw [if_neg (by omega), if_neg (by rw [h2]; decide), if_pos (List.any_eq_true.2 hex)]
theorem valid_of (l0 : List S39) (l1 : List S45) (l2 : List S51) (h : chk l0 l1 l2 = 0) : (∀ w ∈ l1, 2 ≤ w.f1.length ∧ ∀ n ∈ w.f1, n ∈ i39 l0) ∧ (∀ x ∈ l2, ∀ m ∈ x.f1, (m.f0.f0 = 1 ∧ m.f0.f1 ∈ i39 l0) ∨ (m.f0.f0 = 2 ∧ m.f0.f1 ∈ i45 l1)) := by
  obtain ⟨_, _, h2, h3⟩ := (chk_iff _ _ _).1 h
  refine ⟨fun w hw => ?_, fun x hx m hm => ?_⟩
  · obtain ⟨a, _, b, _⟩ := (wayE_iff _ _).1 (((wgo_iff _ _ _).1 h2).2 w hw)
    exact ⟨a, b⟩
  · exact (missF_iff _ _ _).1 (((relE_iff _ _ _).1 (((rgo_iff _ _ _ _).1 h3).2 x hx)).2.2.1 m hm)
end Go.Proofs.Ytgenbepicnbecaa.Pure
