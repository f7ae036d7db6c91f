/- c14, plain: what a valid dataset is; the same without one object. -/
import Derived.Test.YtgenbepicnbecaaPureProgUsers
namespace Go.Proofs.Ytgenbepicnbecaa.Pure
open Go.RowKit Go.Proofs.Ytgenbepicnbecaa.PAll Go.Proofs.YtgenbepicnbecaaW.PrintWords Go.Proofs.YtgenbepicnbecaaW.PrintLast
set_option linter.unusedVariables false
set_option linter.unusedSimpArgs false
def okIds : Int → List Int → Prop
  | _, [] => True
  | p, x :: r => idE x p = 0 ∧ okIds x r
theorem wgo_iff (ids : List Int) : ∀ (l : List S45) (p : Int), wgo ids p l = 0 ↔ okIds p (i45 l) ∧ ∀ x ∈ l, wayE ids x = 0
  | [], p => by simp [wgo, i45, okIds]
  | x :: l, p => by
    have ih := wgo_iff ids l x.f0
    have e : i45 (x :: l) = x.f0 :: i45 l := rfl
    rw [e]
    simp only [wgo, okIds, List.forall_mem_cons]
    by_cases h1 : idE x.f0 p = 0
    · rw [if_pos h1]
      by_cases h2 : wayE ids x = 0
      · rw [if_pos h2, ih]; simp [h1, h2]
      · rw [if_neg h2]; simp [h2]
    · rw [if_neg h1]; simp [h1]
theorem rgo_iff (i0 i1 : List Int) : ∀ (l : List S51) (p : Int), rgo i0 i1 p l = 0 ↔ okIds p (i51 l) ∧ ∀ x ∈ l, relE i0 i1 x = 0
  | [], p => by simp [rgo, i51, okIds]
  | x :: l, p => by
    have ih := rgo_iff i0 i1 l x.f0
    have e : i51 (x :: l) = x.f0 :: i51 l := rfl
    rw [e]
    simp only [rgo, okIds, List.forall_mem_cons]
    by_cases h1 : idE x.f0 p = 0
    · rw [if_pos h1]
      by_cases h2 : relE i0 i1 x = 0
      · rw [if_pos h2, ih]; simp [h1, h2]
      · rw [if_neg h2]; simp [h2]
    · rw [if_neg h1]; simp [h1]
theorem chk_iff (l0 : List S39) (l1 : List S45) (l2 : List S51) : chk l0 l1 l2 = 0 ↔ (l0.length ≤ 10000 ∧ l1.length ≤ 10000 ∧ l2.length ≤ 10000) ∧ ngo 0 l0 = 0 ∧ wgo (i39 l0) 0 l1 = 0 ∧ rgo (i39 l0) (i45 l1) 0 l2 = 0 := by
  unfold chk
  by_cases h : 10000 < l0.length ∨ 10000 < l1.length ∨ 10000 < l2.length
  · rw [if_pos h]
    constructor
    · intro h; cases h
    · rintro ⟨h1, _⟩; omega
  · rw [if_neg h]
    by_cases h1 : ngo 0 l0 = 0
    · rw [if_pos h1]
      by_cases h2 : wgo (i39 l0) 0 l1 = 0
      · rw [if_pos h2]; simp [h1, h2]; omega
      · rw [if_neg h2]; simp [h2]
    · rw [if_neg h1]; simp [h1]
theorem wayE_iff (ids : List Int) (x : S45) : wayE ids x = 0 ↔ 2 ≤ x.f1.length ∧ x.f1.length ≤ 2000 ∧ (∀ n ∈ x.f1, n ∈ ids) ∧ tchk x.f2 = 0 := by
  unfold wayE
  by_cases h1 : (x.f1.length : Int) < 2
  · rw [if_pos h1]
    constructor
    · intro h; cases h
    · rintro ⟨h2, _⟩; omega
  · rw [if_neg h1]
    by_cases h2 : (x.f1.length : Int) > 2000
    · rw [if_pos h2]
      constructor
      · intro h; cases h
      · rintro ⟨_, h3, _⟩; omega
    · rw [if_neg h2]
      by_cases h3 : x.f1.any (fun n => !ids.contains n) = true
      · rw [if_pos h3]
        constructor
        · intro h; cases h
        · rintro ⟨_, _, h4, _⟩
          obtain ⟨n, hn, hc⟩ := List.any_eq_true.1 h3
          have := h4 n hn
          simp [this] at hc
      · rw [if_neg h3]
        constructor
        · intro h
          refine ⟨by omega, by omega, fun n hn => ?_, h⟩
          by_cases hc : n ∈ ids
          · exact hc
          · exact absurd (List.any_eq_true.2 ⟨n, hn, by simpa using hc⟩) h3
        · rintro ⟨_, _, _, h⟩; exact h
theorem missF_iff (i0 i1 : List Int) (m : S67) : missF i0 i1 m = false ↔ (m.f0.f0 = 1 ∧ m.f0.f1 ∈ i0) ∨ (m.f0.f0 = 2 ∧ m.f0.f1 ∈ i1) := by
  have hm : missF i0 i1 m = !(m.f0.f0 == 1 && i0.contains m.f0.f1 || m.f0.f0 == 2 && i1.contains m.f0.f1) := rfl
  rw [hm]
  simp only [Bool.not_eq_false', Bool.or_eq_true, Bool.and_eq_true, beq_iff_eq, List.contains_iff_mem]
theorem relE_iff (i0 i1 : List Int) (x : S51) : relE i0 i1 x = 0 ↔ x.f1.length ≤ 200 ∧ x.f1.any (fun m => decide ((m.f1.size : Int) > 64)) = false ∧ (∀ m ∈ x.f1, missF i0 i1 m = false) ∧ tchk x.f2 = 0 := by
  unfold relE
  by_cases h1 : (x.f1.length : Int) > 200
  · rw [if_pos h1]
    constructor
    · intro h; cases h
    · rintro ⟨h2, _⟩; omega
  · rw [if_neg h1]
    by_cases h2 : x.f1.any (fun m => decide ((m.f1.size : Int) > 64)) = true
    · rw [if_pos h2]
      constructor
      · intro h; cases h
      · rintro ⟨_, h3, _⟩; rw [h2] at h3; cases h3
    · rw [if_neg h2]
      by_cases h3 : x.f1.any (missF i0 i1) = true
      · rw [if_pos h3]
        constructor
        · intro h; cases h
        · rintro ⟨_, _, h4, _⟩
          obtain ⟨n, hn, hc⟩ := List.any_eq_true.1 h3
          rw [h4 n hn] at hc; cases hc
      · rw [if_neg h3]
        constructor
        · intro h
          refine ⟨by omega, Bool.eq_false_iff.2 h2, fun n hn => Bool.eq_false_iff.2 (fun hc => h3 (List.any_eq_true.2 ⟨n, hn, hc⟩)), h⟩
        · rintro ⟨_, _, _, h⟩; exact h
theorem valid_of (l0 : List S39) (l1 : List S45) (l2 : List S51) (h : chk l0 l1 l2 = 0) : (∀ w ∈ l1, 2 ≤ w.f1.length ∧ ∀ n ∈ w.f1, n ∈ i39 l0) ∧ (∀ x ∈ l2, ∀ m ∈ x.f1, (m.f0.f0 = 1 ∧ m.f0.f1 ∈ i39 l0) ∨ (m.f0.f0 = 2 ∧ m.f0.f1 ∈ i45 l1)) := by
  obtain ⟨_, _, h2, h3⟩ := (chk_iff _ _ _).1 h
  refine ⟨fun w hw => ?_, fun x hx m hm => ?_⟩
  · obtain ⟨a, _, b, _⟩ := (wayE_iff _ _).1 (((wgo_iff _ _ _).1 h2).2 w hw)
    exact ⟨a, b⟩
  · exact (missF_iff _ _ _).1 (((relE_iff _ _ _).1 (((rgo_iff _ _ _ _).1 h3).2 x hx)).2.2.1 m hm)
theorem mem_refs (l0 : List S39) (l1 : List S45) (l2 : List S51) (y : S34) : y ∈ refsL l0 l1 l2 ↔ (y.f0 = 1 ∧ y.f1 ∈ i39 l0) ∨ (y.f0 = 2 ∧ y.f1 ∈ i45 l1) ∨ (y.f0 = 3 ∧ y.f1 ∈ i51 l2) := by
  unfold refsL r39 r45 r51 i39 i45 i51
  rw [List.mem_append, List.mem_append]
  simp only [List.mem_map]
  constructor
  · rintro ((⟨x, hx, rfl⟩ | ⟨x, hx, rfl⟩) | ⟨x, hx, rfl⟩)
    · exact .inl ⟨rfl, x, hx, rfl⟩
    · exact .inr (.inl ⟨rfl, x, hx, rfl⟩)
    · exact .inr (.inr ⟨rfl, x, hx, rfl⟩)
  · rintro (⟨h, x, hx, e⟩ | ⟨h, x, hx, e⟩ | ⟨h, x, hx, e⟩)
    · exact .inl (.inl ⟨x, hx, s34_ext h.symm e⟩)
    · exact .inl (.inr ⟨x, hx, s34_ext h.symm e⟩)
    · exact .inr ⟨x, hx, s34_ext h.symm e⟩
theorem users_has (l0 : List S39) (l1 : List S45) (l2 : List S51) (a b : Int) (y : S34) (h : y ∈ usersV l1 l2 a b) : hasV l0 l1 l2 y.f0 y.f1 = true := by
  unfold hasV
  rcases (mem_users _ _ _ _ _).1 h with ⟨_, w, hw, _, rfl⟩ | ⟨x, hx, _, rfl⟩
  · have hm : w.f0 ∈ i45 l1 := by unfold i45; exact List.mem_map.2 ⟨w, hw, rfl⟩
    show (if (2 : Int) = 1 then _ else if (2 : Int) = 2 then (i45 l1).contains w.f0 else _) = true
    rw [if_neg (by decide), if_pos rfl]
    simpa using hm
  · have hm : x.f0 ∈ i51 l2 := by unfold i51; exact List.mem_map.2 ⟨x, hx, rfl⟩
    show (if (3 : Int) = 1 then _ else if (3 : Int) = 2 then _ else if (i51 l2).contains x.f0 = true then ((3 : Int) == 3) else false) = true
    rw [if_neg (by decide), if_neg (by decide), if_pos (by simpa using hm)]
    rfl
theorem users_length (l0 : List S39) (l1 : List S45) (l2 : List S51) (a b : Int) (h : (uall l1 l2 a b).length ≤ 600) : (usersV l1 l2 a b).length ≤ 600 := by
  have := foldIns_length (uall l1 l2 a b) []
  unfold usersV
  simp at this; omega
theorem uwi_length (b id : Int) (l : List Int) : (uwi b id l).length ≤ l.length := by unfold uwi; rw [List.length_map]; exact List.length_filter_le _ _
theorem uri_length (a b id : Int) (l : List S67) : (uri a b id l).length ≤ l.length := by unfold uri; rw [List.length_map]; exact List.length_filter_le _ _
theorem uw_length (b : Int) : ∀ l : List S45, (uw b l).length ≤ t45 l
  | [] => Nat.le_refl _
  | x :: l => by
    have h1 := uwi_length b x.f0 x.f1
    have h2 := uw_length b l
    unfold uw t45 at *
    rw [List.flatMap_cons, List.length_append, List.map_cons, List.sum_cons]; omega
theorem ur_length (a b : Int) : ∀ l : List S51, (ur a b l).length ≤ t51 l
  | [] => Nat.le_refl _
  | x :: l => by
    have h1 := uri_length a b x.f0 x.f1
    have h2 := ur_length a b l
    unfold ur t51 at *
    rw [List.flatMap_cons, List.length_append, List.map_cons, List.sum_cons]; omega
theorem uall_length (l0 : List S39) (l1 : List S45) (l2 : List S51) (a b : Int) (h : total l0 l1 l2 ≤ 600) : (uall l1 l2 a b).length ≤ 600 := by
  have h1 := uw_length b l1
  have h2 := ur_length a b l2
  unfold uall total at *
  rw [List.length_append]
  by_cases ha : a = 1
  · rw [if_pos ha]; omega
  · rw [if_neg ha]; simp; omega
end Go.Proofs.Ytgenbepicnbecaa.Pure
