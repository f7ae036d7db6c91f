/- DataUsers: in a dataset of at most 600 parts, every object that a way or a relation refers to has it as a user, and every user refers to it. -/
import Derived.Test.YtgenbepicnbecaaPureValid
import Derived.Test.YtgenbepicnbecaaPAllx33
namespace Go.Proofs.Ytgenbepicnbecaa.Pure
open Go.RowKit Go.Proofs.Ytgenbepicnbecaa.PAll Go.Proofs.YtgenbepicnbecaaW.PrintWords Go.Proofs.YtgenbepicnbecaaW.PrintLast
set_option linter.unusedVariables false
set_option linter.unusedSimpArgs false
theorem has_ev (l : List S34) (a b : Int) (hl : l.length ≤ 140737488355328) (h : (⟨a, b⟩ : S34) ∈ l) : Ev (fun k => mapmakerlaw14_has.f k l a b) true := by
  have hg : ∀ d i, i ≤ l.length → l.length - i = d → (⟨a, b⟩ : S34) ∈ l.drop i → Ev (fun k => mapmakerlaw14_has.l0 k l (i : Int) a b) true := by
    intro d
    induction d with
    | zero =>
      intro i hi hd hm
      obtain rfl : i = l.length := by omega
      rw [List.drop_length] at hm
      exact absurd hm (by simp)
    | succ d ih =>
      intro i hi hd hm
      have hlt : i < l.length := by omega
      rw [List.drop_eq_getElem_cons hlt] at hm
      by_cases e : (l[i].f0 == a && (l[i].f1 == b)) = true
      · refine Ev.step (f := fun _ => some true) (fun k => ?_) (Ev.now true)
        simp only [mapmakerlaw14_has.l0]
        rw [if_pos (by omega), if_pos (by omega), rd34 l i hlt, if_pos e]
      · refine Ev.step (fun k => ?_) (ih (i + 1) (by omega) (by omega) ((List.mem_cons.1 hm).resolve_left (fun he => e (by rw [← he]; simp))))
        simp only [mapmakerlaw14_has.l0]
        rw [if_pos (by omega), if_pos (by omega), rd34 l i hlt, if_neg e, wrap_succ i (by omega)]
  have h2 := hg l.length 0 (by omega) (by omega) (by rw [List.drop_zero]; exact h)
  exact h2
def msum (l : List S51) : Nat := (l.map (fun x => x.f1.length)).sum
theorem msum_le : ∀ l : List S51, msum l ≤ t51 l
  | [] => Nat.le_refl _
  | x :: l => by
    have := msum_le l
    unfold msum t51 at *
    rw [List.map_cons, List.sum_cons, List.map_cons, List.sum_cons]; omega
theorem msum_pos : ∀ (l : List S51) (x : S51), x ∈ l → 0 < x.f1.length → 0 < msum l
  | z :: l, x, hx, hp => by
    have e : msum (z :: l) = z.f1.length + msum l := by unfold msum; rw [List.map_cons, List.sum_cons]
    rw [e]
    rcases List.mem_cons.1 hx with rfl | hx
    · omega
    · have := msum_pos l x hx hp; omega
theorem members_ev (l0 : List S39) (l1 : List S45) (l2 : List S51) (hl : msum l2 ≤ 600) (hl2 : l2.length ≤ 140737488355328) : Ev (fun k => mapmakerlaw14_members.f k l0 l1 l2) ((msum l2 : Nat) : Int) := by
  have hg : ∀ d i (acc : Nat), i ≤ l2.length → l2.length - i = d → acc + msum (l2.drop i) ≤ 600 → Ev (fun k => mapmakerlaw14_members.l0 k (acc : Int) (i : Int) l0 l1 l2) ((acc + msum (l2.drop i) : Nat) : Int) := by
    intro d
    induction d with
    | zero =>
      intro i acc hi hd hB
      obtain rfl : i = l2.length := by omega
      rw [List.drop_length]
      exact Ev.step (f := fun _ => some (acc : Int)) (fun k => by simp only [mapmakerlaw14_members.l0]; rw [if_neg (by omega)]) (Ev.now _)
    | succ d ih =>
      intro i acc hi hd hB
      have hlt : i < l2.length := by omega
      have e : msum (l2.drop i) = l2[i].f1.length + msum (l2.drop (i + 1)) := by unfold msum; rw [List.drop_eq_getElem_cons hlt, List.map_cons, List.sum_cons]
      rw [e] at hB ⊢
      have h := ih (i + 1) (acc + l2[i].f1.length) (by omega) (by omega) (by omega)
      rw [show acc + l2[i].f1.length + msum (l2.drop (i + 1)) = acc + (l2[i].f1.length + msum (l2.drop (i + 1))) by omega] at h
      refine Ev.step (fun k => ?_) h
      simp only [mapmakerlaw14_members.l0]
      rw [if_pos (by omega), if_pos (by omega), rd51 l2 i hlt, wrap_succ i (by omega), wrapI (by omega)]
      push_cast
      rfl
  have h := hg l2.length 0 0 (by omega) (by omega) (by rw [List.drop_zero]; omega)
  rw [List.drop_zero, Nat.zero_add] at h
  exact h
def usum (l1 : List S45) (l2 : List S51) (l : List S34) : Nat := (l.map (fun y => (usersV l1 l2 y.f0 y.f1).length)).sum
theorem usum_pos (l1 : List S45) (l2 : List S51) : ∀ (l : List S34), 0 < usum l1 l2 l ↔ ∃ y ∈ l, usersV l1 l2 y.f0 y.f1 ≠ []
  | [] => by simp [usum]
  | x :: l => by
    have ih := usum_pos l1 l2 l
    have e : usum l1 l2 (x :: l) = (usersV l1 l2 x.f0 x.f1).length + usum l1 l2 l := by unfold usum; rw [List.map_cons, List.sum_cons]
    rw [e]
    constructor
    · intro h
      by_cases h0 : usersV l1 l2 x.f0 x.f1 = []
      · rw [h0] at h
        obtain ⟨y, hy, h1⟩ := ih.1 (by simpa using h)
        exact ⟨y, List.mem_cons_of_mem _ hy, h1⟩
      · exact ⟨x, List.mem_cons_self, h0⟩
    · rintro ⟨y, hy, h1⟩
      rcases List.mem_cons.1 hy with rfl | hy
      · have := List.length_pos_iff.2 h1; omega
      · have := ih.2 ⟨y, hy, h1⟩; omega
section
variable (l0 : List S39) (l1 : List S45) (l2 : List S51) (h0 : l0.length ≤ 600) (h1 : l1.length ≤ 600) (h2 : l2.length ≤ 600) (q1 : ∀ z ∈ l1, z.f1.length ≤ 140737488355328) (q2 : ∀ z ∈ l2, z.f1.length ≤ 140737488355328) (hU : ∀ a b, (usersV l1 l2 a b).length ≤ 600) (hs : l0.length + l1.length + l2.length ≤ 600) (hm : msum l2 ≤ 600)
include h0 h1 h2 q1 q2 hU hs hm
theorem du_end (n : Nat) (hn : 0 < n ↔ (0 < l1.length ∨ 0 < msum l2)) (i : Int) (l : List S34) (hi : ¬ i < (l.length : Int)) : Ev (fun k => mapmakerlaw14_DataUsers.l4 k (n : Int) l i l0 l1 l2) true := by
  by_cases hw : (l1.length : Int) > 0
  · have hp : 0 < n := hn.2 (.inl (by omega))
    refine Ev.step (f := fun k => (mapmakerlaw14_lives.f k).bind fun t => some t) (fun k => ?_) (Ev.bind lives_ev (Ev.now true))
    simp only [mapmakerlaw14_DataUsers.l4]
    rw [if_neg hi, if_pos hw, if_pos (by rw [decide_eq_true (show (n : Int) > 0 by omega)]; rfl)]
  · refine Ev.step (f := fun k => (mapmakerlaw14_members.f k l0 l1 l2).bind fun t => if ((decide ((n : Int) > 0)) == (decide (t > 0))) = true then ((mapmakerlaw14_lives.f k).bind fun t => some t) else some false) (fun k => by
      simp only [mapmakerlaw14_DataUsers.l4]
      rw [if_neg hi, if_neg hw]) (Ev.bind (members_ev l0 l1 l2 hm (by omega)) ?_)
    have e : decide ((n : Int) > 0) = decide (((msum l2 : Nat) : Int) > 0) := by
      rw [decide_eq_decide]
      constructor
      · intro h
        rcases hn.1 (by omega) with h | h <;> omega
      · intro h
        have := hn.2 (.inr (by omega))
        omega
    rw [e]
    simp only [beq_self_eq_true, if_true]
    exact Ev.bind lives_ev (Ev.now true)
theorem du_l4 (hn : 0 < usum l1 l2 (refsL l0 l1 l2) ↔ (0 < l1.length ∨ 0 < msum l2)) : ∀ d i (n : Nat), i ≤ (refsL l0 l1 l2).length → (refsL l0 l1 l2).length - i = d → n + usum l1 l2 ((refsL l0 l1 l2).drop i) = usum l1 l2 (refsL l0 l1 l2) → n ≤ 600 * i → Ev (fun k => mapmakerlaw14_DataUsers.l4 k (n : Int) (refsL l0 l1 l2) (i : Int) l0 l1 l2) true := by
  have hlen : (refsL l0 l1 l2).length = l0.length + l1.length + l2.length := by unfold refsL r39 r45 r51; simp; omega
  intro d
  induction d with
  | zero =>
    intro i n hi hd hsum hB
    obtain rfl : i = (refsL l0 l1 l2).length := by omega
    rw [List.drop_length] at hsum
    have e : n = usum l1 l2 (refsL l0 l1 l2) := by simpa [usum] using hsum
    exact du_end l0 l1 l2 h0 h1 h2 q1 q2 hU hs hm n (by rw [e]; exact hn) _ _ (by omega)
  | succ d ih =>
    intro i n hi hd hsum hB
    have hlt : i < (refsL l0 l1 l2).length := by omega
    generalize hR : refsL l0 l1 l2 = R at *
    have e : usum l1 l2 (R.drop i) = (usersV l1 l2 R[i].f0 R[i].f1).length + usum l1 l2 (R.drop (i + 1)) := by unfold usum; rw [List.drop_eq_getElem_cons hlt, List.map_cons, List.sum_cons]
    have hlu := hU R[i].f0 R[i].f1
    have hnext := ih (i + 1) (n + (usersV l1 l2 R[i].f0 R[i].f1).length) (by omega) (by omega) (by omega) (by omega)
    refine Ev.step (f := fun k => (data_Users.f k l0 l1 l2 R[i].f0 R[i].f1).bind fun t => mapmakerlaw14_DataUsers.l5 k (n : Int) R (i : Int) t 0 l0 l1 l2) (fun k => by
      simp only [mapmakerlaw14_DataUsers.l4]
      rw [if_pos (by omega), if_pos (by omega), rd34 R i hlt]) (Ev.bind (prog_users l0 l1 l2 _ _ (by omega) q1 (by omega)) ?_)
    have hsd := users_sorted l1 l2 R[i].f0 R[i].f1
    have hhas : ∀ y ∈ usersV l1 l2 R[i].f0 R[i].f1, hasV l0 l1 l2 y.f0 y.f1 = true := fun y hy => users_has l0 l1 l2 _ _ y hy
    generalize usersV l1 l2 R[i].f0 R[i].f1 = U at *
    have h5 : ∀ d j, j ≤ U.length → U.length - j = d → Ev (fun k => mapmakerlaw14_DataUsers.l5 k ((n + j : Nat) : Int) R (i : Int) U (j : Int) l0 l1 l2) true := by
      intro d
      induction d with
      | zero =>
        intro j hj hjd
        obtain rfl : j = U.length := by omega
        refine Ev.step (fun k => ?_) hnext
        simp only [mapmakerlaw14_DataUsers.l5]
        rw [if_neg (by omega), wrap_succ i (by omega)]
      | succ d ih2 =>
        intro j hj hjd
        have hjl : j < U.length := by omega
        have hw : wrap64 (((n + j : Nat) : Int) + 1) = ((n + (j + 1) : Nat) : Int) := by rw [wrap_succ (n + j) (by omega)]; rfl
        refine Ev.step (f := fun k => (data_Has.f k l0 l1 l2 U[j].f0 U[j].f1).bind fun t => if t = true then mapmakerlaw14_DataUsers.l5 k ((n + (j + 1) : Nat) : Int) R (i : Int) U ((j + 1 : Nat) : Int) l0 l1 l2 else some false) (fun k => ?_) (Ev.bind (prog_has l0 l1 l2 _ _ (by omega)) ?_)
        · simp only [mapmakerlaw14_DataUsers.l5]
          rw [if_pos (by omega), if_pos (by omega), rd34 U j hjl]
          congr 1
          funext t
          by_cases ht : t = true
          · rw [if_pos ht, if_pos ht]
            by_cases hj0 : (j : Int) > 0
            · have hj1 : wrap64 ((j : Int) - 1) = ((j - 1 : Nat) : Int) := by rw [wrapI (by omega)]; omega
              have hlt2 : ltR (U[j - 1]'(by omega)) U[j] := (List.pairwise_iff_getElem.1 hsd) (j - 1) j (by omega) hjl (by omega)
              rw [if_pos hj0, hj1, if_pos (by omega), if_pos (by omega), rd34 U (j - 1) (by omega), ref_less, decide_eq_true hlt2, Option.bind_some, if_pos rfl, hw, wrap_succ j (by omega)]
            · rw [if_neg hj0, hw, wrap_succ j (by omega)]
          · rw [if_neg ht, if_neg ht]
        · rw [hhas _ (List.getElem_mem hjl)]
          simp only [if_true]
          exact ih2 (j + 1) (by omega) (by omega)
    have h := h5 U.length 0 (by omega) (by omega)
    exact h
theorem du_l2 (hn : 0 < usum l1 l2 (refsL l0 l1 l2) ↔ (0 < l1.length ∨ 0 < msum l2)) : ∀ d i, i ≤ l2.length → l2.length - i = d → Ev (fun k => mapmakerlaw14_DataUsers.l2 k 0 (i : Int) l0 l1 l2) true := by
  intro d
  induction d with
  | zero =>
    intro i hi hd
    obtain rfl : i = l2.length := by omega
    refine Ev.step (f := fun k => (data_Refs.f k l0 l1 l2).bind fun t => mapmakerlaw14_DataUsers.l4 k 0 t 0 l0 l1 l2) (fun k => by simp only [mapmakerlaw14_DataUsers.l2]; rw [if_neg (by omega)]) (Ev.bind (prog_refs l0 l1 l2 (by omega)) ?_)
    have h := du_l4 l0 l1 l2 h0 h1 h2 q1 q2 hU hs hm hn (refsL l0 l1 l2).length 0 0 (by omega) (by omega) (by rw [List.drop_zero, Nat.zero_add]) (by omega)
    exact h
  | succ d ih =>
    intro i hi hd
    have hlt : i < l2.length := by omega
    have q := q2 _ (List.getElem_mem hlt)
    have h3 : ∀ d j, j ≤ l2[i].f1.length → l2[i].f1.length - j = d → Ev (fun k => mapmakerlaw14_DataUsers.l3 k 0 (i : Int) (j : Int) l0 l1 l2) true := by
      intro d
      induction d with
      | zero =>
        intro j hj hjd
        obtain rfl : j = l2[i].f1.length := by omega
        refine Ev.step (fun k => ?_) (ih (i + 1) (by omega) (by omega))
        simp only [mapmakerlaw14_DataUsers.l3]
        rw [if_pos (by omega), if_pos (by omega), rd51 l2 i hlt, if_neg (by omega), wrap_succ i (by omega)]
      | succ d ih2 =>
        intro j hj hjd
        have hjl : j < l2[i].f1.length := by omega
        have hmem : (⟨3, l2[i].f0⟩ : S34) ∈ usersV l1 l2 l2[i].f1[j].f0.f0 l2[i].f1[j].f0.f1 := (mem_users _ _ _ _ _).2 (.inr ⟨l2[i], List.getElem_mem hlt, ⟨l2[i].f1[j], List.getElem_mem hjl, rfl, rfl⟩, rfl⟩)
        have hlu := hU l2[i].f1[j].f0.f0 l2[i].f1[j].f0.f1
        refine Ev.step (f := fun k => (data_Users.f k l0 l1 l2 l2[i].f1[j].f0.f0 l2[i].f1[j].f0.f1).bind fun t => (mapmakerlaw14_has.f k t 3 l2[i].f0).bind fun t => if t = true then mapmakerlaw14_DataUsers.l3 k 0 (i : Int) ((j + 1 : Nat) : Int) l0 l1 l2 else some false) (fun k => by
          simp only [mapmakerlaw14_DataUsers.l3]
          rw [if_pos (by omega), if_pos (by omega), rd51 l2 i hlt, if_pos (by omega), if_pos (by omega), rd67 _ j hjl, wrap_succ j (by omega)]) (Ev.bind (prog_users l0 l1 l2 _ _ (by omega) q1 (by omega)) (Ev.bind (has_ev _ _ _ (by omega) hmem) ?_))
        simp only [if_true]
        exact ih2 (j + 1) (by omega) (by omega)
    have h := h3 l2[i].f1.length 0 (by omega) (by omega)
    exact Ev.step (fun k => by simp only [mapmakerlaw14_DataUsers.l2]; rw [if_pos (by omega)]; rfl) h
theorem du_l0 (hn : 0 < usum l1 l2 (refsL l0 l1 l2) ↔ (0 < l1.length ∨ 0 < msum l2)) : ∀ d i, i ≤ l1.length → l1.length - i = d → Ev (fun k => mapmakerlaw14_DataUsers.l0 k 0 (i : Int) l0 l1 l2) true := by
  intro d
  induction d with
  | zero =>
    intro i hi hd
    obtain rfl : i = l1.length := by omega
    exact Ev.step (fun k => by simp only [mapmakerlaw14_DataUsers.l0]; rw [if_neg (by omega)]; rfl) (du_l2 l0 l1 l2 h0 h1 h2 q1 q2 hU hs hm hn l2.length 0 (by omega) (by omega))
  | succ d ih =>
    intro i hi hd
    have hlt : i < l1.length := by omega
    have q := q1 _ (List.getElem_mem hlt)
    have h3 : ∀ d j, j ≤ l1[i].f1.length → l1[i].f1.length - j = d → Ev (fun k => mapmakerlaw14_DataUsers.l1 k 0 (i : Int) (j : Int) l0 l1 l2) true := by
      intro d
      induction d with
      | zero =>
        intro j hj hjd
        obtain rfl : j = l1[i].f1.length := by omega
        refine Ev.step (fun k => ?_) (ih (i + 1) (by omega) (by omega))
        simp only [mapmakerlaw14_DataUsers.l1]
        rw [if_pos (by omega), if_pos (by omega), rd45 l1 i hlt, if_neg (by omega), wrap_succ i (by omega)]
      | succ d ih2 =>
        intro j hj hjd
        have hjl : j < l1[i].f1.length := by omega
        have hmem : (⟨2, l1[i].f0⟩ : S34) ∈ usersV l1 l2 1 l1[i].f1[j] := (mem_users _ _ _ _ _).2 (.inl ⟨rfl, l1[i], List.getElem_mem hlt, List.getElem_mem hjl, rfl⟩)
        have hlu := hU 1 l1[i].f1[j]
        refine Ev.step (f := fun k => (data_Users.f k l0 l1 l2 1 l1[i].f1[j]).bind fun t => (mapmakerlaw14_has.f k t 2 l1[i].f0).bind fun t => if t = true then mapmakerlaw14_DataUsers.l1 k 0 (i : Int) ((j + 1 : Nat) : Int) l0 l1 l2 else some false) (fun k => by
          simp only [mapmakerlaw14_DataUsers.l1]
          rw [if_pos (by omega), if_pos (by omega), rd45 l1 i hlt, if_pos (by omega), if_pos (by omega), rdI _ j hjl, wrap_succ j (by omega)]) (Ev.bind (prog_users l0 l1 l2 _ _ (by omega) q1 (by omega)) (Ev.bind (has_ev _ _ _ (by omega) hmem) ?_))
        simp only [if_true]
        exact ih2 (j + 1) (by omega) (by omega)
    have h := h3 l1[i].f1.length 0 (by omega) (by omega)
    exact Ev.step (fun k => by simp only [mapmakerlaw14_DataUsers.l0]; rw [if_pos (by omega)]; rfl) h
end
theorem uses_iff (l0 : List S39) (l1 : List S45) (l2 : List S51) (hv : chk l0 l1 l2 = 0) : 0 < usum l1 l2 (refsL l0 l1 l2) ↔ (0 < l1.length ∨ 0 < msum l2) := by
  obtain ⟨v1, v2⟩ := valid_of l0 l1 l2 hv
  rw [usum_pos]
  constructor
  · rintro ⟨y, _, hne⟩
    obtain ⟨u, hu⟩ := List.exists_mem_of_ne_nil _ hne
    rcases (mem_users _ _ _ _ _).1 hu with ⟨_, w, hw, _, _⟩ | ⟨x, hx, ⟨m, hm, _⟩, _⟩
    · exact .inl (List.length_pos_of_mem hw)
    · refine .inr ?_
      exact msum_pos l2 x hx (List.length_pos_of_mem hm)
  · intro h
    by_cases hw : 0 < l1.length
    · have h1 := List.getElem_mem hw
      obtain ⟨a, b⟩ := v1 _ h1
      have h2 := List.getElem_mem (show 0 < l1[0].f1.length by omega)
      refine ⟨⟨1, l1[0].f1[0]⟩, (mem_refs _ _ _ _).2 (.inl ⟨rfl, b _ h2⟩), fun e => ?_⟩
      have hu : (⟨2, l1[0].f0⟩ : S34) ∈ usersV l1 l2 1 l1[0].f1[0] := (mem_users _ _ _ _ _).2 (.inl ⟨rfl, l1[0], h1, h2, rfl⟩)
      rw [show usersV l1 l2 1 l1[0].f1[0] = [] from e] at hu
      exact absurd hu (by simp)
    · have hm : 0 < msum l2 := h.resolve_left hw
      have hex : ∃ x ∈ l2, x.f1 ≠ [] := by
        apply Classical.byContradiction
        intro hc
        have hz : ∀ l : List S51, (∀ x ∈ l, x.f1 = []) → msum l = 0 := by
          intro l
          induction l with
          | nil => intro _; rfl
          | cons z l ih =>
            intro hl
            have e : msum (z :: l) = z.f1.length + msum l := by unfold msum; rw [List.map_cons, List.sum_cons]
            rw [e, ih (fun x hx => hl x (List.mem_cons_of_mem _ hx)), hl z List.mem_cons_self]; rfl
        have := hz l2 (fun x hx => Classical.byContradiction fun hn => hc ⟨x, hx, hn⟩)
        omega
      obtain ⟨x, hx, hne⟩ := hex
      obtain ⟨m, hmm⟩ := List.exists_mem_of_ne_nil _ hne
      refine ⟨m.f0, (mem_refs _ _ _ _).2 ?_, fun e => ?_⟩
      · rcases v2 x hx m hmm with h | h
        · exact .inl h
        · exact .inr (.inl h)
      · have hu : (⟨3, x.f0⟩ : S34) ∈ usersV l1 l2 m.f0.f0 m.f0.f1 := (mem_users _ _ _ _ _).2 (.inr ⟨x, hx, ⟨m, hmm, rfl, rfl⟩, rfl⟩)
        rw [e] at hu
        exact absurd hu (by simp)
theorem DataUsers : mapmakerlaw14_DataUsers.Pure := by
  intro x w
  refine Ev.rounds (g := fun k => mapmakerlaw14_DataUsers.f k x.f0 x.f1 x.f2) ?_
  have hw := wfD_of x w
  have hj : Ev (fun k => mapmakerlaw14_DataUsers.j0 k true x.f0 x.f1 x.f2) true := Ev.step (f := fun k => (mapmakerlaw14_lives.f k).bind fun t => some t) (fun k => by simp only [mapmakerlaw14_DataUsers.j0, if_true]) (Ev.bind lives_ev (Ev.now true))
  unfold mapmakerlaw14_DataUsers.f
  refine Ev.bind (few_ev x w) ?_
  by_cases hf : total x.f0 x.f1 x.f2 ≤ 600
  · simp only [decide_eq_true hf, if_true]
    refine Ev.bind (prog_check _ _ _ hw) ?_
    by_cases hv : chk x.f0 x.f1 x.f2 = 0
    · rw [hv]
      have hU : ∀ a b, (usersV x.f1 x.f2 a b).length ≤ 600 := fun a b => users_length x.f0 x.f1 x.f2 a b (uall_length x.f0 x.f1 x.f2 a b hf)
      have hms := msum_le x.f2
      unfold total at hf
      have h := du_l0 x.f0 x.f1 x.f2 (by omega) (by omega) (by omega) (fun z hz => (hw.2.2.1 z hz).2.1) (fun z hz => (hw.2.2.2 z hz).1) hU (by omega) (by omega) (uses_iff _ _ _ hv) x.f1.length 0 (by omega) (by omega)
      exact Ev.step (fun k => by simp only [mapmakerlaw14_DataUsers.j0]; rfl) h
    · have hb : (chk x.f0 x.f1 x.f2 != 0) = true := bne_iff_ne.mpr hv
      rw [hb]
      exact hj
  · simp only [decide_eq_false hf, Bool.false_eq_true, if_false]
    exact hj
end Go.Proofs.Ytgenbepicnbecaa.Pure
