/- c14, plain: data.Users gives the same list as its reference; who is in it. -/
import Derived.Test.YtgenbepicnbecaaPureUsers
namespace Go.Proofs.Ytgenbepicnbecaa.Pure
open Go.RowKit Go.Proofs.Ytgenbepicnbecaa.PAll Go.Proofs.YtgenbepicnbecaaW.PrintWords Go.Proofs.YtgenbepicnbecaaW.PrintLast
set_option linter.unusedVariables false
set_option linter.unusedSimpArgs false
theorem prog_indexI (l : List Int) (b : Int) (hl : l.length ≤ 140737488355328) : ∀ d i, i ≤ l.length → l.length - i = d → ∃ r : Int, Ev (fun k => slices_Index_int_int.l0 k l b (l.length : Int) (i : Int)) r ∧ decide (r ≥ 0) = (l.drop i).contains b := by
  intro d
  induction d with
  | zero =>
    intro i hi hd
    obtain rfl : i = l.length := by omega
    refine ⟨-1, Ev.step (f := fun _ => some (-1)) (fun k => by simp only [slices_Index_int_int.l0]; rw [if_neg (by omega)]) (Ev.now _), ?_⟩
    rw [List.drop_length]; rfl
  | succ d ih =>
    intro i hi hd
    have hlt : i < l.length := by omega
    by_cases e : b = l[i]
    · refine ⟨i, Ev.step (f := fun _ => some (i : Int)) (fun k => by
        simp only [slices_Index_int_int.l0]
        rw [if_pos (by omega), if_pos (by omega), if_pos (by omega), rdI l i hlt, if_pos e]) (Ev.now _), ?_⟩
      rw [List.drop_eq_getElem_cons hlt, List.contains_cons, ← e, beq_self_eq_true, Bool.true_or]
      exact decide_eq_true (by omega)
    · obtain ⟨r, h1, h2⟩ := ih (i + 1) (by omega) (by omega)
      refine ⟨r, Ev.step (fun k => ?_) h1, ?_⟩
      · simp only [slices_Index_int_int.l0]
        rw [if_pos (by omega), if_pos (by omega), if_pos (by omega), rdI l i hlt, if_neg e, wrap_succ i (by omega)]
      · rw [List.drop_eq_getElem_cons hlt, List.contains_cons, beq_eq_false_iff_ne.mpr e, Bool.false_or]
        exact h2
theorem prog_containsI (l : List Int) (b : Int) (hl : l.length ≤ 140737488355328) : Ev (fun k => slices_Contains_int_int.f k l b) (l.contains b) := by
  obtain ⟨r, h1, h2⟩ := prog_indexI l b hl l.length 0 (by omega) (by omega)
  rw [List.drop_zero] at h2
  rw [← h2]
  exact Ev.bind h1 (Ev.now _)
def pw (b : Int) (l : List S45) : List S34 := (l.filter fun w => w.f1.contains b).map fun w => ⟨2, w.f0⟩
def pr (a b : Int) (l : List S51) : List S34 := (l.filter fun x => x.f1.any (mem2 a b)).map fun x => ⟨3, x.f0⟩
theorem pw_cons (b : Int) (w : S45) (l : List S45) : pw b (w :: l) = (if w.f1.contains b = true then [⟨2, w.f0⟩] else []) ++ pw b l := by
  unfold pw; rw [List.filter_cons]
  by_cases h : w.f1.contains b = true
  · rw [if_pos h, if_pos h]; rfl
  · rw [if_neg h, if_neg h]; rfl
theorem pr_cons (a b : Int) (x : S51) (l : List S51) : pr a b (x :: l) = (if x.f1.any (mem2 a b) = true then [⟨3, x.f0⟩] else []) ++ pr a b l := by
  unfold pr; rw [List.filter_cons]
  by_cases h : x.f1.any (mem2 a b) = true
  · rw [if_pos h, if_pos h]; rfl
  · rw [if_neg h, if_neg h]; rfl
def fin (l : List S34) : Option (List S34) := (api_Ref_by_data_Users_2.f l).bind fun t => (api_Ref_58.f t).bind fun u => some u
theorem fin_ex (l : List S34) (hl : l.length ≤ 1000000) : ∃ r, fin l = some r ∧ (∀ x, x ∈ r ↔ x ∈ l) ∧ r.Pairwise ltR := by
  have hex : ∃ s, api_Ref_by_data_Users_2.f l = some s := by unfold api_Ref_by_data_Users_2.f; rw [if_pos (by omega)]; exact ⟨_, rfl⟩
  obtain ⟨s, hs⟩ := hex
  obtain ⟨hp, ho⟩ := api_Ref_by_data_Users_2.spec l s hs
  refine ⟨dd34 eqs34 s, by unfold fin; rw [hs]; rfl, fun x => (dd_mem s x).trans hp.mem_iff, dd_sorted s ?_⟩
  rw [List.pairwise_iff_getElem]
  intro i j hi hj hij h
  have h2 := ho i j hij hj
  rw [List.getD_eq_getElem?_getD, List.getD_eq_getElem?_getD, List.getElem?_eq_getElem hi, List.getElem?_eq_getElem hj] at h2
  have h3 : ltOf cmpBy55 s[j] s[i] = true := (ltBy55 _ _).2 h
  exact Bool.false_ne_true (h2.symm.trans h3)
theorem prog_users1 (l2 : List S51) (a b : Int) (hl : l2.length ≤ 1000000) : ∀ d i (out : List S34), i ≤ l2.length → l2.length - i = d → out.length + (l2.length - i) ≤ 2000000 → ∀ r, fin (out ++ pr a b (l2.drop i)) = some r → Ev (fun k => data_Users.l1 k out l2 (l2.length : Int) (i : Int) a b) r := by
  intro d
  induction d with
  | zero =>
    intro i out hi hd hB r hr
    obtain rfl : i = l2.length := by omega
    rw [List.drop_length, show pr a b [] = [] from rfl, List.append_nil] at hr
    refine Ev.step (f := fun _ => fin out) (fun k => by simp only [data_Users.l1]; rw [if_neg (by omega)]; rfl) ?_
    rw [show (fun _ : Nat => fin out) = (fun _ => some r) from funext fun _ => hr]
    exact Ev.now r
  | succ d ih =>
    intro i out hi hd hB r hr
    have hlt : i < l2.length := by omega
    rw [List.drop_eq_getElem_cons hlt, pr_cons] at hr
    have hcf : api_Member_by_data_Users_1.f l2[i].f1 a b = some (l2[i].f1.any (mem2 a b)) := rfl
    by_cases hc : l2[i].f1.any (mem2 a b) = true
    · rw [if_pos hc, ← List.append_assoc] at hr
      refine Ev.step (fun k => ?_) (ih (i + 1) (out ++ [⟨3, l2[i].f0⟩]) (by omega) (by omega) (by simp; omega) r hr)
      simp only [data_Users.l1]
      rw [if_pos (by omega), if_pos (by omega), if_pos (by omega), rd51 l2 i hlt, hcf, Option.bind_some, if_pos hc, if_pos (by omega), wrap_succ i (by omega)]
    · rw [if_neg hc, List.nil_append] at hr
      refine Ev.step (fun k => ?_) (ih (i + 1) out (by omega) (by omega) (by omega) r hr)
      simp only [data_Users.l1]
      rw [if_pos (by omega), if_pos (by omega), if_pos (by omega), rd51 l2 i hlt, hcf, Option.bind_some, if_neg hc, wrap_succ i (by omega)]
theorem prog_users0 (l0 : List S39) (l1 : List S45) (l2 : List S51) (a b : Int) (hl1 : l1.length ≤ 1000000) (hp : ∀ x ∈ l1, x.f1.length ≤ 140737488355328) (hl : l2.length ≤ 1000000) : ∀ d i (out : List S34), i ≤ l1.length → l1.length - i = d → out.length + (l1.length - i) ≤ 1000000 → ∀ r, fin (out ++ ((if a = 1 then pw b (l1.drop i) else []) ++ pr a b l2)) = some r → Ev (fun k => data_Users.l0 k out l1 (l1.length : Int) (i : Int) l0 l1 l2 a b) r := by
  intro d
  induction d with
  | zero =>
    intro i out hi hd hB r hr
    obtain rfl : i = l1.length := by omega
    have e : (if a = 1 then pw b (l1.drop l1.length) else []) = [] := by rw [List.drop_length]; split <;> rfl
    rw [e, List.nil_append] at hr
    refine Ev.step (fun k => by simp only [data_Users.l0]; rw [if_neg (by omega)]; rfl) (prog_users1 l2 a b hl l2.length 0 out (by omega) (by omega) (by omega) r ?_)
    rw [List.drop_zero]; exact hr
  | succ d ih =>
    intro i out hi hd hB r hr
    have hlt : i < l1.length := by omega
    by_cases h1 : a = 1
    · rw [if_pos h1, List.drop_eq_getElem_cons hlt, pw_cons] at hr
      refine Ev.step (f := fun k => (slices_Contains_int_int.f k l1[i].f1 b).bind fun t => if t = true then data_Users.l0 k (out ++ [(⟨2, l1[i].f0⟩ : S34)]) l1 (l1.length : Int) ((i + 1 : Nat) : Int) l0 l1 l2 a b else data_Users.l0 k out l1 (l1.length : Int) ((i + 1 : Nat) : Int) l0 l1 l2 a b) (fun k => by
        simp only [data_Users.l0]
        rw [if_pos (by omega), if_pos (by omega), if_pos (by omega), if_pos h1, rd45 l1 i hlt, if_pos (show out.length < 8796093022208 by omega), wrap_succ i (by omega)]) (Ev.bind (prog_containsI _ _ (hp _ (List.getElem_mem hlt))) ?_)
      by_cases hc : l1[i].f1.contains b = true
      · simp only [if_pos hc]
        rw [if_pos hc] at hr
        refine ih (i + 1) _ (by omega) (by omega) (by simp; omega) r ?_
        rw [if_pos h1, ← hr]; simp
      · simp only [if_neg hc]
        rw [if_neg hc, List.nil_append] at hr
        refine ih (i + 1) _ (by omega) (by omega) (by omega) r ?_
        rw [if_pos h1, ← hr]
    · rw [if_neg h1] at hr
      refine Ev.step (fun k => ?_) (ih (i + 1) out (by omega) (by omega) (by omega) r (by rw [if_neg h1]; exact hr))
      simp only [data_Users.l0]
      rw [if_pos (by omega), if_pos (by omega), if_pos (by omega), if_neg h1, wrap_succ i (by omega)]
theorem mem_uw (b : Int) (l : List S45) (y : S34) : y ∈ uw b l ↔ ∃ w ∈ l, b ∈ w.f1 ∧ y = ⟨2, w.f0⟩ := by
  unfold uw uwi
  simp only [List.mem_flatMap, List.mem_map, List.mem_filter, beq_iff_eq]
  constructor
  · rintro ⟨w, hw, n, ⟨hn, rfl⟩, rfl⟩; exact ⟨w, hw, hn, rfl⟩
  · rintro ⟨w, hw, hb, rfl⟩; exact ⟨w, hw, b, ⟨hb, rfl⟩, rfl⟩
theorem mem_ur (a b : Int) (l : List S51) (y : S34) : y ∈ ur a b l ↔ ∃ x ∈ l, (∃ m ∈ x.f1, m.f0.f0 = a ∧ m.f0.f1 = b) ∧ y = ⟨3, x.f0⟩ := by
  unfold ur uri mem2
  simp only [List.mem_flatMap, List.mem_map, List.mem_filter, Bool.and_eq_true, beq_iff_eq]
  constructor
  · rintro ⟨w, hw, n, ⟨hn, h⟩, rfl⟩; exact ⟨w, hw, ⟨n, hn, h⟩, rfl⟩
  · rintro ⟨w, hw, ⟨n, hn, h⟩, rfl⟩; exact ⟨w, hw, n, ⟨hn, h⟩, rfl⟩
theorem mem_pw (b : Int) (l : List S45) (y : S34) : y ∈ pw b l ↔ ∃ w ∈ l, b ∈ w.f1 ∧ y = ⟨2, w.f0⟩ := by
  unfold pw
  simp only [List.mem_map, List.mem_filter, List.contains_iff_mem]
  constructor
  · rintro ⟨w, ⟨hw, hb⟩, rfl⟩; exact ⟨w, hw, hb, rfl⟩
  · rintro ⟨w, hw, hb, rfl⟩; exact ⟨w, ⟨hw, hb⟩, rfl⟩
theorem mem_pr (a b : Int) (l : List S51) (y : S34) : y ∈ pr a b l ↔ ∃ x ∈ l, (∃ m ∈ x.f1, m.f0.f0 = a ∧ m.f0.f1 = b) ∧ y = ⟨3, x.f0⟩ := by
  unfold pr mem2
  simp only [List.mem_map, List.mem_filter, List.any_eq_true, Bool.and_eq_true, beq_iff_eq]
  constructor
  · rintro ⟨w, ⟨hw, hb⟩, rfl⟩; exact ⟨w, hw, hb, rfl⟩
  · rintro ⟨w, hw, hb, rfl⟩; exact ⟨w, ⟨hw, hb⟩, rfl⟩
theorem mem_users (l1 : List S45) (l2 : List S51) (a b : Int) (y : S34) : y ∈ usersV l1 l2 a b ↔ (a = 1 ∧ ∃ w ∈ l1, b ∈ w.f1 ∧ y = ⟨2, w.f0⟩) ∨ ∃ x ∈ l2, (∃ m ∈ x.f1, m.f0.f0 = a ∧ m.f0.f1 = b) ∧ y = ⟨3, x.f0⟩ := by
  unfold usersV uall
  rw [foldIns_mem, List.mem_append, mem_ur]
  by_cases h : a = 1
  · rw [if_pos h, mem_uw]; simp [h]
  · rw [if_neg h]; simp [h]
theorem users_sorted (l1 : List S45) (l2 : List S51) (a b : Int) : (usersV l1 l2 a b).Pairwise ltR := foldIns_sorted _ List.Pairwise.nil
theorem prog_users (l0 : List S39) (l1 : List S45) (l2 : List S51) (a b : Int) (hl1 : l1.length ≤ 300000) (hp : ∀ x ∈ l1, x.f1.length ≤ 140737488355328) (hl : l2.length ≤ 300000) : Ev (fun k => data_Users.f k l0 l1 l2 a b) (usersV l1 l2 a b) := by
  have hlw : (pw b l1).length ≤ l1.length := by unfold pw; rw [List.length_map]; exact List.length_filter_le _ _
  have hlr : (pr a b l2).length ≤ l2.length := by unfold pr; rw [List.length_map]; exact List.length_filter_le _ _
  have hlen : ((if a = 1 then pw b l1 else []) ++ pr a b l2).length ≤ 1000000 := by
    rw [List.length_append]
    by_cases h : a = 1
    · rw [if_pos h]; omega
    · rw [if_neg h]; simp; omega
  obtain ⟨r, hr, hm, hs⟩ := fin_ex _ hlen
  have e : r = usersV l1 l2 a b := by
    refine strict_unique (fun y => ?_) hs (users_sorted l1 l2 a b)
    rw [hm, mem_users, List.mem_append, mem_pr]
    by_cases h : a = 1
    · rw [if_pos h, mem_pw]; simp [h]
    · rw [if_neg h]; simp [h]
  rw [← e]
  have h := prog_users0 l0 l1 l2 a b (by omega) hp (by omega) l1.length 0 [] (by omega) (by omega) (by simp; omega) r (by rw [List.drop_zero, List.nil_append]; exact hr)
  exact h
end Go.Proofs.Ytgenbepicnbecaa.Pure
