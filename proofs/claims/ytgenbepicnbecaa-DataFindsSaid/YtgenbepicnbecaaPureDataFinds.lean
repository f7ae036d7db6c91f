/- DataFinds: Node, Way, Rel, Has, Users, Refs and Tags return what is specified for any dataset of at most 600 parts and any reference. -/
import Derived.Test.YtgenbepicnbecaaPureSame
import Derived.Test.YtgenbepicnbecaaPureProgUsers
import Derived.Test.YtgenbepicnbecaaPAllx28
namespace Go.Proofs.Ytgenbepicnbecaa.Pure
open Go.RowKit Go.Proofs.Ytgenbepicnbecaa.PAll Go.Proofs.YtgenbepicnbecaaW.PrintWords Go.Proofs.YtgenbepicnbecaaW.PrintLast
set_option linter.unusedVariables false
set_option linter.unusedSimpArgs false
theorem same_refs0 (a : List S34) (hl : a.length ≤ 140737488355328) : ∀ d i, i ≤ a.length → a.length - i = d → Ev (fun k => mapmakerref14_SameRefs.l0 k a a (i : Int)) true := by
  intro d
  induction d with
  | zero =>
    intro i hi hd
    exact Ev.step (f := fun _ => some true) (fun k => by simp only [mapmakerref14_SameRefs.l0]; rw [if_neg (by omega)]) (Ev.now true)
  | succ d ih =>
    intro i hi hd
    have hlt : i < a.length := by omega
    refine Ev.step (fun k => ?_) (ih (i + 1) (by omega) (by omega))
    simp only [mapmakerref14_SameRefs.l0]
    rw [if_pos (by omega), if_pos (by omega), if_pos (by omega), if_neg (by simp), wrap_succ i (by omega)]
theorem same_refs (a : List S34) (hl : a.length ≤ 140737488355328) : Ev (fun k => mapmakerref14_SameRefs.f k a a) true := by
  unfold mapmakerref14_SameRefs.f
  simp only [if_true]
  exact same_refs0 a hl a.length 0 (by omega) (by omega)
theorem uwi_length (b id : Int) (l : List Int) : (uwi b id l).length ≤ l.length := by unfold uwi; rw [List.length_map]; exact List.length_filter_le _ _
theorem uri_length (a b id : Int) (l : List S67) : (uri a b id l).length ≤ l.length := by unfold uri; rw [List.length_map]; exact List.length_filter_le _ _
theorem uw_length (b : Int) : ∀ l : List S45, (uw b l).length ≤ t45 l
  | [] => Nat.le_refl _
  | x :: l => by
    have h1 := uwi_length b x.f0 x.f1
    have h2 := uw_length b l
    unfold uw t45 at *
    rw [List.flatMap_cons, List.length_append, List.map_cons, List.sum_cons]; omega
theorem ur_length (a b : Int) : ∀ l : List S51, (ur a b l).length ≤ t51 l
  | [] => Nat.le_refl _
  | x :: l => by
    have h1 := uri_length a b x.f0 x.f1
    have h2 := ur_length a b l
    unfold ur t51 at *
    rw [List.flatMap_cons, List.length_append, List.map_cons, List.sum_cons]; omega
theorem uall_length (l0 : List S39) (l1 : List S45) (l2 : List S51) (a b : Int) (h : total l0 l1 l2 ≤ 600) : (uall l1 l2 a b).length ≤ 600 := by
  have h1 := uw_length b l1
  have h2 := ur_length a b l2
  unfold uall total at *
  rw [List.length_append]
  by_cases ha : a = 1
  · rw [if_pos ha]; omega
  · rw [if_neg ha]; simp; omega
theorem find_wf {α : Type} (p : α → Bool) (l : List α) (z : α) (P : α → Prop) (h : ∀ x ∈ l, P x) (hz : P z) : P ((l.find? p).getD z) := by
  cases e : l.find? p with
  | none => exact hz
  | some x => exact h x (List.mem_of_find?_eq_some e)
theorem tags_len (l0 : List S39) (l1 : List S45) (l2 : List S51) (a b : Int) (p0 : ∀ x ∈ l0, x.f2.length ≤ 140737488355328) (p1 : ∀ x ∈ l1, x.f2.length ≤ 140737488355328) (p2 : ∀ x ∈ l2, x.f2.length ≤ 140737488355328) : (tagsV l0 l1 l2 a b).length ≤ 140737488355328 := by
  unfold tagsV
  by_cases h1 : a = 1
  · rw [if_pos h1]; exact find_wf (fun x : S39 => x.f0 == b) l0 z39 (fun x => x.f2.length ≤ 140737488355328) p0 (by decide)
  · rw [if_neg h1]
    by_cases h2 : a = 2
    · rw [if_pos h2]; exact find_wf (fun x : S45 => x.f0 == b) l1 z45 (fun x => x.f2.length ≤ 140737488355328) p1 (by decide)
    · rw [if_neg h2]
      by_cases h3 : a = 3
      · rw [if_pos h3]; exact find_wf (fun x : S51 => x.f0 == b) l2 z51 (fun x => x.f2.length ≤ 140737488355328) p2 (by decide)
      · rw [if_neg h3]; decide
theorem DataFinds : mapmakerlaw14_DataFinds.Pure := by
  intro x y w v
  refine Ev.rounds (g := fun k => mapmakerlaw14_DataFinds.f k x.f0 x.f1 x.f2 y.f0 y.f1) ?_
  have hw := wfD_of x w
  unfold mapmakerlaw14_DataFinds.f
  refine Ev.bind (few_ev x w) ?_
  by_cases hf : total x.f0 x.f1 x.f2 ≤ 600
  · simp only [decide_eq_true hf, if_true]
    obtain ⟨⟨h0, p0⟩, ⟨h1, p1⟩, ⟨h2, p2⟩⟩ := w
    have hU := uall_length x.f0 x.f1 x.f2 y.f0 y.f1 hf
    have hsum : x.f0.length + x.f1.length + x.f2.length ≤ 600 := by unfold total at hf; omega
    have q0 : ∀ z ∈ x.f0, z.f2.length ≤ 140737488355328 := fun z hz => (p0 z hz).2.2.1
    have q1 : ∀ z ∈ x.f1, z.f1.length ≤ 140737488355328 ∧ z.f2.length ≤ 140737488355328 := fun z hz => ⟨(p1 z hz).2.1.1, (p1 z hz).2.2.1⟩
    have q2 : ∀ z ∈ x.f2, z.f1.length ≤ 140737488355328 ∧ z.f2.length ≤ 140737488355328 := fun z hz => ⟨(p2 z hz).2.1.1, (p2 z hz).2.2.1⟩
    generalize hA : x.f0 = l0 at *
    generalize hB : x.f1 = l1 at *
    generalize hC : x.f2 = l2 at *
    have eN : data_Node.f l0 l1 l2 y.f1 = some (nodeV l0 y.f1) := rfl
    have eW : data_Way.f l0 l1 l2 y.f1 = some (wayV l1 y.f1) := rfl
    have eR : data_Rel.f l0 l1 l2 y.f1 = some (relV l2 y.f1) := rfl
    have hj2 : Ev (fun k => mapmakerlaw14_DataFinds.j2 k false l0 l1 l2 y.f0 y.f1) true := by
      refine Ev.step (fun k => by simp only [mapmakerlaw14_DataFinds.j2, Bool.false_eq_true, if_false]; rfl) ?_
      refine Ev.bind (prog_has l0 l1 l2 y.f0 y.f1 (by omega)) (Ev.bind (ref_has l0 l1 l2 y.f0 y.f1 h0 h1 h2) ?_)
      simp only [beq_self_eq_true, if_true]
      refine Ev.bind (prog_users l0 l1 l2 y.f0 y.f1 (by omega) (fun z hz => (q1 z hz).1) (by omega)) (Ev.bind (ref_users l0 l1 l2 y.f0 y.f1 h1 (fun z hz => (q1 z hz).1) h2 (fun z hz => (q2 z hz).1) (by omega)) (Ev.bind (same_refs _ ?_) ?_))
      · have := foldIns_length (uall l1 l2 y.f0 y.f1) []
        unfold usersV
        simp at this; omega
      simp only [if_true]
      refine Ev.bind (prog_refs l0 l1 l2 (by omega)) (Ev.bind (ref_refs l0 l1 l2 (by omega)) (Ev.bind (same_refs _ ?_) ?_))
      · unfold refsL r39 r45 r51; simp; omega
      simp only [if_true, prog_tagsOf, Option.bind_some]
      refine Ev.bind (ref_tagsOf l0 l1 l2 y.f0 y.f1 h0 h1 h2) (Ev.bind (ref_sameTags _ _ (tags_len l0 l1 l2 y.f0 y.f1 q0 (fun z hz => (q1 z hz).2) (fun z hz => (q2 z hz).2))) ?_)
      simp only [listEq_refl tagEq tagEq_refl, if_true]
      exact Ev.bind lives_ev (Ev.now true)
    have hj1 : Ev (fun k => mapmakerlaw14_DataFinds.j1 k false l0 l1 l2 y.f0 y.f1) true := by
      refine Ev.step (fun k => by simp only [mapmakerlaw14_DataFinds.j1, Bool.false_eq_true, if_false, eR, Option.bind_some]; rfl) ?_
      refine Ev.bind (ref_rel1 l0 l1 l2 y.f1 h2) ?_
      simp only [bne_self_eq_false, Bool.false_eq_true, if_false]
      refine Ev.bind (ref_sameRel ((l2.find? (fun x : S51 => x.f0 == y.f1)).getD z51) ((l2.find? (fun x : S51 => x.f0 == y.f1)).getD z51) ?_ ?_) ?_
      · exact find_wf (fun x : S51 => x.f0 == y.f1) l2 z51 (fun x => x.f1.length ≤ 140737488355328) (fun z hz => (q2 z hz).1) (by decide)
      · exact find_wf (fun x : S51 => x.f0 == y.f1) l2 z51 (fun x => x.f2.length ≤ 140737488355328) (fun z hz => (q2 z hz).2) (by decide)
      rw [relEq_refl]
      exact hj2
    have hj0 : Ev (fun k => mapmakerlaw14_DataFinds.j0 k false l0 l1 l2 y.f0 y.f1) true := by
      refine Ev.step (fun k => by simp only [mapmakerlaw14_DataFinds.j0, Bool.false_eq_true, if_false, eW, Option.bind_some]; rfl) ?_
      refine Ev.bind (ref_way1 l0 l1 l2 y.f1 h1) ?_
      simp only [bne_self_eq_false, Bool.false_eq_true, if_false]
      refine Ev.bind (ref_sameWay ((l1.find? (fun x : S45 => x.f0 == y.f1)).getD z45) ((l1.find? (fun x : S45 => x.f0 == y.f1)).getD z45) ?_ ?_) ?_
      · exact find_wf (fun x : S45 => x.f0 == y.f1) l1 z45 (fun x => x.f1.length ≤ 140737488355328) (fun z hz => (q1 z hz).1) (by decide)
      · exact find_wf (fun x : S45 => x.f0 == y.f1) l1 z45 (fun x => x.f2.length ≤ 140737488355328) (fun z hz => (q1 z hz).2) (by decide)
      rw [wayEq_refl]
      exact hj1
    simp only [eN, Option.bind_some]
    refine Ev.bind (ref_node l0 l1 l2 y.f1 h0) ?_
    simp only [bne_self_eq_false, Bool.false_eq_true, if_false]
    refine Ev.bind (ref_sameNode ((l0.find? (fun x : S39 => x.f0 == y.f1)).getD z39) ((l0.find? (fun x : S39 => x.f0 == y.f1)).getD z39) ?_) ?_
    · exact find_wf (fun x : S39 => x.f0 == y.f1) l0 z39 (fun x => x.f2.length ≤ 140737488355328) q0 (by decide)
    rw [nodeEq_refl]
    exact hj0
  · simp only [decide_eq_false hf, Bool.false_eq_true, if_false]
    exact Ev.bind lives_ev (Ev.now true)
end Go.Proofs.Ytgenbepicnbecaa.Pure
