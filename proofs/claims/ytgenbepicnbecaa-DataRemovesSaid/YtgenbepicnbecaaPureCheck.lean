/- c14, plain: ways and relations: data.Check and its reference answer alike; Few; the examples. -/
import Derived.Test.YtgenbepicnbecaaPureCore
namespace Go.Proofs.Ytgenbepicnbecaa.Pure
open Go.RowKit Go.Proofs.Ytgenbepicnbecaa.PAll Go.Proofs.YtgenbepicnbecaaW.PrintWords Go.Proofs.YtgenbepicnbecaaW.PrintLast
set_option linter.unusedVariables false
set_option linter.unusedSimpArgs false
def WfD (l0 : List S39) (l1 : List S45) (l2 : List S51) : Prop := (l0.length ≤ 140737488355328 ∧ l1.length ≤ 140737488355328 ∧ l2.length ≤ 140737488355328) ∧ (∀ x ∈ l0, InI x.f0) ∧ (∀ x ∈ l1, InI x.f0 ∧ x.f1.length ≤ 140737488355328 ∧ ∀ n ∈ x.f1, InI n) ∧ (∀ x ∈ l2, x.f1.length ≤ 140737488355328 ∧ ∀ m ∈ x.f1, InI m.f0.f1)
def i39 (l : List S39) : List Int := l.map (fun x => x.f0)
def i45 (l : List S45) : List Int := l.map (fun x => x.f0)
def i51 (l : List S51) : List Int := l.map (fun x => x.f0)
def wayE (ids : List Int) (x : S45) : Int := if (x.f1.length : Int) < 2 then 12 else if (x.f1.length : Int) > 2000 then 5 else if x.f1.any (fun n => !ids.contains n) = true then 9 else tchk x.f2
def wgo (ids : List Int) : Int → List S45 → Int
  | _, [] => 0
  | p, x :: r => if idE x.f0 p = 0 then (if wayE ids x = 0 then wgo ids x.f0 r else wayE ids x) else idE x.f0 p
theorem prog_ways (l0 : List S39) (l1 : List S45) (l2 : List S51) (hw : WfD l0 l1 l2) : Ev (fun k => data_checker_checkWays.f k l0 l1 l2) (wgo (i39 l0) 0 l1) := by
  obtain ⟨⟨h0, h1, h2⟩, hi0, hi1, hi2⟩ := hw
  have h := ev_loop l1.length (fun k i => data_checker_checkWays.l0 k l1 (l1.length : Int) (i : Int) l0 l1 l2) (fun i => wgo (i39 l0) (pv (i45 l1) i) (l1.drop i))
    (Ev.step (f := fun _ => some 0) (fun k => by simp only [data_checker_checkWays.l0]; rw [if_neg (by omega)]) (by rw [List.drop_length]; exact Ev.now 0))
    (fun i hi ih => by
      have hpv : pv (i45 l1) (i + 1) = l1[i].f0 := by unfold i45; rw [pv_succ _ i (by simpa using hi)]; simp
      rw [hpv] at ih
      have hid : data_ids_by_data_checker_checkWays_1.f (i : Int) l0 l1 l2 = some (idE l1[i].f0 (pv (i45 l1) i)) := by
        unfold data_ids_by_data_checker_checkWays_1.f i45
        rw [if_pos (by omega), if_pos (by omega), idsF_eq (l1.map (fun x => x.f0)) _ i (by simpa using hi) (fun j hj => by rw [rd45 l1 j (by simpa using hj)]; simp)]
        simp
      have hcf : slices_ContainsFunc_int_int_by_data_checker_checkWays_2.f l1[i].f1 l0 l1 l2 = some (l1[i].f1.any (fun n => !(i39 l0).contains n)) := by
        unfold slices_ContainsFunc_int_int_by_data_checker_checkWays_2.f
        rw [if_pos (hi1 _ (List.getElem_mem hi)).2.2]
        rfl
      generalize pv (i45 l1) i = p at hid
      rw [List.drop_eq_getElem_cons hi]
      simp only [wgo]
      refine Ev.step (f := fun k => if idE l1[i].f0 p = 0 then (if (l1[i].f1.length : Int) < 2 then some 12 else if (l1[i].f1.length : Int) > 2000 then some 5 else if l1[i].f1.any (fun n => !(i39 l0).contains n) = true then some 9 else (tags_Check.f k l1[i].f2).bind fun t => if t = 0 then data_checker_checkWays.l0 k l1 (l1.length : Int) (wrap64 ((i : Int) + 1)) l0 l1 l2 else some t) else some (idE l1[i].f0 p)) (fun k => by
        simp only [data_checker_checkWays.l0]
        rw [if_pos (by omega), if_pos (by omega), if_pos (by omega), rd45 l1 i hi, hid, Option.bind_some, hcf, Option.bind_some, if_neg (show ¬ ((12 : Nat) = 0) by decide), if_neg (show ¬ ((5 : Nat) = 0) by decide), if_neg (show ¬ ((9 : Nat) = 0) by decide)]) ?_
      by_cases he : idE l1[i].f0 p = 0
      · simp only [if_pos he]
        unfold wayE
        by_cases c1 : (l1[i].f1.length : Int) < 2
        · simp only [if_pos c1]; rw [if_neg (by decide)]; exact Ev.now _
        · simp only [if_neg c1]
          by_cases c2 : (l1[i].f1.length : Int) > 2000
          · simp only [if_pos c2]; rw [if_neg (by decide)]; exact Ev.now _
          · simp only [if_neg c2]
            by_cases c3 : l1[i].f1.any (fun n => !(i39 l0).contains n) = true
            · simp only [if_pos c3]; rw [if_neg (by decide)]; exact Ev.now _
            · simp only [if_neg c3]
              refine Ev.bind (prog_tags _) ?_
              by_cases ht : tchk l1[i].f2 = 0
              · simp only [if_pos ht]
                rw [wrap_succ i (by omega)]
                exact ih
              · simp only [if_neg ht]; exact Ev.now _
      · simp only [if_neg he]; exact Ev.now _)
    0 (by omega)
  exact h
def relE (i0 i1 : List Int) (x : S51) : Int := if (x.f1.length : Int) > 200 then 5 else if x.f1.any (fun m => decide ((m.f1.size : Int) > 64)) = true then 5 else if x.f1.any (missF i0 i1) = true then 9 else tchk x.f2
def rgo (i0 i1 : List Int) : Int → List S51 → Int
  | _, [] => 0
  | p, x :: r => if idE x.f0 p = 0 then (if relE i0 i1 x = 0 then rgo i0 i1 x.f0 r else relE i0 i1 x) else idE x.f0 p
theorem prog_rels (l0 : List S39) (l1 : List S45) (l2 : List S51) (hw : WfD l0 l1 l2) : Ev (fun k => data_checker_checkRels.f k l0 l1 l2) (rgo (i39 l0) (i45 l1) 0 l2) := by
  obtain ⟨⟨h0, h1, h2⟩, hi0, hi1, hi2⟩ := hw
  have h := ev_loop l2.length (fun k i => data_checker_checkRels.l0 k l2 (l2.length : Int) (i : Int) l0 l1 l2) (fun i => rgo (i39 l0) (i45 l1) (pv (i51 l2) i) (l2.drop i))
    (Ev.step (f := fun _ => some 0) (fun k => by simp only [data_checker_checkRels.l0]; rw [if_neg (by omega)]) (by rw [List.drop_length]; exact Ev.now 0))
    (fun i hi ih => by
      have hpv : pv (i51 l2) (i + 1) = l2[i].f0 := by unfold i51; rw [pv_succ _ i (by simpa using hi)]; simp
      rw [hpv] at ih
      have hid : data_ids_by_data_checker_checkRels_1.f (i : Int) l0 l1 l2 = some (idE l2[i].f0 (pv (i51 l2) i)) := by
        unfold data_ids_by_data_checker_checkRels_1.f i51
        rw [if_pos (by omega), if_pos (by omega), idsF_eq (l2.map (fun x => x.f0)) _ i (by simpa using hi) (fun j hj => by rw [rd51 l2 j (by simpa using hj)]; simp)]
        simp
      have hcm : api_Member_by_data_checker_missing.f l2[i].f1 l0 l1 l2 = some (l2[i].f1.any (missF (i39 l0) (i45 l1))) := by
        unfold api_Member_by_data_checker_missing.f
        rw [if_pos (hi2 _ (List.getElem_mem hi)).2]
        rfl
      have hcr : api_Member_by_data_checker_checkRels_2.f l2[i].f1 = some (l2[i].f1.any (fun m => decide ((m.f1.size : Int) > 64))) := rfl
      generalize pv (i51 l2) i = p at hid
      rw [List.drop_eq_getElem_cons hi]
      simp only [rgo]
      have hj5 : Ev (fun k => data_checker_checkRels.j1 k l2 (l2.length : Int) (i : Int) true l0 l1 l2 l2[i].f0 l2[i].f1 l2[i].f2) 5 :=
        Ev.step (f := fun _ => some 5) (fun k => by simp only [data_checker_checkRels.j1, if_true]; rw [if_neg (show ¬ ((5 : Nat) = 0) by decide)]) (Ev.now 5)
      have hj : Ev (fun k => data_checker_checkRels.j1 k l2 (l2.length : Int) (i : Int) false l0 l1 l2 l2[i].f0 l2[i].f1 l2[i].f2) (if (if l2[i].f1.any (missF (i39 l0) (i45 l1)) = true then 9 else tchk l2[i].f2) = 0 then rgo (i39 l0) (i45 l1) l2[i].f0 (l2.drop (i + 1)) else (if l2[i].f1.any (missF (i39 l0) (i45 l1)) = true then 9 else tchk l2[i].f2)) := by
        refine Ev.step (f := fun k => if l2[i].f1.any (missF (i39 l0) (i45 l1)) = true then some 9 else (tags_Check.f k l2[i].f2).bind fun t => if t = 0 then data_checker_checkRels.l0 k l2 (l2.length : Int) (wrap64 ((i : Int) + 1)) l0 l1 l2 else some t) (fun k => by
          simp only [data_checker_checkRels.j1]
          rw [if_neg (by decide), hcm, Option.bind_some, if_neg (show ¬ ((9 : Nat) = 0) by decide)]) ?_
        by_cases c3 : l2[i].f1.any (missF (i39 l0) (i45 l1)) = true
        · simp only [if_pos c3]; rw [if_neg (by decide)]; exact Ev.now _
        · simp only [if_neg c3]
          refine Ev.bind (prog_tags _) ?_
          by_cases ht : tchk l2[i].f2 = 0
          · simp only [if_pos ht]
            rw [wrap_succ i (by omega)]
            exact ih
          · simp only [if_neg ht]; exact Ev.now _
      refine Ev.step (f := fun k => if idE l2[i].f0 p = 0 then (if (l2[i].f1.length : Int) > 200 then data_checker_checkRels.j1 k l2 (l2.length : Int) (i : Int) true l0 l1 l2 l2[i].f0 l2[i].f1 l2[i].f2 else data_checker_checkRels.j1 k l2 (l2.length : Int) (i : Int) (l2[i].f1.any (fun m => decide ((m.f1.size : Int) > 64))) l0 l1 l2 l2[i].f0 l2[i].f1 l2[i].f2) else some (idE l2[i].f0 p)) (fun k => by
        simp only [data_checker_checkRels.l0]
        rw [if_pos (by omega), if_pos (by omega), if_pos (by omega), rd51 l2 i hi, hid, Option.bind_some, hcr, Option.bind_some]) ?_
      by_cases he : idE l2[i].f0 p = 0
      · simp only [if_pos he]
        unfold relE
        by_cases c1 : (l2[i].f1.length : Int) > 200
        · simp only [if_pos c1]; rw [if_neg (by decide)]; exact hj5
        · simp only [if_neg c1]
          by_cases c2 : l2[i].f1.any (fun m => decide ((m.f1.size : Int) > 64)) = true
          · rw [c2]; simp only [if_true]; rw [if_neg (by decide)]; exact hj5
          · rw [Bool.eq_false_iff.mpr c2]
            simp only [Bool.false_eq_true, if_false]
            exact hj
      · simp only [if_neg he]; exact Ev.now _)
    0 (by omega)
  exact h
def chk (l0 : List S39) (l1 : List S45) (l2 : List S51) : Int := if 10000 < l0.length ∨ 10000 < l1.length ∨ 10000 < l2.length then 5 else if ngo 0 l0 = 0 then (if wgo (i39 l0) 0 l1 = 0 then rgo (i39 l0) (i45 l1) 0 l2 else wgo (i39 l0) 0 l1) else ngo 0 l0
theorem prog_check (l0 : List S39) (l1 : List S45) (l2 : List S51) (hw : WfD l0 l1 l2) : Ev (fun k => data_Check.f k l0 l1 l2) (chk l0 l1 l2) := by
  unfold data_Check.f chk
  by_cases hb : 10000 < l0.length ∨ 10000 < l1.length ∨ 10000 < l2.length
  · simp only [if_pos hb]; exact Ev.now _
  · simp only [if_neg hb]
    have hin : (∀ x ∈ l0, InI x.f0) ∧ (∀ x ∈ l1, InI x.f0) := ⟨hw.2.1, fun x hx => (hw.2.2.1 x hx).1⟩
    simp only [if_pos hin]
    refine Ev.bind (prog_nodes l0 l1 l2 hw.1.1) ?_
    by_cases e0 : ngo 0 l0 = 0
    · simp only [if_pos e0]
      refine Ev.bind (prog_ways l0 l1 l2 hw) ?_
      by_cases e1 : wgo (i39 l0) 0 l1 = 0
      · simp only [if_pos e1]; exact prog_rels l0 l1 l2 hw
      · simp only [if_neg e1]; exact Ev.now _
    · simp only [if_neg e0]; exact Ev.now _
def t39 (l : List S39) : Nat := (l.map (fun x => x.f2.length)).sum
def t45 (l : List S45) : Nat := (l.map (fun x => x.f1.length + x.f2.length)).sum
def t51 (l : List S51) : Nat := (l.map (fun x => x.f1.length + x.f2.length)).sum
theorem few_l2 (l0 : List S39) (l1 : List S45) (l2 : List S51) (n : Nat) (hn : n ≤ 1000000) (hl : l2.length ≤ 140737488355328) (hp : ∀ x ∈ l2, x.f1.length ≤ 140737488355328 ∧ x.f2.length ≤ 140737488355328) :
    ∀ d i acc, i ≤ l2.length → l2.length - i = d → Ev (fun k => mapmakerref14_Few.l2 k (n : Int) ((acc : Nat) : Int) (i : Int) l0 l1 l2) (decide (acc + t51 (l2.drop i) ≤ n)) := by
  intro d
  induction d with
  | zero =>
    intro i acc hi hd
    have e : i = l2.length := by omega
    subst e
    refine Ev.step (f := fun _ => some (decide (acc + t51 (l2.drop l2.length) ≤ n))) (fun k => ?_) (Ev.now _)
    simp only [mapmakerref14_Few.l2]
    rw [if_neg (by omega), List.drop_length]
    simp [t51]
  | succ d ih =>
    intro i acc hi hd
    have hlt : i < l2.length := by omega
    obtain ⟨hp1, hp2⟩ := hp _ (List.getElem_mem hlt)
    have e : t51 (l2.drop i) = l2[i].f1.length + l2[i].f2.length + t51 (l2.drop (i + 1)) := by unfold t51; rw [List.drop_eq_getElem_cons hlt, List.map_cons, List.sum_cons]
    by_cases ha : (acc : Int) ≤ n
    · have h2 := ih (i + 1) (acc + l2[i].f1.length + l2[i].f2.length) (by omega) (by omega)
      rw [e, show acc + (l2[i].f1.length + l2[i].f2.length + t51 (l2.drop (i + 1))) = acc + l2[i].f1.length + l2[i].f2.length + t51 (l2.drop (i + 1)) by omega]
      refine Ev.step (fun k => ?_) h2
      simp only [mapmakerref14_Few.l2]
      rw [if_pos (by omega), if_pos ha, if_pos (by omega), rd51 l2 i hlt, wrapI (n := (acc : Int) + _) (by omega), wrapI (by omega), wrap_succ i (by omega)]
      push_cast
      rfl
    · refine Ev.step (f := fun _ => some (decide (acc + t51 (l2.drop i) ≤ n))) (fun k => ?_) (Ev.now _)
      simp only [mapmakerref14_Few.l2]
      rw [if_pos (by omega), if_neg ha, decide_eq_false ha, decide_eq_false (by omega)]
theorem few_l1 (l0 : List S39) (l1 : List S45) (l2 : List S51) (n : Nat) (hn : n ≤ 1000000) (hl1 : l1.length ≤ 140737488355328) (hp1 : ∀ x ∈ l1, x.f1.length ≤ 140737488355328 ∧ x.f2.length ≤ 140737488355328) (hl2 : l2.length ≤ 140737488355328) (hp2 : ∀ x ∈ l2, x.f1.length ≤ 140737488355328 ∧ x.f2.length ≤ 140737488355328) :
    ∀ d i acc, i ≤ l1.length → l1.length - i = d → Ev (fun k => mapmakerref14_Few.l1 k (n : Int) ((acc : Nat) : Int) (i : Int) l0 l1 l2) (decide (acc + t45 (l1.drop i) + t51 l2 ≤ n)) := by
  have hj : ∀ acc : Nat, Ev (fun k => mapmakerref14_Few.j3 k (n : Int) (acc : Int) l0 l1 l2) (decide (acc + t51 l2 ≤ n)) := fun acc =>
    Ev.step (fun k => by simp only [mapmakerref14_Few.j3]; rfl) (few_l2 l0 l1 l2 n hn hl2 hp2 l2.length 0 acc (by omega) (by omega))
  intro d
  induction d with
  | zero =>
    intro i acc hi hd
    have e : i = l1.length := by omega
    subst e
    have h := hj acc
    rw [List.drop_length]
    refine Ev.step (fun k => ?_) (by simpa [t45] using h)
    simp only [mapmakerref14_Few.l1]
    rw [if_neg (by omega)]
  | succ d ih =>
    intro i acc hi hd
    have hlt : i < l1.length := by omega
    obtain ⟨q1, q2⟩ := hp1 _ (List.getElem_mem hlt)
    have e : t45 (l1.drop i) = l1[i].f1.length + l1[i].f2.length + t45 (l1.drop (i + 1)) := by unfold t45; rw [List.drop_eq_getElem_cons hlt, List.map_cons, List.sum_cons]
    by_cases ha : (acc : Int) ≤ n
    · have h2 := ih (i + 1) (acc + l1[i].f1.length + l1[i].f2.length) (by omega) (by omega)
      rw [e, show acc + (l1[i].f1.length + l1[i].f2.length + t45 (l1.drop (i + 1))) + t51 l2 = acc + l1[i].f1.length + l1[i].f2.length + t45 (l1.drop (i + 1)) + t51 l2 by omega]
      refine Ev.step (fun k => ?_) h2
      simp only [mapmakerref14_Few.l1]
      rw [if_pos (by omega), if_pos ha, if_pos (by omega), rd45 l1 i hlt, wrapI (n := (acc : Int) + _) (by omega), wrapI (by omega), wrap_succ i (by omega)]
      push_cast
      rfl
    · have h := hj acc
      have e1 : decide (acc + t51 l2 ≤ n) = decide (acc + t45 (l1.drop i) + t51 l2 ≤ n) := by rw [decide_eq_false (by omega), decide_eq_false (by omega)]
      rw [e1] at h
      refine Ev.step (fun k => ?_) h
      simp only [mapmakerref14_Few.l1]
      rw [if_pos (by omega), if_neg ha]
theorem few_l0 (l0 : List S39) (l1 : List S45) (l2 : List S51) (n : Nat) (hn : n ≤ 1000000) (hl0 : l0.length ≤ 140737488355328) (hp0 : ∀ x ∈ l0, x.f2.length ≤ 140737488355328) (hl1 : l1.length ≤ 140737488355328) (hp1 : ∀ x ∈ l1, x.f1.length ≤ 140737488355328 ∧ x.f2.length ≤ 140737488355328) (hl2 : l2.length ≤ 140737488355328) (hp2 : ∀ x ∈ l2, x.f1.length ≤ 140737488355328 ∧ x.f2.length ≤ 140737488355328) :
    ∀ d i acc, i ≤ l0.length → l0.length - i = d → Ev (fun k => mapmakerref14_Few.l0 k (n : Int) ((acc : Nat) : Int) (i : Int) l0 l1 l2) (decide (acc + t39 (l0.drop i) + t45 l1 + t51 l2 ≤ n)) := by
  have hj : ∀ acc : Nat, Ev (fun k => mapmakerref14_Few.j1 k (n : Int) (acc : Int) l0 l1 l2) (decide (acc + t45 l1 + t51 l2 ≤ n)) := fun acc =>
    Ev.step (fun k => by simp only [mapmakerref14_Few.j1]; rfl) (few_l1 l0 l1 l2 n hn hl1 hp1 hl2 hp2 l1.length 0 acc (by omega) (by omega))
  intro d
  induction d with
  | zero =>
    intro i acc hi hd
    have e : i = l0.length := by omega
    subst e
    have h := hj acc
    rw [List.drop_length]
    refine Ev.step (fun k => ?_) (by simpa [t39] using h)
    simp only [mapmakerref14_Few.l0]
    rw [if_neg (by omega)]
  | succ d ih =>
    intro i acc hi hd
    have hlt : i < l0.length := by omega
    have q2 := hp0 _ (List.getElem_mem hlt)
    have e : t39 (l0.drop i) = l0[i].f2.length + t39 (l0.drop (i + 1)) := by unfold t39; rw [List.drop_eq_getElem_cons hlt, List.map_cons, List.sum_cons]
    by_cases ha : (acc : Int) ≤ n
    · have h2 := ih (i + 1) (acc + l0[i].f2.length) (by omega) (by omega)
      rw [e, show acc + (l0[i].f2.length + t39 (l0.drop (i + 1))) + t45 l1 + t51 l2 = acc + l0[i].f2.length + t39 (l0.drop (i + 1)) + t45 l1 + t51 l2 by omega]
      refine Ev.step (fun k => ?_) h2
      simp only [mapmakerref14_Few.l0]
      rw [if_pos (by omega), if_pos ha, if_pos (by omega), rd39 l0 i hlt, wrapI (n := (acc : Int) + _) (by omega), wrap_succ i (by omega)]
      push_cast
      rfl
    · have h := hj acc
      have e1 : decide (acc + t45 l1 + t51 l2 ≤ n) = decide (acc + t39 (l0.drop i) + t45 l1 + t51 l2 ≤ n) := by rw [decide_eq_false (by omega), decide_eq_false (by omega)]
      rw [e1] at h
      refine Ev.step (fun k => ?_) h
      simp only [mapmakerref14_Few.l0]
      rw [if_pos (by omega), if_neg ha]
def total (l0 : List S39) (l1 : List S45) (l2 : List S51) : Nat := l0.length + l1.length + l2.length + t39 l0 + t45 l1 + t51 l2
theorem few_ev (x : S26) (w : wf26 x) : Ev (fun k => mapmakerref14_Few.f k x.f0 x.f1 x.f2 600) (decide (total x.f0 x.f1 x.f2 ≤ 600)) := by
  obtain ⟨⟨h0, p0⟩, ⟨h1, p1⟩, ⟨h2, p2⟩⟩ := w
  have h := few_l0 x.f0 x.f1 x.f2 600 (by omega) h0 (fun y hy => (p0 y hy).2.2.1) h1 (fun y hy => ⟨(p1 y hy).2.1.1, (p1 y hy).2.2.1⟩) h2 (fun y hy => ⟨(p2 y hy).2.1.1, (p2 y hy).2.2.1⟩) x.f0.length 0 (x.f0.length + x.f1.length + x.f2.length) (by omega) (by omega)
  refine Ev.congr (fun k => ?_) h
  unfold mapmakerref14_Few.f
  rw [wrapI (n := (x.f0.length : Int) + _) (by omega), wrapI (by omega), show ((x.f0.length : Int) + (x.f1.length : Int) + (x.f2.length : Int)) = ((x.f0.length + x.f1.length + x.f2.length : Nat) : Int) by omega]
  rfl
theorem wfD_of (x : S26) (w : wf26 x) : WfD x.f0 x.f1 x.f2 := by
  obtain ⟨⟨h0, p0⟩, ⟨h1, p1⟩, ⟨h2, p2⟩⟩ := w
  exact ⟨⟨h0, h1, h2⟩, fun y hy => (p0 y hy).1, fun y hy => ⟨(p1 y hy).1, (p1 y hy).2.1.1, (p1 y hy).2.1.2⟩, fun y hy => ⟨(p2 y hy).2.1.1, fun m hm => ((p2 y hy).2.1.2 m hm).1.2⟩⟩
set_option maxRecDepth 100000 in
theorem livesAll : mapmakerlaw14_lives.f 60 = some true := by decide +kernel
theorem lives_ev : Ev (fun k => mapmakerlaw14_lives.f k) true := Ev.of (fun k => mapmakerlaw14_lives.mono k) livesAll
end Go.Proofs.Ytgenbepicnbecaa.Pure
