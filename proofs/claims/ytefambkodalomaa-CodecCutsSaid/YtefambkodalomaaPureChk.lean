/- c16, plain: a dataset that data.Check accepts has small parts. -/
import Derived.Test.YtefambkodalomaaPureOnce
import Derived.Test.YtefambkodalomaaPureFew
import Derived.Test.YtefambkodalomaaPAllx17
import Derived.Test.YtefambkodalomaaPAllx14
import Derived.Test.YtefambkodalomaaPAllx15
import Derived.Test.YtefambkodalomaaPAllx16
namespace Go.Proofs.Ytefambkodalomaa.Pure
open Go.RowKit Go.Proofs.Ytefambkodalomaa.PAll Go.Proofs.YtefambkodalomaaW.PrintWords Go.Proofs.YtefambkodalomaaW.PrintLast Go.Proofs.YtefambkodalomaaW.PrintMore Go.Proofs.YtefambkodalomaaG
set_option linter.unusedVariables false
set_option linter.unusedSimpArgs false
theorem ev_exI (n : Nat) (g : Nat → Nat → Option Int) (Q : Nat → Prop) (hend : Ev (fun k => g k n) 0)
    (hstep : ∀ i, i < n → (∃ e, e ≠ 0 ∧ Ev (fun k => g k i) e) ∨ (Q i ∧ ∀ r, Ev (fun k => g k (i + 1)) r → Ev (fun k => g k i) r)) : ∀ d i, i + d = n → ∃ e, Ev (fun k => g k i) e ∧ (e = 0 → ∀ j, i ≤ j → j < n → Q j)
  | 0, i, h => by
    obtain rfl : i = n := by omega
    exact ⟨0, hend, fun _ j h1 h2 => absurd h2 (by omega)⟩
  | d + 1, i, h => by
    rcases hstep i (by omega) with ⟨e, he, h0⟩ | ⟨hq, hs⟩
    · exact ⟨e, h0, fun h => absurd h he⟩
    · obtain ⟨e, hb, hr⟩ := ev_exI n g Q hend hstep d (i + 1) (by omega)
      refine ⟨e, hs e hb, fun h j h1 h2 => ?_⟩
      by_cases c : j = i
      · subst c; exact hq
      · exact hr h j (by omega) h2
theorem good_of (a b : ByteArray) : ∃ r, tags_good.f a b = some r ∧ (r = true → a.size ≤ 64 ∧ b.size ≤ 64) := by
  unfold tags_good.f
  by_cases h1 : a.toList = ([] : List UInt8)
  · rw [if_pos h1]; exact ⟨false, rfl, fun h => by cases h⟩
  · rw [if_neg h1]
    by_cases h2 : (a.size : Int) ≤ 64
    · rw [if_pos h2]; exact ⟨_, rfl, fun h => ⟨by omega, by have := of_decide_eq_true h; omega⟩⟩
    · rw [if_neg h2]; exact ⟨false, rfl, fun h => by cases h⟩
theorem chk_tags (l : List S130) : ∃ e, Ev (fun k => tags_Check.f k l) e ∧ (e = 0 → wTags l) := by
  unfold tags_Check.f
  by_cases h : (l.length : Int) > 16
  · simp only [if_pos h]; exact ⟨5, Ev.now _, fun h => absurd h (by decide)⟩
  simp only [if_neg h]
  obtain ⟨e, he, hr⟩ := ev_exI l.length (fun k i => tags_Check.l0 k l l (l.length : Int) (i : Int)) (fun i => ∀ h : i < l.length, wTag l[i])
    (Ev.step (f := fun _ => some 0) (fun k => by simp only [tags_Check.l0]; rw [if_neg (by omega)]) (Ev.now _))
    (fun i hi => by
      obtain ⟨b, hb, hg⟩ := good_of l[i].f0 l[i].f1
      have hs : ∀ k, tags_Check.l0 (k + 1) l l (l.length : Int) (i : Int) = (some b).bind fun t489 => (if t489 = true then (if (i : Int) > 0 then (if 0 ≤ (wrap64 ((i : Int) - 1)) then (if (wrap64 ((i : Int) - 1)) < (l.length : Int) then (if ((Op.bytesLess (((rd_T130 l (wrap64 ((i : Int) - 1))).f0).toList) ((l[i].f0).toList)) = true) then (tags_Check.l0 k l l (l.length : Int) (wrap64 ((i : Int) + 1))) else (some 6)) else (none)) else (none)) else (tags_Check.l0 k l l (l.length : Int) (wrap64 ((i : Int) + 1)))) else (some 10)) := fun k => by
        simp only [tags_Check.l0]
        rw [if_pos (by omega), if_pos (by omega), if_pos (by omega), rd130' l i hi, hb]
      cases b with
      | false => exact .inl ⟨10, by decide, Ev.step (f := fun _ => some 10) (fun k => by rw [hs k]; rfl) (Ev.now _)⟩
      | true =>
        by_cases c : (i : Int) > 0
        · by_cases d : (Op.bytesLess (((rd_T130 l (wrap64 ((i : Int) - 1))).f0).toList) ((l[i].f0).toList)) = true
          · refine .inr ⟨fun _ => hg rfl, fun r ih => Ev.step (fun k => ?_) ih⟩
            rw [hs k, Option.bind_some, if_pos rfl, if_pos c, w64 (x := (i : Int) - 1) (by omega) (by omega), if_pos (by omega), if_pos (by omega)]
            rw [w64 (x := (i : Int) - 1) (by omega) (by omega)] at d
            rw [if_pos d, wrn i (by omega)]
          · refine .inl ⟨6, by decide, Ev.step (f := fun _ => some 6) (fun k => ?_) (Ev.now _)⟩
            rw [hs k, Option.bind_some, if_pos rfl, if_pos c, w64 (x := (i : Int) - 1) (by omega) (by omega), if_pos (by omega), if_pos (by omega)]
            rw [w64 (x := (i : Int) - 1) (by omega) (by omega)] at d
            rw [if_neg d]
        · refine .inr ⟨fun _ => hg rfl, fun r ih => Ev.step (fun k => ?_) ih⟩
          rw [hs k, Option.bind_some, if_pos rfl, if_neg c, wrn i (by omega)])
    l.length 0 (by omega)
  exact ⟨e, he, fun h0 => ⟨by omega, all_mem fun j hj => hr h0 j (by omega) hj hj⟩⟩
theorem chk_nodes (l : List S53) (l1 : List S56) (l2 : List S59) (hl : l.length ≤ 10000) : ∃ e, Ev (fun k => data_checker_checkNodes.f k l l1 l2) e ∧ (e = 0 → ∀ x ∈ l, wTags x.f2) := by
  unfold data_checker_checkNodes.f
  obtain ⟨e, he, hr⟩ := ev_exI l.length (fun k i => data_checker_checkNodes.l0 k l (l.length : Int) (i : Int) l l1 l2) (fun i => ∀ h : i < l.length, wTags l[i].f2)
    (Ev.step (f := fun _ => some 0) (fun k => by simp only [data_checker_checkNodes.l0]; rw [if_neg (by omega)]) (Ev.now _))
    (fun i hi => by
      have hid : data_ids_by_data_checker_checkNodes_1.f (i : Int) l l1 l2 = some (idsF (fun j => (rd_T53 l j).f0) (i : Int)) := by
        unfold data_ids_by_data_checker_checkNodes_1.f
        rw [if_pos (by omega), if_pos (by omega)]
      generalize idsF (fun j => (rd_T53 l j).f0) (i : Int) = t at hid
      have hj2 : ∀ e : Int, e ≠ 0 → Ev (fun k => data_checker_checkNodes.j2 k e l (l.length : Int) (i : Int) l l1 l2 l[i].f0 l[i].f1.f0 l[i].f1.f1 l[i].f2) e := fun e he =>
        Ev.step (f := fun _ => some e) (fun k => by simp only [data_checker_checkNodes.j2]; rw [if_neg he]) (Ev.now e)
      have hl0 : ∀ {r}, Ev (fun k => (some t).bind fun t494 => (if t494 = 0 then (if l[i].f1.f0 < (-1800000000) then (data_checker_checkNodes.j1 k t494 l (l.length : Int) (i : Int) true l l1 l2 l[i].f0 l[i].f1.f0 l[i].f1.f1 l[i].f2) else (if l[i].f1.f0 > 1800000000 then (data_checker_checkNodes.j1 k t494 l (l.length : Int) (i : Int) true l l1 l2 l[i].f0 l[i].f1.f0 l[i].f1.f1 l[i].f2) else (if l[i].f1.f1 < (-900000000) then (data_checker_checkNodes.j1 k t494 l (l.length : Int) (i : Int) true l l1 l2 l[i].f0 l[i].f1.f0 l[i].f1.f1 l[i].f2) else (data_checker_checkNodes.j1 k t494 l (l.length : Int) (i : Int) (decide (l[i].f1.f1 > 900000000)) l l1 l2 l[i].f0 l[i].f1.f0 l[i].f1.f1 l[i].f2)))) else (data_checker_checkNodes.j1 k t494 l (l.length : Int) (i : Int) false l l1 l2 l[i].f0 l[i].f1.f0 l[i].f1.f1 l[i].f2))) r → Ev (fun k => data_checker_checkNodes.l0 k l (l.length : Int) (i : Int) l l1 l2) r := fun {r} h => by
        refine Ev.step (fun k => ?_) h
        simp only [data_checker_checkNodes.l0]
        rw [if_pos (by omega), if_pos (by omega), if_pos (by omega), hid, rd53' l i hi]
      have hbad : Ev (fun k => data_checker_checkNodes.j1 k 0 l (l.length : Int) (i : Int) true l l1 l2 l[i].f0 l[i].f1.f0 l[i].f1.f1 l[i].f2) 11 := Ev.step (fun k => by simp only [data_checker_checkNodes.j1, if_true] <;> rfl) (hj2 11 (by decide))
      by_cases ht : t = 0
      · subst ht
        have go : ∀ {r}, Ev (fun k => (if l[i].f1.f0 < (-1800000000) then (data_checker_checkNodes.j1 k 0 l (l.length : Int) (i : Int) true l l1 l2 l[i].f0 l[i].f1.f0 l[i].f1.f1 l[i].f2) else (if l[i].f1.f0 > 1800000000 then (data_checker_checkNodes.j1 k 0 l (l.length : Int) (i : Int) true l l1 l2 l[i].f0 l[i].f1.f0 l[i].f1.f1 l[i].f2) else (if l[i].f1.f1 < (-900000000) then (data_checker_checkNodes.j1 k 0 l (l.length : Int) (i : Int) true l l1 l2 l[i].f0 l[i].f1.f0 l[i].f1.f1 l[i].f2) else (data_checker_checkNodes.j1 k 0 l (l.length : Int) (i : Int) (decide (l[i].f1.f1 > 900000000)) l l1 l2 l[i].f0 l[i].f1.f0 l[i].f1.f1 l[i].f2))))) r → Ev (fun k => data_checker_checkNodes.l0 k l (l.length : Int) (i : Int) l l1 l2) r := fun {r} h => hl0 (by simp only [Option.bind_some, if_true]; exact h)
        by_cases c1 : l[i].f1.f0 < (-1800000000)
        · exact .inl ⟨11, by decide, go (by simp only [if_pos c1]; exact hbad)⟩
        by_cases c2 : l[i].f1.f0 > 1800000000
        · exact .inl ⟨11, by decide, go (by simp only [if_neg c1, if_pos c2]; exact hbad)⟩
        by_cases c3 : l[i].f1.f1 < (-900000000)
        · exact .inl ⟨11, by decide, go (by simp only [if_neg c1, if_neg c2, if_pos c3]; exact hbad)⟩
        by_cases c4 : l[i].f1.f1 > 900000000
        · exact .inl ⟨11, by decide, go (by simp only [if_neg c1, if_neg c2, if_neg c3, decide_eq_true c4]; exact hbad)⟩
        obtain ⟨e, he, hw⟩ := chk_tags l[i].f2
        have g2 : ∀ {r}, Ev (fun k => (tags_Check.f k l[i].f2).bind fun t495 => (if t495 = 0 then (data_checker_checkNodes.l0 k l (l.length : Int) (wrap64 ((i : Int) + 1)) l l1 l2) else (some t495))) r → Ev (fun k => data_checker_checkNodes.l0 k l (l.length : Int) (i : Int) l l1 l2) r := fun {r} h => go (by
          simp only [if_neg c1, if_neg c2, if_neg c3, decide_eq_false c4]
          exact Ev.step (fun k => by simp only [data_checker_checkNodes.j1, Bool.false_eq_true, if_false] <;> rfl) (Ev.step (fun k => by simp only [data_checker_checkNodes.j2, if_true] <;> rfl) h))
        by_cases c5 : e = 0
        · refine .inr ⟨fun _ => hw c5, fun r ih => g2 (Ev.bind he ?_)⟩
          simp only [if_pos c5]
          rw [wrn i (by omega)]
          exact ih
        · exact .inl ⟨e, c5, g2 (Ev.bind he (by simp only [if_neg c5]; exact Ev.now _))⟩
      · refine .inl ⟨t, ht, hl0 ?_⟩
        simp only [Option.bind_some, if_neg ht]
        exact Ev.step (fun k => by simp only [data_checker_checkNodes.j1, Bool.false_eq_true, if_false] <;> rfl) (hj2 t ht))
    l.length 0 (by omega)
  exact ⟨e, he, fun h0 => all_mem fun j hj => hr h0 j (by omega) hj hj⟩
theorem chk_ways (l0 : List S53) (l : List S56) (l2 : List S59) (hl : l.length ≤ 10000) (hi : ∀ x ∈ l, ∀ n ∈ x.f1, InI n) : ∃ e, Ev (fun k => data_checker_checkWays.f k l0 l l2) e ∧ (e = 0 → ∀ x ∈ l, (x.f1.length : Int) ≤ 2000 ∧ wTags x.f2) := by
  unfold data_checker_checkWays.f
  obtain ⟨e, he, hr⟩ := ev_exI l.length (fun k i => data_checker_checkWays.l0 k l (l.length : Int) (i : Int) l0 l l2) (fun i => ∀ h : i < l.length, (l[i].f1.length : Int) ≤ 2000 ∧ wTags l[i].f2)
    (Ev.step (f := fun _ => some 0) (fun k => by simp only [data_checker_checkWays.l0]; rw [if_neg (by omega)]) (Ev.now _))
    (fun i hi' => by
      have hid : data_ids_by_data_checker_checkWays_1.f (i : Int) l0 l l2 = some (idsF (fun j => (rd_T56 l j).f0) (i : Int)) := by
        unfold data_ids_by_data_checker_checkWays_1.f
        rw [if_pos (by omega), if_pos (by omega)]
      generalize idsF (fun j => (rd_T56 l j).f0) (i : Int) = t at hid
      have hcf : slices_ContainsFunc_int_int_by_data_checker_checkWays_2.f l[i].f1 l0 l l2 = some (l[i].f1.any (fun n => !(l0.map (fun x => x.f0)).contains n)) := by
        unfold slices_ContainsFunc_int_int_by_data_checker_checkWays_2.f
        rw [if_pos (hi _ (List.getElem_mem hi'))]
      generalize l[i].f1.any (fun n => !(l0.map (fun x => x.f0)).contains n) = q at hcf
      have hl0 : ∀ {r} {f : Nat → Option Int}, (∀ k, data_checker_checkWays.l0 (k + 1) l (l.length : Int) (i : Int) l0 l l2 = f k) → Ev f r → Ev (fun k => data_checker_checkWays.l0 k l (l.length : Int) (i : Int) l0 l l2) r := fun h k => Ev.step h k
      by_cases ht : t = 0
      · subst ht
        by_cases c1 : (l[i].f1.length : Int) < 2
        · exact .inl ⟨12, by decide, hl0 (f := fun _ => some 12) (fun k => by simp only [data_checker_checkWays.l0]; rw [if_pos (by omega), if_pos (by omega), if_pos (by omega), hid, Option.bind_some, if_pos rfl, rd56' l i hi', if_pos c1, if_neg (by decide)]) (Ev.now _)⟩
        by_cases c2 : (l[i].f1.length : Int) > 2000
        · exact .inl ⟨5, by decide, hl0 (f := fun _ => some 5) (fun k => by simp only [data_checker_checkWays.l0]; rw [if_pos (by omega), if_pos (by omega), if_pos (by omega), hid, Option.bind_some, if_pos rfl, rd56' l i hi', if_neg c1, if_pos c2, if_neg (by decide)]) (Ev.now _)⟩
        cases q with
        | true => exact .inl ⟨9, by decide, hl0 (f := fun _ => some 9) (fun k => by simp only [data_checker_checkWays.l0]; rw [if_pos (by omega), if_pos (by omega), if_pos (by omega), hid, Option.bind_some, if_pos rfl, rd56' l i hi', if_neg c1, if_neg c2, hcf, Option.bind_some, if_pos rfl, if_neg (by decide)]) (Ev.now _)⟩
        | false =>
          obtain ⟨e, he, hw⟩ := chk_tags l[i].f2
          have g2 : ∀ {r}, Ev (fun k => (tags_Check.f k l[i].f2).bind fun t501 => (if t501 = 0 then (data_checker_checkWays.l0 k l (l.length : Int) (wrap64 ((i : Int) + 1)) l0 l l2) else (some t501))) r → Ev (fun k => data_checker_checkWays.l0 k l (l.length : Int) (i : Int) l0 l l2) r := fun {r} h => hl0 (fun k => by
            simp only [data_checker_checkWays.l0]; rw [if_pos (by omega), if_pos (by omega), if_pos (by omega), hid, Option.bind_some, if_pos rfl, rd56' l i hi', if_neg c1, if_neg c2, hcf, Option.bind_some, if_neg (by decide)]) h
          by_cases c5 : e = 0
          · refine .inr ⟨fun _ => ⟨by omega, hw c5⟩, fun r ih => g2 (Ev.bind he ?_)⟩
            simp only [if_pos c5]
            rw [wrn i (by omega)]
            exact ih
          · exact .inl ⟨e, c5, g2 (Ev.bind he (by simp only [if_neg c5]; exact Ev.now _))⟩
      · exact .inl ⟨t, ht, hl0 (f := fun _ => some t) (fun k => by simp only [data_checker_checkWays.l0]; rw [if_pos (by omega), if_pos (by omega), if_pos (by omega), hid, Option.bind_some, if_neg ht]) (Ev.now _)⟩)
    l.length 0 (by omega)
  exact ⟨e, he, fun h0 => all_mem fun j hj => hr h0 j (by omega) hj hj⟩
theorem chk_rels (l0 : List S53) (l1 : List S56) (l : List S59) (hl : l.length ≤ 10000) (hi : ∀ x ∈ l, ∀ m ∈ x.f1, InI m.f0.f1) : ∃ e, Ev (fun k => data_checker_checkRels.f k l0 l1 l) e ∧ (e = 0 → ∀ x ∈ l, ((x.f1.length : Int) ≤ 200 ∧ ∀ y ∈ x.f1, y.f1.size ≤ 64) ∧ wTags x.f2) := by
  unfold data_checker_checkRels.f
  obtain ⟨e, he, hr⟩ := ev_exI l.length (fun k i => data_checker_checkRels.l0 k l (l.length : Int) (i : Int) l0 l1 l) (fun i => ∀ h : i < l.length, ((l[i].f1.length : Int) ≤ 200 ∧ ∀ y ∈ l[i].f1, y.f1.size ≤ 64) ∧ wTags l[i].f2)
    (Ev.step (f := fun _ => some 0) (fun k => by simp only [data_checker_checkRels.l0]; rw [if_neg (by omega)]) (Ev.now _))
    (fun i hi' => by
      have hid : data_ids_by_data_checker_checkRels_1.f (i : Int) l0 l1 l = some (idsF (fun j => (rd_T59 l j).f0) (i : Int)) := by
        unfold data_ids_by_data_checker_checkRels_1.f
        rw [if_pos (by omega), if_pos (by omega)]
      generalize idsF (fun j => (rd_T59 l j).f0) (i : Int) = t at hid
      have hms : api_Member_by_data_checker_missing.f l[i].f1 l0 l1 l = some (l[i].f1.any (missF (l0.map (fun x => x.f0)) (l1.map (fun x => x.f0)))) := by
        unfold api_Member_by_data_checker_missing.f
        rw [if_pos (hi _ (List.getElem_mem hi'))]
      generalize l[i].f1.any (missF (l0.map (fun x => x.f0)) (l1.map (fun x => x.f0))) = q at hms
      have hj : Ev (fun k => data_checker_checkRels.j1 k l (l.length : Int) (i : Int) true l0 l1 l l[i].f0 l[i].f1 l[i].f2) 5 := Ev.step (f := fun _ => some 5) (fun k => by simp only [data_checker_checkRels.j1, if_true]; rw [if_neg (by decide)]) (Ev.now _)
      by_cases ht : t = 0
      · subst ht
        by_cases c1 : (l[i].f1.length : Int) > 200
        · exact .inl ⟨5, by decide, Ev.step (fun k => by simp only [data_checker_checkRels.l0]; rw [if_pos (by omega), if_pos (by omega), if_pos (by omega), hid, Option.bind_some, if_pos rfl, rd59' l i hi', if_pos c1]) hj⟩
        have hl0 : ∀ {r}, Ev (fun k => data_checker_checkRels.j1 k l (l.length : Int) (i : Int) (l[i].f1.any (fun x => decide ((x.f1.size : Int) > 64))) l0 l1 l l[i].f0 l[i].f1 l[i].f2) r → Ev (fun k => data_checker_checkRels.l0 k l (l.length : Int) (i : Int) l0 l1 l) r := fun {r} h =>
          Ev.step (fun k => by simp only [data_checker_checkRels.l0]; rw [if_pos (by omega), if_pos (by omega), if_pos (by omega), hid, Option.bind_some, if_pos rfl, rd59' l i hi', if_neg c1]; unfold api_Member_by_data_checker_checkRels_2.f; rw [Option.bind_some]) h
        cases hb : l[i].f1.any (fun x => decide ((x.f1.size : Int) > 64)) with
        | true => rw [hb] at hl0; exact .inl ⟨5, by decide, hl0 hj⟩
        | false =>
          rw [hb] at hl0
          have hsm : ∀ y ∈ l[i].f1, y.f1.size ≤ 64 := fun y hy => by
            have := List.any_eq_false.1 hb y hy
            simp at this
            omega
          cases q with
          | true => exact .inl ⟨9, by decide, hl0 (Ev.step (f := fun _ => some 9) (fun k => by simp only [data_checker_checkRels.j1, Bool.false_eq_true, if_false]; rw [hms, Option.bind_some, if_pos rfl, if_neg (by decide)]) (Ev.now _))⟩
          | false =>
            obtain ⟨e, he, hw⟩ := chk_tags l[i].f2
            have g2 : ∀ {r}, Ev (fun k => (tags_Check.f k l[i].f2).bind fun t508 => (if t508 = 0 then (data_checker_checkRels.l0 k l (l.length : Int) (wrap64 ((i : Int) + 1)) l0 l1 l) else (some t508))) r → Ev (fun k => data_checker_checkRels.l0 k l (l.length : Int) (i : Int) l0 l1 l) r := fun {r} h => hl0 (Ev.step (fun k => by
              simp only [data_checker_checkRels.j1, Bool.false_eq_true, if_false]; rw [hms, Option.bind_some, if_neg (by decide)]) h)
            by_cases c5 : e = 0
            · refine .inr ⟨fun _ => ⟨⟨by omega, hsm⟩, hw c5⟩, fun r ih => g2 (Ev.bind he ?_)⟩
              simp only [if_pos c5]
              rw [wrn i (by omega)]
              exact ih
            · exact .inl ⟨e, c5, g2 (Ev.bind he (by simp only [if_neg c5]; exact Ev.now _))⟩
      · exact .inl ⟨t, ht, Ev.step (f := fun _ => some t) (fun k => by simp only [data_checker_checkRels.l0]; rw [if_pos (by omega), if_pos (by omega), if_pos (by omega), hid, Option.bind_some, if_neg ht]) (Ev.now _)⟩)
    l.length 0 (by omega)
  exact ⟨e, he, fun h0 => all_mem fun j hj => hr h0 j (by omega) hj hj⟩
def idW (x : S26) : Prop := (∀ y ∈ x.f0, InI y.f0) ∧ (∀ y ∈ x.f1, InI y.f0 ∧ ∀ n ∈ y.f1, InI n) ∧ ∀ y ∈ x.f2, ∀ m ∈ y.f1, InI m.f0.f1
theorem chk_data (x : S26) (hw : wfD x) (hi : idW x) : ∃ e, Ev (fun k => data_Check.f k x.f0 x.f1 x.f2) e ∧ (e = 0 → wD x) := by
  unfold data_Check.f
  by_cases h : 10000 < x.f0.length ∨ 10000 < x.f1.length ∨ 10000 < x.f2.length
  · simp only [if_pos h]; exact ⟨5, Ev.now _, fun h => absurd h (by decide)⟩
  simp only [if_neg h, if_pos (show (∀ y ∈ x.f0, InI y.f0) ∧ (∀ y ∈ x.f1, InI y.f0) from ⟨hi.1, fun y hy => (hi.2.1 y hy).1⟩)]
  obtain ⟨e0, h0, r0⟩ := chk_nodes x.f0 x.f1 x.f2 (by omega)
  by_cases c0 : e0 = 0
  · obtain ⟨e1, h1, r1⟩ := chk_ways x.f0 x.f1 x.f2 (by omega) (fun y hy => (hi.2.1 y hy).2)
    by_cases c1 : e1 = 0
    · obtain ⟨e2, h2, r2⟩ := chk_rels x.f0 x.f1 x.f2 (by omega) hi.2.2
      refine ⟨e2, Ev.bind h0 (by simp only [if_pos c0]; exact Ev.bind h1 (by simp only [if_pos c1]; exact h2)), fun c2 => ?_⟩
      refine ⟨⟨by omega, fun y hy => ?_⟩, ⟨by omega, fun y hy => ?_⟩, by omega, fun y hy => ?_⟩
      · have w := hw.1.2 y hy
        exact ⟨w.1, w.2.1, w.2.2.1, r0 c0 y hy⟩
      · have w := hw.2.1.2 y hy
        exact ⟨w.1, ⟨(r1 c1 y hy).1, w.2.1.2⟩, (r1 c1 y hy).2⟩
      · have w := hw.2.2.2 y hy
        exact ⟨w.1, ⟨(r2 c2 y hy).1.1, fun z hz => ⟨(w.2.1.2 z hz).1, (w.2.1.2 z hz).2, (r2 c2 y hy).1.2 z hz⟩⟩, (r2 c2 y hy).2⟩
    · exact ⟨e1, Ev.bind h0 (by simp only [if_pos c0]; exact Ev.bind h1 (by simp only [if_neg c1]; exact Ev.now _)), fun h => absurd h c1⟩
  · exact ⟨e0, Ev.bind h0 (by simp only [if_neg c0]; exact Ev.now _), fun h => absurd h c0⟩
end Go.Proofs.Ytefambkodalomaa.Pure
