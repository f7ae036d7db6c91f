/- c15, plain: applying a Diff turns a dataset into the other one; equal datasets have no differences; Touched does not depend on the direction. -/
import Derived.Test.YtijoaohckgbneaaGreatPureDv
namespace Go.Proofs.YtijoaohckgbneaaGreat.Pure
open Go.RowKit Go.Proofs.YtijoaohckgbneaaGreat.PAll Go.Proofs.YtijoaohckgbneaaGreatG Go.Proofs.YtijoaohckgbneaaGreatW.PrintWords Go.Proofs.YtijoaohckgbneaaGreatW.PrintLast
set_option linter.unusedVariables false
set_option linter.unusedSimpArgs false
set_option maxRecDepth 100000 in
theorem livesAll : mapmakerlaw15_lives.f 60 = some true := by decide +kernel
theorem lives_ev : Ev (fun k => mapmakerlaw15_lives.f k) true := Ev.of (fun k => mapmakerlaw15_lives.mono k) livesAll
theorem fewL_ev {l0 : List S37} {l1 : List S40} {l2 : List S43} (hw : wf26 ⟨l0, l1, l2⟩) : Ev (fun k => mapmakerlaw15_few.f k l0 l1 l2) (decide (total l0 l1 l2 ≤ 200)) := by
  unfold mapmakerlaw15_few.f
  exact Ev.bind (few_evN ⟨l0, l1, l2⟩ hw 200 (by omega)) (Ev.now _)
theorem sameRefs_ev (l : List S48) (hl : l.length ≤ 1000000) : Ev (fun k => mapmakerref14_SameRefs.f k l l) true := by
  unfold mapmakerref14_SameRefs.f
  simp only [if_true]
  have h := ev_loop l.length (fun k i => mapmakerref14_SameRefs.l0 k l l (i : Int)) (fun _ => true)
    (Ev.step (f := fun _ => some true) (fun k => by simp only [mapmakerref14_SameRefs.l0]; rw [if_neg (by omega)]) (Ev.now _))
    (fun i hi ih => Ev.step (fun k => by
      simp only [mapmakerref14_SameRefs.l0]
      rw [if_pos (by omega), if_pos (by omega), if_pos (by omega), if_neg (by simp), wrap_succ i (by omega)]) ih)
    0 (by omega)
  exact h
theorem less_f {x y : S48} (h : ltR x y) : mapmakerref14_Less.f x.f0 x.f1 y.f0 y.f1 = some true := by
  unfold mapmakerref14_Less.f
  unfold ltR at h
  by_cases h1 : x.f0 < y.f0
  · rw [if_pos h1]
  · rw [if_neg h1, if_pos (by omega), decide_eq_true (by omega)]
section
variable {a0 b0 : List S37} {a1 b1 : List S40} {a2 b2 : List S43}
theorem turns_l0 (hL : Ev (fun k => (mapmakerlaw15_lives.f k).bind fun t => some t) true) (ha : Good a0 a1 a2) (hb : Good b0 b1 b2) (l : List S48) (hl : l.length ≤ 1000000) (hlt : l.Pairwise ltR) (hh : ∀ r ∈ l, Hs a0 a1 a2 r.f0 r.f1 ∨ Hs b0 b1 b2 r.f0 r.f1) :
    Ev (fun k => mapmakerlaw15_ChangeTurns.l0 k l 0 a0 a1 a2 b0 b1 b2) true := by
  have wa := wfD_of ⟨a0, a1, a2⟩ ha.1
  have wb := wfD_of ⟨b0, b1, b2⟩ hb.1
  have h := ev_loop l.length (fun k i => mapmakerlaw15_ChangeTurns.l0 k l (i : Int) a0 a1 a2 b0 b1 b2) (fun _ => true)
    (Ev.step (f := fun k => (mapmakerlaw15_lives.f k).bind fun t => some t) (fun k => by simp only [mapmakerlaw15_ChangeTurns.l0]; rw [if_neg (by omega)]) hL)
    (fun i hi ih => by
      have hr := hh l[i] (List.getElem_mem hi)
      have ea := ref_has a0 a1 a2 l[i].f0 l[i].f1 wa.1.1 wa.1.2.1 wa.1.2.2
      have eb := ref_has b0 b1 b2 l[i].f0 l[i].f1 wb.1.1 wb.1.2.1 wb.1.2.2
      have tail : ∀ k, (if (i : Int) > 0 then (if 0 ≤ (wrap64 ((i : Int) - 1)) then (if (wrap64 ((i : Int) - 1)) < (l.length : Int) then ((mapmakerref14_Less.f ((rd_T48 l (wrap64 ((i : Int) - 1))).f0) ((rd_T48 l (wrap64 ((i : Int) - 1))).f1) (l[i].f0) (l[i].f1)).bind fun t306 => (if t306 = true then (mapmakerlaw15_ChangeTurns.l0 k l (wrap64 ((i : Int) + 1)) a0 a1 a2 b0 b1 b2) else (some false))) else (none)) else (none)) else (mapmakerlaw15_ChangeTurns.l0 k l (wrap64 ((i : Int) + 1)) a0 a1 a2 b0 b1 b2)) = mapmakerlaw15_ChangeTurns.l0 k l ((i + 1 : Nat) : Int) a0 a1 a2 b0 b1 b2 := by
        intro k
        rw [wrap_succ i (by omega)]
        by_cases h0 : (i : Int) > 0
        · have e : wrap64 ((i : Int) - 1) = ((i - 1 : Nat) : Int) := by rw [wrapI (by omega)]; omega
          have hlt2 := (List.pairwise_iff_getElem.1 hlt) (i - 1) i (by omega) hi (by omega)
          rw [if_pos h0, e, if_pos (by omega), if_pos (by omega), rd48 l (i - 1) (by omega), less_f hlt2, Option.bind_some, if_pos rfl]
        · rw [if_neg h0]
      refine Ev.step (f := fun k => (mapmakerref14_Has.f k a0 a1 a2 l[i].f0 l[i].f1).bind fun t303 => (if t303 = true then mapmakerlaw15_ChangeTurns.l0 k l ((i + 1 : Nat) : Int) a0 a1 a2 b0 b1 b2 else ((mapmakerref14_Has.f k b0 b1 b2 l[i].f0 l[i].f1).bind fun t308 => (if t308 = true then mapmakerlaw15_ChangeTurns.l0 k l ((i + 1 : Nat) : Int) a0 a1 a2 b0 b1 b2 else some false)))) (fun k => ?_) (Ev.bind ea ?_)
      · simp only [mapmakerlaw15_ChangeTurns.l0]
        rw [if_pos (by omega), if_pos (by omega), rd48 l i hi]
        simp only [tail k]
      · by_cases hA : hasV a0 a1 a2 l[i].f0 l[i].f1 = true
        · simp only [if_pos hA]
          exact ih
        · simp only [if_neg hA]
          have hB : hasV b0 b1 b2 l[i].f0 l[i].f1 = true := by
            rw [hasV_iff] at hA ⊢
            exact hr.resolve_left hA
          refine Ev.bind eb ?_
          simp only [if_pos hB]
          exact ih)
    0 (by omega)
  exact h
end
theorem ChangeTurns : mapmakerlaw15_ChangeTurns.Pure := by
  intro a b wa wb
  refine Ev.rounds (g := fun k => mapmakerlaw15_ChangeTurns.f k a.f0 a.f1 a.f2 b.f0 b.f1 b.f2) ?_
  obtain ⟨a0, a1, a2⟩ := a
  obtain ⟨b0, b1, b2⟩ := b
  dsimp only
  have hL : Ev (fun k => (mapmakerlaw15_lives.f k).bind fun t => some t) true := Ev.bind lives_ev (Ev.now true)
  have hj : Ev (fun k => mapmakerlaw15_ChangeTurns.j0 k true a0 a1 a2 b0 b1 b2) true := Ev.step (f := fun k => (mapmakerlaw15_lives.f k).bind fun t => some t) (fun k => by simp only [mapmakerlaw15_ChangeTurns.j0, if_true]) hL
  unfold mapmakerlaw15_ChangeTurns.f
  refine Ev.bind (fewL_ev wa) ?_
  by_cases hfa : total a0 a1 a2 ≤ 200
  case neg =>
    simp only [decide_eq_false hfa, Bool.false_eq_true, if_false]
    exact hj
  simp only [decide_eq_true hfa, if_true]
  refine Ev.bind (fewL_ev wb) ?_
  by_cases hfb : total b0 b1 b2 ≤ 200
  case neg =>
    simp only [decide_eq_false hfb, Bool.false_eq_true, if_false]
    exact hj
  simp only [decide_eq_true hfb, if_true]
  have da := wfD_of ⟨a0, a1, a2⟩ wa
  have db := wfD_of ⟨b0, b1, b2⟩ wb
  refine Ev.bind (ref_check a0 a1 a2 da.1.1 da.1.2.1 da.1.2.2) ?_
  by_cases ca : chk a0 a1 a2 = 0
  case neg =>
    simp only [if_neg ca]
    exact hj
  simp only [if_pos ca]
  refine Ev.bind (ref_check b0 b1 b2 db.1.1 db.1.2.1 db.1.2.2) ?_
  by_cases cb : chk b0 b1 b2 = 0
  case neg =>
    have e : (chk b0 b1 b2 != 0) = true := bne_iff_ne.mpr cb
    simp only [e]
    exact hj
  have e : (chk b0 b1 b2 != 0) = false := bne_eq_false_iff_eq.mpr cb
  simp only [e]
  have ga : Good a0 a1 a2 := ⟨wa, ca⟩
  have gb : Good b0 b1 b2 := ⟨wb, cb⟩
  have sa : a0.length ≤ 200 ∧ a1.length ≤ 200 ∧ a2.length ≤ 200 := by unfold total at hfa; omega
  have sb : b0.length ≤ 200 ∧ b1.length ≤ 200 ∧ b2.length ≤ 200 := by unfold total at hfb; omega
  have hdl := diff_len (a0 := a0) (a1 := a1) (a2 := a2) (b0 := b0) (b1 := b1) (b2 := b2)
  have hap : Ev (fun k => change_Apply.f k a0 a1 a2 (diffV a0 a1 a2 b0 b1 b2)) (b0, b1, b2, 0) := by
    unfold change_Apply.f
    refine Ev.bind (prog_check a0 a1 a2 da) ?_
    simp only [if_pos ca, if_neg (show ¬ 10000 < (diffV a0 a1 a2 b0 b1 b2).length by omega)]
    have hgc : GC (diffV a0 a1 a2 b0 b1 b2) = true := by
      have z0 : (Lit.int .i64 0).wf = true := rfl
      unfold GC
      rw [List.all_eq_true]
      intro x hx
      unfold diffV at hx
      simp only [List.mem_append, List.mem_map] at hx
      simp only [Bool.and_eq_true]
      rcases hx with ((⟨y, hy, rfl⟩ | ⟨y, hy, rfl⟩) | ⟨y, hy, rfl⟩) | ((⟨y, hy, rfl⟩ | ⟨y, hy, rfl⟩) | ⟨y, hy, rfl⟩)
      · exact ⟨⟨z0, z0⟩, (wa.2.2.2 y (mem_gone.1 hy).1).1⟩
      · exact ⟨⟨z0, (wa.2.1.2 y (mem_gone.1 hy).1).1⟩, z0⟩
      · exact ⟨⟨(wa.1.2 y (mem_gone.1 hy).1).1, z0⟩, z0⟩
      · exact ⟨⟨(wb.1.2 y (List.mem_filter.1 hy).1).1, z0⟩, z0⟩
      · exact ⟨⟨z0, (wb.2.1.2 y (List.mem_filter.1 hy).1).1⟩, z0⟩
      · exact ⟨⟨z0, z0⟩, (wb.2.2.2 y (List.mem_filter.1 hy).1).1⟩
    have hg : (GD a0 a1 a2 && GC (diffV a0 a1 a2 b0 b1 b2)) = true := by rw [chk_good ca, hgc]; rfl
    simp only [if_pos hg, apply_diff ga.rs gb.rs, if_true]
    refine Ev.bind (prog_check b0 b1 b2 db) ?_
    simp only [if_pos cb]
    exact Ev.now _
  refine Ev.step (f := fun k => ((change_Diff.f k a0 a1 a2 b0 b1 b2).bind fun t276 => ((change_Apply.f k a0 a1 a2 t276).bind fun bt279 => ((change_Touched.f k a0 a1 a2 b0 b1 b2).bind fun t290 => (if bt279.2.2.2 = 0 then ((mapmakerref14_Same.f k bt279.1 bt279.2.1 bt279.2.2.1 b0 b1 b2).bind fun t293 => (if t293 = true then ((change_Diff.f k b0 b1 b2 bt279.1 bt279.2.1 bt279.2.2.1).bind fun t294 => (if (t294.length : Int) = 0 then (if (t290.length : Int) = (t276.length : Int) then ((change_Touched.f k b0 b1 b2 a0 a1 a2).bind fun t297 => ((mapmakerref14_SameRefs.f k t290 t297).bind fun t300 => (mapmakerlaw15_ChangeTurns.j1 k t290 (!t300) a0 a1 a2 b0 b1 b2))) else (mapmakerlaw15_ChangeTurns.j1 k t290 true a0 a1 a2 b0 b1 b2)) else (mapmakerlaw15_ChangeTurns.j1 k t290 true a0 a1 a2 b0 b1 b2))) else (mapmakerlaw15_ChangeTurns.j1 k t290 true a0 a1 a2 b0 b1 b2))) else (mapmakerlaw15_ChangeTurns.j1 k t290 true a0 a1 a2 b0 b1 b2))))))
    (fun k => by simp only [mapmakerlaw15_ChangeTurns.j0]; rw [if_neg (by decide)]) ?_
  refine Ev.bind (diff_ev ga gb) (Ev.bind hap (Ev.bind (touch_ev ga gb) ?_))
  simp only [if_true]
  refine Ev.bind (ref_same ⟨b0, b1, b2⟩ ⟨b0, b1, b2⟩ wb) ?_
  rw [dataEq_refl]
  simp only [if_true]
  refine Ev.bind (diff_ev gb gb) ?_
  rw [diff_self]
  have tl := touch_len (a0 := a0) (a1 := a1) (a2 := a2) (b0 := b0) (b1 := b1) (b2 := b2)
  simp only [List.length_nil, if_pos (show ((0 : Nat) : Int) = 0 by rfl), if_pos (show ((touchV a0 a1 a2 b0 b1 b2).length : Int) = ((diffV a0 a1 a2 b0 b1 b2).length : Int) by omega)]
  refine Ev.bind (touch_ev gb ga) ?_
  rw [← touch_symm ga.rs gb.rs]
  refine Ev.bind (sameRefs_ev _ (by omega)) ?_
  refine Ev.step (f := fun k => mapmakerlaw15_ChangeTurns.l0 k (touchV a0 a1 a2 b0 b1 b2) 0 a0 a1 a2 b0 b1 b2) (fun k => by simp only [mapmakerlaw15_ChangeTurns.j1]; rw [if_neg (by decide)]) ?_
  exact turns_l0 hL ga gb _ (by omega) (touch_rising ga.rs gb.rs) (fun r hr => touch_has ga.rs gb.rs hr)
end Go.Proofs.YtijoaohckgbneaaGreat.Pure
