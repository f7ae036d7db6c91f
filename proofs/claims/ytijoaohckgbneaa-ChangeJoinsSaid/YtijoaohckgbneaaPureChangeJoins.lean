/- c15, plain: two change files applied one after the other have the result of their concatenation, and the last change of an object counts. -/
import Derived.Test.YtijoaohckgbneaaPureJoin
namespace Go.Proofs.Ytijoaohckgbneaa.Pure
open Go.RowKit Go.Proofs.Ytijoaohckgbneaa.PAll Go.Proofs.YtijoaohckgbneaaG Go.Proofs.YtijoaohckgbneaaW.PrintWords Go.Proofs.YtijoaohckgbneaaW.PrintLast
set_option linter.unusedVariables false
set_option linter.unusedSimpArgs false
set_option maxRecDepth 100000 in
theorem livesAll : mapmakerlaw15_lives.f 60 = some true := by decide +kernel
theorem lives_ev : Ev (fun k => mapmakerlaw15_lives.f k) true := Ev.of (fun k => mapmakerlaw15_lives.mono k) livesAll
theorem fewL_ev {B : Nat} {l0 : List S42} {l1 : List S45} {l2 : List S48} (hw : wf26 ⟨l0, l1, l2⟩) : Ev (fun k => mapmakerlaw15_few.f k l0 l1 l2) (decide (total l0 l1 l2 ≤ 200)) := by
  unfold mapmakerlaw15_few.f
  exact Ev.bind (few_evN ⟨l0, l1, l2⟩ hw 200 (by omega)) (Ev.now _)
theorem short_ev (l : List S50) (hl : l.length ≤ 140737488355328) (hc : ∀ c ∈ l, wf50 c) : ∃ b, Ev (fun k => mapmakerlaw15_short.f k l) b ∧ (b = true → l.length ≤ 20) := by
  have go : ∀ d i : Nat, i ≤ l.length → i ≤ 21 → 21 - i = d → ∃ b, Ev (fun k => mapmakerlaw15_short.l0 k l (i : Int)) b ∧ (b = true → l.length ≤ 20) := by
    intro d
    have hend : ∀ i : Nat, (i = l.length ∨ i = 21) → i ≤ l.length → Ev (fun k => mapmakerlaw15_short.l0 k l (i : Int)) (decide ((l.length : Int) ≤ 20)) := by
      intro i hi hle
      refine Ev.step (f := fun k => mapmakerlaw15_short.j1 k l (i : Int) false) (fun k => ?_) (Ev.step (f := fun _ => some (decide ((l.length : Int) ≤ 20))) (fun k => ?_) (Ev.now _))
      · simp only [mapmakerlaw15_short.l0]
        by_cases h : (i : Int) < (l.length : Int)
        · rw [if_pos h, decide_eq_false (by omega)]
        · rw [if_neg h]
      · simp only [mapmakerlaw15_short.j1]
        rw [if_neg (by decide)]
    induction d with
    | zero =>
      intro i h1 h2 h3
      exact ⟨_, hend i (.inr (by omega)) h1, fun h => by have := of_decide_eq_true h; omega⟩
    | succ d ih =>
      intro i h1 h2 h3
      by_cases hlt : i < l.length
      · obtain ⟨b, hb, hbt⟩ := ih (i + 1) (by omega) (by omega) (by omega)
        have hx := hc l[i] (List.getElem_mem hlt)
        have hw : wf26 ⟨[l[i].f2], [l[i].f3], [l[i].f4]⟩ :=
          ⟨⟨by show 1 ≤ _; omega, fun y hy => by rw [List.mem_singleton.1 hy]; exact hx.2.2.1⟩, ⟨by show 1 ≤ _; omega, fun y hy => by rw [List.mem_singleton.1 hy]; exact hx.2.2.2.1⟩, ⟨by show 1 ≤ _; omega, fun y hy => by rw [List.mem_singleton.1 hy]; exact hx.2.2.2.2⟩⟩
        have hf := fewL_ev (B := 0) hw
        refine ⟨if total [l[i].f2] [l[i].f3] [l[i].f4] ≤ 200 then b else false, ?_, ?_⟩
        · refine Ev.step (f := fun k => mapmakerlaw15_short.j1 k l (i : Int) true) (fun k => ?_) (Ev.step (f := fun k => (mapmakerlaw15_few.f k [l[i].f2] [l[i].f3] [l[i].f4]).bind fun t121 => (if t121 = true then (mapmakerlaw15_short.l0 k l ((i + 1 : Nat) : Int)) else (some false))) (fun k => ?_) (Ev.bind hf ?_))
          · simp only [mapmakerlaw15_short.l0]
            rw [if_pos (by omega), decide_eq_true (by omega)]
          · simp only [mapmakerlaw15_short.j1]
            rw [if_pos trivial, if_pos (by omega), if_pos (by omega), rd50 l i hlt, wrap_succ i (by omega)]
          · by_cases ht : total [l[i].f2] [l[i].f3] [l[i].f4] ≤ 200
            · simp only [decide_eq_true ht, if_true, if_pos ht]
              exact hb
            · rw [if_neg ht]
              simp only [decide_eq_false ht, Bool.false_eq_true, if_false]
              exact Ev.now _
        · split
          · exact hbt
          · intro h; cases h
      · exact ⟨_, hend i (.inl (by omega)) h1, fun h => by have := of_decide_eq_true h; omega⟩
  exact go 21 0 (by omega) (by omega) (by omega)
section
variable {l : List S50} {c0 : List S42} {c1 : List S45} {c2 : List S48}
theorem join_l1 (hl : l.length ≤ 20) (hok : ∀ c ∈ l, okC c = true) (hB : c0.length ≤ 1000000 ∧ c1.length ≤ 1000000 ∧ c2.length ≤ 1000000) (i : Nat) (hi : i < l.length)
    (hlast : (∀ n, i < n → (hnl : n < l.length) → ¬ (l[n].f1 = l[i].f1 ∧ chID l[n] = chID l[i])) → (Hs c0 c1 c2 l[i].f1 (chID l[i]) ↔ l[i].f0 = 1))
    (hnext : Ev (fun k => mapmakerlaw15_ChangeJoins.l0 k l 0 ((i + 1 : Nat) : Int) c0 c1 c2) true) :
    ∀ d n (flag : Bool), i < n → n ≤ l.length → l.length - n = d → (flag = true → ∀ m, i < m → m < n → (hm : m < l.length) → ¬ (l[m].f1 = l[i].f1 ∧ chID l[m] = chID l[i])) → Ev (fun k => mapmakerlaw15_ChangeJoins.l1 k l 0 (i : Int) flag (n : Int) c0 c1 c2) true := by
  intro d
  induction d with
  | zero =>
    intro n flag h1 h2 h3 hf
    have e : n = l.length := by omega
    subst e
    cases flag with
    | true =>
      have hh := hlast (fun m hm hml => hf rfl m hm hml hml)
      have hr := okC_ref (hok l[i] (List.getElem_mem hi))
      refine Ev.step (f := fun k => ((mapmakerref14_Has.f k c0 c1 c2 l[i].f1 (chID l[i])).bind fun t272 => (if (t272 != (l[i].f0 == 1)) = true then (some false) else (mapmakerlaw15_ChangeJoins.l0 k l 0 ((i + 1 : Nat) : Int) c0 c1 c2)))) (fun k => ?_) (Ev.bind (ref_has c0 c1 c2 l[i].f1 (chID l[i]) (by omega) (by omega) (by omega)) ?_)
      · simp only [mapmakerlaw15_ChangeJoins.l1]
        rw [if_neg (by omega), if_pos trivial, if_pos (by omega), if_pos (by omega), rd50 l i hi, hr, Option.bind_some, wrap_succ i (by omega)]
      · have e : hasV c0 c1 c2 l[i].f1 (chID l[i]) = (l[i].f0 == 1) := by
          rw [Bool.eq_iff_iff, hasV_iff, hh]
          simp
        rw [e]
        simp only [bne_self_eq_false, Bool.false_eq_true, if_false]
        exact hnext
    | false =>
      refine Ev.step (f := fun k => mapmakerlaw15_ChangeJoins.l0 k l 0 ((i + 1 : Nat) : Int) c0 c1 c2) (fun k => ?_) hnext
      simp only [mapmakerlaw15_ChangeJoins.l1]
      rw [if_neg (by omega), if_neg (by decide), wrap_succ i (by omega)]
  | succ d ih =>
    intro n flag h1 h2 h3 hf
    have hlt : n < l.length := by omega
    cases flag with
    | true =>
      have hr := okC_ref (hok l[i] (List.getElem_mem hi))
      have hrn := okC_ref (hok l[n] (List.getElem_mem hlt))
      have hnx := ih (n + 1) (!(l[n].f1 == l[i].f1) || (!(chID l[n] == chID l[i]))) (by omega) (by omega) (by omega) (fun hfl m hm1 hm2 hm => by
        by_cases e : m = n
        · subst e
          rintro ⟨e1, e2⟩
          rw [e1, e2] at hfl
          simp at hfl
        · exact hf rfl m hm1 (by omega) hm)
      refine Ev.step (fun k => ?_) hnx
      simp only [mapmakerlaw15_ChangeJoins.l1]
      rw [if_pos (by omega), if_pos trivial, if_pos (by omega), rd50 l n hlt, hrn, Option.bind_some, if_pos (by omega), if_pos (by omega), rd50 l i hi, hr, Option.bind_some, wrap_succ n (by omega)]
    | false =>
      have hnx := ih (n + 1) false (by omega) (by omega) (by omega) (fun hfl => by cases hfl)
      refine Ev.step (fun k => ?_) hnx
      simp only [mapmakerlaw15_ChangeJoins.l1]
      rw [if_pos (by omega), if_neg (by decide), wrap_succ n (by omega)]
theorem join_l0 (hL : Ev (fun k => (mapmakerlaw15_lives.f k).bind fun t => some t) true) (hl : l.length ≤ 20) (hok : ∀ c ∈ l, okC c = true) (hB : c0.length ≤ 1000000 ∧ c1.length ≤ 1000000 ∧ c2.length ≤ 1000000)
    (hlast : ∀ i, (hi : i < l.length) → (∀ n, i < n → (hnl : n < l.length) → ¬ (l[n].f1 = l[i].f1 ∧ chID l[n] = chID l[i])) → (Hs c0 c1 c2 l[i].f1 (chID l[i]) ↔ l[i].f0 = 1)) :
    Ev (fun k => mapmakerlaw15_ChangeJoins.l0 k l 0 0 c0 c1 c2) true := by
  have h := ev_loop l.length (fun k i => mapmakerlaw15_ChangeJoins.l0 k l 0 (i : Int) c0 c1 c2) (fun _ => true)
    (Ev.step (f := fun k => mapmakerlaw15_ChangeJoins.j3 k l 0 (l.length : Int) false c0 c1 c2) (fun k => by simp only [mapmakerlaw15_ChangeJoins.l0]; rw [if_pos trivial, decide_eq_false (by omega)])
      (Ev.step (f := fun k => (mapmakerlaw15_lives.f k).bind fun t => some t) (fun k => by simp only [mapmakerlaw15_ChangeJoins.j3]; rw [if_neg (by decide)]) hL))
    (fun i hi ih => by
      have h1 := join_l1 hl hok hB i hi (hlast i hi) ih (l.length - (i + 1)) (i + 1) true (by omega) (by omega) rfl (fun _ m h1 h2 => absurd h1 (by omega))
      refine Ev.step (f := fun k => mapmakerlaw15_ChangeJoins.j3 k l 0 (i : Int) true c0 c1 c2) (fun k => ?_) (Ev.step (fun k => ?_) h1)
      · simp only [mapmakerlaw15_ChangeJoins.l0]
        rw [if_pos trivial, decide_eq_true (by omega)]
      · simp only [mapmakerlaw15_ChangeJoins.j3]
        rw [if_pos trivial, wrap_succ i (by omega)])
    0 (by omega)
  exact h
end
theorem ChangeJoins : mapmakerlaw15_ChangeJoins.Pure := by
  intro x l a2 w wl wa
  refine Ev.rounds (g := fun k => mapmakerlaw15_ChangeJoins.f k x.f0 x.f1 x.f2 l a2) ?_
  have ha : 0 ≤ a2 ∧ a2 < 256 := by
    simp [Lit.wf] at wa
    have e1 : IntKind.u8.min = 0 := rfl
    have e2 : IntKind.u8.max = 255 := rfl
    rw [e1, e2] at wa
    omega
  have hL : Ev (fun k => (mapmakerlaw15_lives.f k).bind fun t => some t) true := Ev.bind lives_ev (Ev.now true)
  have hj : Ev (fun k => mapmakerlaw15_ChangeJoins.j0 k l a2 true x.f0 x.f1 x.f2) true := Ev.step (f := fun k => (mapmakerlaw15_lives.f k).bind fun t => some t) (fun k => by simp only [mapmakerlaw15_ChangeJoins.j0, if_true]) hL
  unfold mapmakerlaw15_ChangeJoins.f
  refine Ev.bind (fewL_ev (B := 0) (l0 := x.f0) (l1 := x.f1) (l2 := x.f2) w) ?_
  by_cases hf : total x.f0 x.f1 x.f2 ≤ 200
  case neg =>
    simp only [decide_eq_false hf, Bool.false_eq_true, if_false]
    exact hj
  simp only [decide_eq_true hf, if_true]
  obtain ⟨b, hb, hbt⟩ := short_ev l wl.1 wl.2
  refine Ev.bind hb ?_
  cases b with
  | false => exact hj
  | true =>
  have hlen := hbt rfl
  have hs : x.f0.length ≤ 200 ∧ x.f1.length ≤ 200 ∧ x.f2.length ≤ 200 := by unfold total at hf; omega
  have hwE : WfE x.f0 x.f1 x.f2 := ⟨w.1.2, w.2.1.2, w.2.2.2⟩
  generalize x.f0 = l0 at *
  generalize x.f1 = l1 at *
  generalize x.f2 = l2 at *
  have e1 : wrap64 a2 = a2 := wrapI (by omega)
  have e2 : wrap64 ((l.length : Int) + 1) = ((l.length + 1 : Nat) : Int) := wrap_succ l.length (by omega)
  have e3 : Int.tmod a2 ((l.length + 1 : Nat) : Int) = a2 % ((l.length + 1 : Nat) : Int) := Int.tmod_eq_emod_of_nonneg ha.1
  have m1 : 0 ≤ a2 % ((l.length + 1 : Nat) : Int) := Int.emod_nonneg _ (by omega)
  have m2 : a2 % ((l.length + 1 : Nat) : Int) < ((l.length + 1 : Nat) : Int) := Int.emod_lt_of_pos _ (by omega)
  obtain ⟨q, hq⟩ : ∃ q : Nat, a2 % ((l.length + 1 : Nat) : Int) = (q : Int) := ⟨(a2 % ((l.length + 1 : Nat) : Int)).toNat, by omega⟩
  have hql : q ≤ l.length := by omega
  have hA : BdE 200 l0 l1 l2 := hs
  have hcT : ∀ c ∈ l.take q, wf50 c := fun c hc => wl.2 c (List.mem_of_mem_take hc)
  have hcD : ∀ c ∈ l.drop q, wf50 c := fun c hc => wl.2 c (List.mem_of_mem_drop hc)
  have v1 := apply_ev l0 l1 l2 (l.take q) hwE hA (by omega) (by rw [List.length_take]; omega) hcT
  have v3 := apply_ev l0 l1 l2 l hwE hA (by omega) hlen wl.2
  refine Ev.step (f := fun k => ((change_Apply.f k l0 l1 l2 (l.take q)).bind fun bt223 => (if bt223.2.2.2 = 0 then ((change_Apply.f k bt223.1 bt223.2.1 bt223.2.2.1 (l.drop q)).bind fun bt239 => ((change_Apply.f k l0 l1 l2 l).bind fun bt250 => (if bt239.2.2.2 = bt250.2.2.2 then (if bt239.2.2.2 = 0 then ((mapmakerref14_Same.f k bt239.1 bt239.2.1 bt239.2.2.1 bt250.1 bt250.2.1 bt250.2.2.1).bind fun t261 => (mapmakerlaw15_ChangeJoins.j1 k l bt239.2.2.2 (!t261) bt250.1 bt250.2.1 bt250.2.2.1)) else (mapmakerlaw15_ChangeJoins.j1 k l bt239.2.2.2 false bt250.1 bt250.2.1 bt250.2.2.1)) else (mapmakerlaw15_ChangeJoins.j1 k l bt239.2.2.2 true bt250.1 bt250.2.1 bt250.2.2.1)))) else ((mapmakerlaw15_lives.f k).bind fun t234 => (some t234)))))
    (fun k => by
      simp only [mapmakerlaw15_ChangeJoins.j0]
      rw [if_neg (by decide), e1, e2, e3, hq, if_neg (by omega), if_pos (by omega), if_pos (by omega), Int.toNat_natCast]) (Ev.bind v1 ?_)
  by_cases hz : (applyV l0 l1 l2 (l.take q)).2.2.2 = 0
  case neg =>
    simp only [if_neg hz]
    exact hL
  simp only [if_pos hz]
  obtain ⟨z1, z2, z3, z4⟩ := apply_zero hz
  obtain ⟨hb0, hr0⟩ := chk_parts z1
  obtain ⟨hw2, hb2⟩ := apAll_wf (l.take q) 10000 l0 l1 l2 hwE hb0 hr0 hcT
  have hlT : (l.take q).length ≤ 20 := by rw [List.length_take]; omega
  have v2 := apply_ev (applyV l0 l1 l2 (l.take q)).1 (applyV l0 l1 l2 (l.take q)).2.1 (applyV l0 l1 l2 (l.take q)).2.2.1 (l.drop q) (by rw [z4]; exact hw2) (by rw [z4]; exact hb2) (by omega) (by rw [List.length_drop]; omega) hcD
  have hj2 := apply_join (ys := l.drop q) hz
  rw [List.take_append_drop] at hj2
  rw [hj2] at v2
  refine Ev.bind v2 (Ev.bind v3 ?_)
  simp only [if_true]
  by_cases hy : (applyV l0 l1 l2 l).2.2.2 = 0
  case neg =>
    simp only [if_neg hy]
    refine Ev.step (f := fun k => mapmakerlaw15_ChangeJoins.l0 k l (applyV l0 l1 l2 l).2.2.2 0 (applyV l0 l1 l2 l).1 (applyV l0 l1 l2 l).2.1 (applyV l0 l1 l2 l).2.2.1) (fun k => by simp only [mapmakerlaw15_ChangeJoins.j1]; rw [if_neg (by decide)]) ?_
    refine Ev.step (f := fun k => mapmakerlaw15_ChangeJoins.j3 k l (applyV l0 l1 l2 l).2.2.2 0 false (applyV l0 l1 l2 l).1 (applyV l0 l1 l2 l).2.1 (applyV l0 l1 l2 l).2.2.1) (fun k => by simp only [mapmakerlaw15_ChangeJoins.l0]; rw [if_neg hy]) ?_
    exact Ev.step (f := fun k => (mapmakerlaw15_lives.f k).bind fun t => some t) (fun k => by simp only [mapmakerlaw15_ChangeJoins.j3]; rw [if_neg (by decide)]) hL
  obtain ⟨y1, y2, y3, y4⟩ := apply_zero hy
  obtain ⟨hw3, hb3⟩ := apAll_wf l 10000 l0 l1 l2 hwE hb0 hr0 wl.2
  have hlast := has_last l l0 l1 l2
  have hoks := apAll_ok l l0 l1 l2 y2
  rw [y4]
  generalize (apAll l l0 l1 l2).1 = c0 at *
  generalize (apAll l l0 l1 l2).2.1 = c1 at *
  generalize (apAll l l0 l1 l2).2.2.1 = c2 at *
  simp only [if_true]
  obtain ⟨g0, g1, g2⟩ := hb3
  refine Ev.bind (ref_same ⟨c0, c1, c2⟩ ⟨c0, c1, c2⟩ (wf26_of hw3 ⟨g0, g1, g2⟩ (by omega))) ?_
  rw [dataEq_refl]
  refine Ev.step (f := fun k => mapmakerlaw15_ChangeJoins.l0 k l 0 0 c0 c1 c2) (fun k => by simp only [mapmakerlaw15_ChangeJoins.j1]; rw [if_neg (by decide)]) ?_
  exact join_l0 hL hlen hoks ⟨by omega, by omega, by omega⟩ (fun i hi hn => hlast i hi y2 hn)
end Go.Proofs.Ytijoaohckgbneaa.Pure
