/- c14, plain: ways and relations: data.Check and its reference answer alike; Few; the examples. -/
import Derived.Test.YtgenbepicnbecaaPureCore
namespace Go.Proofs.Ytgenbepicnbecaa.Pure
open Go.RowKit Go.Proofs.Ytgenbepicnbecaa.PAll Go.Proofs.YtgenbepicnbecaaW.PrintWords Go.Proofs.YtgenbepicnbecaaW.PrintLast
set_option linter.unusedVariables false
set_option linter.unusedSimpArgs false
def WfD (l0 : List S39) (l1 : List S45) (l2 : List S51) : Prop := (l0.length ≤ 140737488355328 ∧ l1.length ≤ 140737488355328 ∧ l2.length ≤ 140737488355328) ∧ (∀ x ∈ l0, InI x.f0) ∧ (∀ x ∈ l1, InI x.f0 ∧ x.f1.length ≤ 140737488355328 ∧ ∀ n ∈ x.f1, InI n) ∧ (∀ x ∈ l2, x.f1.length ≤ 140737488355328 ∧ ∀ m ∈ x.f1, InI m.f0.f1)
def i39 (l : List S39) : List Int := l.map (fun x => x.f0)
def i45 (l : List S45) : List Int := l.map (fun x => x.f0)
def i51 (l : List S51) : List Int := l.map (fun x => x.f0)
theorem nodeV_has (l : List S39) (a : Int) : (nodeV l a).2.2.2.2 = (i39 l).contains a := find_has (fun x : S39 => x.f0) l a
theorem wayV_has (l : List S45) (a : Int) : (wayV l a).2.2.2 = (i45 l).contains a := find_has (fun x : S45 => x.f0) l a
theorem relV_has (l : List S51) (a : Int) : (relV l a).2.2.2 = (i51 l).contains a := find_has (fun x : S51 => x.f0) l a
def hasV (l0 : List S39) (l1 : List S45) (l2 : List S51) (a b : Int) : Bool := if a = 1 then (i39 l0).contains b else if a = 2 then (i45 l1).contains b else if (i51 l2).contains b = true then a == 3 else false
theorem ref_has (l0 : List S39) (l1 : List S45) (l2 : List S51) (a b : Int) (h0 : l0.length ≤ 140737488355328) (h1 : l1.length ≤ 140737488355328) (h2 : l2.length ≤ 140737488355328) : Ev (fun k => mapmakerref14_Has.f k l0 l1 l2 a b) (hasV l0 l1 l2 a b) := by
  unfold mapmakerref14_Has.f hasV
  by_cases c1 : a = 1
  · simp only [if_pos c1]
    rw [← nodeV_has]
    exact Ev.bind (ref_node l0 l1 l2 b h0) (Ev.now _)
  · simp only [if_neg c1]
    by_cases c2 : a = 2
    · simp only [if_pos c2]
      rw [← wayV_has]
      exact Ev.bind (ref_way1 l0 l1 l2 b h1) (Ev.now _)
    · simp only [if_neg c2]
      rw [← relV_has]
      refine Ev.bind (ref_rel1 l0 l1 l2 b h2) ?_
      by_cases c3 : (relV l2 b).2.2.2 = true
      · simp only [if_pos c3]; exact Ev.now _
      · simp only [if_neg c3]; exact Ev.now _
def t39 (l : List S39) : Nat := (l.map (fun x => x.f2.length)).sum
def t45 (l : List S45) : Nat := (l.map (fun x => x.f1.length + x.f2.length)).sum
def t51 (l : List S51) : Nat := (l.map (fun x => x.f1.length + x.f2.length)).sum
theorem few_l2 (l0 : List S39) (l1 : List S45) (l2 : List S51) (n : Nat) (hn : n ≤ 1000000) (hl : l2.length ≤ 140737488355328) (hp : ∀ x ∈ l2, x.f1.length ≤ 140737488355328 ∧ x.f2.length ≤ 140737488355328) :
    ∀ d i acc, i ≤ l2.length → l2.length - i = d → Ev (fun k => mapmakerref14_Few.l2 k (n : Int) ((acc : Nat) : Int) (i : Int) l0 l1 l2) (decide (acc + t51 (l2.drop i) ≤ n)) := by
  intro d
  induction d with
  | zero =>
    intro i acc hi hd
    have e : i = l2.length := by omega
    subst e
    refine Ev.step (f := fun _ => some (decide (acc + t51 (l2.drop l2.length) ≤ n))) (fun k => ?_) (Ev.now _)
    simp only [mapmakerref14_Few.l2]
    rw [if_neg (by omega), List.drop_length]
    simp [t51]
  | succ d ih =>
    intro i acc hi hd
    have hlt : i < l2.length := by omega
    obtain ⟨hp1, hp2⟩ := hp _ (List.getElem_mem hlt)
    have e : t51 (l2.drop i) = l2[i].f1.length + l2[i].f2.length + t51 (l2.drop (i + 1)) := by unfold t51; rw [List.drop_eq_getElem_cons hlt, List.map_cons, List.sum_cons]
    by_cases ha : (acc : Int) ≤ n
    · have h2 := ih (i + 1) (acc + l2[i].f1.length + l2[i].f2.length) (by omega) (by omega)
      rw [e, show acc + (l2[i].f1.length + l2[i].f2.length + t51 (l2.drop (i + 1))) = acc + l2[i].f1.length + l2[i].f2.length + t51 (l2.drop (i + 1)) by omega]
      refine Ev.step (fun k => ?_) h2
      simp only [mapmakerref14_Few.l2]
      rw [if_pos (by omega), if_pos ha, if_pos (by omega), rd51 l2 i hlt, wrapI (n := (acc : Int) + _) (by omega), wrapI (by omega), wrap_succ i (by omega)]
      push_cast
      rfl
    · refine Ev.step (f := fun _ => some (decide (acc + t51 (l2.drop i) ≤ n))) (fun k => ?_) (Ev.now _)
      simp only [mapmakerref14_Few.l2]
      rw [if_pos (by omega), if_neg ha, decide_eq_false ha, decide_eq_false (by omega)]
theorem few_l1 (l0 : List S39) (l1 : List S45) (l2 : List S51) (n : Nat) (hn : n ≤ 1000000) (hl1 : l1.length ≤ 140737488355328) (hp1 : ∀ x ∈ l1, x.f1.length ≤ 140737488355328 ∧ x.f2.length ≤ 140737488355328) (hl2 : l2.length ≤ 140737488355328) (hp2 : ∀ x ∈ l2, x.f1.length ≤ 140737488355328 ∧ x.f2.length ≤ 140737488355328) :
    ∀ d i acc, i ≤ l1.length → l1.length - i = d → Ev (fun k => mapmakerref14_Few.l1 k (n : Int) ((acc : Nat) : Int) (i : Int) l0 l1 l2) (decide (acc + t45 (l1.drop i) + t51 l2 ≤ n)) := by
  have hj : ∀ acc : Nat, Ev (fun k => mapmakerref14_Few.j3 k (n : Int) (acc : Int) l0 l1 l2) (decide (acc + t51 l2 ≤ n)) := fun acc =>
    Ev.step (fun k => by simp only [mapmakerref14_Few.j3]; rfl) (few_l2 l0 l1 l2 n hn hl2 hp2 l2.length 0 acc (by omega) (by omega))
  intro d
  induction d with
  | zero =>
    intro i acc hi hd
    have e : i = l1.length := by omega
    subst e
    have h := hj acc
    rw [List.drop_length]
    refine Ev.step (fun k => ?_) (by simpa [t45] using h)
    simp only [mapmakerref14_Few.l1]
    rw [if_neg (by omega)]
  | succ d ih =>
    intro i acc hi hd
    have hlt : i < l1.length := by omega
    obtain ⟨q1, q2⟩ := hp1 _ (List.getElem_mem hlt)
    have e : t45 (l1.drop i) = l1[i].f1.length + l1[i].f2.length + t45 (l1.drop (i + 1)) := by unfold t45; rw [List.drop_eq_getElem_cons hlt, List.map_cons, List.sum_cons]
    by_cases ha : (acc : Int) ≤ n
    · have h2 := ih (i + 1) (acc + l1[i].f1.length + l1[i].f2.length) (by omega) (by omega)
      rw [e, show acc + (l1[i].f1.length + l1[i].f2.length + t45 (l1.drop (i + 1))) + t51 l2 = acc + l1[i].f1.length + l1[i].f2.length + t45 (l1.drop (i + 1)) + t51 l2 by omega]
      refine Ev.step (fun k => ?_) h2
      simp only [mapmakerref14_Few.l1]
      rw [if_pos (by omega), if_pos ha, if_pos (by omega), rd45 l1 i hlt, wrapI (n := (acc : Int) + _) (by omega), wrapI (by omega), wrap_succ i (by omega)]
      push_cast
      rfl
    · have h := hj acc
      have e1 : decide (acc + t51 l2 ≤ n) = decide (acc + t45 (l1.drop i) + t51 l2 ≤ n) := by rw [decide_eq_false (by omega), decide_eq_false (by omega)]
      rw [e1] at h
      refine Ev.step (fun k => ?_) h
      simp only [mapmakerref14_Few.l1]
      rw [if_pos (by omega), if_neg ha]
theorem few_l0 (l0 : List S39) (l1 : List S45) (l2 : List S51) (n : Nat) (hn : n ≤ 1000000) (hl0 : l0.length ≤ 140737488355328) (hp0 : ∀ x ∈ l0, x.f2.length ≤ 140737488355328) (hl1 : l1.length ≤ 140737488355328) (hp1 : ∀ x ∈ l1, x.f1.length ≤ 140737488355328 ∧ x.f2.length ≤ 140737488355328) (hl2 : l2.length ≤ 140737488355328) (hp2 : ∀ x ∈ l2, x.f1.length ≤ 140737488355328 ∧ x.f2.length ≤ 140737488355328) :
    ∀ d i acc, i ≤ l0.length → l0.length - i = d → Ev (fun k => mapmakerref14_Few.l0 k (n : Int) ((acc : Nat) : Int) (i : Int) l0 l1 l2) (decide (acc + t39 (l0.drop i) + t45 l1 + t51 l2 ≤ n)) := by
  have hj : ∀ acc : Nat, Ev (fun k => mapmakerref14_Few.j1 k (n : Int) (acc : Int) l0 l1 l2) (decide (acc + t45 l1 + t51 l2 ≤ n)) := fun acc =>
    Ev.step (fun k => by simp only [mapmakerref14_Few.j1]; rfl) (few_l1 l0 l1 l2 n hn hl1 hp1 hl2 hp2 l1.length 0 acc (by omega) (by omega))
  intro d
  induction d with
  | zero =>
    intro i acc hi hd
    have e : i = l0.length := by omega
    subst e
    have h := hj acc
    rw [List.drop_length]
    refine Ev.step (fun k => ?_) (by simpa [t39] using h)
    simp only [mapmakerref14_Few.l0]
    rw [if_neg (by omega)]
  | succ d ih =>
    intro i acc hi hd
    have hlt : i < l0.length := by omega
    have q2 := hp0 _ (List.getElem_mem hlt)
    have e : t39 (l0.drop i) = l0[i].f2.length + t39 (l0.drop (i + 1)) := by unfold t39; rw [List.drop_eq_getElem_cons hlt, List.map_cons, List.sum_cons]
    by_cases ha : (acc : Int) ≤ n
    · have h2 := ih (i + 1) (acc + l0[i].f2.length) (by omega) (by omega)
      rw [e, show acc + (l0[i].f2.length + t39 (l0.drop (i + 1))) + t45 l1 + t51 l2 = acc + l0[i].f2.length + t39 (l0.drop (i + 1)) + t45 l1 + t51 l2 by omega]
      refine Ev.step (fun k => ?_) h2
      simp only [mapmakerref14_Few.l0]
      rw [if_pos (by omega), if_pos ha, if_pos (by omega), rd39 l0 i hlt, wrapI (n := (acc : Int) + _) (by omega), wrap_succ i (by omega)]
      push_cast
      rfl
    · have h := hj acc
      have e1 : decide (acc + t45 l1 + t51 l2 ≤ n) = decide (acc + t39 (l0.drop i) + t45 l1 + t51 l2 ≤ n) := by rw [decide_eq_false (by omega), decide_eq_false (by omega)]
      rw [e1] at h
      refine Ev.step (fun k => ?_) h
      simp only [mapmakerref14_Few.l0]
      rw [if_pos (by omega), if_neg ha]
def total (l0 : List S39) (l1 : List S45) (l2 : List S51) : Nat := l0.length + l1.length + l2.length + t39 l0 + t45 l1 + t51 l2
theorem few_ev (x : S26) (w : wf26 x) : Ev (fun k => mapmakerref14_Few.f k x.f0 x.f1 x.f2 600) (decide (total x.f0 x.f1 x.f2 ≤ 600)) := by
  obtain ⟨⟨h0, p0⟩, ⟨h1, p1⟩, ⟨h2, p2⟩⟩ := w
  have h := few_l0 x.f0 x.f1 x.f2 600 (by omega) h0 (fun y hy => (p0 y hy).2.2.1) h1 (fun y hy => ⟨(p1 y hy).2.1.1, (p1 y hy).2.2.1⟩) h2 (fun y hy => ⟨(p2 y hy).2.1.1, (p2 y hy).2.2.1⟩) x.f0.length 0 (x.f0.length + x.f1.length + x.f2.length) (by omega) (by omega)
  refine Ev.congr (fun k => ?_) h
  unfold mapmakerref14_Few.f
  rw [wrapI (n := (x.f0.length : Int) + _) (by omega), wrapI (by omega), show ((x.f0.length : Int) + (x.f1.length : Int) + (x.f2.length : Int)) = ((x.f0.length + x.f1.length + x.f2.length : Nat) : Int) by omega]
  rfl
theorem wfD_of (x : S26) (w : wf26 x) : WfD x.f0 x.f1 x.f2 := by
  obtain ⟨⟨h0, p0⟩, ⟨h1, p1⟩, ⟨h2, p2⟩⟩ := w
  exact ⟨⟨h0, h1, h2⟩, fun y hy => (p0 y hy).1, fun y hy => ⟨(p1 y hy).1, (p1 y hy).2.1.1, (p1 y hy).2.1.2⟩, fun y hy => ⟨(p2 y hy).2.1.1, fun m hm => ((p2 y hy).2.1.2 m hm).1.2⟩⟩
set_option maxRecDepth 100000 in
theorem livesAll : mapmakerlaw14_lives.f 60 = some true := by decide +kernel
theorem lives_ev : Ev (fun k => mapmakerlaw14_lives.f k) true := Ev.of (fun k => mapmakerlaw14_lives.mono k) livesAll
end Go.Proofs.Ytgenbepicnbecaa.Pure
