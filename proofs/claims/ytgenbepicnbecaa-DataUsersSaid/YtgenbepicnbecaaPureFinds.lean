/- c14, plain: Refs, Has, Tags: the program and its reference answer alike. -/
import Derived.Test.YtgenbepicnbecaaPureSame
import Derived.Test.YtgenbepicnbecaaPAllx0
import Derived.Test.YtgenbepicnbecaaPAllx5
import Derived.Test.YtgenbepicnbecaaPAllx9
import Derived.Test.YtgenbepicnbecaaPAllx10
import Derived.Test.YtgenbepicnbecaaPAllx12
import Derived.Test.YtgenbepicnbecaaPAllx15
import Derived.Test.YtgenbepicnbecaaPAllx22
import Derived.Test.YtgenbepicnbecaaPAllx24
import Derived.Test.YtgenbepicnbecaaPAllx1
import Derived.Test.YtgenbepicnbecaaPAllx3
namespace Go.Proofs.Ytgenbepicnbecaa.Pure
open Go.RowKit Go.Proofs.Ytgenbepicnbecaa.PAll Go.Proofs.YtgenbepicnbecaaW.PrintWords Go.Proofs.YtgenbepicnbecaaW.PrintLast
set_option linter.unusedVariables false
set_option linter.unusedSimpArgs false
def r39 (l : List S39) : List S34 := l.map fun x => ⟨1, x.f0⟩
def r45 (l : List S45) : List S34 := l.map fun x => ⟨2, x.f0⟩
def r51 (l : List S51) : List S34 := l.map fun x => ⟨3, x.f0⟩
def refsL (l0 : List S39) (l1 : List S45) (l2 : List S51) : List S34 := r39 l0 ++ r45 l1 ++ r51 l2
theorem prog_refs_2 (l0 : List S39) (l1 : List S45) (l2 : List S51) (hl0 : l0.length ≤ 1000000) (hl1 : l1.length ≤ 1000000) (hl2 : l2.length ≤ 1000000) : ∀ d i (acc : List S34), i ≤ l2.length → l2.length - i = d → acc.length + (l2.length - i) + (0) ≤ 1000000 → Ev (fun k => data_Refs.l2 k acc l2 (l2.length : Int) (i : Int)) (acc ++ r51 (l2.drop i)) := by
  intro d
  induction d with
  | zero =>
    intro i acc hi hd hB
    obtain rfl : i = l2.length := by omega
    have e : r51 (l2.drop l2.length) = [] := by rw [List.drop_length]; rfl
    rw [e, List.append_nil]
    exact Ev.step (f := fun _ => some acc) (fun k => by simp only [data_Refs.l2]; rw [if_neg (by omega)]) (Ev.now acc)
  | succ d ih =>
    intro i acc hi hd hB
    have hlt : i < l2.length := by omega
    have h := ih (i + 1) (acc ++ [⟨3, l2[i].f0⟩]) (by omega) (by omega) (by rw [List.length_append, List.length_singleton]; omega)
    have e : acc ++ r51 (l2.drop i) = acc ++ [⟨3, l2[i].f0⟩] ++ r51 (l2.drop (i + 1)) := by rw [List.drop_eq_getElem_cons hlt, List.append_assoc]; rfl
    rw [e]
    refine Ev.step (fun k => ?_) h
    simp only [data_Refs.l2]
    rw [if_pos (by omega), if_pos (by omega), if_pos (by omega), if_pos (by omega), rd51 l2 i hlt, wrap_succ i (by omega)]
theorem prog_refs_1 (l0 : List S39) (l1 : List S45) (l2 : List S51) (hl0 : l0.length ≤ 1000000) (hl1 : l1.length ≤ 1000000) (hl2 : l2.length ≤ 1000000) : ∀ d i (acc : List S34), i ≤ l1.length → l1.length - i = d → acc.length + (l1.length - i) + (l2.length) ≤ 1000000 → Ev (fun k => data_Refs.l1 k acc l1 (l1.length : Int) (i : Int) l0 l1 l2) (acc ++ r45 (l1.drop i) ++ r51 l2) := by
  intro d
  induction d with
  | zero =>
    intro i acc hi hd hB
    obtain rfl : i = l1.length := by omega
    have e : r45 (l1.drop l1.length) = [] := by rw [List.drop_length]; rfl
    rw [e, List.append_nil]
    have h := prog_refs_2 l0 l1 l2 hl0 hl1 hl2 l2.length 0 acc (by omega) (by omega) (by omega)
    rw [List.drop_zero] at h
    exact Ev.step (fun k => by simp only [data_Refs.l1]; rw [if_neg (by omega)]; rfl) h
  | succ d ih =>
    intro i acc hi hd hB
    have hlt : i < l1.length := by omega
    have h := ih (i + 1) (acc ++ [⟨2, l1[i].f0⟩]) (by omega) (by omega) (by rw [List.length_append, List.length_singleton]; omega)
    have e : acc ++ r45 (l1.drop i) = acc ++ [⟨2, l1[i].f0⟩] ++ r45 (l1.drop (i + 1)) := by rw [List.drop_eq_getElem_cons hlt, List.append_assoc]; rfl
    rw [e]
    refine Ev.step (fun k => ?_) h
    simp only [data_Refs.l1]
    rw [if_pos (by omega), if_pos (by omega), if_pos (by omega), if_pos (by omega), rd45 l1 i hlt, wrap_succ i (by omega)]
theorem prog_refs_0 (l0 : List S39) (l1 : List S45) (l2 : List S51) (hl0 : l0.length ≤ 1000000) (hl1 : l1.length ≤ 1000000) (hl2 : l2.length ≤ 1000000) : ∀ d i (acc : List S34), i ≤ l0.length → l0.length - i = d → acc.length + (l0.length - i) + (l1.length + l2.length) ≤ 1000000 → Ev (fun k => data_Refs.l0 k acc l0 (l0.length : Int) (i : Int) l0 l1 l2) (acc ++ r39 (l0.drop i) ++ r45 l1 ++ r51 l2) := by
  intro d
  induction d with
  | zero =>
    intro i acc hi hd hB
    obtain rfl : i = l0.length := by omega
    have e : r39 (l0.drop l0.length) = [] := by rw [List.drop_length]; rfl
    rw [e, List.append_nil]
    have h := prog_refs_1 l0 l1 l2 hl0 hl1 hl2 l1.length 0 acc (by omega) (by omega) (by omega)
    rw [List.drop_zero] at h
    exact Ev.step (fun k => by simp only [data_Refs.l0]; rw [if_neg (by omega)]; rfl) h
  | succ d ih =>
    intro i acc hi hd hB
    have hlt : i < l0.length := by omega
    have h := ih (i + 1) (acc ++ [⟨1, l0[i].f0⟩]) (by omega) (by omega) (by rw [List.length_append, List.length_singleton]; omega)
    have e : acc ++ r39 (l0.drop i) = acc ++ [⟨1, l0[i].f0⟩] ++ r39 (l0.drop (i + 1)) := by rw [List.drop_eq_getElem_cons hlt, List.append_assoc]; rfl
    rw [e]
    refine Ev.step (fun k => ?_) h
    simp only [data_Refs.l0]
    rw [if_pos (by omega), if_pos (by omega), if_pos (by omega), if_pos (by omega), rd39 l0 i hlt, wrap_succ i (by omega)]
theorem prog_refs (l0 : List S39) (l1 : List S45) (l2 : List S51) (hB : l0.length + l1.length + l2.length ≤ 1000000) : Ev (fun k => data_Refs.f k l0 l1 l2) (refsL l0 l1 l2) := by
  have h := prog_refs_0 l0 l1 l2 (by omega) (by omega) (by omega) l0.length 0 [] (by omega) (by omega) (by simp; omega)
  rw [List.drop_zero, List.nil_append] at h
  exact h
def refP (a b : Int) (x : S34) : Bool := a == x.f0 && (b == x.f1)
def ixFrom (p : S34 → Bool) (l : List S34) (i : Nat) : Int := match (l.drop i).findIdx? p with | some j => ((i + j : Nat) : Int) | none => -1
theorem ixFrom_hit (p : S34 → Bool) (l : List S34) (i : Nat) (hi : i < l.length) (h : p l[i] = true) : ixFrom p l i = i := by
  unfold ixFrom; rw [List.drop_eq_getElem_cons hi, List.findIdx?_cons, h]; simp
theorem ixFrom_miss (p : S34 → Bool) (l : List S34) (i : Nat) (hi : i < l.length) (h : p l[i] = false) : ixFrom p l i = ixFrom p l (i + 1) := by
  unfold ixFrom; rw [List.drop_eq_getElem_cons hi, List.findIdx?_cons, h]
  cases (l.drop (i + 1)).findIdx? p with
  | none => rfl
  | some j => simp; omega
theorem ixFrom_any (p : S34 → Bool) (l : List S34) : decide (ixFrom p l 0 ≥ 0) = l.any p := by
  unfold ixFrom
  rw [List.drop_zero]
  cases h : l.findIdx? p with
  | none =>
    have h2 := List.findIdx?_eq_none_iff.mp h
    have : l.any p = false := by rw [List.any_eq_false]; intro x hx; rw [h2 x hx]; exact Bool.false_ne_true
    rw [this]; rfl
  | some j =>
    obtain ⟨hj, hp, _⟩ := List.findIdx?_eq_some_iff_getElem.mp h
    have : l.any p = true := List.any_eq_true.mpr ⟨_, List.getElem_mem hj, hp⟩
    rw [this]
    exact decide_eq_true (by show (0 : Int) ≤ ((0 + j : Nat) : Int); omega)
theorem prog_contains (l : List S34) (a b : Int) (hl : l.length ≤ 1000000) : Ev (fun k => api_Ref_50.f k l a b) (l.any (refP a b)) := by
  have he : ixFrom (refP a b) l l.length = -1 := by unfold ixFrom; rw [List.drop_length]; rfl
  have h := ev_loop l.length (fun k i => api_Ref_82.l0 k l (l.length : Int) (i : Int) a b) (fun i => ixFrom (refP a b) l i)
    (Ev.step (f := fun _ => some (-1)) (fun k => by simp only [api_Ref_82.l0]; rw [if_neg (by omega)]) (by rw [he]; exact Ev.now (-1)))
    (fun i hi ih => by
      cases hc : refP a b l[i] with
      | true =>
        rw [ixFrom_hit _ l i hi hc]
        refine Ev.step (f := fun _ => some (i : Int)) (fun k => ?_) (Ev.now _)
        simp only [api_Ref_82.l0]
        rw [if_pos (by omega), if_pos (by omega), if_pos (by omega), rd34 l i hi, if_pos (show (a == l[i].f0 && (b == l[i].f1)) = true from hc)]
      | false =>
        rw [ixFrom_miss _ l i hi hc]
        refine Ev.step (fun k => ?_) ih
        simp only [api_Ref_82.l0]
        rw [if_pos (by omega), if_pos (by omega), if_pos (by omega), rd34 l i hi, if_neg (show ¬ ((a == l[i].f0 && (b == l[i].f1)) = true) from fun e => Bool.false_ne_true (hc.symm.trans e)), wrap_succ i (by omega)])
    0 (by omega)
  rw [← ixFrom_any]
  exact Ev.bind h (Ev.now _)
theorem any_map (c a b : Int) {α : Type} (g : α → Int) (l : List α) : (l.map fun x => (⟨c, g x⟩ : S34)).any (refP a b) = (a == c && (l.map g).contains b) := by
  induction l with
  | nil => simp
  | cons x l ih =>
    rw [List.map_cons, List.any_cons, ih, List.map_cons, List.contains_cons]
    unfold refP
    cases (a == c) <;> simp
theorem has_any (l0 : List S39) (l1 : List S45) (l2 : List S51) (a b : Int) : (refsL l0 l1 l2).any (refP a b) = hasV l0 l1 l2 a b := by
  unfold refsL r39 r45 r51
  rw [List.any_append, List.any_append, any_map, any_map, any_map]
  unfold hasV i39 i45 i51
  by_cases h1 : a = 1
  · subst h1; simp
  · by_cases h2 : a = 2
    · subst h2; simp
    · by_cases h3 : a = 3
      · subst h3; simp
      · have e1 : (a == 1) = false := beq_eq_false_iff_ne.mpr h1
        have e2 : (a == 2) = false := beq_eq_false_iff_ne.mpr h2
        have e3 : (a == 3) = false := beq_eq_false_iff_ne.mpr h3
        rw [e1, e2, e3, if_neg h1, if_neg h2]
        simp only [Bool.false_and, Bool.or_false]
        split <;> rfl
theorem prog_has (l0 : List S39) (l1 : List S45) (l2 : List S51) (a b : Int) (hB : l0.length + l1.length + l2.length ≤ 1000000) : Ev (fun k => data_Has.f k l0 l1 l2 a b) (hasV l0 l1 l2 a b) := by
  rw [← has_any]
  refine Ev.bind (prog_refs l0 l1 l2 hB) (Ev.bind (prog_contains _ a b ?_) (Ev.now _))
  unfold refsL r39 r45 r51
  simp
  omega
end Go.Proofs.Ytgenbepicnbecaa.Pure
