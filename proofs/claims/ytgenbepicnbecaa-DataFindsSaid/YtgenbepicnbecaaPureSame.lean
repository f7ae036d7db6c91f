/- c14, plain: equal datasets: data.Same and its reference answer alike. -/
import Derived.Test.YtgenbepicnbecaaPureCheck
import Derived.Test.YtgenbepicnbecaaPAllx0
import Derived.Test.YtgenbepicnbecaaPAllx5
import Derived.Test.YtgenbepicnbecaaPAllx14
import Derived.Test.YtgenbepicnbecaaPAllx15
import Derived.Test.YtgenbepicnbecaaPAllx22
import Derived.Test.YtgenbepicnbecaaPAllx23
namespace Go.Proofs.Ytgenbepicnbecaa.Pure
open Go.RowKit Go.Proofs.Ytgenbepicnbecaa.PAll Go.Proofs.YtgenbepicnbecaaW.PrintWords Go.Proofs.YtgenbepicnbecaaW.PrintLast
set_option linter.unusedVariables false
set_option linter.unusedSimpArgs false
def listEq {α : Type} (p : α → α → Bool) : List α → List α → Bool
  | [], [] => true
  | x :: xs, y :: ys => p x y && listEq p xs ys
  | _, _ => false
theorem listEq_len {α : Type} (p : α → α → Bool) : ∀ (a b : List α), a.length ≠ b.length → listEq p a b = false
  | [], [], h => absurd rfl h
  | [], _ :: _, _ => rfl
  | _ :: _, [], _ => rfl
  | x :: xs, y :: ys, h => by
    unfold listEq
    rw [listEq_len p xs ys (by simpa using h), Bool.and_false]
theorem listEq_drop {α : Type} (p : α → α → Bool) (a b : List α) (i : Nat) (hi : i < a.length) (hj : i < b.length) : listEq p (a.drop i) (b.drop i) = (p a[i] b[i] && listEq p (a.drop (i + 1)) (b.drop (i + 1))) := by
  rw [List.drop_eq_getElem_cons hi, List.drop_eq_getElem_cons hj]; rfl
theorem listEq_end {α : Type} (p : α → α → Bool) (a b : List α) (h : a.length = b.length) : listEq p (a.drop a.length) (b.drop a.length) = true := by
  rw [List.drop_length, h, List.drop_length]; rfl
theorem listEq_refl {α : Type} (p : α → α → Bool) (hp : ∀ x, p x x = true) : ∀ a : List α, listEq p a a = true
  | [] => rfl
  | x :: xs => by unfold listEq; rw [hp x, listEq_refl p hp xs]; rfl
def tagEq (a b : S70) : Bool := (a.f0.toList == b.f0.toList) && (a.f1.toList == b.f1.toList)
def intEq (a b : Int) : Bool := a == b
def memEq (a b : S67) : Bool := (a.f0.f0 == b.f0.f0 && a.f0.f1 == b.f0.f1) && (a.f1.toList == b.f1.toList)
def nodeEq (x y : S39) : Bool := x.f0 == y.f0 && ((x.f1.f0 == y.f1.f0 && x.f1.f1 == y.f1.f1) && listEq tagEq x.f2 y.f2)
def wayEq (x y : S45) : Bool := x.f0 == y.f0 && (listEq intEq x.f1 y.f1 && listEq tagEq x.f2 y.f2)
def relEq (x y : S51) : Bool := x.f0 == y.f0 && (listEq memEq x.f1 y.f1 && listEq tagEq x.f2 y.f2)
theorem tagEq_refl (a : S70) : tagEq a a = true := by unfold tagEq; simp
theorem memEq_refl (a : S67) : memEq a a = true := by unfold memEq; simp
theorem intEq_refl (a : Int) : intEq a a = true := by unfold intEq; simp
theorem nodeEq_refl (a : S39) : nodeEq a a = true := by unfold nodeEq; rw [listEq_refl tagEq tagEq_refl]; simp
theorem wayEq_refl (a : S45) : wayEq a a = true := by unfold wayEq; rw [listEq_refl tagEq tagEq_refl, listEq_refl intEq intEq_refl]; simp
theorem relEq_refl (a : S51) : relEq a a = true := by unfold relEq; rw [listEq_refl tagEq tagEq_refl, listEq_refl memEq memEq_refl]; simp
theorem tag_test (x y : S70) : ((!(x.f0.toList == y.f0.toList) || (!(x.f1.toList == y.f1.toList))) = true) ↔ tagEq x y = false := by
  unfold tagEq; cases (x.f0.toList == y.f0.toList) <;> cases (x.f1.toList == y.f1.toList) <;> simp
theorem mem_test (x y : S67) : (((!(x.f0.f0 == y.f0.f0) || (!(x.f0.f1 == y.f0.f1))) || (!(x.f1.toList == y.f1.toList))) = true) ↔ memEq x y = false := by
  unfold memEq; cases (x.f0.f0 == y.f0.f0) <;> cases (x.f0.f1 == y.f0.f1) <;> cases (x.f1.toList == y.f1.toList) <;> simp
theorem ref_sameTags (a b : List S70) (ha : a.length ≤ 140737488355328) : Ev (fun k => mapmakerref14_SameTags.f k a b) (listEq tagEq a b) := by
  unfold mapmakerref14_SameTags.f
  by_cases hl : (a.length : Int) = (b.length : Int)
  · simp only [if_pos hl]
    have h := ev_loop a.length (fun k i => mapmakerref14_SameTags.l0 k a b (i : Int)) (fun i => listEq tagEq (a.drop i) (b.drop i))
      (Ev.step (f := fun _ => some true) (fun k => by simp only [mapmakerref14_SameTags.l0]; rw [if_neg (by omega)]) (by rw [listEq_end tagEq a b (by omega)]; exact Ev.now true))
      (fun i hi ih => by
        rw [listEq_drop tagEq a b i hi (by omega)]
        cases hc : tagEq a[i] (b[i]'(by omega)) with
        | true =>
          rw [Bool.true_and]
          refine Ev.step (fun k => ?_) ih
          simp only [mapmakerref14_SameTags.l0]
          rw [if_pos (by omega), if_pos (by omega), if_pos (by omega), rd70 a i hi, rd70 b i (by omega), if_neg (by rw [tag_test, hc]; decide), wrap_succ i (by omega)]
        | false =>
          rw [Bool.false_and]
          refine Ev.step (f := fun _ => some false) (fun k => ?_) (Ev.now false)
          simp only [mapmakerref14_SameTags.l0]
          rw [if_pos (by omega), if_pos (by omega), if_pos (by omega), rd70 a i hi, rd70 b i (by omega), if_pos (by rw [tag_test, hc])])
      0 (by omega)
    exact h
  · simp only [if_neg hl]
    rw [listEq_len tagEq a b (by omega)]
    exact Ev.now false
theorem ref_sameNode (x y : S39) (hx : x.f2.length ≤ 140737488355328) : Ev (fun k => mapmakerref14_SameNode.f k x.f0 x.f1.f0 x.f1.f1 x.f2 y.f0 y.f1.f0 y.f1.f1 y.f2) (nodeEq x y) := by
  unfold mapmakerref14_SameNode.f nodeEq
  by_cases h0 : x.f0 = y.f0
  · simp only [if_pos h0]
    rw [beq_iff_eq.mpr h0, Bool.true_and]
    cases h1 : (x.f1.f0 == y.f1.f0 && (x.f1.f1 == y.f1.f1)) with
    | true => simp only [if_true, Bool.true_and]; exact Ev.bind (ref_sameTags _ _ hx) (Ev.now _)
    | false => simp only [Bool.false_eq_true, if_false, Bool.false_and]; exact Ev.now false
  · simp only [if_neg h0]
    rw [beq_eq_false_iff_ne.mpr h0, Bool.false_and]
    exact Ev.now false
theorem ref_sameWay (x y : S45) (h1 : x.f1.length ≤ 140737488355328) (hx : x.f2.length ≤ 140737488355328) : Ev (fun k => mapmakerref14_SameWay.f k x.f0 x.f1 x.f2 y.f0 y.f1 y.f2) (wayEq x y) := by
  have hj : Ev (fun k => mapmakerref14_SameWay.j0 k true x.f0 x.f1 x.f2 y.f0 y.f1 y.f2) false := Ev.step (f := fun _ => some false) (fun k => by simp only [mapmakerref14_SameWay.j0, if_true]) (Ev.now false)
  unfold mapmakerref14_SameWay.f wayEq
  by_cases h0 : x.f0 = y.f0
  · simp only [if_pos h0]
    rw [beq_iff_eq.mpr h0, Bool.true_and]
    by_cases hl : (x.f1.length : Int) = (y.f1.length : Int)
    · simp only [if_pos hl]
      refine Ev.bind (ref_sameTags _ _ hx) ?_
      cases ht : listEq tagEq x.f2 y.f2 with
      | false => rw [Bool.and_false]; exact hj
      | true =>
        rw [Bool.and_true]
        refine Ev.step (fun k => by simp only [mapmakerref14_SameWay.j0, Bool.not_true, Bool.false_eq_true, if_false]; rfl) ?_
        have h := ev_loop x.f1.length (fun k i => mapmakerref14_SameWay.l0 k (i : Int) x.f0 x.f1 x.f2 y.f0 y.f1 y.f2) (fun i => listEq intEq (x.f1.drop i) (y.f1.drop i))
          (Ev.step (f := fun _ => some true) (fun k => by simp only [mapmakerref14_SameWay.l0]; rw [if_neg (by omega)]) (by rw [listEq_end intEq x.f1 y.f1 (by omega)]; exact Ev.now true))
          (fun i hi ih => by
            rw [listEq_drop intEq x.f1 y.f1 i hi (by omega)]
            by_cases hc : x.f1[i] = y.f1[i]'(by omega)
            · rw [show intEq x.f1[i] (y.f1[i]'(by omega)) = true from beq_iff_eq.mpr hc, Bool.true_and]
              refine Ev.step (fun k => ?_) ih
              simp only [mapmakerref14_SameWay.l0]
              rw [if_pos (by omega), if_pos (by omega), if_pos (by omega), rdI x.f1 i hi, rdI y.f1 i (by omega), if_pos hc, wrap_succ i (by omega)]
            · rw [show intEq x.f1[i] (y.f1[i]'(by omega)) = false from beq_eq_false_iff_ne.mpr hc, Bool.false_and]
              refine Ev.step (f := fun _ => some false) (fun k => ?_) (Ev.now false)
              simp only [mapmakerref14_SameWay.l0]
              rw [if_pos (by omega), if_pos (by omega), if_pos (by omega), rdI x.f1 i hi, rdI y.f1 i (by omega), if_neg hc])
          0 (by omega)
        exact h
    · simp only [if_neg hl]
      rw [listEq_len intEq x.f1 y.f1 (by omega), Bool.false_and]
      exact hj
  · simp only [if_neg h0]
    rw [beq_eq_false_iff_ne.mpr h0, Bool.false_and]
    exact hj
theorem ref_sameRel (x y : S51) (h1 : x.f1.length ≤ 140737488355328) (hx : x.f2.length ≤ 140737488355328) : Ev (fun k => mapmakerref14_SameRel.f k x.f0 x.f1 x.f2 y.f0 y.f1 y.f2) (relEq x y) := by
  have hj : Ev (fun k => mapmakerref14_SameRel.j0 k true x.f0 x.f1 x.f2 y.f0 y.f1 y.f2) false := Ev.step (f := fun _ => some false) (fun k => by simp only [mapmakerref14_SameRel.j0, if_true]) (Ev.now false)
  unfold mapmakerref14_SameRel.f relEq
  by_cases h0 : x.f0 = y.f0
  · simp only [if_pos h0]
    rw [beq_iff_eq.mpr h0, Bool.true_and]
    by_cases hl : (x.f1.length : Int) = (y.f1.length : Int)
    · simp only [if_pos hl]
      refine Ev.bind (ref_sameTags _ _ hx) ?_
      cases ht : listEq tagEq x.f2 y.f2 with
      | false => rw [Bool.and_false]; exact hj
      | true =>
        rw [Bool.and_true]
        refine Ev.step (fun k => by simp only [mapmakerref14_SameRel.j0, Bool.not_true, Bool.false_eq_true, if_false]; rfl) ?_
        have h := ev_loop x.f1.length (fun k i => mapmakerref14_SameRel.l0 k (i : Int) x.f0 x.f1 x.f2 y.f0 y.f1 y.f2) (fun i => listEq memEq (x.f1.drop i) (y.f1.drop i))
          (Ev.step (f := fun _ => some true) (fun k => by simp only [mapmakerref14_SameRel.l0]; rw [if_neg (by omega)]) (by rw [listEq_end memEq x.f1 y.f1 (by omega)]; exact Ev.now true))
          (fun i hi ih => by
            rw [listEq_drop memEq x.f1 y.f1 i hi (by omega)]
            cases hc : memEq x.f1[i] (y.f1[i]'(by omega)) with
            | true =>
              rw [Bool.true_and]
              refine Ev.step (fun k => ?_) ih
              simp only [mapmakerref14_SameRel.l0]
              rw [if_pos (by omega), if_pos (by omega), if_pos (by omega), rd67 x.f1 i hi, rd67 y.f1 i (by omega), if_neg (by rw [mem_test, hc]; decide), wrap_succ i (by omega)]
            | false =>
              rw [Bool.false_and]
              refine Ev.step (f := fun _ => some false) (fun k => ?_) (Ev.now false)
              simp only [mapmakerref14_SameRel.l0]
              rw [if_pos (by omega), if_pos (by omega), if_pos (by omega), rd67 x.f1 i hi, rd67 y.f1 i (by omega), if_pos (by rw [mem_test, hc])])
          0 (by omega)
        exact h
    · simp only [if_neg hl]
      rw [listEq_len memEq x.f1 y.f1 (by omega), Bool.false_and]
      exact hj
  · simp only [if_neg h0]
    rw [beq_eq_false_iff_ne.mpr h0, Bool.false_and]
    exact hj
end Go.Proofs.Ytgenbepicnbecaa.Pure
