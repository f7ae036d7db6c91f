/- c14, plain: equal datasets: data.Same and its reference answer alike. -/
import Derived.Test.YtgenbepicnbecaaPAllx30
import Derived.Test.YtgenbepicnbecaaPureCheck
namespace Go.Proofs.Ytgenbepicnbecaa.Pure
open Go.RowKit Go.Proofs.Ytgenbepicnbecaa.PAll Go.Proofs.YtgenbepicnbecaaW.PrintWords Go.Proofs.YtgenbepicnbecaaW.PrintLast
set_option linter.unusedVariables false
set_option linter.unusedSimpArgs false
def listEq {α : Type} (p : α → α → Bool) : List α → List α → Bool
  | [], [] => true
  | x :: xs, y :: ys => p x y && listEq p xs ys
  | _, _ => false
theorem listEq_len {α : Type} (p : α → α → Bool) : ∀ (a b : List α), a.length ≠ b.length → listEq p a b = false
  | [], [], h => absurd rfl h
  | [], _ :: _, _ => rfl
  | _ :: _, [], _ => rfl
  | x :: xs, y :: ys, h => by
    unfold listEq
    rw [listEq_len p xs ys (by simpa using h), Bool.and_false]
theorem listEq_drop {α : Type} (p : α → α → Bool) (a b : List α) (i : Nat) (hi : i < a.length) (hj : i < b.length) : listEq p (a.drop i) (b.drop i) = (p a[i] b[i] && listEq p (a.drop (i + 1)) (b.drop (i + 1))) := by
  rw [List.drop_eq_getElem_cons hi, List.drop_eq_getElem_cons hj]; rfl
theorem listEq_end {α : Type} (p : α → α → Bool) (a b : List α) (h : a.length = b.length) : listEq p (a.drop a.length) (b.drop a.length) = true := by
  rw [List.drop_length, h, List.drop_length]; rfl
theorem listEq_refl {α : Type} (p : α → α → Bool) (hp : ∀ x, p x x = true) : ∀ a : List α, listEq p a a = true
  | [] => rfl
  | x :: xs => by unfold listEq; rw [hp x, listEq_refl p hp xs]; rfl
theorem listEq_symm {α : Type} (p : α → α → Bool) (hp : ∀ x y, p x y = p y x) : ∀ a b : List α, listEq p a b = listEq p b a
  | [], [] => rfl
  | [], _ :: _ => rfl
  | _ :: _, [] => rfl
  | x :: xs, y :: ys => by unfold listEq; rw [hp x y, listEq_symm p hp xs ys]
def tagEq (a b : S70) : Bool := (a.f0.toList == b.f0.toList) && (a.f1.toList == b.f1.toList)
def intEq (a b : Int) : Bool := a == b
def memEq (a b : S67) : Bool := (a.f0.f0 == b.f0.f0 && a.f0.f1 == b.f0.f1) && (a.f1.toList == b.f1.toList)
def nodeEq (x y : S39) : Bool := x.f0 == y.f0 && ((x.f1.f0 == y.f1.f0 && x.f1.f1 == y.f1.f1) && listEq tagEq x.f2 y.f2)
def wayEq (x y : S45) : Bool := x.f0 == y.f0 && (listEq intEq x.f1 y.f1 && listEq tagEq x.f2 y.f2)
def relEq (x y : S51) : Bool := x.f0 == y.f0 && (listEq memEq x.f1 y.f1 && listEq tagEq x.f2 y.f2)
theorem beq_symm' {α : Type} [BEq α] [LawfulBEq α] (a b : α) : (a == b) = (b == a) := by
  by_cases h : a = b
  · subst h; rfl
  · rw [beq_eq_false_iff_ne.mpr h, beq_eq_false_iff_ne.mpr (fun e => h e.symm)]
theorem tagEq_refl (a : S70) : tagEq a a = true := by unfold tagEq; simp
theorem tagEq_symm (a b : S70) : tagEq a b = tagEq b a := by unfold tagEq; rw [beq_symm' a.f0.toList, beq_symm' a.f1.toList]
theorem memEq_refl (a : S67) : memEq a a = true := by unfold memEq; simp
theorem memEq_symm (a b : S67) : memEq a b = memEq b a := by unfold memEq; rw [beq_symm' a.f0.f0, beq_symm' a.f0.f1, beq_symm' a.f1.toList]
theorem intEq_refl (a : Int) : intEq a a = true := by unfold intEq; simp
theorem intEq_symm (a b : Int) : intEq a b = intEq b a := beq_symm' a b
theorem nodeEq_refl (a : S39) : nodeEq a a = true := by unfold nodeEq; rw [listEq_refl tagEq tagEq_refl]; simp
theorem nodeEq_symm (a b : S39) : nodeEq a b = nodeEq b a := by unfold nodeEq; rw [beq_symm' a.f0, beq_symm' a.f1.f0, beq_symm' a.f1.f1, listEq_symm tagEq tagEq_symm]
theorem wayEq_refl (a : S45) : wayEq a a = true := by unfold wayEq; rw [listEq_refl tagEq tagEq_refl, listEq_refl intEq intEq_refl]; simp
theorem wayEq_symm (a b : S45) : wayEq a b = wayEq b a := by unfold wayEq; rw [beq_symm' a.f0, listEq_symm tagEq tagEq_symm, listEq_symm intEq intEq_symm]
theorem relEq_refl (a : S51) : relEq a a = true := by unfold relEq; rw [listEq_refl tagEq tagEq_refl, listEq_refl memEq memEq_refl]; simp
theorem relEq_symm (a b : S51) : relEq a b = relEq b a := by unfold relEq; rw [beq_symm' a.f0, listEq_symm tagEq tagEq_symm, listEq_symm memEq memEq_symm]
theorem tag_test (x y : S70) : ((!(x.f0.toList == y.f0.toList) || (!(x.f1.toList == y.f1.toList))) = true) ↔ tagEq x y = false := by
  unfold tagEq; cases (x.f0.toList == y.f0.toList) <;> cases (x.f1.toList == y.f1.toList) <;> simp
theorem mem_test (x y : S67) : (((!(x.f0.f0 == y.f0.f0) || (!(x.f0.f1 == y.f0.f1))) || (!(x.f1.toList == y.f1.toList))) = true) ↔ memEq x y = false := by
  unfold memEq; cases (x.f0.f0 == y.f0.f0) <;> cases (x.f0.f1 == y.f0.f1) <;> cases (x.f1.toList == y.f1.toList) <;> simp
theorem ref_sameTags (a b : List S70) (ha : a.length ≤ 140737488355328) : Ev (fun k => mapmakerref14_SameTags.f k a b) (listEq tagEq a b) := by
  unfold mapmakerref14_SameTags.f
  by_cases hl : (a.length : Int) = (b.length : Int)
  · simp only [if_pos hl]
    have h := ev_loop a.length (fun k i => mapmakerref14_SameTags.l0 k a b (i : Int)) (fun i => listEq tagEq (a.drop i) (b.drop i))
      (Ev.step (f := fun _ => some true) (fun k => by simp only [mapmakerref14_SameTags.l0]; rw [if_neg (by omega)]) (by rw [listEq_end tagEq a b (by omega)]; exact Ev.now true))
      (fun i hi ih => by
        rw [listEq_drop tagEq a b i hi (by omega)]
        cases hc : tagEq a[i] (b[i]'(by omega)) with
        | true =>
          rw [Bool.true_and]
          refine Ev.step (fun k => ?_) ih
          simp only [mapmakerref14_SameTags.l0]
          rw [if_pos (by omega), if_pos (by omega), if_pos (by omega), rd70 a i hi, rd70 b i (by omega), if_neg (by rw [tag_test, hc]; decide), wrap_succ i (by omega)]
        | false =>
          rw [Bool.false_and]
          refine Ev.step (f := fun _ => some false) (fun k => ?_) (Ev.now false)
          simp only [mapmakerref14_SameTags.l0]
          rw [if_pos (by omega), if_pos (by omega), if_pos (by omega), rd70 a i hi, rd70 b i (by omega), if_pos (by rw [tag_test, hc])])
      0 (by omega)
    exact h
  · simp only [if_neg hl]
    rw [listEq_len tagEq a b (by omega)]
    exact Ev.now false
theorem prog_sameTags (a b : List S70) (ha : a.length ≤ 140737488355328) : Ev (fun k => api_Tag.f k a b) (listEq tagEq a b) := by
  unfold api_Tag.f
  by_cases hl : (a.length : Int) = (b.length : Int)
  · simp only [if_pos hl]
    have h := ev_loop a.length (fun k i => api_Tag.l0 k a b (a.length : Int) (i : Int)) (fun i => listEq tagEq (a.drop i) (b.drop i))
      (Ev.step (f := fun _ => some true) (fun k => by simp only [api_Tag.l0]; rw [if_neg (by omega)]) (by rw [listEq_end tagEq a b (by omega)]; exact Ev.now true))
      (fun i hi ih => by
        rw [listEq_drop tagEq a b i hi (by omega)]
        cases hc : tagEq a[i] (b[i]'(by omega)) with
        | true =>
          rw [Bool.true_and]
          refine Ev.step (fun k => ?_) ih
          simp only [api_Tag.l0]
          rw [if_pos (by omega), if_pos (by omega), if_pos (by omega), if_pos (by omega), rd70 a i hi, rd70 b i (by omega), if_neg (by rw [tag_test, hc]; decide), wrap_succ i (by omega)]
        | false =>
          rw [Bool.false_and]
          refine Ev.step (f := fun _ => some false) (fun k => ?_) (Ev.now false)
          simp only [api_Tag.l0]
          rw [if_pos (by omega), if_pos (by omega), if_pos (by omega), if_pos (by omega), rd70 a i hi, rd70 b i (by omega), if_pos (by rw [tag_test, hc])])
      0 (by omega)
    exact h
  · simp only [if_neg hl]
    rw [listEq_len tagEq a b (by omega)]
    exact Ev.now false
theorem prog_sameInts (a b : List Int) (ha : a.length ≤ 140737488355328) : Ev (fun k => slices_Equal_int_int.f k a b) (listEq intEq a b) := by
  unfold slices_Equal_int_int.f
  by_cases hl : (a.length : Int) = (b.length : Int)
  · simp only [if_pos hl]
    have h := ev_loop a.length (fun k i => slices_Equal_int_int.l0 k a b (a.length : Int) (i : Int)) (fun i => listEq intEq (a.drop i) (b.drop i))
      (Ev.step (f := fun _ => some true) (fun k => by simp only [slices_Equal_int_int.l0]; rw [if_neg (by omega)]) (by rw [listEq_end intEq a b (by omega)]; exact Ev.now true))
      (fun i hi ih => by
        rw [listEq_drop intEq a b i hi (by omega)]
        by_cases hc : a[i] = b[i]'(by omega)
        · rw [show intEq a[i] (b[i]'(by omega)) = true from beq_iff_eq.mpr hc, Bool.true_and]
          refine Ev.step (fun k => ?_) ih
          simp only [slices_Equal_int_int.l0]
          rw [if_pos (by omega), if_pos (by omega), if_pos (by omega), if_pos (by omega), rdI a i hi, rdI b i (by omega), if_pos hc, wrap_succ i (by omega)]
        · rw [show intEq a[i] (b[i]'(by omega)) = false from beq_eq_false_iff_ne.mpr hc, Bool.false_and]
          refine Ev.step (f := fun _ => some false) (fun k => ?_) (Ev.now false)
          simp only [slices_Equal_int_int.l0]
          rw [if_pos (by omega), if_pos (by omega), if_pos (by omega), if_pos (by omega), rdI a i hi, rdI b i (by omega), if_neg hc])
      0 (by omega)
    exact h
  · simp only [if_neg hl]
    rw [listEq_len intEq a b (by omega)]
    exact Ev.now false
theorem prog_sameMems (a b : List S67) (ha : a.length ≤ 140737488355328) : Ev (fun k => api_Member_68.f k a b) (listEq memEq a b) := by
  unfold api_Member_68.f
  by_cases hl : (a.length : Int) = (b.length : Int)
  · simp only [if_pos hl]
    have h := ev_loop a.length (fun k i => api_Member_68.l0 k a b (a.length : Int) (i : Int)) (fun i => listEq memEq (a.drop i) (b.drop i))
      (Ev.step (f := fun _ => some true) (fun k => by simp only [api_Member_68.l0]; rw [if_neg (by omega)]) (by rw [listEq_end memEq a b (by omega)]; exact Ev.now true))
      (fun i hi ih => by
        rw [listEq_drop memEq a b i hi (by omega)]
        cases hc : memEq a[i] (b[i]'(by omega)) with
        | true =>
          rw [Bool.true_and]
          refine Ev.step (fun k => ?_) ih
          simp only [api_Member_68.l0]
          rw [if_pos (by omega), if_pos (by omega), if_pos (by omega), if_pos (by omega), rd67 a i hi, rd67 b i (by omega), if_neg (by rw [mem_test, hc]; decide), wrap_succ i (by omega)]
        | false =>
          rw [Bool.false_and]
          refine Ev.step (f := fun _ => some false) (fun k => ?_) (Ev.now false)
          simp only [api_Member_68.l0]
          rw [if_pos (by omega), if_pos (by omega), if_pos (by omega), if_pos (by omega), rd67 a i hi, rd67 b i (by omega), if_pos (by rw [mem_test, hc])])
      0 (by omega)
    exact h
  · simp only [if_neg hl]
    rw [listEq_len memEq a b (by omega)]
    exact Ev.now false
theorem prog_same1 (x y : S39) (hx : x.f2.length ≤ 140737488355328) : Ev (fun k => data_Same_1.f k x.f0 x.f1.f0 x.f1.f1 x.f2 y.f0 y.f1.f0 y.f1.f1 y.f2) (nodeEq x y) := by
  unfold data_Same_1.f nodeEq
  by_cases h0 : x.f0 = y.f0
  · simp only [if_pos h0]
    rw [beq_iff_eq.mpr h0, Bool.true_and]
    cases h1 : (x.f1.f0 == y.f1.f0 && (x.f1.f1 == y.f1.f1)) with
    | true => simp only [if_true, Bool.true_and]; exact Ev.bind (prog_sameTags _ _ hx) (Ev.now _)
    | false => simp only [Bool.false_eq_true, if_false, Bool.false_and]; exact Ev.now false
  · simp only [if_neg h0]
    rw [beq_eq_false_iff_ne.mpr h0, Bool.false_and]
    exact Ev.now false
theorem prog_same2 (x y : S45) (h1 : x.f1.length ≤ 140737488355328) (hx : x.f2.length ≤ 140737488355328) : Ev (fun k => data_Same_2.f k x.f0 x.f1 x.f2 y.f0 y.f1 y.f2) (wayEq x y) := by
  unfold data_Same_2.f wayEq
  by_cases h0 : x.f0 = y.f0
  · simp only [if_pos h0]
    rw [beq_iff_eq.mpr h0, Bool.true_and]
    refine Ev.bind (prog_sameInts _ _ h1) ?_
    cases h2 : listEq intEq x.f1 y.f1 with
    | true => simp only [if_true, Bool.true_and]; exact Ev.bind (prog_sameTags _ _ hx) (Ev.now _)
    | false => simp only [Bool.false_eq_true, if_false, Bool.false_and]; exact Ev.now false
  · simp only [if_neg h0]
    rw [beq_eq_false_iff_ne.mpr h0, Bool.false_and]
    exact Ev.now false
theorem prog_same3 (x y : S51) (h1 : x.f1.length ≤ 140737488355328) (hx : x.f2.length ≤ 140737488355328) : Ev (fun k => data_Same_3.f k x.f0 x.f1 x.f2 y.f0 y.f1 y.f2) (relEq x y) := by
  unfold data_Same_3.f relEq
  by_cases h0 : x.f0 = y.f0
  · simp only [if_pos h0]
    rw [beq_iff_eq.mpr h0, Bool.true_and]
    refine Ev.bind (prog_sameMems _ _ h1) ?_
    cases h2 : listEq memEq x.f1 y.f1 with
    | true => simp only [if_true, Bool.true_and]; exact Ev.bind (prog_sameTags _ _ hx) (Ev.now _)
    | false => simp only [Bool.false_eq_true, if_false, Bool.false_and]; exact Ev.now false
  · simp only [if_neg h0]
    rw [beq_eq_false_iff_ne.mpr h0, Bool.false_and]
    exact Ev.now false
theorem ref_sameNode (x y : S39) (hx : x.f2.length ≤ 140737488355328) : Ev (fun k => mapmakerref14_SameNode.f k x.f0 x.f1.f0 x.f1.f1 x.f2 y.f0 y.f1.f0 y.f1.f1 y.f2) (nodeEq x y) := by
  unfold mapmakerref14_SameNode.f nodeEq
  by_cases h0 : x.f0 = y.f0
  · simp only [if_pos h0]
    rw [beq_iff_eq.mpr h0, Bool.true_and]
    cases h1 : (x.f1.f0 == y.f1.f0 && (x.f1.f1 == y.f1.f1)) with
    | true => simp only [if_true, Bool.true_and]; exact Ev.bind (ref_sameTags _ _ hx) (Ev.now _)
    | false => simp only [Bool.false_eq_true, if_false, Bool.false_and]; exact Ev.now false
  · simp only [if_neg h0]
    rw [beq_eq_false_iff_ne.mpr h0, Bool.false_and]
    exact Ev.now false
theorem ref_sameWay (x y : S45) (h1 : x.f1.length ≤ 140737488355328) (hx : x.f2.length ≤ 140737488355328) : Ev (fun k => mapmakerref14_SameWay.f k x.f0 x.f1 x.f2 y.f0 y.f1 y.f2) (wayEq x y) := by
  have hj : Ev (fun k => mapmakerref14_SameWay.j0 k true x.f0 x.f1 x.f2 y.f0 y.f1 y.f2) false := Ev.step (f := fun _ => some false) (fun k => by simp only [mapmakerref14_SameWay.j0, if_true]) (Ev.now false)
  unfold mapmakerref14_SameWay.f wayEq
  by_cases h0 : x.f0 = y.f0
  · simp only [if_pos h0]
    rw [beq_iff_eq.mpr h0, Bool.true_and]
    by_cases hl : (x.f1.length : Int) = (y.f1.length : Int)
    · simp only [if_pos hl]
      refine Ev.bind (ref_sameTags _ _ hx) ?_
      cases ht : listEq tagEq x.f2 y.f2 with
      | false => rw [Bool.and_false]; exact hj
      | true =>
        rw [Bool.and_true]
        refine Ev.step (fun k => by simp only [mapmakerref14_SameWay.j0, Bool.not_true, Bool.false_eq_true, if_false]; rfl) ?_
        have h := ev_loop x.f1.length (fun k i => mapmakerref14_SameWay.l0 k (i : Int) x.f0 x.f1 x.f2 y.f0 y.f1 y.f2) (fun i => listEq intEq (x.f1.drop i) (y.f1.drop i))
          (Ev.step (f := fun _ => some true) (fun k => by simp only [mapmakerref14_SameWay.l0]; rw [if_neg (by omega)]) (by rw [listEq_end intEq x.f1 y.f1 (by omega)]; exact Ev.now true))
          (fun i hi ih => by
            rw [listEq_drop intEq x.f1 y.f1 i hi (by omega)]
            by_cases hc : x.f1[i] = y.f1[i]'(by omega)
            · rw [show intEq x.f1[i] (y.f1[i]'(by omega)) = true from beq_iff_eq.mpr hc, Bool.true_and]
              refine Ev.step (fun k => ?_) ih
              simp only [mapmakerref14_SameWay.l0]
              rw [if_pos (by omega), if_pos (by omega), if_pos (by omega), rdI x.f1 i hi, rdI y.f1 i (by omega), if_pos hc, wrap_succ i (by omega)]
            · rw [show intEq x.f1[i] (y.f1[i]'(by omega)) = false from beq_eq_false_iff_ne.mpr hc, Bool.false_and]
              refine Ev.step (f := fun _ => some false) (fun k => ?_) (Ev.now false)
              simp only [mapmakerref14_SameWay.l0]
              rw [if_pos (by omega), if_pos (by omega), if_pos (by omega), rdI x.f1 i hi, rdI y.f1 i (by omega), if_neg hc])
          0 (by omega)
        exact h
    · simp only [if_neg hl]
      rw [listEq_len intEq x.f1 y.f1 (by omega), Bool.false_and]
      exact hj
  · simp only [if_neg h0]
    rw [beq_eq_false_iff_ne.mpr h0, Bool.false_and]
    exact hj
theorem ref_sameRel (x y : S51) (h1 : x.f1.length ≤ 140737488355328) (hx : x.f2.length ≤ 140737488355328) : Ev (fun k => mapmakerref14_SameRel.f k x.f0 x.f1 x.f2 y.f0 y.f1 y.f2) (relEq x y) := by
  have hj : Ev (fun k => mapmakerref14_SameRel.j0 k true x.f0 x.f1 x.f2 y.f0 y.f1 y.f2) false := Ev.step (f := fun _ => some false) (fun k => by simp only [mapmakerref14_SameRel.j0, if_true]) (Ev.now false)
  unfold mapmakerref14_SameRel.f relEq
  by_cases h0 : x.f0 = y.f0
  · simp only [if_pos h0]
    rw [beq_iff_eq.mpr h0, Bool.true_and]
    by_cases hl : (x.f1.length : Int) = (y.f1.length : Int)
    · simp only [if_pos hl]
      refine Ev.bind (ref_sameTags _ _ hx) ?_
      cases ht : listEq tagEq x.f2 y.f2 with
      | false => rw [Bool.and_false]; exact hj
      | true =>
        rw [Bool.and_true]
        refine Ev.step (fun k => by simp only [mapmakerref14_SameRel.j0, Bool.not_true, Bool.false_eq_true, if_false]; rfl) ?_
        have h := ev_loop x.f1.length (fun k i => mapmakerref14_SameRel.l0 k (i : Int) x.f0 x.f1 x.f2 y.f0 y.f1 y.f2) (fun i => listEq memEq (x.f1.drop i) (y.f1.drop i))
          (Ev.step (f := fun _ => some true) (fun k => by simp only [mapmakerref14_SameRel.l0]; rw [if_neg (by omega)]) (by rw [listEq_end memEq x.f1 y.f1 (by omega)]; exact Ev.now true))
          (fun i hi ih => by
            rw [listEq_drop memEq x.f1 y.f1 i hi (by omega)]
            cases hc : memEq x.f1[i] (y.f1[i]'(by omega)) with
            | true =>
              rw [Bool.true_and]
              refine Ev.step (fun k => ?_) ih
              simp only [mapmakerref14_SameRel.l0]
              rw [if_pos (by omega), if_pos (by omega), if_pos (by omega), rd67 x.f1 i hi, rd67 y.f1 i (by omega), if_neg (by rw [mem_test, hc]; decide), wrap_succ i (by omega)]
            | false =>
              rw [Bool.false_and]
              refine Ev.step (f := fun _ => some false) (fun k => ?_) (Ev.now false)
              simp only [mapmakerref14_SameRel.l0]
              rw [if_pos (by omega), if_pos (by omega), if_pos (by omega), rd67 x.f1 i hi, rd67 y.f1 i (by omega), if_pos (by rw [mem_test, hc])])
          0 (by omega)
        exact h
    · simp only [if_neg hl]
      rw [listEq_len memEq x.f1 y.f1 (by omega), Bool.false_and]
      exact hj
  · simp only [if_neg h0]
    rw [beq_eq_false_iff_ne.mpr h0, Bool.false_and]
    exact hj
def dataEq (x y : S26) : Bool := listEq nodeEq x.f0 y.f0 && (listEq wayEq x.f1 y.f1 && listEq relEq x.f2 y.f2)
theorem dataEq_refl (x : S26) : dataEq x x = true := by unfold dataEq; rw [listEq_refl nodeEq nodeEq_refl, listEq_refl wayEq wayEq_refl, listEq_refl relEq relEq_refl]; rfl
theorem dataEq_symm (x y : S26) : dataEq x y = dataEq y x := by unfold dataEq; rw [listEq_symm nodeEq nodeEq_symm, listEq_symm wayEq wayEq_symm, listEq_symm relEq relEq_symm]
theorem prog_go1 : ∀ (a b : List S39), (∀ x ∈ a, x.f2.length ≤ 140737488355328) → a.length = b.length → Ev (fun k => api_Node_by_data_Same_1.go k a b) (listEq nodeEq a b)
  | [], [], _, _ => Ev.now true
  | [], _ :: _, _, h => absurd h (by simp)
  | _ :: _, [], _, h => absurd h (by simp)
  | x :: xs, y :: ys, hp, h => by
    refine Ev.congr (f := fun k => (data_Same_1.f k x.f0 x.f1.f0 x.f1.f1 x.f2 y.f0 y.f1.f0 y.f1.f1 y.f2).bind fun b => if b = true then api_Node_by_data_Same_1.go k xs ys else some false) (fun k => rfl) (Ev.bind (prog_same1 x y (hp x List.mem_cons_self)) ?_)
    show Ev _ (nodeEq x y && listEq nodeEq xs ys)
    cases hc : nodeEq x y with
    | true => simp only [if_true, Bool.true_and]; exact prog_go1 xs ys (fun z hz => hp z (List.mem_cons_of_mem _ hz)) (by simpa using h)
    | false => simp only [Bool.false_eq_true, if_false, Bool.false_and]; exact Ev.now false
theorem prog_go2 : ∀ (a b : List S45), (∀ x ∈ a, x.f1.length ≤ 140737488355328 ∧ x.f2.length ≤ 140737488355328) → a.length = b.length → Ev (fun k => api_Way_by_data_Same_2.go k a b) (listEq wayEq a b)
  | [], [], _, _ => Ev.now true
  | [], _ :: _, _, h => absurd h (by simp)
  | _ :: _, [], _, h => absurd h (by simp)
  | x :: xs, y :: ys, hp, h => by
    refine Ev.congr (f := fun k => (data_Same_2.f k x.f0 x.f1 x.f2 y.f0 y.f1 y.f2).bind fun b => if b = true then api_Way_by_data_Same_2.go k xs ys else some false) (fun k => rfl) (Ev.bind (prog_same2 x y (hp x List.mem_cons_self).1 (hp x List.mem_cons_self).2) ?_)
    show Ev _ (wayEq x y && listEq wayEq xs ys)
    cases hc : wayEq x y with
    | true => simp only [if_true, Bool.true_and]; exact prog_go2 xs ys (fun z hz => hp z (List.mem_cons_of_mem _ hz)) (by simpa using h)
    | false => simp only [Bool.false_eq_true, if_false, Bool.false_and]; exact Ev.now false
theorem prog_go3 : ∀ (a b : List S51), (∀ x ∈ a, x.f1.length ≤ 140737488355328 ∧ x.f2.length ≤ 140737488355328) → a.length = b.length → Ev (fun k => api_Rel_by_data_Same_3.go k a b) (listEq relEq a b)
  | [], [], _, _ => Ev.now true
  | [], _ :: _, _, h => absurd h (by simp)
  | _ :: _, [], _, h => absurd h (by simp)
  | x :: xs, y :: ys, hp, h => by
    refine Ev.congr (f := fun k => (data_Same_3.f k x.f0 x.f1 x.f2 y.f0 y.f1 y.f2).bind fun b => if b = true then api_Rel_by_data_Same_3.go k xs ys else some false) (fun k => rfl) (Ev.bind (prog_same3 x y (hp x List.mem_cons_self).1 (hp x List.mem_cons_self).2) ?_)
    show Ev _ (relEq x y && listEq relEq xs ys)
    cases hc : relEq x y with
    | true => simp only [if_true, Bool.true_and]; exact prog_go3 xs ys (fun z hz => hp z (List.mem_cons_of_mem _ hz)) (by simpa using h)
    | false => simp only [Bool.false_eq_true, if_false, Bool.false_and]; exact Ev.now false
theorem prog_same (x y : S26) (w : wf26 x) : Ev (fun k => data_Same.f k x.f0 x.f1 x.f2 y.f0 y.f1 y.f2) (dataEq x y) := by
  obtain ⟨⟨h0, p0⟩, ⟨h1, p1⟩, ⟨h2, p2⟩⟩ := w
  have e1 : Ev (fun k => api_Node_by_data_Same_1.f k x.f0 y.f0) (listEq nodeEq x.f0 y.f0) := by
    unfold api_Node_by_data_Same_1.f
    by_cases hl : x.f0.length = y.f0.length
    · simp only [if_pos hl]; exact prog_go1 _ _ (fun z hz => (p0 z hz).2.2.1) hl
    · simp only [if_neg hl]; rw [listEq_len nodeEq _ _ hl]; exact Ev.now false
  have e2 : Ev (fun k => api_Way_by_data_Same_2.f k x.f1 y.f1) (listEq wayEq x.f1 y.f1) := by
    unfold api_Way_by_data_Same_2.f
    by_cases hl : x.f1.length = y.f1.length
    · simp only [if_pos hl]; exact prog_go2 _ _ (fun z hz => ⟨(p1 z hz).2.1.1, (p1 z hz).2.2.1⟩) hl
    · simp only [if_neg hl]; rw [listEq_len wayEq _ _ hl]; exact Ev.now false
  have e3 : Ev (fun k => api_Rel_by_data_Same_3.f k x.f2 y.f2) (listEq relEq x.f2 y.f2) := by
    unfold api_Rel_by_data_Same_3.f
    by_cases hl : x.f2.length = y.f2.length
    · simp only [if_pos hl]; exact prog_go3 _ _ (fun z hz => ⟨(p2 z hz).2.1.1, (p2 z hz).2.2.1⟩) hl
    · simp only [if_neg hl]; rw [listEq_len relEq _ _ hl]; exact Ev.now false
  unfold data_Same.f dataEq
  refine Ev.bind e1 ?_
  cases listEq nodeEq x.f0 y.f0 with
  | false => simp only [Bool.false_eq_true, if_false, Bool.false_and]; exact Ev.now false
  | true =>
    simp only [if_true, Bool.true_and]
    refine Ev.bind e2 ?_
    cases listEq wayEq x.f1 y.f1 with
    | false => simp only [Bool.false_eq_true, if_false, Bool.false_and]; exact Ev.now false
    | true => simp only [if_true, Bool.true_and]; exact Ev.bind e3 (Ev.now _)
theorem ref_same (x y : S26) (w : wf26 x) : Ev (fun k => mapmakerref14_Same.f k x.f0 x.f1 x.f2 y.f0 y.f1 y.f2) (dataEq x y) := by
  obtain ⟨⟨h0, p0⟩, ⟨h1, p1⟩, ⟨h2, p2⟩⟩ := w
  have hj : Ev (fun k => mapmakerref14_Same.j0 k true x.f0 x.f1 x.f2 y.f0 y.f1 y.f2) false := Ev.step (f := fun _ => some false) (fun k => by simp only [mapmakerref14_Same.j0, if_true]) (Ev.now false)
  unfold mapmakerref14_Same.f dataEq
  by_cases c0 : (x.f0.length : Int) = (y.f0.length : Int)
  · simp only [if_pos c0]
    by_cases c1 : (x.f1.length : Int) = (y.f1.length : Int)
    · simp only [if_pos c1]
      by_cases c2 : (x.f2.length : Int) = (y.f2.length : Int)
      · rw [bne_eq_false_iff_eq.mpr c2]
        refine Ev.step (fun k => by simp only [mapmakerref14_Same.j0, Bool.false_eq_true, if_false]; rfl) ?_
        have hr := ev_loop x.f2.length (fun k i => mapmakerref14_Same.l2 k (i : Int) x.f0 x.f1 x.f2 y.f0 y.f1 y.f2) (fun i => listEq relEq (x.f2.drop i) (y.f2.drop i))
          (Ev.step (f := fun _ => some true) (fun k => by simp only [mapmakerref14_Same.l2]; rw [if_neg (by omega)]) (by rw [listEq_end relEq x.f2 y.f2 (by omega)]; exact Ev.now true))
          (fun i hi ih => by
            rw [listEq_drop relEq x.f2 y.f2 i hi (by omega)]
            refine Ev.step (f := fun k => (mapmakerref14_SameRel.f k x.f2[i].f0 x.f2[i].f1 x.f2[i].f2 (y.f2[i]'(by omega)).f0 (y.f2[i]'(by omega)).f1 (y.f2[i]'(by omega)).f2).bind fun t => if t = true then mapmakerref14_Same.l2 k (wrap64 ((i : Int) + 1)) x.f0 x.f1 x.f2 y.f0 y.f1 y.f2 else some false) (fun k => by
              simp only [mapmakerref14_Same.l2]
              rw [if_pos (by omega), if_pos (by omega), if_pos (by omega), rd51 x.f2 i hi, rd51 y.f2 i (by omega)]) (Ev.bind (ref_sameRel _ _ (p2 _ (List.getElem_mem hi)).2.1.1 (p2 _ (List.getElem_mem hi)).2.2.1) ?_)
            cases relEq x.f2[i] (y.f2[i]'(by omega)) with
            | true => simp only [if_true, Bool.true_and]; rw [wrap_succ i (by omega)]; exact ih
            | false => simp only [Bool.false_eq_true, if_false, Bool.false_and]; exact Ev.now false)
          0 (by omega)
        have hw := ev_loop x.f1.length (fun k i => mapmakerref14_Same.l1 k (i : Int) x.f0 x.f1 x.f2 y.f0 y.f1 y.f2) (fun i => listEq wayEq (x.f1.drop i) (y.f1.drop i) && listEq relEq x.f2 y.f2)
          (Ev.step (f := fun k => mapmakerref14_Same.l2 k 0 x.f0 x.f1 x.f2 y.f0 y.f1 y.f2) (fun k => by simp only [mapmakerref14_Same.l1]; rw [if_neg (by omega)]) (by rw [listEq_end wayEq x.f1 y.f1 (by omega), Bool.true_and]; exact hr))
          (fun i hi ih => by
            rw [listEq_drop wayEq x.f1 y.f1 i hi (by omega)]
            refine Ev.step (f := fun k => (mapmakerref14_SameWay.f k x.f1[i].f0 x.f1[i].f1 x.f1[i].f2 (y.f1[i]'(by omega)).f0 (y.f1[i]'(by omega)).f1 (y.f1[i]'(by omega)).f2).bind fun t => if t = true then mapmakerref14_Same.l1 k (wrap64 ((i : Int) + 1)) x.f0 x.f1 x.f2 y.f0 y.f1 y.f2 else some false) (fun k => by
              simp only [mapmakerref14_Same.l1]
              rw [if_pos (by omega), if_pos (by omega), if_pos (by omega), rd45 x.f1 i hi, rd45 y.f1 i (by omega)]) (Ev.bind (ref_sameWay _ _ (p1 _ (List.getElem_mem hi)).2.1.1 (p1 _ (List.getElem_mem hi)).2.2.1) ?_)
            cases wayEq x.f1[i] (y.f1[i]'(by omega)) with
            | true => simp only [if_true, Bool.true_and]; rw [wrap_succ i (by omega)]; exact ih
            | false => simp only [Bool.false_eq_true, if_false, Bool.false_and]; exact Ev.now false)
          0 (by omega)
        have hn := ev_loop x.f0.length (fun k i => mapmakerref14_Same.l0 k (i : Int) x.f0 x.f1 x.f2 y.f0 y.f1 y.f2) (fun i => listEq nodeEq (x.f0.drop i) (y.f0.drop i) && (listEq wayEq x.f1 y.f1 && listEq relEq x.f2 y.f2))
          (Ev.step (f := fun k => mapmakerref14_Same.l1 k 0 x.f0 x.f1 x.f2 y.f0 y.f1 y.f2) (fun k => by simp only [mapmakerref14_Same.l0]; rw [if_neg (by omega)]) (by rw [listEq_end nodeEq x.f0 y.f0 (by omega), Bool.true_and]; exact hw))
          (fun i hi ih => by
            rw [listEq_drop nodeEq x.f0 y.f0 i hi (by omega)]
            refine Ev.step (f := fun k => (mapmakerref14_SameNode.f k x.f0[i].f0 x.f0[i].f1.f0 x.f0[i].f1.f1 x.f0[i].f2 (y.f0[i]'(by omega)).f0 (y.f0[i]'(by omega)).f1.f0 (y.f0[i]'(by omega)).f1.f1 (y.f0[i]'(by omega)).f2).bind fun t => if t = true then mapmakerref14_Same.l0 k (wrap64 ((i : Int) + 1)) x.f0 x.f1 x.f2 y.f0 y.f1 y.f2 else some false) (fun k => by
              simp only [mapmakerref14_Same.l0]
              rw [if_pos (by omega), if_pos (by omega), if_pos (by omega), rd39 x.f0 i hi, rd39 y.f0 i (by omega)]) (Ev.bind (ref_sameNode _ _ (p0 _ (List.getElem_mem hi)).2.2.1) ?_)
            cases nodeEq x.f0[i] (y.f0[i]'(by omega)) with
            | true => simp only [if_true, Bool.true_and]; rw [wrap_succ i (by omega)]; exact ih
            | false => simp only [Bool.false_eq_true, if_false, Bool.false_and]; exact Ev.now false)
          0 (by omega)
        exact hn
      · rw [bne_iff_ne.mpr c2, listEq_len relEq x.f2 y.f2 (by omega), Bool.and_false, Bool.and_false]
        exact hj
    · simp only [if_neg c1]
      rw [listEq_len wayEq x.f1 y.f1 (by omega), Bool.false_and, Bool.and_false]
      exact hj
  · simp only [if_neg c0]
    rw [listEq_len nodeEq x.f0 y.f0 (by omega), Bool.false_and]
    exact hj
end Go.Proofs.Ytgenbepicnbecaa.Pure
