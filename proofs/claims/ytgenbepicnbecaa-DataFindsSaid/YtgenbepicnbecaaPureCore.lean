/- c14, plain: tags, IDs, lookups: what Check needs, of the program and of its reference. -/
import Derived.Test.YtgenbepicnbecaaPAllx15
import Derived.Test.YtgenbepicnbecaaPAllx22
namespace Go.Proofs.Ytgenbepicnbecaa.Pure
open Go.RowKit Go.Proofs.Ytgenbepicnbecaa.PAll Go.Proofs.YtgenbepicnbecaaW.PrintWords Go.Proofs.YtgenbepicnbecaaW.PrintLast
set_option linter.unusedVariables false
set_option linter.unusedSimpArgs false
theorem rdI (l : List Int) (i : Nat) (h : i < l.length) : rd l (i : Int) = l[i] := by
  unfold rd; rw [Int.toNat_natCast, List.getD_eq_getElem?_getD, List.getElem?_eq_getElem h]; rfl
theorem rd39 (l : List S39) (i : Nat) (h : i < l.length) : rd_T39 l (i : Int) = l[i] := by
  unfold rd_T39; rw [Int.toNat_natCast, List.getD_eq_getElem?_getD, List.getElem?_eq_getElem h]; rfl
theorem rd45 (l : List S45) (i : Nat) (h : i < l.length) : rd_T45 l (i : Int) = l[i] := by
  unfold rd_T45; rw [Int.toNat_natCast, List.getD_eq_getElem?_getD, List.getElem?_eq_getElem h]; rfl
theorem rd51 (l : List S51) (i : Nat) (h : i < l.length) : rd_T51 l (i : Int) = l[i] := by
  unfold rd_T51; rw [Int.toNat_natCast, List.getD_eq_getElem?_getD, List.getElem?_eq_getElem h]; rfl
theorem rd67 (l : List S67) (i : Nat) (h : i < l.length) : rd_T67 l (i : Int) = l[i] := by
  unfold rd_T67; rw [Int.toNat_natCast, List.getD_eq_getElem?_getD, List.getElem?_eq_getElem h]; rfl
theorem rd70 (l : List S70) (i : Nat) (h : i < l.length) : rd_T70 l (i : Int) = l[i] := by
  unfold rd_T70; rw [Int.toNat_natCast, List.getD_eq_getElem?_getD, List.getElem?_eq_getElem h]; rfl
theorem rd34 (l : List S34) (i : Nat) (h : i < l.length) : rd_T34 l (i : Int) = l[i] := by
  unfold rd_T34; rw [Int.toNat_natCast, List.getD_eq_getElem?_getD, List.getElem?_eq_getElem h]; rfl
theorem wrap_succ (i : Nat) (h : (i : Int) < 9223372036854775807) : wrap64 ((i : Int) + 1) = ((i + 1 : Nat) : Int) := by unfold wrap64; omega
theorem wrapI {n : Int} (h : -9223372036854775808 ≤ n ∧ n ≤ 9223372036854775807) : wrap64 n = n := by unfold wrap64; omega
theorem ev_loop {α : Type} (n : Nat) (g : Nat → Nat → Option α) (spec : Nat → α) (hend : Ev (fun k => g k n) (spec n)) (hstep : ∀ i, i < n → Ev (fun k => g k (i + 1)) (spec (i + 1)) → Ev (fun k => g k i) (spec i)) : ∀ i, i ≤ n → Ev (fun k => g k i) (spec i) := by
  have go : ∀ d i, i ≤ n → n - i = d → Ev (fun k => g k i) (spec i) := by
    intro d
    induction d with
    | zero => intro i hi hd; obtain rfl : i = n := by omega
              exact hend
    | succ d ih => intro i hi hd; exact hstep i (by omega) (ih (i + 1) (by omega) (by omega))
  exact fun i hi => go (n - i) i hi rfl
def nodeV (l : List S39) (a : Int) : Int × Int × Int × List S70 × Bool := (((l.find? (fun x => x.f0 == a)).getD z39).f0, ((l.find? (fun x => x.f0 == a)).getD z39).f1.f0, ((l.find? (fun x => x.f0 == a)).getD z39).f1.f1, ((l.find? (fun x => x.f0 == a)).getD z39).f2, (l.find? (fun x => x.f0 == a)).isSome)
def wayV (l : List S45) (a : Int) : Int × List Int × List S70 × Bool := (((l.find? (fun x => x.f0 == a)).getD z45).f0, ((l.find? (fun x => x.f0 == a)).getD z45).f1, ((l.find? (fun x => x.f0 == a)).getD z45).f2, (l.find? (fun x => x.f0 == a)).isSome)
def relV (l : List S51) (a : Int) : Int × List S67 × List S70 × Bool := (((l.find? (fun x => x.f0 == a)).getD z51).f0, ((l.find? (fun x => x.f0 == a)).getD z51).f1, ((l.find? (fun x => x.f0 == a)).getD z51).f2, (l.find? (fun x => x.f0 == a)).isSome)
theorem find_drop {α : Type} (p : α → Bool) (l : List α) (i : Nat) (h : i < l.length) : (l.drop i).find? p = if p l[i] then some l[i] else (l.drop (i + 1)).find? p := by
  rw [List.drop_eq_getElem_cons h, List.find?_cons]
  cases p l[i] <;> rfl
theorem ref_node (l0 : List S39) (l1 : List S45) (l2 : List S51) (a : Int) (hl : l0.length ≤ 140737488355328) : Ev (fun k => mapmakerref14_Node.f k l0 l1 l2 a) (nodeV l0 a) := by
  have h := ev_loop l0.length (fun k i => mapmakerref14_Node.l0 k a (i : Int) l0 l1 l2) (fun i => nodeV (l0.drop i) a)
    (Ev.step (f := fun _ => some (nodeV (l0.drop l0.length) a)) (fun k => by simp only [mapmakerref14_Node.l0]; rw [if_neg (by omega), List.drop_length]; rfl) (Ev.now _))
    (fun i hi ih => by
      have e := find_drop (fun x : S39 => x.f0 == a) l0 i hi
      by_cases hx : l0[i].f0 = a
      · refine Ev.step (f := fun _ => some (nodeV (l0.drop i) a)) (fun k => ?_) (Ev.now _)
        simp only [mapmakerref14_Node.l0]
        rw [if_pos (by omega), if_pos (by omega), rd39 l0 i hi, if_pos hx]
        unfold nodeV
        rw [e, if_pos (beq_iff_eq.mpr hx)]
        rfl
      · have e2 : nodeV (l0.drop i) a = nodeV (l0.drop (i + 1)) a := by unfold nodeV; rw [e, if_neg (by simpa using hx)]
        rw [e2]
        refine Ev.step (fun k => ?_) ih
        simp only [mapmakerref14_Node.l0]
        rw [if_pos (by omega), if_pos (by omega), rd39 l0 i hi, if_neg hx, wrap_succ i (by omega)])
    0 (by omega)
  exact h
theorem ref_way1 (l0 : List S39) (l1 : List S45) (l2 : List S51) (a : Int) (hl : l1.length ≤ 140737488355328) : Ev (fun k => mapmakerref14_Way.f k l0 l1 l2 a) (wayV l1 a) := by
  have h := ev_loop l1.length (fun k i => mapmakerref14_Way.l0 k a (i : Int) l0 l1 l2) (fun i => wayV (l1.drop i) a)
    (Ev.step (f := fun _ => some (wayV (l1.drop l1.length) a)) (fun k => by simp only [mapmakerref14_Way.l0]; rw [if_neg (by omega), List.drop_length]; rfl) (Ev.now _))
    (fun i hi ih => by
      have e := find_drop (fun x : S45 => x.f0 == a) l1 i hi
      by_cases hx : l1[i].f0 = a
      · refine Ev.step (f := fun _ => some (wayV (l1.drop i) a)) (fun k => ?_) (Ev.now _)
        simp only [mapmakerref14_Way.l0]
        rw [if_pos (by omega), if_pos (by omega), rd45 l1 i hi, if_pos hx]
        unfold wayV
        rw [e, if_pos (beq_iff_eq.mpr hx)]
        rfl
      · have e2 : wayV (l1.drop i) a = wayV (l1.drop (i + 1)) a := by unfold wayV; rw [e, if_neg (by simpa using hx)]
        rw [e2]
        refine Ev.step (fun k => ?_) ih
        simp only [mapmakerref14_Way.l0]
        rw [if_pos (by omega), if_pos (by omega), rd45 l1 i hi, if_neg hx, wrap_succ i (by omega)])
    0 (by omega)
  exact h
theorem ref_rel1 (l0 : List S39) (l1 : List S45) (l2 : List S51) (a : Int) (hl : l2.length ≤ 140737488355328) : Ev (fun k => mapmakerref14_Rel.f k l0 l1 l2 a) (relV l2 a) := by
  have h := ev_loop l2.length (fun k i => mapmakerref14_Rel.l0 k a (i : Int) l0 l1 l2) (fun i => relV (l2.drop i) a)
    (Ev.step (f := fun _ => some (relV (l2.drop l2.length) a)) (fun k => by simp only [mapmakerref14_Rel.l0]; rw [if_neg (by omega), List.drop_length]; rfl) (Ev.now _))
    (fun i hi ih => by
      have e := find_drop (fun x : S51 => x.f0 == a) l2 i hi
      by_cases hx : l2[i].f0 = a
      · refine Ev.step (f := fun _ => some (relV (l2.drop i) a)) (fun k => ?_) (Ev.now _)
        simp only [mapmakerref14_Rel.l0]
        rw [if_pos (by omega), if_pos (by omega), rd51 l2 i hi, if_pos hx]
        unfold relV
        rw [e, if_pos (beq_iff_eq.mpr hx)]
        rfl
      · have e2 : relV (l2.drop i) a = relV (l2.drop (i + 1)) a := by unfold relV; rw [e, if_neg (by simpa using hx)]
        rw [e2]
        refine Ev.step (fun k => ?_) ih
        simp only [mapmakerref14_Rel.l0]
        rw [if_pos (by omega), if_pos (by omega), rd51 l2 i hi, if_neg hx, wrap_succ i (by omega)])
    0 (by omega)
  exact h
theorem find_has {α : Type} (g : α → Int) (l : List α) (a : Int) : (l.find? (fun x => g x == a)).isSome = (l.map g).contains a := by
  induction l with
  | nil => rfl
  | cons x l ih =>
    rw [List.find?_cons, List.map_cons, List.contains_cons]
    by_cases h : g x = a
    · subst h; simp
    · have h1 : (g x == a) = false := beq_eq_false_iff_ne.mpr h
      have h2 : (a == g x) = false := beq_eq_false_iff_ne.mpr (fun e => h e.symm)
      rw [h1, h2, Bool.false_or]
      exact ih
end Go.Proofs.Ytgenbepicnbecaa.Pure
