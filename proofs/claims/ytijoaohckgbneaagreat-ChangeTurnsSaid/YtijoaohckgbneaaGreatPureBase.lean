/- c15, plain: c14's words by this seat's numbers. -/
import Derived.Test.YtijoaohckgbneaaGreatPAllx24
namespace Go.Proofs.YtijoaohckgbneaaGreat.Pure
open Go.RowKit Go.Proofs.YtijoaohckgbneaaGreat.PAll Go.Proofs.YtijoaohckgbneaaGreatW.PrintWords Go.Proofs.YtijoaohckgbneaaGreatW.PrintLast
set_option linter.unusedVariables false
set_option linter.unusedSimpArgs false
theorem rdI (l : List Int) (i : Nat) (h : i < l.length) : rd l (i : Int) = l[i] := by
  unfold rd; rw [Int.toNat_natCast, List.getD_eq_getElem?_getD, List.getElem?_eq_getElem h]; rfl
theorem rd37 (l : List S37) (i : Nat) (h : i < l.length) : rd_T37 l (i : Int) = l[i] := by
  unfold rd_T37; rw [Int.toNat_natCast, List.getD_eq_getElem?_getD, List.getElem?_eq_getElem h]; rfl
theorem rd40 (l : List S40) (i : Nat) (h : i < l.length) : rd_T40 l (i : Int) = l[i] := by
  unfold rd_T40; rw [Int.toNat_natCast, List.getD_eq_getElem?_getD, List.getElem?_eq_getElem h]; rfl
theorem rd43 (l : List S43) (i : Nat) (h : i < l.length) : rd_T43 l (i : Int) = l[i] := by
  unfold rd_T43; rw [Int.toNat_natCast, List.getD_eq_getElem?_getD, List.getElem?_eq_getElem h]; rfl
theorem rd112 (l : List S112) (i : Nat) (h : i < l.length) : rd_T112 l (i : Int) = l[i] := by
  unfold rd_T112; rw [Int.toNat_natCast, List.getD_eq_getElem?_getD, List.getElem?_eq_getElem h]; rfl
theorem rd129 (l : List S129) (i : Nat) (h : i < l.length) : rd_T129 l (i : Int) = l[i] := by
  unfold rd_T129; rw [Int.toNat_natCast, List.getD_eq_getElem?_getD, List.getElem?_eq_getElem h]; rfl
theorem rd48 (l : List S48) (i : Nat) (h : i < l.length) : rd_T48 l (i : Int) = l[i] := by
  unfold rd_T48; rw [Int.toNat_natCast, List.getD_eq_getElem?_getD, List.getElem?_eq_getElem h]; rfl
theorem wrap_succ (i : Nat) (h : (i : Int) < 9223372036854775807) : wrap64 ((i : Int) + 1) = ((i + 1 : Nat) : Int) := by unfold wrap64; omega
theorem wrapI {n : Int} (h : -9223372036854775808 ≤ n ∧ n ≤ 9223372036854775807) : wrap64 n = n := by unfold wrap64; omega
theorem ev_loop {α : Type} (n : Nat) (g : Nat → Nat → Option α) (spec : Nat → α) (hend : Ev (fun k => g k n) (spec n)) (hstep : ∀ i, i < n → Ev (fun k => g k (i + 1)) (spec (i + 1)) → Ev (fun k => g k i) (spec i)) : ∀ i, i ≤ n → Ev (fun k => g k i) (spec i) := by
  have go : ∀ d i, i ≤ n → n - i = d → Ev (fun k => g k i) (spec i) := by
    intro d
    induction d with
    | zero => intro i hi hd; obtain rfl : i = n := by omega
              exact hend
    | succ d ih => intro i hi hd; exact hstep i (by omega) (ih (i + 1) (by omega) (by omega))
  exact fun i hi => go (n - i) i hi rfl
theorem toList_length (s : ByteArray) : s.toList.length = s.size := by rw [ByteArray.toList_eq s]; rfl
theorem empty_iff (a : ByteArray) : a.toList = ([] : List UInt8) ↔ (a.size : Int) < 1 := by
  have h : a.toList.length = a.size := toList_length a
  constructor
  · intro e; rw [e] at h; simp at h; omega
  · intro e; exact List.eq_nil_of_length_eq_zero (by omega)
theorem good_same (a b : ByteArray) : tags_good.f a b = mapmakerref06_inTag.f a b := by
  unfold tags_good.f mapmakerref06_inTag.f
  by_cases h : (a.size : Int) < 1
  · rw [if_pos ((empty_iff a).2 h), if_neg (by omega)]
  · rw [if_neg (fun e => h ((empty_iff a).1 e)), if_pos (show (a.size : Int) ≥ 1 by omega)]
theorem check_same0 (l : List S129) : ∀ (k : Nat) (i : Int), tags_Check.l0 k l l (l.length : Int) i = mapmakerref06_Check.l0 k l i
  | 0, _ => rfl
  | k + 1, i => by
    simp only [tags_Check.l0, mapmakerref06_Check.l0, check_same0 l k, good_same]
    by_cases h : i < (l.length : Int)
    · simp only [h, if_true]
    · simp only [h, if_false]
theorem check_same (l : List S129) (k : Nat) : tags_Check.f k l = mapmakerref06_Check.f k l := by
  unfold tags_Check.f mapmakerref06_Check.f
  rw [check_same0]
theorem inTag_ex (a b : ByteArray) : ∃ r, mapmakerref06_inTag.f a b = some r := by
  unfold mapmakerref06_inTag.f
  repeat' split
  all_goals exact ⟨_, rfl⟩
theorem check_ends (l : List S129) (hl : l.length ≤ 16) (d : Nat) : ∀ (k : Nat) (i : Nat), i ≤ l.length → l.length - i = d → d < k → ∃ r, mapmakerref06_Check.l0 k l (i : Int) = some r := by
  induction d with
  | zero =>
    intro k i hi hd hk
    obtain ⟨k, rfl⟩ : ∃ m, k = m + 1 := ⟨k - 1, by omega⟩
    simp only [mapmakerref06_Check.l0]
    rw [if_neg (by omega)]
    exact ⟨_, rfl⟩
  | succ d ih =>
    intro k i hi hd hk
    obtain ⟨k, rfl⟩ : ∃ m, k = m + 1 := ⟨k - 1, by omega⟩
    obtain ⟨r, hr⟩ := ih k (i + 1) (by omega) (by omega) (by omega)
    obtain ⟨b, hb⟩ := inTag_ex (rd_T129 l (i : Int)).f0 (rd_T129 l (i : Int)).f1
    simp only [mapmakerref06_Check.l0]
    rw [if_pos (by omega), if_pos (by omega), hb, Option.bind_some, wrap_succ i (by omega), hr]
    by_cases hbt : b = true
    · rw [if_pos hbt]
      by_cases h0 : (i : Int) > 0
      · rw [if_pos h0, wrapI (by omega), if_pos (by omega), if_pos (by omega)]
        split <;> exact ⟨_, rfl⟩
      · rw [if_neg h0]; exact ⟨_, rfl⟩
    · rw [if_neg hbt]; exact ⟨_, rfl⟩
def tchk (l : List S129) : Int := (mapmakerref06_Check.f 25 l).getD 0
theorem ref_tags (l : List S129) : Ev (fun k => mapmakerref06_Check.f k l) (tchk l) := by
  have h : ∃ r, mapmakerref06_Check.f 25 l = some r := by
    unfold mapmakerref06_Check.f
    by_cases hl : (l.length : Int) > 16
    · rw [if_pos hl]; exact ⟨_, rfl⟩
    · rw [if_neg hl]; exact check_ends l (by omega) (l.length - 0) 25 0 (by omega) rfl (by omega)
  obtain ⟨r, hr⟩ := h
  have e : tchk l = r := by unfold tchk; rw [hr]; rfl
  rw [e]
  exact Ev.of (fun k => mapmakerref06_Check.mono l k) hr
theorem prog_tags (l : List S129) : Ev (fun k => tags_Check.f k l) (tchk l) := Ev.congr (fun k => check_same l k) (ref_tags l)
def idE (n p : Int) : Int := if n < 1 then 2 else if n > 2147483647 then 2 else if n ≤ p then 6 else 0
theorem ref_id (n p : Int) : Ev (fun k => mapmakerref14_id.f k n p) (idE n p) := by
  unfold idE mapmakerref14_id.f
  by_cases h1 : n < 1
  · simp only [if_pos h1]; exact Ev.step (fun k => by simp only [mapmakerref14_id.j0]; rfl) (Ev.now 2)
  · simp only [if_neg h1]
    by_cases h2 : n > 2147483647
    · simp only [if_pos h2, decide_eq_true h2]; exact Ev.step (fun k => by simp only [mapmakerref14_id.j0]; rfl) (Ev.now 2)
    · simp only [if_neg h2, decide_eq_false h2]
      refine Ev.step (f := fun _ => if n ≤ p then some 6 else some 0) (fun k => by simp only [mapmakerref14_id.j0]; rfl) ?_
      by_cases h3 : n ≤ p
      · simp only [if_pos h3]; exact Ev.now 6
      · simp only [if_neg h3]; exact Ev.now 0
def pv (l : List Int) (i : Nat) : Int := if i = 0 then 0 else l.getD (i - 1) 0
theorem pv_succ (l : List Int) (i : Nat) (h : i < l.length) : pv l (i + 1) = l[i] := by
  unfold pv
  rw [if_neg (by omega), Nat.add_sub_cancel, List.getD_eq_getElem?_getD, List.getElem?_eq_getElem h]; rfl
theorem idsF_eq (l : List Int) (p : Int → Int) (i : Nat) (hi : i < l.length) (hp : ∀ j : Nat, (hj : j < l.length) → p (j : Int) = l[j]) : idsF p (i : Int) = idE l[i] (pv l i) := by
  unfold idsF idE
  rw [hp i hi]
  by_cases h1 : l[i] < 1
  · rw [if_pos h1, if_pos h1]
  · rw [if_neg h1, if_neg h1]
    by_cases h2 : l[i] > 2147483647
    · rw [if_pos h2, if_pos h2]
    · rw [if_neg h2, if_neg h2]
      by_cases h3 : i = 0
      · subst h3
        have e : ¬ (l[0] ≤ pv l 0) := by unfold pv; rw [if_pos rfl]; omega
        simp [e]
      · have e : (i : Int) - 1 = ((i - 1 : Nat) : Int) := by omega
        rw [if_pos (by omega), e, hp (i - 1) (by omega)]
        have e2 : pv l i = l[i - 1] := by unfold pv; rw [if_neg h3, List.getD_eq_getElem?_getD, List.getElem?_eq_getElem (by omega)]; rfl
        rw [e2]
def nodeV (l : List S37) (a : Int) : Int × Int × Int × List S129 × Bool := (((l.find? (fun x => x.f0 == a)).getD z37).f0, ((l.find? (fun x => x.f0 == a)).getD z37).f1.f0, ((l.find? (fun x => x.f0 == a)).getD z37).f1.f1, ((l.find? (fun x => x.f0 == a)).getD z37).f2, (l.find? (fun x => x.f0 == a)).isSome)
def wayV (l : List S40) (a : Int) : Int × List Int × List S129 × Bool := (((l.find? (fun x => x.f0 == a)).getD z40).f0, ((l.find? (fun x => x.f0 == a)).getD z40).f1, ((l.find? (fun x => x.f0 == a)).getD z40).f2, (l.find? (fun x => x.f0 == a)).isSome)
def relV (l : List S43) (a : Int) : Int × List S112 × List S129 × Bool := (((l.find? (fun x => x.f0 == a)).getD z43).f0, ((l.find? (fun x => x.f0 == a)).getD z43).f1, ((l.find? (fun x => x.f0 == a)).getD z43).f2, (l.find? (fun x => x.f0 == a)).isSome)
theorem find_drop {α : Type} (p : α → Bool) (l : List α) (i : Nat) (h : i < l.length) : (l.drop i).find? p = if p l[i] then some l[i] else (l.drop (i + 1)).find? p := by
  rw [List.drop_eq_getElem_cons h, List.find?_cons]
  cases p l[i] <;> rfl
theorem ref_node (l0 : List S37) (l1 : List S40) (l2 : List S43) (a : Int) (hl : l0.length ≤ 140737488355328) : Ev (fun k => mapmakerref14_Node.f k l0 l1 l2 a) (nodeV l0 a) := by
  have h := ev_loop l0.length (fun k i => mapmakerref14_Node.l0 k a (i : Int) l0 l1 l2) (fun i => nodeV (l0.drop i) a)
    (Ev.step (f := fun _ => some (nodeV (l0.drop l0.length) a)) (fun k => by simp only [mapmakerref14_Node.l0]; rw [if_neg (by omega), List.drop_length]; rfl) (Ev.now _))
    (fun i hi ih => by
      have e := find_drop (fun x : S37 => x.f0 == a) l0 i hi
      by_cases hx : l0[i].f0 = a
      · refine Ev.step (f := fun _ => some (nodeV (l0.drop i) a)) (fun k => ?_) (Ev.now _)
        simp only [mapmakerref14_Node.l0]
        rw [if_pos (by omega), if_pos (by omega), rd37 l0 i hi, if_pos hx]
        unfold nodeV
        rw [e, if_pos (beq_iff_eq.mpr hx)]
        rfl
      · have e2 : nodeV (l0.drop i) a = nodeV (l0.drop (i + 1)) a := by unfold nodeV; rw [e, if_neg (by simpa using hx)]
        rw [e2]
        refine Ev.step (fun k => ?_) ih
        simp only [mapmakerref14_Node.l0]
        rw [if_pos (by omega), if_pos (by omega), rd37 l0 i hi, if_neg hx, wrap_succ i (by omega)])
    0 (by omega)
  exact h
theorem ref_way1 (l0 : List S37) (l1 : List S40) (l2 : List S43) (a : Int) (hl : l1.length ≤ 140737488355328) : Ev (fun k => mapmakerref14_Way.f k l0 l1 l2 a) (wayV l1 a) := by
  have h := ev_loop l1.length (fun k i => mapmakerref14_Way.l0 k a (i : Int) l0 l1 l2) (fun i => wayV (l1.drop i) a)
    (Ev.step (f := fun _ => some (wayV (l1.drop l1.length) a)) (fun k => by simp only [mapmakerref14_Way.l0]; rw [if_neg (by omega), List.drop_length]; rfl) (Ev.now _))
    (fun i hi ih => by
      have e := find_drop (fun x : S40 => x.f0 == a) l1 i hi
      by_cases hx : l1[i].f0 = a
      · refine Ev.step (f := fun _ => some (wayV (l1.drop i) a)) (fun k => ?_) (Ev.now _)
        simp only [mapmakerref14_Way.l0]
        rw [if_pos (by omega), if_pos (by omega), rd40 l1 i hi, if_pos hx]
        unfold wayV
        rw [e, if_pos (beq_iff_eq.mpr hx)]
        rfl
      · have e2 : wayV (l1.drop i) a = wayV (l1.drop (i + 1)) a := by unfold wayV; rw [e, if_neg (by simpa using hx)]
        rw [e2]
        refine Ev.step (fun k => ?_) ih
        simp only [mapmakerref14_Way.l0]
        rw [if_pos (by omega), if_pos (by omega), rd40 l1 i hi, if_neg hx, wrap_succ i (by omega)])
    0 (by omega)
  exact h
theorem ref_rel1 (l0 : List S37) (l1 : List S40) (l2 : List S43) (a : Int) (hl : l2.length ≤ 140737488355328) : Ev (fun k => mapmakerref14_Rel.f k l0 l1 l2 a) (relV l2 a) := by
  have h := ev_loop l2.length (fun k i => mapmakerref14_Rel.l0 k a (i : Int) l0 l1 l2) (fun i => relV (l2.drop i) a)
    (Ev.step (f := fun _ => some (relV (l2.drop l2.length) a)) (fun k => by simp only [mapmakerref14_Rel.l0]; rw [if_neg (by omega), List.drop_length]; rfl) (Ev.now _))
    (fun i hi ih => by
      have e := find_drop (fun x : S43 => x.f0 == a) l2 i hi
      by_cases hx : l2[i].f0 = a
      · refine Ev.step (f := fun _ => some (relV (l2.drop i) a)) (fun k => ?_) (Ev.now _)
        simp only [mapmakerref14_Rel.l0]
        rw [if_pos (by omega), if_pos (by omega), rd43 l2 i hi, if_pos hx]
        unfold relV
        rw [e, if_pos (beq_iff_eq.mpr hx)]
        rfl
      · have e2 : relV (l2.drop i) a = relV (l2.drop (i + 1)) a := by unfold relV; rw [e, if_neg (by simpa using hx)]
        rw [e2]
        refine Ev.step (fun k => ?_) ih
        simp only [mapmakerref14_Rel.l0]
        rw [if_pos (by omega), if_pos (by omega), rd43 l2 i hi, if_neg hx, wrap_succ i (by omega)])
    0 (by omega)
  exact h
theorem find_has {α : Type} (g : α → Int) (l : List α) (a : Int) : (l.find? (fun x => g x == a)).isSome = (l.map g).contains a := by
  induction l with
  | nil => rfl
  | cons x l ih =>
    rw [List.find?_cons, List.map_cons, List.contains_cons]
    by_cases h : g x = a
    · subst h; simp
    · have h1 : (g x == a) = false := beq_eq_false_iff_ne.mpr h
      have h2 : (a == g x) = false := beq_eq_false_iff_ne.mpr (fun e => h e.symm)
      rw [h1, h2, Bool.false_or]
      exact ih
def badc (x : S37) : Bool := decide (x.f1.f0 < -1800000000) || (decide (x.f1.f0 > 1800000000) || (decide (x.f1.f1 < -900000000) || decide (x.f1.f1 > 900000000)))
def ngo : Int → List S37 → Int
  | _, [] => 0
  | p, x :: r => if idE x.f0 p = 0 then (if badc x = true then 11 else if tchk x.f2 = 0 then ngo x.f0 r else tchk x.f2) else idE x.f0 p
theorem ref_nodes (l : List S37) (hl : l.length ≤ 140737488355328) : Ev (fun k => mapmakerref14_nodes.f k l) (ngo 0 l) := by
  have h := ev_loop l.length (fun k i => mapmakerref14_nodes.l0 k l (pv (l.map (fun x => x.f0)) i) (i : Int)) (fun i => ngo (pv (l.map (fun x => x.f0)) i) (l.drop i))
    (Ev.step (f := fun _ => some 0) (fun k => by simp only [mapmakerref14_nodes.l0]; rw [if_neg (by omega)]) (by rw [List.drop_length]; exact Ev.now 0))
    (fun i hi ih => by
      have hpv : pv (l.map (fun x => x.f0)) (i + 1) = l[i].f0 := by rw [pv_succ _ i (by simpa using hi)]; simp
      rw [hpv] at ih
      generalize pv (l.map (fun x => x.f0)) i = p
      rw [List.drop_eq_getElem_cons hi]
      simp only [ngo]
      have hj : ∀ b, Ev (fun k => mapmakerref14_nodes.j1 k l (i : Int) b l[i].f0 l[i].f1.f0 l[i].f1.f1 l[i].f2) (if b = true then 11 else if tchk l[i].f2 = 0 then ngo l[i].f0 (l.drop (i + 1)) else tchk l[i].f2) := by
        intro b
        cases b with
        | true => exact Ev.step (f := fun _ => some 11) (fun k => by simp only [mapmakerref14_nodes.j1]; rfl) (Ev.now 11)
        | false =>
          refine Ev.step (f := fun k => (mapmakerref06_Check.f k l[i].f2).bind fun t => if t = 0 then mapmakerref14_nodes.l0 k l l[i].f0 (wrap64 ((i : Int) + 1)) else some t) (fun k => by simp only [mapmakerref14_nodes.j1]; rfl) (Ev.bind (ref_tags _) ?_)
          by_cases ht : tchk l[i].f2 = 0
          · simp only [if_pos ht]
            rw [if_neg (by decide), wrap_succ i (by omega)]
            exact ih
          · simp only [if_neg ht]
            rw [if_neg (by decide)]
            exact Ev.now _
      refine Ev.step (f := fun k => (mapmakerref14_id.f k l[i].f0 p).bind fun t => if t = 0 then (if l[i].f1.f0 < -1800000000 then mapmakerref14_nodes.j1 k l (i : Int) true l[i].f0 l[i].f1.f0 l[i].f1.f1 l[i].f2 else if l[i].f1.f0 > 1800000000 then mapmakerref14_nodes.j1 k l (i : Int) true l[i].f0 l[i].f1.f0 l[i].f1.f1 l[i].f2 else if l[i].f1.f1 < -900000000 then mapmakerref14_nodes.j1 k l (i : Int) true l[i].f0 l[i].f1.f0 l[i].f1.f1 l[i].f2 else mapmakerref14_nodes.j1 k l (i : Int) (decide (l[i].f1.f1 > 900000000)) l[i].f0 l[i].f1.f0 l[i].f1.f1 l[i].f2) else some t) (fun k => by
        simp only [mapmakerref14_nodes.l0]
        rw [if_pos (by omega), if_pos (by omega), rd37 l i hi]) (Ev.bind (ref_id _ _) ?_)
      by_cases he : idE l[i].f0 p = 0
      · simp only [if_pos he]
        have hb : badc l[i] = (decide (l[i].f1.f0 < -1800000000) || (decide (l[i].f1.f0 > 1800000000) || (decide (l[i].f1.f1 < -900000000) || decide (l[i].f1.f1 > 900000000)))) := rfl
        rw [hb]
        by_cases h1 : l[i].f1.f0 < -1800000000
        · simp only [if_pos h1, decide_eq_true h1, Bool.true_or]; exact hj true
        · simp only [if_neg h1, decide_eq_false h1, Bool.false_or]
          by_cases h2 : l[i].f1.f0 > 1800000000
          · simp only [if_pos h2, decide_eq_true h2, Bool.true_or]; exact hj true
          · simp only [if_neg h2, decide_eq_false h2, Bool.false_or]
            by_cases h3 : l[i].f1.f1 < -900000000
            · simp only [if_pos h3, decide_eq_true h3, Bool.true_or]; exact hj true
            · simp only [if_neg h3, decide_eq_false h3, Bool.false_or]; exact hj _
      · simp only [if_neg he]; exact Ev.now _)
    0 (by omega)
  exact h
theorem prog_nodes (l0 : List S37) (l1 : List S40) (l2 : List S43) (hl : l0.length ≤ 140737488355328) : Ev (fun k => data_checker_checkNodes.f k l0 l1 l2) (ngo 0 l0) := by
  have h := ev_loop l0.length (fun k i => data_checker_checkNodes.l0 k l0 (l0.length : Int) (i : Int) l0 l1 l2) (fun i => ngo (pv (l0.map (fun x => x.f0)) i) (l0.drop i))
    (Ev.step (f := fun _ => some 0) (fun k => by simp only [data_checker_checkNodes.l0]; rw [if_neg (by omega)]) (by rw [List.drop_length]; exact Ev.now 0))
    (fun i hi ih => by
      have hpv : pv (l0.map (fun x => x.f0)) (i + 1) = l0[i].f0 := by rw [pv_succ _ i (by simpa using hi)]; simp
      rw [hpv] at ih
      have hid : data_ids_by_data_checker_checkNodes_1.f (i : Int) l0 l1 l2 = some (idE l0[i].f0 (pv (l0.map (fun x => x.f0)) i)) := by
        unfold data_ids_by_data_checker_checkNodes_1.f
        rw [if_pos (by omega), if_pos (by omega), idsF_eq (l0.map (fun x => x.f0)) _ i (by simpa using hi) (fun j hj => by rw [rd37 l0 j (by simpa using hj)]; simp)]
        simp
      generalize pv (l0.map (fun x => x.f0)) i = p at hid
      rw [List.drop_eq_getElem_cons hi]
      simp only [ngo]
      have hj2 : Ev (fun k => data_checker_checkNodes.j2 k 0 l0 (l0.length : Int) (i : Int) l0 l1 l2 l0[i].f0 l0[i].f1.f0 l0[i].f1.f1 l0[i].f2) (if tchk l0[i].f2 = 0 then ngo l0[i].f0 (l0.drop (i + 1)) else tchk l0[i].f2) := by
        refine Ev.step (f := fun k => (tags_Check.f k l0[i].f2).bind fun t => if t = 0 then data_checker_checkNodes.l0 k l0 (l0.length : Int) (wrap64 ((i : Int) + 1)) l0 l1 l2 else some t) (fun k => by simp only [data_checker_checkNodes.j2]; rfl) (Ev.bind (prog_tags _) ?_)
        by_cases ht : tchk l0[i].f2 = 0
        · simp only [if_pos ht]
          rw [wrap_succ i (by omega)]
          exact ih
        · simp only [if_neg ht]
          exact Ev.now _
      have hj2' : ∀ e : Int, e ≠ 0 → Ev (fun k => data_checker_checkNodes.j2 k e l0 (l0.length : Int) (i : Int) l0 l1 l2 l0[i].f0 l0[i].f1.f0 l0[i].f1.f1 l0[i].f2) e := fun e he =>
        Ev.step (f := fun _ => some e) (fun k => by simp only [data_checker_checkNodes.j2]; rw [if_neg he]) (Ev.now e)
      have hj : ∀ b, Ev (fun k => data_checker_checkNodes.j1 k 0 l0 (l0.length : Int) (i : Int) b l0 l1 l2 l0[i].f0 l0[i].f1.f0 l0[i].f1.f1 l0[i].f2) (if b = true then 11 else if tchk l0[i].f2 = 0 then ngo l0[i].f0 (l0.drop (i + 1)) else tchk l0[i].f2) := by
        intro b
        cases b with
        | true => exact Ev.step (fun k => by simp only [data_checker_checkNodes.j1]; rfl) (hj2' 11 (by decide))
        | false => exact Ev.step (fun k => by simp only [data_checker_checkNodes.j1]; rfl) hj2
      refine Ev.step (f := fun k => (some (idE l0[i].f0 p)).bind fun t => if t = 0 then (if l0[i].f1.f0 < -1800000000 then data_checker_checkNodes.j1 k t l0 (l0.length : Int) (i : Int) true l0 l1 l2 l0[i].f0 l0[i].f1.f0 l0[i].f1.f1 l0[i].f2 else if l0[i].f1.f0 > 1800000000 then data_checker_checkNodes.j1 k t l0 (l0.length : Int) (i : Int) true l0 l1 l2 l0[i].f0 l0[i].f1.f0 l0[i].f1.f1 l0[i].f2 else if l0[i].f1.f1 < -900000000 then data_checker_checkNodes.j1 k t l0 (l0.length : Int) (i : Int) true l0 l1 l2 l0[i].f0 l0[i].f1.f0 l0[i].f1.f1 l0[i].f2 else data_checker_checkNodes.j1 k t l0 (l0.length : Int) (i : Int) (decide (l0[i].f1.f1 > 900000000)) l0 l1 l2 l0[i].f0 l0[i].f1.f0 l0[i].f1.f1 l0[i].f2) else data_checker_checkNodes.j1 k t l0 (l0.length : Int) (i : Int) false l0 l1 l2 l0[i].f0 l0[i].f1.f0 l0[i].f1.f1 l0[i].f2) (fun k => by
        simp only [data_checker_checkNodes.l0]
        rw [if_pos (by omega), if_pos (by omega), if_pos (by omega), rd37 l0 i hi, hid]) ?_
      simp only [Option.bind_some]
      by_cases he : idE l0[i].f0 p = 0
      · simp only [he, if_true]
        have hb : badc l0[i] = (decide (l0[i].f1.f0 < -1800000000) || (decide (l0[i].f1.f0 > 1800000000) || (decide (l0[i].f1.f1 < -900000000) || decide (l0[i].f1.f1 > 900000000)))) := rfl
        rw [hb]
        by_cases h1 : l0[i].f1.f0 < -1800000000
        · simp only [if_pos h1, decide_eq_true h1, Bool.true_or]; exact hj true
        · simp only [if_neg h1, decide_eq_false h1, Bool.false_or]
          by_cases h2 : l0[i].f1.f0 > 1800000000
          · simp only [if_pos h2, decide_eq_true h2, Bool.true_or]; exact hj true
          · simp only [if_neg h2, decide_eq_false h2, Bool.false_or]
            by_cases h3 : l0[i].f1.f1 < -900000000
            · simp only [if_pos h3, decide_eq_true h3, Bool.true_or]; exact hj true
            · simp only [if_neg h3, decide_eq_false h3, Bool.false_or]; exact hj _
      · simp only [if_neg he]
        exact Ev.step (fun k => by simp only [data_checker_checkNodes.j1]; rfl) (hj2' _ he))
    0 (by omega)
  exact h
def WfD (l0 : List S37) (l1 : List S40) (l2 : List S43) : Prop := (l0.length ≤ 140737488355328 ∧ l1.length ≤ 140737488355328 ∧ l2.length ≤ 140737488355328) ∧ (∀ x ∈ l0, InI x.f0) ∧ (∀ x ∈ l1, InI x.f0 ∧ x.f1.length ≤ 140737488355328 ∧ ∀ n ∈ x.f1, InI n) ∧ (∀ x ∈ l2, x.f1.length ≤ 140737488355328 ∧ ∀ m ∈ x.f1, InI m.f0.f1)
def i37 (l : List S37) : List Int := l.map (fun x => x.f0)
def i40 (l : List S40) : List Int := l.map (fun x => x.f0)
def i43 (l : List S43) : List Int := l.map (fun x => x.f0)
def wayE (ids : List Int) (x : S40) : Int := if (x.f1.length : Int) < 2 then 12 else if (x.f1.length : Int) > 2000 then 5 else if x.f1.any (fun n => !ids.contains n) = true then 9 else tchk x.f2
def wgo (ids : List Int) : Int → List S40 → Int
  | _, [] => 0
  | p, x :: r => if idE x.f0 p = 0 then (if wayE ids x = 0 then wgo ids x.f0 r else wayE ids x) else idE x.f0 p
theorem nodeV_has (l : List S37) (a : Int) : (nodeV l a).2.2.2.2 = (i37 l).contains a := find_has (fun x : S37 => x.f0) l a
theorem wayV_has (l : List S40) (a : Int) : (wayV l a).2.2.2 = (i40 l).contains a := find_has (fun x : S40 => x.f0) l a
theorem relV_has (l : List S43) (a : Int) : (relV l a).2.2.2 = (i43 l).contains a := find_has (fun x : S43 => x.f0) l a
theorem ref_way (l0 : List S37) (l1 : List S40) (l2 : List S43) (x : S40) (h0 : l0.length ≤ 140737488355328) : Ev (fun k => mapmakerref14_way.f k l0 l1 l2 x.f0 x.f1 x.f2) (wayE (i37 l0) x) := by
  unfold mapmakerref14_way.f wayE
  by_cases h1 : (x.f1.length : Int) < 2
  · simp only [if_pos h1]; exact Ev.now _
  · simp only [if_neg h1]
    by_cases h2 : (x.f1.length : Int) > 2000
    · simp only [if_pos h2]; exact Ev.now _
    · simp only [if_neg h2]
      have h := ev_loop x.f1.length (fun k i => mapmakerref14_way.l0 k (i : Int) l0 l1 l2 x.f0 x.f1 x.f2) (fun i => if (x.f1.drop i).any (fun n => !(i37 l0).contains n) = true then 9 else tchk x.f2)
        (Ev.step (f := fun k => (mapmakerref06_Check.f k x.f2).bind fun t => some t) (fun k => by simp only [mapmakerref14_way.l0]; rw [if_neg (by omega)]) (by rw [List.drop_length]; exact Ev.bind (ref_tags _) (Ev.now _)))
        (fun i hi ih => by
          rw [List.drop_eq_getElem_cons hi]
          refine Ev.step (f := fun k => (mapmakerref14_Node.f k l0 l1 l2 x.f1[i]).bind fun bt => if bt.2.2.2.2 = true then mapmakerref14_way.l0 k (wrap64 ((i : Int) + 1)) l0 l1 l2 x.f0 x.f1 x.f2 else some 9) (fun k => by
            simp only [mapmakerref14_way.l0]
            rw [if_pos (by omega), if_pos (by omega), rdI x.f1 i hi]) (Ev.bind (ref_node l0 l1 l2 _ h0) ?_)
          rw [nodeV_has, List.any_cons]
          by_cases hc : (i37 l0).contains x.f1[i] = true
          · simp only [hc, if_true, Bool.not_true, Bool.false_or]
            rw [wrap_succ i (by omega)]
            exact ih
          · have hc' : (i37 l0).contains x.f1[i] = false := Bool.eq_false_iff.mpr hc
            simp only [hc', Bool.not_false, Bool.true_or, if_true]
            exact Ev.now 9)
        0 (by omega)
      exact h
theorem prog_ways (l0 : List S37) (l1 : List S40) (l2 : List S43) (hw : WfD l0 l1 l2) : Ev (fun k => data_checker_checkWays.f k l0 l1 l2) (wgo (i37 l0) 0 l1) := by
  obtain ⟨⟨h0, h1, h2⟩, hi0, hi1, hi2⟩ := hw
  have h := ev_loop l1.length (fun k i => data_checker_checkWays.l0 k l1 (l1.length : Int) (i : Int) l0 l1 l2) (fun i => wgo (i37 l0) (pv (i40 l1) i) (l1.drop i))
    (Ev.step (f := fun _ => some 0) (fun k => by simp only [data_checker_checkWays.l0]; rw [if_neg (by omega)]) (by rw [List.drop_length]; exact Ev.now 0))
    (fun i hi ih => by
      have hpv : pv (i40 l1) (i + 1) = l1[i].f0 := by unfold i40; rw [pv_succ _ i (by simpa using hi)]; simp
      rw [hpv] at ih
      have hid : data_ids_by_data_checker_checkWays_1.f (i : Int) l0 l1 l2 = some (idE l1[i].f0 (pv (i40 l1) i)) := by
        unfold data_ids_by_data_checker_checkWays_1.f i40
        rw [if_pos (by omega), if_pos (by omega), idsF_eq (l1.map (fun x => x.f0)) _ i (by simpa using hi) (fun j hj => by rw [rd40 l1 j (by simpa using hj)]; simp)]
        simp
      have hcf : slices_ContainsFunc_int_int_by_data_checker_checkWays_2.f l1[i].f1 l0 l1 l2 = some (l1[i].f1.any (fun n => !(i37 l0).contains n)) := by
        unfold slices_ContainsFunc_int_int_by_data_checker_checkWays_2.f
        rw [if_pos (hi1 _ (List.getElem_mem hi)).2.2]
        rfl
      generalize pv (i40 l1) i = p at hid
      rw [List.drop_eq_getElem_cons hi]
      simp only [wgo]
      refine Ev.step (f := fun k => if idE l1[i].f0 p = 0 then (if (l1[i].f1.length : Int) < 2 then some 12 else if (l1[i].f1.length : Int) > 2000 then some 5 else if l1[i].f1.any (fun n => !(i37 l0).contains n) = true then some 9 else (tags_Check.f k l1[i].f2).bind fun t => if t = 0 then data_checker_checkWays.l0 k l1 (l1.length : Int) (wrap64 ((i : Int) + 1)) l0 l1 l2 else some t) else some (idE l1[i].f0 p)) (fun k => by
        simp only [data_checker_checkWays.l0]
        rw [if_pos (by omega), if_pos (by omega), if_pos (by omega), rd40 l1 i hi, hid, Option.bind_some, hcf, Option.bind_some, if_neg (show ¬ ((12 : Nat) = 0) by decide), if_neg (show ¬ ((5 : Nat) = 0) by decide), if_neg (show ¬ ((9 : Nat) = 0) by decide)]) ?_
      by_cases he : idE l1[i].f0 p = 0
      · simp only [if_pos he]
        unfold wayE
        by_cases c1 : (l1[i].f1.length : Int) < 2
        · simp only [if_pos c1]; rw [if_neg (by decide)]; exact Ev.now _
        · simp only [if_neg c1]
          by_cases c2 : (l1[i].f1.length : Int) > 2000
          · simp only [if_pos c2]; rw [if_neg (by decide)]; exact Ev.now _
          · simp only [if_neg c2]
            by_cases c3 : l1[i].f1.any (fun n => !(i37 l0).contains n) = true
            · simp only [if_pos c3]; rw [if_neg (by decide)]; exact Ev.now _
            · simp only [if_neg c3]
              refine Ev.bind (prog_tags _) ?_
              by_cases ht : tchk l1[i].f2 = 0
              · simp only [if_pos ht]
                rw [wrap_succ i (by omega)]
                exact ih
              · simp only [if_neg ht]; exact Ev.now _
      · simp only [if_neg he]; exact Ev.now _)
    0 (by omega)
  exact h
def relE (i0 i1 : List Int) (x : S43) : Int := if (x.f1.length : Int) > 200 then 5 else if x.f1.any (fun m => decide ((m.f1.size : Int) > 64)) = true then 5 else if x.f1.any (missF i0 i1) = true then 9 else tchk x.f2
def rgo (i0 i1 : List Int) : Int → List S43 → Int
  | _, [] => 0
  | p, x :: r => if idE x.f0 p = 0 then (if relE i0 i1 x = 0 then rgo i0 i1 x.f0 r else relE i0 i1 x) else idE x.f0 p
def hasV (l0 : List S37) (l1 : List S40) (l2 : List S43) (a b : Int) : Bool := if a = 1 then (i37 l0).contains b else if a = 2 then (i40 l1).contains b else if (i43 l2).contains b = true then a == 3 else false
theorem ref_has (l0 : List S37) (l1 : List S40) (l2 : List S43) (a b : Int) (h0 : l0.length ≤ 140737488355328) (h1 : l1.length ≤ 140737488355328) (h2 : l2.length ≤ 140737488355328) : Ev (fun k => mapmakerref14_Has.f k l0 l1 l2 a b) (hasV l0 l1 l2 a b) := by
  unfold mapmakerref14_Has.f hasV
  by_cases c1 : a = 1
  · simp only [if_pos c1]
    rw [← nodeV_has]
    exact Ev.bind (ref_node l0 l1 l2 b h0) (Ev.now _)
  · simp only [if_neg c1]
    by_cases c2 : a = 2
    · simp only [if_pos c2]
      rw [← wayV_has]
      exact Ev.bind (ref_way1 l0 l1 l2 b h1) (Ev.now _)
    · simp only [if_neg c2]
      rw [← relV_has]
      refine Ev.bind (ref_rel1 l0 l1 l2 b h2) ?_
      by_cases c3 : (relV l2 b).2.2.2 = true
      · simp only [if_pos c3]; exact Ev.now _
      · simp only [if_neg c3]; exact Ev.now _
theorem ref_rel (l0 : List S37) (l1 : List S40) (l2 : List S43) (x : S43) (h0 : l0.length ≤ 140737488355328) (h1 : l1.length ≤ 140737488355328) (h2 : l2.length ≤ 140737488355328) : Ev (fun k => mapmakerref14_rel.f k l0 l1 l2 x.f0 x.f1 x.f2) (relE (i37 l0) (i40 l1) x) := by
  unfold mapmakerref14_rel.f relE
  by_cases c1 : (x.f1.length : Int) > 200
  · simp only [if_pos c1]; exact Ev.now _
  · simp only [if_neg c1]
    have hb := ev_loop x.f1.length (fun k i => mapmakerref14_rel.l1 k (i : Int) l0 l1 l2 x.f0 x.f1 x.f2) (fun i => if (x.f1.drop i).any (missF (i37 l0) (i40 l1)) = true then 9 else tchk x.f2)
      (Ev.step (f := fun k => (mapmakerref06_Check.f k x.f2).bind fun t => some t) (fun k => by simp only [mapmakerref14_rel.l1]; rw [if_neg (by omega)]) (by rw [List.drop_length]; exact Ev.bind (ref_tags _) (Ev.now _)))
      (fun i hi ih => by
        rw [List.drop_eq_getElem_cons hi, List.any_cons]
        have hm : missF (i37 l0) (i40 l1) x.f1[i] = !(x.f1[i].f0.f0 == 1 && (i37 l0).contains x.f1[i].f0.f1 || x.f1[i].f0.f0 == 2 && (i40 l1).contains x.f1[i].f0.f1) := rfl
        refine Ev.step (f := fun k => if x.f1[i].f0.f0 = 1 then ((mapmakerref14_Has.f k l0 l1 l2 x.f1[i].f0.f0 x.f1[i].f0.f1).bind fun t => if t = true then mapmakerref14_rel.l1 k (wrap64 ((i : Int) + 1)) l0 l1 l2 x.f0 x.f1 x.f2 else some 9) else if x.f1[i].f0.f0 = 2 then ((mapmakerref14_Has.f k l0 l1 l2 x.f1[i].f0.f0 x.f1[i].f0.f1).bind fun t => if t = true then mapmakerref14_rel.l1 k (wrap64 ((i : Int) + 1)) l0 l1 l2 x.f0 x.f1 x.f2 else some 9) else some 9) (fun k => by
          simp only [mapmakerref14_rel.l1]
          rw [if_pos (by omega), if_pos (by omega), rd112 x.f1 i hi]) ?_
        have hgo : ∀ b : Bool, hasV l0 l1 l2 x.f1[i].f0.f0 x.f1[i].f0.f1 = b → missF (i37 l0) (i40 l1) x.f1[i] = !b → Ev (fun k => (mapmakerref14_Has.f k l0 l1 l2 x.f1[i].f0.f0 x.f1[i].f0.f1).bind fun t => if t = true then mapmakerref14_rel.l1 k (wrap64 ((i : Int) + 1)) l0 l1 l2 x.f0 x.f1 x.f2 else some 9) (if (missF (i37 l0) (i40 l1) x.f1[i] || (x.f1.drop (i + 1)).any (missF (i37 l0) (i40 l1))) = true then 9 else tchk x.f2) := by
          intro b hb1 hb2
          refine Ev.bind (ref_has l0 l1 l2 _ _ h0 h1 h2) ?_
          rw [hb1, hb2]
          cases b with
          | true => simp only [if_true, Bool.not_true, Bool.false_or]; rw [wrap_succ i (by omega)]; exact ih
          | false => simp only [Bool.not_false, Bool.true_or, if_true]; exact Ev.now 9
        by_cases k1 : x.f1[i].f0.f0 = 1
        · simp only [if_pos k1]
          exact hgo ((i37 l0).contains x.f1[i].f0.f1) (by unfold hasV; rw [if_pos k1]) (by rw [hm, k1]; simp)
        · simp only [if_neg k1]
          by_cases k2 : x.f1[i].f0.f0 = 2
          · simp only [if_pos k2]
            exact hgo ((i40 l1).contains x.f1[i].f0.f1) (by unfold hasV; rw [if_neg k1, if_pos k2]) (by rw [hm, k2]; simp)
          · simp only [if_neg k2]
            have e : missF (i37 l0) (i40 l1) x.f1[i] = true := by rw [hm]; simp [k1, k2]
            rw [e, Bool.true_or, if_pos rfl]
            exact Ev.now 9)
      0 (by omega)
    have h := ev_loop x.f1.length (fun k i => mapmakerref14_rel.l0 k (i : Int) l0 l1 l2 x.f0 x.f1 x.f2) (fun i => if (x.f1.drop i).any (fun m => decide ((m.f1.size : Int) > 64)) = true then 5 else if x.f1.any (missF (i37 l0) (i40 l1)) = true then 9 else tchk x.f2)
      (Ev.step (fun k => by simp only [mapmakerref14_rel.l0]; rw [if_neg (by omega)]) (by rw [List.drop_length]; exact hb))
      (fun i hi ih => by
        rw [List.drop_eq_getElem_cons hi, List.any_cons]
        by_cases c : (x.f1[i].f1.size : Int) > 64
        · refine Ev.step (f := fun _ => some 5) (fun k => ?_) (by rw [decide_eq_true c, Bool.true_or, if_pos rfl]; exact Ev.now 5)
          simp only [mapmakerref14_rel.l0]
          rw [if_pos (by omega), if_pos (by omega), rd112 x.f1 i hi, if_pos c]
        · rw [decide_eq_false c, Bool.false_or]
          refine Ev.step (fun k => ?_) ih
          simp only [mapmakerref14_rel.l0]
          rw [if_pos (by omega), if_pos (by omega), rd112 x.f1 i hi, if_neg c, wrap_succ i (by omega)])
      0 (by omega)
    exact h
theorem prog_rels (l0 : List S37) (l1 : List S40) (l2 : List S43) (hw : WfD l0 l1 l2) : Ev (fun k => data_checker_checkRels.f k l0 l1 l2) (rgo (i37 l0) (i40 l1) 0 l2) := by
  obtain ⟨⟨h0, h1, h2⟩, hi0, hi1, hi2⟩ := hw
  have h := ev_loop l2.length (fun k i => data_checker_checkRels.l0 k l2 (l2.length : Int) (i : Int) l0 l1 l2) (fun i => rgo (i37 l0) (i40 l1) (pv (i43 l2) i) (l2.drop i))
    (Ev.step (f := fun _ => some 0) (fun k => by simp only [data_checker_checkRels.l0]; rw [if_neg (by omega)]) (by rw [List.drop_length]; exact Ev.now 0))
    (fun i hi ih => by
      have hpv : pv (i43 l2) (i + 1) = l2[i].f0 := by unfold i43; rw [pv_succ _ i (by simpa using hi)]; simp
      rw [hpv] at ih
      have hid : data_ids_by_data_checker_checkRels_1.f (i : Int) l0 l1 l2 = some (idE l2[i].f0 (pv (i43 l2) i)) := by
        unfold data_ids_by_data_checker_checkRels_1.f i43
        rw [if_pos (by omega), if_pos (by omega), idsF_eq (l2.map (fun x => x.f0)) _ i (by simpa using hi) (fun j hj => by rw [rd43 l2 j (by simpa using hj)]; simp)]
        simp
      have hcm : api_Member_by_data_checker_missing.f l2[i].f1 l0 l1 l2 = some (l2[i].f1.any (missF (i37 l0) (i40 l1))) := by
        unfold api_Member_by_data_checker_missing.f
        rw [if_pos (hi2 _ (List.getElem_mem hi)).2]
        rfl
      have hcr : api_Member_by_data_checker_checkRels_2.f l2[i].f1 = some (l2[i].f1.any (fun m => decide ((m.f1.size : Int) > 64))) := rfl
      generalize pv (i43 l2) i = p at hid
      rw [List.drop_eq_getElem_cons hi]
      simp only [rgo]
      have hj5 : Ev (fun k => data_checker_checkRels.j1 k l2 (l2.length : Int) (i : Int) true l0 l1 l2 l2[i].f0 l2[i].f1 l2[i].f2) 5 :=
        Ev.step (f := fun _ => some 5) (fun k => by simp only [data_checker_checkRels.j1, if_true]; rw [if_neg (show ¬ ((5 : Nat) = 0) by decide)]) (Ev.now 5)
      have hj : Ev (fun k => data_checker_checkRels.j1 k l2 (l2.length : Int) (i : Int) false l0 l1 l2 l2[i].f0 l2[i].f1 l2[i].f2) (if (if l2[i].f1.any (missF (i37 l0) (i40 l1)) = true then 9 else tchk l2[i].f2) = 0 then rgo (i37 l0) (i40 l1) l2[i].f0 (l2.drop (i + 1)) else (if l2[i].f1.any (missF (i37 l0) (i40 l1)) = true then 9 else tchk l2[i].f2)) := by
        refine Ev.step (f := fun k => if l2[i].f1.any (missF (i37 l0) (i40 l1)) = true then some 9 else (tags_Check.f k l2[i].f2).bind fun t => if t = 0 then data_checker_checkRels.l0 k l2 (l2.length : Int) (wrap64 ((i : Int) + 1)) l0 l1 l2 else some t) (fun k => by
          simp only [data_checker_checkRels.j1]
          rw [if_neg (by decide), hcm, Option.bind_some, if_neg (show ¬ ((9 : Nat) = 0) by decide)]) ?_
        by_cases c3 : l2[i].f1.any (missF (i37 l0) (i40 l1)) = true
        · simp only [if_pos c3]; rw [if_neg (by decide)]; exact Ev.now _
        · simp only [if_neg c3]
          refine Ev.bind (prog_tags _) ?_
          by_cases ht : tchk l2[i].f2 = 0
          · simp only [if_pos ht]
            rw [wrap_succ i (by omega)]
            exact ih
          · simp only [if_neg ht]; exact Ev.now _
      refine Ev.step (f := fun k => if idE l2[i].f0 p = 0 then (if (l2[i].f1.length : Int) > 200 then data_checker_checkRels.j1 k l2 (l2.length : Int) (i : Int) true l0 l1 l2 l2[i].f0 l2[i].f1 l2[i].f2 else data_checker_checkRels.j1 k l2 (l2.length : Int) (i : Int) (l2[i].f1.any (fun m => decide ((m.f1.size : Int) > 64))) l0 l1 l2 l2[i].f0 l2[i].f1 l2[i].f2) else some (idE l2[i].f0 p)) (fun k => by
        simp only [data_checker_checkRels.l0]
        rw [if_pos (by omega), if_pos (by omega), if_pos (by omega), rd43 l2 i hi, hid, Option.bind_some, hcr, Option.bind_some]) ?_
      by_cases he : idE l2[i].f0 p = 0
      · simp only [if_pos he]
        unfold relE
        by_cases c1 : (l2[i].f1.length : Int) > 200
        · simp only [if_pos c1]; rw [if_neg (by decide)]; exact hj5
        · simp only [if_neg c1]
          by_cases c2 : l2[i].f1.any (fun m => decide ((m.f1.size : Int) > 64)) = true
          · rw [c2]; simp only [if_true]; rw [if_neg (by decide)]; exact hj5
          · rw [Bool.eq_false_iff.mpr c2]
            simp only [Bool.false_eq_true, if_false]
            exact hj
      · simp only [if_neg he]; exact Ev.now _)
    0 (by omega)
  exact h
def chk (l0 : List S37) (l1 : List S40) (l2 : List S43) : Int := if 10000 < l0.length ∨ 10000 < l1.length ∨ 10000 < l2.length then 5 else if ngo 0 l0 = 0 then (if wgo (i37 l0) 0 l1 = 0 then rgo (i37 l0) (i40 l1) 0 l2 else wgo (i37 l0) 0 l1) else ngo 0 l0
theorem prog_check (l0 : List S37) (l1 : List S40) (l2 : List S43) (hw : WfD l0 l1 l2) : Ev (fun k => data_Check.f k l0 l1 l2) (chk l0 l1 l2) := by
  unfold data_Check.f chk
  by_cases hb : 10000 < l0.length ∨ 10000 < l1.length ∨ 10000 < l2.length
  · simp only [if_pos hb]; exact Ev.now _
  · simp only [if_neg hb]
    have hin : (∀ x ∈ l0, InI x.f0) ∧ (∀ x ∈ l1, InI x.f0) := ⟨hw.2.1, fun x hx => (hw.2.2.1 x hx).1⟩
    simp only [if_pos hin]
    refine Ev.bind (prog_nodes l0 l1 l2 hw.1.1) ?_
    by_cases e0 : ngo 0 l0 = 0
    · simp only [if_pos e0]
      refine Ev.bind (prog_ways l0 l1 l2 hw) ?_
      by_cases e1 : wgo (i37 l0) 0 l1 = 0
      · simp only [if_pos e1]; exact prog_rels l0 l1 l2 hw
      · simp only [if_neg e1]; exact Ev.now _
    · simp only [if_neg e0]; exact Ev.now _
theorem ref_l1 (l0 : List S37) (l1 : List S40) (l2 : List S43) (h0 : l0.length ≤ 140737488355328) (h1 : l1.length ≤ 140737488355328) (h2 : l2.length ≤ 140737488355328) : Ev (fun k => mapmakerref14_Check.l1 k 0 0 l0 l1 l2) (rgo (i37 l0) (i40 l1) 0 l2) := by
  have h := ev_loop l2.length (fun k i => mapmakerref14_Check.l1 k (pv (i43 l2) i) (i : Int) l0 l1 l2) (fun i => rgo (i37 l0) (i40 l1) (pv (i43 l2) i) (l2.drop i))
    (Ev.step (f := fun _ => some 0) (fun k => by simp only [mapmakerref14_Check.l1]; rw [if_neg (by omega)]) (by rw [List.drop_length]; exact Ev.now 0))
    (fun i hi ih => by
      have hpv : pv (i43 l2) (i + 1) = l2[i].f0 := by unfold i43; rw [pv_succ _ i (by simpa using hi)]; simp
      rw [hpv] at ih
      generalize pv (i43 l2) i = p
      rw [List.drop_eq_getElem_cons hi]
      simp only [rgo]
      refine Ev.step (f := fun k => (mapmakerref14_id.f k l2[i].f0 p).bind fun t => if t = 0 then (mapmakerref14_rel.f k l0 l1 l2 l2[i].f0 l2[i].f1 l2[i].f2).bind fun t => if t = 0 then mapmakerref14_Check.l1 k l2[i].f0 (wrap64 ((i : Int) + 1)) l0 l1 l2 else some t else some t) (fun k => by
        simp only [mapmakerref14_Check.l1]
        rw [if_pos (by omega), if_pos (by omega), rd43 l2 i hi]) (Ev.bind (ref_id _ _) ?_)
      by_cases he : idE l2[i].f0 p = 0
      · simp only [if_pos he]
        refine Ev.bind (ref_rel l0 l1 l2 _ h0 h1 h2) ?_
        by_cases ht : relE (i37 l0) (i40 l1) l2[i] = 0
        · simp only [if_pos ht]; rw [wrap_succ i (by omega)]; exact ih
        · simp only [if_neg ht]; exact Ev.now _
      · simp only [if_neg he]; exact Ev.now _)
    0 (by omega)
  exact h
theorem ref_l0 (l0 : List S37) (l1 : List S40) (l2 : List S43) (h0 : l0.length ≤ 140737488355328) (h1 : l1.length ≤ 140737488355328) (h2 : l2.length ≤ 140737488355328) : Ev (fun k => mapmakerref14_Check.l0 k 0 0 l0 l1 l2) (if wgo (i37 l0) 0 l1 = 0 then rgo (i37 l0) (i40 l1) 0 l2 else wgo (i37 l0) 0 l1) := by
  have h := ev_loop l1.length (fun k i => mapmakerref14_Check.l0 k (pv (i40 l1) i) (i : Int) l0 l1 l2) (fun i => if wgo (i37 l0) (pv (i40 l1) i) (l1.drop i) = 0 then rgo (i37 l0) (i40 l1) 0 l2 else wgo (i37 l0) (pv (i40 l1) i) (l1.drop i))
    (Ev.step (f := fun k => mapmakerref14_Check.l1 k 0 0 l0 l1 l2) (fun k => by simp only [mapmakerref14_Check.l0]; rw [if_neg (by omega)]) (by rw [List.drop_length]; exact ref_l1 l0 l1 l2 h0 h1 h2))
    (fun i hi ih => by
      have hpv : pv (i40 l1) (i + 1) = l1[i].f0 := by unfold i40; rw [pv_succ _ i (by simpa using hi)]; simp
      rw [hpv] at ih
      generalize pv (i40 l1) i = p
      rw [List.drop_eq_getElem_cons hi]
      simp only [wgo]
      refine Ev.step (f := fun k => (mapmakerref14_id.f k l1[i].f0 p).bind fun t => if t = 0 then (mapmakerref14_way.f k l0 l1 l2 l1[i].f0 l1[i].f1 l1[i].f2).bind fun t => if t = 0 then mapmakerref14_Check.l0 k l1[i].f0 (wrap64 ((i : Int) + 1)) l0 l1 l2 else some t else some t) (fun k => by
        simp only [mapmakerref14_Check.l0]
        rw [if_pos (by omega), if_pos (by omega), rd40 l1 i hi]) (Ev.bind (ref_id _ _) ?_)
      by_cases he : idE l1[i].f0 p = 0
      · simp only [if_pos he]
        refine Ev.bind (ref_way l0 l1 l2 _ h0) ?_
        by_cases ht : wayE (i37 l0) l1[i] = 0
        · simp only [if_pos ht]; rw [wrap_succ i (by omega)]; exact ih
        · simp only [if_neg ht]; exact Ev.now _
      · simp only [if_neg he]; exact Ev.now _)
    0 (by omega)
  exact h
theorem ref_check (l0 : List S37) (l1 : List S40) (l2 : List S43) (h0 : l0.length ≤ 140737488355328) (h1 : l1.length ≤ 140737488355328) (h2 : l2.length ≤ 140737488355328) : Ev (fun k => mapmakerref14_Check.f k l0 l1 l2) (chk l0 l1 l2) := by
  have hj : Ev (fun k => mapmakerref14_Check.j0 k true l0 l1 l2) 5 := Ev.step (f := fun _ => some 5) (fun k => by simp only [mapmakerref14_Check.j0, if_true]) (Ev.now 5)
  unfold mapmakerref14_Check.f chk
  by_cases c0 : (l0.length : Int) > 10000
  · simp only [if_pos c0]; rw [if_pos (.inl (by omega))]; exact hj
  · simp only [if_neg c0]
    by_cases c1 : (l1.length : Int) > 10000
    · simp only [if_pos c1]; rw [if_pos (.inr (.inl (by omega)))]; exact hj
    · simp only [if_neg c1]
      by_cases c2 : (l2.length : Int) > 10000
      · simp only [decide_eq_true c2]; rw [if_pos (.inr (.inr (by omega)))]; exact hj
      · simp only [decide_eq_false c2]
        rw [if_neg (by omega)]
        refine Ev.step (f := fun k => (mapmakerref14_nodes.f k l0).bind fun t => if t = 0 then mapmakerref14_Check.l0 k 0 0 l0 l1 l2 else some t) (fun k => by simp only [mapmakerref14_Check.j0]; rfl) (Ev.bind (ref_nodes l0 h0) ?_)
        by_cases e0 : ngo 0 l0 = 0
        · simp only [if_pos e0]; exact ref_l0 l0 l1 l2 h0 h1 h2
        · simp only [if_neg e0]; exact Ev.now _
def t37 (l : List S37) : Nat := (l.map (fun x => x.f2.length)).sum
def t40 (l : List S40) : Nat := (l.map (fun x => x.f1.length + x.f2.length)).sum
def t43 (l : List S43) : Nat := (l.map (fun x => x.f1.length + x.f2.length)).sum
theorem few_l2 (l0 : List S37) (l1 : List S40) (l2 : List S43) (n : Nat) (hn : n ≤ 1000000) (hl : l2.length ≤ 140737488355328) (hp : ∀ x ∈ l2, x.f1.length ≤ 140737488355328 ∧ x.f2.length ≤ 140737488355328) :
    ∀ d i acc, i ≤ l2.length → l2.length - i = d → Ev (fun k => mapmakerref14_Few.l2 k (n : Int) ((acc : Nat) : Int) (i : Int) l0 l1 l2) (decide (acc + t43 (l2.drop i) ≤ n)) := by
  intro d
  induction d with
  | zero =>
    intro i acc hi hd
    have e : i = l2.length := by omega
    subst e
    refine Ev.step (f := fun _ => some (decide (acc + t43 (l2.drop l2.length) ≤ n))) (fun k => ?_) (Ev.now _)
    simp only [mapmakerref14_Few.l2]
    rw [if_neg (by omega), List.drop_length]
    simp [t43]
  | succ d ih =>
    intro i acc hi hd
    have hlt : i < l2.length := by omega
    obtain ⟨hp1, hp2⟩ := hp _ (List.getElem_mem hlt)
    have e : t43 (l2.drop i) = l2[i].f1.length + l2[i].f2.length + t43 (l2.drop (i + 1)) := by unfold t43; rw [List.drop_eq_getElem_cons hlt, List.map_cons, List.sum_cons]
    by_cases ha : (acc : Int) ≤ n
    · have h2 := ih (i + 1) (acc + l2[i].f1.length + l2[i].f2.length) (by omega) (by omega)
      rw [e, show acc + (l2[i].f1.length + l2[i].f2.length + t43 (l2.drop (i + 1))) = acc + l2[i].f1.length + l2[i].f2.length + t43 (l2.drop (i + 1)) by omega]
      refine Ev.step (fun k => ?_) h2
      simp only [mapmakerref14_Few.l2]
      rw [if_pos (by omega), if_pos ha, if_pos (by omega), rd43 l2 i hlt, wrapI (n := (acc : Int) + _) (by omega), wrapI (by omega), wrap_succ i (by omega)]
      push_cast
      rfl
    · refine Ev.step (f := fun _ => some (decide (acc + t43 (l2.drop i) ≤ n))) (fun k => ?_) (Ev.now _)
      simp only [mapmakerref14_Few.l2]
      rw [if_pos (by omega), if_neg ha, decide_eq_false ha, decide_eq_false (by omega)]
theorem few_l1 (l0 : List S37) (l1 : List S40) (l2 : List S43) (n : Nat) (hn : n ≤ 1000000) (hl1 : l1.length ≤ 140737488355328) (hp1 : ∀ x ∈ l1, x.f1.length ≤ 140737488355328 ∧ x.f2.length ≤ 140737488355328) (hl2 : l2.length ≤ 140737488355328) (hp2 : ∀ x ∈ l2, x.f1.length ≤ 140737488355328 ∧ x.f2.length ≤ 140737488355328) :
    ∀ d i acc, i ≤ l1.length → l1.length - i = d → Ev (fun k => mapmakerref14_Few.l1 k (n : Int) ((acc : Nat) : Int) (i : Int) l0 l1 l2) (decide (acc + t40 (l1.drop i) + t43 l2 ≤ n)) := by
  have hj : ∀ acc : Nat, Ev (fun k => mapmakerref14_Few.j3 k (n : Int) (acc : Int) l0 l1 l2) (decide (acc + t43 l2 ≤ n)) := fun acc =>
    Ev.step (fun k => by simp only [mapmakerref14_Few.j3]; rfl) (few_l2 l0 l1 l2 n hn hl2 hp2 l2.length 0 acc (by omega) (by omega))
  intro d
  induction d with
  | zero =>
    intro i acc hi hd
    have e : i = l1.length := by omega
    subst e
    have h := hj acc
    rw [List.drop_length]
    refine Ev.step (fun k => ?_) (by simpa [t40] using h)
    simp only [mapmakerref14_Few.l1]
    rw [if_neg (by omega)]
  | succ d ih =>
    intro i acc hi hd
    have hlt : i < l1.length := by omega
    obtain ⟨q1, q2⟩ := hp1 _ (List.getElem_mem hlt)
    have e : t40 (l1.drop i) = l1[i].f1.length + l1[i].f2.length + t40 (l1.drop (i + 1)) := by unfold t40; rw [List.drop_eq_getElem_cons hlt, List.map_cons, List.sum_cons]
    by_cases ha : (acc : Int) ≤ n
    · have h2 := ih (i + 1) (acc + l1[i].f1.length + l1[i].f2.length) (by omega) (by omega)
      rw [e, show acc + (l1[i].f1.length + l1[i].f2.length + t40 (l1.drop (i + 1))) + t43 l2 = acc + l1[i].f1.length + l1[i].f2.length + t40 (l1.drop (i + 1)) + t43 l2 by omega]
      refine Ev.step (fun k => ?_) h2
      simp only [mapmakerref14_Few.l1]
      rw [if_pos (by omega), if_pos ha, if_pos (by omega), rd40 l1 i hlt, wrapI (n := (acc : Int) + _) (by omega), wrapI (by omega), wrap_succ i (by omega)]
      push_cast
      rfl
    · have h := hj acc
      have e1 : decide (acc + t43 l2 ≤ n) = decide (acc + t40 (l1.drop i) + t43 l2 ≤ n) := by rw [decide_eq_false (by omega), decide_eq_false (by omega)]
      rw [e1] at h
      refine Ev.step (fun k => ?_) h
      simp only [mapmakerref14_Few.l1]
      rw [if_pos (by omega), if_neg ha]
theorem few_l0 (l0 : List S37) (l1 : List S40) (l2 : List S43) (n : Nat) (hn : n ≤ 1000000) (hl0 : l0.length ≤ 140737488355328) (hp0 : ∀ x ∈ l0, x.f2.length ≤ 140737488355328) (hl1 : l1.length ≤ 140737488355328) (hp1 : ∀ x ∈ l1, x.f1.length ≤ 140737488355328 ∧ x.f2.length ≤ 140737488355328) (hl2 : l2.length ≤ 140737488355328) (hp2 : ∀ x ∈ l2, x.f1.length ≤ 140737488355328 ∧ x.f2.length ≤ 140737488355328) :
    ∀ d i acc, i ≤ l0.length → l0.length - i = d → Ev (fun k => mapmakerref14_Few.l0 k (n : Int) ((acc : Nat) : Int) (i : Int) l0 l1 l2) (decide (acc + t37 (l0.drop i) + t40 l1 + t43 l2 ≤ n)) := by
  have hj : ∀ acc : Nat, Ev (fun k => mapmakerref14_Few.j1 k (n : Int) (acc : Int) l0 l1 l2) (decide (acc + t40 l1 + t43 l2 ≤ n)) := fun acc =>
    Ev.step (fun k => by simp only [mapmakerref14_Few.j1]; rfl) (few_l1 l0 l1 l2 n hn hl1 hp1 hl2 hp2 l1.length 0 acc (by omega) (by omega))
  intro d
  induction d with
  | zero =>
    intro i acc hi hd
    have e : i = l0.length := by omega
    subst e
    have h := hj acc
    rw [List.drop_length]
    refine Ev.step (fun k => ?_) (by simpa [t37] using h)
    simp only [mapmakerref14_Few.l0]
    rw [if_neg (by omega)]
  | succ d ih =>
    intro i acc hi hd
    have hlt : i < l0.length := by omega
    have q2 := hp0 _ (List.getElem_mem hlt)
    have e : t37 (l0.drop i) = l0[i].f2.length + t37 (l0.drop (i + 1)) := by unfold t37; rw [List.drop_eq_getElem_cons hlt, List.map_cons, List.sum_cons]
    by_cases ha : (acc : Int) ≤ n
    · have h2 := ih (i + 1) (acc + l0[i].f2.length) (by omega) (by omega)
      rw [e, show acc + (l0[i].f2.length + t37 (l0.drop (i + 1))) + t40 l1 + t43 l2 = acc + l0[i].f2.length + t37 (l0.drop (i + 1)) + t40 l1 + t43 l2 by omega]
      refine Ev.step (fun k => ?_) h2
      simp only [mapmakerref14_Few.l0]
      rw [if_pos (by omega), if_pos ha, if_pos (by omega), rd37 l0 i hlt, wrapI (n := (acc : Int) + _) (by omega), wrap_succ i (by omega)]
      push_cast
      rfl
    · have h := hj acc
      have e1 : decide (acc + t40 l1 + t43 l2 ≤ n) = decide (acc + t37 (l0.drop i) + t40 l1 + t43 l2 ≤ n) := by rw [decide_eq_false (by omega), decide_eq_false (by omega)]
      rw [e1] at h
      refine Ev.step (fun k => ?_) h
      simp only [mapmakerref14_Few.l0]
      rw [if_pos (by omega), if_neg ha]
def total (l0 : List S37) (l1 : List S40) (l2 : List S43) : Nat := l0.length + l1.length + l2.length + t37 l0 + t40 l1 + t43 l2
theorem few_evN (x : S26) (w : wf26 x) (n : Nat) (hn : n ≤ 1000000) : Ev (fun k => mapmakerref14_Few.f k x.f0 x.f1 x.f2 (n : Int)) (decide (total x.f0 x.f1 x.f2 ≤ n)) := by
  obtain ⟨⟨h0, p0⟩, ⟨h1, p1⟩, ⟨h2, p2⟩⟩ := w
  have h := few_l0 x.f0 x.f1 x.f2 n hn h0 (fun y hy => (p0 y hy).2.2.1) h1 (fun y hy => ⟨(p1 y hy).2.1.1, (p1 y hy).2.2.1⟩) h2 (fun y hy => ⟨(p2 y hy).2.1.1, (p2 y hy).2.2.1⟩) x.f0.length 0 (x.f0.length + x.f1.length + x.f2.length) (by omega) (by omega)
  refine Ev.congr (fun k => ?_) h
  unfold mapmakerref14_Few.f
  rw [wrapI (n := (x.f0.length : Int) + _) (by omega), wrapI (by omega), show ((x.f0.length : Int) + (x.f1.length : Int) + (x.f2.length : Int)) = ((x.f0.length + x.f1.length + x.f2.length : Nat) : Int) by omega]
  rfl
theorem wfD_of (x : S26) (w : wf26 x) : WfD x.f0 x.f1 x.f2 := by
  obtain ⟨⟨h0, p0⟩, ⟨h1, p1⟩, ⟨h2, p2⟩⟩ := w
  exact ⟨⟨h0, h1, h2⟩, fun y hy => (p0 y hy).1, fun y hy => ⟨(p1 y hy).1, (p1 y hy).2.1.1, (p1 y hy).2.1.2⟩, fun y hy => ⟨(p2 y hy).2.1.1, fun m hm => ((p2 y hy).2.1.2 m hm).1.2⟩⟩
def listEq {α : Type} (p : α → α → Bool) : List α → List α → Bool
  | [], [] => true
  | x :: xs, y :: ys => p x y && listEq p xs ys
  | _, _ => false
theorem listEq_len {α : Type} (p : α → α → Bool) : ∀ (a b : List α), a.length ≠ b.length → listEq p a b = false
  | [], [], h => absurd rfl h
  | [], _ :: _, _ => rfl
  | _ :: _, [], _ => rfl
  | x :: xs, y :: ys, h => by
    unfold listEq
    rw [listEq_len p xs ys (by simpa using h), Bool.and_false]
theorem listEq_drop {α : Type} (p : α → α → Bool) (a b : List α) (i : Nat) (hi : i < a.length) (hj : i < b.length) : listEq p (a.drop i) (b.drop i) = (p a[i] b[i] && listEq p (a.drop (i + 1)) (b.drop (i + 1))) := by
  rw [List.drop_eq_getElem_cons hi, List.drop_eq_getElem_cons hj]; rfl
theorem listEq_end {α : Type} (p : α → α → Bool) (a b : List α) (h : a.length = b.length) : listEq p (a.drop a.length) (b.drop a.length) = true := by
  rw [List.drop_length, h, List.drop_length]; rfl
theorem listEq_refl {α : Type} (p : α → α → Bool) (hp : ∀ x, p x x = true) : ∀ a : List α, listEq p a a = true
  | [] => rfl
  | x :: xs => by unfold listEq; rw [hp x, listEq_refl p hp xs]; rfl
def tagEq (a b : S129) : Bool := (a.f0.toList == b.f0.toList) && (a.f1.toList == b.f1.toList)
def intEq (a b : Int) : Bool := a == b
def memEq (a b : S112) : Bool := (a.f0.f0 == b.f0.f0 && a.f0.f1 == b.f0.f1) && (a.f1.toList == b.f1.toList)
def nodeEq (x y : S37) : Bool := x.f0 == y.f0 && ((x.f1.f0 == y.f1.f0 && x.f1.f1 == y.f1.f1) && listEq tagEq x.f2 y.f2)
def wayEq (x y : S40) : Bool := x.f0 == y.f0 && (listEq intEq x.f1 y.f1 && listEq tagEq x.f2 y.f2)
def relEq (x y : S43) : Bool := x.f0 == y.f0 && (listEq memEq x.f1 y.f1 && listEq tagEq x.f2 y.f2)
theorem tagEq_refl (a : S129) : tagEq a a = true := by unfold tagEq; simp
theorem memEq_refl (a : S112) : memEq a a = true := by unfold memEq; simp
theorem intEq_refl (a : Int) : intEq a a = true := by unfold intEq; simp
theorem nodeEq_refl (a : S37) : nodeEq a a = true := by unfold nodeEq; rw [listEq_refl tagEq tagEq_refl]; simp
theorem wayEq_refl (a : S40) : wayEq a a = true := by unfold wayEq; rw [listEq_refl tagEq tagEq_refl, listEq_refl intEq intEq_refl]; simp
theorem relEq_refl (a : S43) : relEq a a = true := by unfold relEq; rw [listEq_refl tagEq tagEq_refl, listEq_refl memEq memEq_refl]; simp
theorem tag_test (x y : S129) : ((!(x.f0.toList == y.f0.toList) || (!(x.f1.toList == y.f1.toList))) = true) ↔ tagEq x y = false := by
  unfold tagEq; cases (x.f0.toList == y.f0.toList) <;> cases (x.f1.toList == y.f1.toList) <;> simp
theorem mem_test (x y : S112) : (((!(x.f0.f0 == y.f0.f0) || (!(x.f0.f1 == y.f0.f1))) || (!(x.f1.toList == y.f1.toList))) = true) ↔ memEq x y = false := by
  unfold memEq; cases (x.f0.f0 == y.f0.f0) <;> cases (x.f0.f1 == y.f0.f1) <;> cases (x.f1.toList == y.f1.toList) <;> simp
theorem ref_sameTags (a b : List S129) (ha : a.length ≤ 140737488355328) : Ev (fun k => mapmakerref14_SameTags.f k a b) (listEq tagEq a b) := by
  unfold mapmakerref14_SameTags.f
  by_cases hl : (a.length : Int) = (b.length : Int)
  · simp only [if_pos hl]
    have h := ev_loop a.length (fun k i => mapmakerref14_SameTags.l0 k a b (i : Int)) (fun i => listEq tagEq (a.drop i) (b.drop i))
      (Ev.step (f := fun _ => some true) (fun k => by simp only [mapmakerref14_SameTags.l0]; rw [if_neg (by omega)]) (by rw [listEq_end tagEq a b (by omega)]; exact Ev.now true))
      (fun i hi ih => by
        rw [listEq_drop tagEq a b i hi (by omega)]
        cases hc : tagEq a[i] (b[i]'(by omega)) with
        | true =>
          rw [Bool.true_and]
          refine Ev.step (fun k => ?_) ih
          simp only [mapmakerref14_SameTags.l0]
          rw [if_pos (by omega), if_pos (by omega), if_pos (by omega), rd129 a i hi, rd129 b i (by omega), if_neg (by rw [tag_test, hc]; decide), wrap_succ i (by omega)]
        | false =>
          rw [Bool.false_and]
          refine Ev.step (f := fun _ => some false) (fun k => ?_) (Ev.now false)
          simp only [mapmakerref14_SameTags.l0]
          rw [if_pos (by omega), if_pos (by omega), if_pos (by omega), rd129 a i hi, rd129 b i (by omega), if_pos (by rw [tag_test, hc])])
      0 (by omega)
    exact h
  · simp only [if_neg hl]
    rw [listEq_len tagEq a b (by omega)]
    exact Ev.now false
theorem prog_sameTags (a b : List S129) (ha : a.length ≤ 140737488355328) : Ev (fun k => api_Tag.f k a b) (listEq tagEq a b) := by
  unfold api_Tag.f
  by_cases hl : (a.length : Int) = (b.length : Int)
  · simp only [if_pos hl]
    have h := ev_loop a.length (fun k i => api_Tag.l0 k a b (a.length : Int) (i : Int)) (fun i => listEq tagEq (a.drop i) (b.drop i))
      (Ev.step (f := fun _ => some true) (fun k => by simp only [api_Tag.l0]; rw [if_neg (by omega)]) (by rw [listEq_end tagEq a b (by omega)]; exact Ev.now true))
      (fun i hi ih => by
        rw [listEq_drop tagEq a b i hi (by omega)]
        cases hc : tagEq a[i] (b[i]'(by omega)) with
        | true =>
          rw [Bool.true_and]
          refine Ev.step (fun k => ?_) ih
          simp only [api_Tag.l0]
          rw [if_pos (by omega), if_pos (by omega), if_pos (by omega), if_pos (by omega), rd129 a i hi, rd129 b i (by omega), if_neg (by rw [tag_test, hc]; decide), wrap_succ i (by omega)]
        | false =>
          rw [Bool.false_and]
          refine Ev.step (f := fun _ => some false) (fun k => ?_) (Ev.now false)
          simp only [api_Tag.l0]
          rw [if_pos (by omega), if_pos (by omega), if_pos (by omega), if_pos (by omega), rd129 a i hi, rd129 b i (by omega), if_pos (by rw [tag_test, hc])])
      0 (by omega)
    exact h
  · simp only [if_neg hl]
    rw [listEq_len tagEq a b (by omega)]
    exact Ev.now false
theorem prog_sameInts (a b : List Int) (ha : a.length ≤ 140737488355328) : Ev (fun k => slices_Equal_int_int.f k a b) (listEq intEq a b) := by
  unfold slices_Equal_int_int.f
  by_cases hl : (a.length : Int) = (b.length : Int)
  · simp only [if_pos hl]
    have h := ev_loop a.length (fun k i => slices_Equal_int_int.l0 k a b (a.length : Int) (i : Int)) (fun i => listEq intEq (a.drop i) (b.drop i))
      (Ev.step (f := fun _ => some true) (fun k => by simp only [slices_Equal_int_int.l0]; rw [if_neg (by omega)]) (by rw [listEq_end intEq a b (by omega)]; exact Ev.now true))
      (fun i hi ih => by
        rw [listEq_drop intEq a b i hi (by omega)]
        by_cases hc : a[i] = b[i]'(by omega)
        · rw [show intEq a[i] (b[i]'(by omega)) = true from beq_iff_eq.mpr hc, Bool.true_and]
          refine Ev.step (fun k => ?_) ih
          simp only [slices_Equal_int_int.l0]
          rw [if_pos (by omega), if_pos (by omega), if_pos (by omega), if_pos (by omega), rdI a i hi, rdI b i (by omega), if_pos hc, wrap_succ i (by omega)]
        · rw [show intEq a[i] (b[i]'(by omega)) = false from beq_eq_false_iff_ne.mpr hc, Bool.false_and]
          refine Ev.step (f := fun _ => some false) (fun k => ?_) (Ev.now false)
          simp only [slices_Equal_int_int.l0]
          rw [if_pos (by omega), if_pos (by omega), if_pos (by omega), if_pos (by omega), rdI a i hi, rdI b i (by omega), if_neg hc])
      0 (by omega)
    exact h
  · simp only [if_neg hl]
    rw [listEq_len intEq a b (by omega)]
    exact Ev.now false
theorem prog_sameMems (a b : List S112) (ha : a.length ≤ 140737488355328) : Ev (fun k => api_Member_91.f k a b) (listEq memEq a b) := by
  unfold api_Member_91.f
  by_cases hl : (a.length : Int) = (b.length : Int)
  · simp only [if_pos hl]
    have h := ev_loop a.length (fun k i => api_Member_91.l0 k a b (a.length : Int) (i : Int)) (fun i => listEq memEq (a.drop i) (b.drop i))
      (Ev.step (f := fun _ => some true) (fun k => by simp only [api_Member_91.l0]; rw [if_neg (by omega)]) (by rw [listEq_end memEq a b (by omega)]; exact Ev.now true))
      (fun i hi ih => by
        rw [listEq_drop memEq a b i hi (by omega)]
        cases hc : memEq a[i] (b[i]'(by omega)) with
        | true =>
          rw [Bool.true_and]
          refine Ev.step (fun k => ?_) ih
          simp only [api_Member_91.l0]
          rw [if_pos (by omega), if_pos (by omega), if_pos (by omega), if_pos (by omega), rd112 a i hi, rd112 b i (by omega), if_neg (by rw [mem_test, hc]; decide), wrap_succ i (by omega)]
        | false =>
          rw [Bool.false_and]
          refine Ev.step (f := fun _ => some false) (fun k => ?_) (Ev.now false)
          simp only [api_Member_91.l0]
          rw [if_pos (by omega), if_pos (by omega), if_pos (by omega), if_pos (by omega), rd112 a i hi, rd112 b i (by omega), if_pos (by rw [mem_test, hc])])
      0 (by omega)
    exact h
  · simp only [if_neg hl]
    rw [listEq_len memEq a b (by omega)]
    exact Ev.now false
theorem prog_same1 (x y : S37) (hx : x.f2.length ≤ 140737488355328) : Ev (fun k => data_Same_1.f k x.f0 x.f1.f0 x.f1.f1 x.f2 y.f0 y.f1.f0 y.f1.f1 y.f2) (nodeEq x y) := by
  unfold data_Same_1.f nodeEq
  by_cases h0 : x.f0 = y.f0
  · simp only [if_pos h0]
    rw [beq_iff_eq.mpr h0, Bool.true_and]
    cases h1 : (x.f1.f0 == y.f1.f0 && (x.f1.f1 == y.f1.f1)) with
    | true => simp only [if_true, Bool.true_and]; exact Ev.bind (prog_sameTags _ _ hx) (Ev.now _)
    | false => simp only [Bool.false_eq_true, if_false, Bool.false_and]; exact Ev.now false
  · simp only [if_neg h0]
    rw [beq_eq_false_iff_ne.mpr h0, Bool.false_and]
    exact Ev.now false
theorem prog_same2 (x y : S40) (h1 : x.f1.length ≤ 140737488355328) (hx : x.f2.length ≤ 140737488355328) : Ev (fun k => data_Same_2.f k x.f0 x.f1 x.f2 y.f0 y.f1 y.f2) (wayEq x y) := by
  unfold data_Same_2.f wayEq
  by_cases h0 : x.f0 = y.f0
  · simp only [if_pos h0]
    rw [beq_iff_eq.mpr h0, Bool.true_and]
    refine Ev.bind (prog_sameInts _ _ h1) ?_
    cases h2 : listEq intEq x.f1 y.f1 with
    | true => simp only [if_true, Bool.true_and]; exact Ev.bind (prog_sameTags _ _ hx) (Ev.now _)
    | false => simp only [Bool.false_eq_true, if_false, Bool.false_and]; exact Ev.now false
  · simp only [if_neg h0]
    rw [beq_eq_false_iff_ne.mpr h0, Bool.false_and]
    exact Ev.now false
theorem prog_same3 (x y : S43) (h1 : x.f1.length ≤ 140737488355328) (hx : x.f2.length ≤ 140737488355328) : Ev (fun k => data_Same_3.f k x.f0 x.f1 x.f2 y.f0 y.f1 y.f2) (relEq x y) := by
  unfold data_Same_3.f relEq
  by_cases h0 : x.f0 = y.f0
  · simp only [if_pos h0]
    rw [beq_iff_eq.mpr h0, Bool.true_and]
    refine Ev.bind (prog_sameMems _ _ h1) ?_
    cases h2 : listEq memEq x.f1 y.f1 with
    | true => simp only [if_true, Bool.true_and]; exact Ev.bind (prog_sameTags _ _ hx) (Ev.now _)
    | false => simp only [Bool.false_eq_true, if_false, Bool.false_and]; exact Ev.now false
  · simp only [if_neg h0]
    rw [beq_eq_false_iff_ne.mpr h0, Bool.false_and]
    exact Ev.now false
theorem ref_sameNode (x y : S37) (hx : x.f2.length ≤ 140737488355328) : Ev (fun k => mapmakerref14_SameNode.f k x.f0 x.f1.f0 x.f1.f1 x.f2 y.f0 y.f1.f0 y.f1.f1 y.f2) (nodeEq x y) := by
  unfold mapmakerref14_SameNode.f nodeEq
  by_cases h0 : x.f0 = y.f0
  · simp only [if_pos h0]
    rw [beq_iff_eq.mpr h0, Bool.true_and]
    cases h1 : (x.f1.f0 == y.f1.f0 && (x.f1.f1 == y.f1.f1)) with
    | true => simp only [if_true, Bool.true_and]; exact Ev.bind (ref_sameTags _ _ hx) (Ev.now _)
    | false => simp only [Bool.false_eq_true, if_false, Bool.false_and]; exact Ev.now false
  · simp only [if_neg h0]
    rw [beq_eq_false_iff_ne.mpr h0, Bool.false_and]
    exact Ev.now false
theorem ref_sameWay (x y : S40) (h1 : x.f1.length ≤ 140737488355328) (hx : x.f2.length ≤ 140737488355328) : Ev (fun k => mapmakerref14_SameWay.f k x.f0 x.f1 x.f2 y.f0 y.f1 y.f2) (wayEq x y) := by
  have hj : Ev (fun k => mapmakerref14_SameWay.j0 k true x.f0 x.f1 x.f2 y.f0 y.f1 y.f2) false := Ev.step (f := fun _ => some false) (fun k => by simp only [mapmakerref14_SameWay.j0, if_true]) (Ev.now false)
  unfold mapmakerref14_SameWay.f wayEq
  by_cases h0 : x.f0 = y.f0
  · simp only [if_pos h0]
    rw [beq_iff_eq.mpr h0, Bool.true_and]
    by_cases hl : (x.f1.length : Int) = (y.f1.length : Int)
    · simp only [if_pos hl]
      refine Ev.bind (ref_sameTags _ _ hx) ?_
      cases ht : listEq tagEq x.f2 y.f2 with
      | false => rw [Bool.and_false]; exact hj
      | true =>
        rw [Bool.and_true]
        refine Ev.step (fun k => by simp only [mapmakerref14_SameWay.j0, Bool.not_true, Bool.false_eq_true, if_false]; rfl) ?_
        have h := ev_loop x.f1.length (fun k i => mapmakerref14_SameWay.l0 k (i : Int) x.f0 x.f1 x.f2 y.f0 y.f1 y.f2) (fun i => listEq intEq (x.f1.drop i) (y.f1.drop i))
          (Ev.step (f := fun _ => some true) (fun k => by simp only [mapmakerref14_SameWay.l0]; rw [if_neg (by omega)]) (by rw [listEq_end intEq x.f1 y.f1 (by omega)]; exact Ev.now true))
          (fun i hi ih => by
            rw [listEq_drop intEq x.f1 y.f1 i hi (by omega)]
            by_cases hc : x.f1[i] = y.f1[i]'(by omega)
            · rw [show intEq x.f1[i] (y.f1[i]'(by omega)) = true from beq_iff_eq.mpr hc, Bool.true_and]
              refine Ev.step (fun k => ?_) ih
              simp only [mapmakerref14_SameWay.l0]
              rw [if_pos (by omega), if_pos (by omega), if_pos (by omega), rdI x.f1 i hi, rdI y.f1 i (by omega), if_pos hc, wrap_succ i (by omega)]
            · rw [show intEq x.f1[i] (y.f1[i]'(by omega)) = false from beq_eq_false_iff_ne.mpr hc, Bool.false_and]
              refine Ev.step (f := fun _ => some false) (fun k => ?_) (Ev.now false)
              simp only [mapmakerref14_SameWay.l0]
              rw [if_pos (by omega), if_pos (by omega), if_pos (by omega), rdI x.f1 i hi, rdI y.f1 i (by omega), if_neg hc])
          0 (by omega)
        exact h
    · simp only [if_neg hl]
      rw [listEq_len intEq x.f1 y.f1 (by omega), Bool.false_and]
      exact hj
  · simp only [if_neg h0]
    rw [beq_eq_false_iff_ne.mpr h0, Bool.false_and]
    exact hj
theorem ref_sameRel (x y : S43) (h1 : x.f1.length ≤ 140737488355328) (hx : x.f2.length ≤ 140737488355328) : Ev (fun k => mapmakerref14_SameRel.f k x.f0 x.f1 x.f2 y.f0 y.f1 y.f2) (relEq x y) := by
  have hj : Ev (fun k => mapmakerref14_SameRel.j0 k true x.f0 x.f1 x.f2 y.f0 y.f1 y.f2) false := Ev.step (f := fun _ => some false) (fun k => by simp only [mapmakerref14_SameRel.j0, if_true]) (Ev.now false)
  unfold mapmakerref14_SameRel.f relEq
  by_cases h0 : x.f0 = y.f0
  · simp only [if_pos h0]
    rw [beq_iff_eq.mpr h0, Bool.true_and]
    by_cases hl : (x.f1.length : Int) = (y.f1.length : Int)
    · simp only [if_pos hl]
      refine Ev.bind (ref_sameTags _ _ hx) ?_
      cases ht : listEq tagEq x.f2 y.f2 with
      | false => rw [Bool.and_false]; exact hj
      | true =>
        rw [Bool.and_true]
        refine Ev.step (fun k => by simp only [mapmakerref14_SameRel.j0, Bool.not_true, Bool.false_eq_true, if_false]; rfl) ?_
        have h := ev_loop x.f1.length (fun k i => mapmakerref14_SameRel.l0 k (i : Int) x.f0 x.f1 x.f2 y.f0 y.f1 y.f2) (fun i => listEq memEq (x.f1.drop i) (y.f1.drop i))
          (Ev.step (f := fun _ => some true) (fun k => by simp only [mapmakerref14_SameRel.l0]; rw [if_neg (by omega)]) (by rw [listEq_end memEq x.f1 y.f1 (by omega)]; exact Ev.now true))
          (fun i hi ih => by
            rw [listEq_drop memEq x.f1 y.f1 i hi (by omega)]
            cases hc : memEq x.f1[i] (y.f1[i]'(by omega)) with
            | true =>
              rw [Bool.true_and]
              refine Ev.step (fun k => ?_) ih
              simp only [mapmakerref14_SameRel.l0]
              rw [if_pos (by omega), if_pos (by omega), if_pos (by omega), rd112 x.f1 i hi, rd112 y.f1 i (by omega), if_neg (by rw [mem_test, hc]; decide), wrap_succ i (by omega)]
            | false =>
              rw [Bool.false_and]
              refine Ev.step (f := fun _ => some false) (fun k => ?_) (Ev.now false)
              simp only [mapmakerref14_SameRel.l0]
              rw [if_pos (by omega), if_pos (by omega), if_pos (by omega), rd112 x.f1 i hi, rd112 y.f1 i (by omega), if_pos (by rw [mem_test, hc])])
          0 (by omega)
        exact h
    · simp only [if_neg hl]
      rw [listEq_len memEq x.f1 y.f1 (by omega), Bool.false_and]
      exact hj
  · simp only [if_neg h0]
    rw [beq_eq_false_iff_ne.mpr h0, Bool.false_and]
    exact hj
def dataEq (x y : S26) : Bool := listEq nodeEq x.f0 y.f0 && (listEq wayEq x.f1 y.f1 && listEq relEq x.f2 y.f2)
theorem dataEq_refl (x : S26) : dataEq x x = true := by unfold dataEq; rw [listEq_refl nodeEq nodeEq_refl, listEq_refl wayEq wayEq_refl, listEq_refl relEq relEq_refl]; rfl
theorem prog_go1 : ∀ (a b : List S37), (∀ x ∈ a, x.f2.length ≤ 140737488355328) → a.length = b.length → Ev (fun k => api_Node_by_data_Same_1.go k a b) (listEq nodeEq a b)
  | [], [], _, _ => Ev.now true
  | [], _ :: _, _, h => absurd h (by simp)
  | _ :: _, [], _, h => absurd h (by simp)
  | x :: xs, y :: ys, hp, h => by
    refine Ev.congr (f := fun k => (data_Same_1.f k x.f0 x.f1.f0 x.f1.f1 x.f2 y.f0 y.f1.f0 y.f1.f1 y.f2).bind fun b => if b = true then api_Node_by_data_Same_1.go k xs ys else some false) (fun k => rfl) (Ev.bind (prog_same1 x y (hp x List.mem_cons_self)) ?_)
    show Ev _ (nodeEq x y && listEq nodeEq xs ys)
    cases hc : nodeEq x y with
    | true => simp only [if_true, Bool.true_and]; exact prog_go1 xs ys (fun z hz => hp z (List.mem_cons_of_mem _ hz)) (by simpa using h)
    | false => simp only [Bool.false_eq_true, if_false, Bool.false_and]; exact Ev.now false
theorem prog_go2 : ∀ (a b : List S40), (∀ x ∈ a, x.f1.length ≤ 140737488355328 ∧ x.f2.length ≤ 140737488355328) → a.length = b.length → Ev (fun k => api_Way_by_data_Same_2.go k a b) (listEq wayEq a b)
  | [], [], _, _ => Ev.now true
  | [], _ :: _, _, h => absurd h (by simp)
  | _ :: _, [], _, h => absurd h (by simp)
  | x :: xs, y :: ys, hp, h => by
    refine Ev.congr (f := fun k => (data_Same_2.f k x.f0 x.f1 x.f2 y.f0 y.f1 y.f2).bind fun b => if b = true then api_Way_by_data_Same_2.go k xs ys else some false) (fun k => rfl) (Ev.bind (prog_same2 x y (hp x List.mem_cons_self).1 (hp x List.mem_cons_self).2) ?_)
    show Ev _ (wayEq x y && listEq wayEq xs ys)
    cases hc : wayEq x y with
    | true => simp only [if_true, Bool.true_and]; exact prog_go2 xs ys (fun z hz => hp z (List.mem_cons_of_mem _ hz)) (by simpa using h)
    | false => simp only [Bool.false_eq_true, if_false, Bool.false_and]; exact Ev.now false
theorem prog_go3 : ∀ (a b : List S43), (∀ x ∈ a, x.f1.length ≤ 140737488355328 ∧ x.f2.length ≤ 140737488355328) → a.length = b.length → Ev (fun k => api_Rel_by_data_Same_3.go k a b) (listEq relEq a b)
  | [], [], _, _ => Ev.now true
  | [], _ :: _, _, h => absurd h (by simp)
  | _ :: _, [], _, h => absurd h (by simp)
  | x :: xs, y :: ys, hp, h => by
    refine Ev.congr (f := fun k => (data_Same_3.f k x.f0 x.f1 x.f2 y.f0 y.f1 y.f2).bind fun b => if b = true then api_Rel_by_data_Same_3.go k xs ys else some false) (fun k => rfl) (Ev.bind (prog_same3 x y (hp x List.mem_cons_self).1 (hp x List.mem_cons_self).2) ?_)
    show Ev _ (relEq x y && listEq relEq xs ys)
    cases hc : relEq x y with
    | true => simp only [if_true, Bool.true_and]; exact prog_go3 xs ys (fun z hz => hp z (List.mem_cons_of_mem _ hz)) (by simpa using h)
    | false => simp only [Bool.false_eq_true, if_false, Bool.false_and]; exact Ev.now false
theorem prog_same (x y : S26) (w : wf26 x) : Ev (fun k => data_Same.f k x.f0 x.f1 x.f2 y.f0 y.f1 y.f2) (dataEq x y) := by
  obtain ⟨⟨h0, p0⟩, ⟨h1, p1⟩, ⟨h2, p2⟩⟩ := w
  have e1 : Ev (fun k => api_Node_by_data_Same_1.f k x.f0 y.f0) (listEq nodeEq x.f0 y.f0) := by
    unfold api_Node_by_data_Same_1.f
    by_cases hl : x.f0.length = y.f0.length
    · simp only [if_pos hl]; exact prog_go1 _ _ (fun z hz => (p0 z hz).2.2.1) hl
    · simp only [if_neg hl]; rw [listEq_len nodeEq _ _ hl]; exact Ev.now false
  have e2 : Ev (fun k => api_Way_by_data_Same_2.f k x.f1 y.f1) (listEq wayEq x.f1 y.f1) := by
    unfold api_Way_by_data_Same_2.f
    by_cases hl : x.f1.length = y.f1.length
    · simp only [if_pos hl]; exact prog_go2 _ _ (fun z hz => ⟨(p1 z hz).2.1.1, (p1 z hz).2.2.1⟩) hl
    · simp only [if_neg hl]; rw [listEq_len wayEq _ _ hl]; exact Ev.now false
  have e3 : Ev (fun k => api_Rel_by_data_Same_3.f k x.f2 y.f2) (listEq relEq x.f2 y.f2) := by
    unfold api_Rel_by_data_Same_3.f
    by_cases hl : x.f2.length = y.f2.length
    · simp only [if_pos hl]; exact prog_go3 _ _ (fun z hz => ⟨(p2 z hz).2.1.1, (p2 z hz).2.2.1⟩) hl
    · simp only [if_neg hl]; rw [listEq_len relEq _ _ hl]; exact Ev.now false
  unfold data_Same.f dataEq
  refine Ev.bind e1 ?_
  cases listEq nodeEq x.f0 y.f0 with
  | false => simp only [Bool.false_eq_true, if_false, Bool.false_and]; exact Ev.now false
  | true =>
    simp only [if_true, Bool.true_and]
    refine Ev.bind e2 ?_
    cases listEq wayEq x.f1 y.f1 with
    | false => simp only [Bool.false_eq_true, if_false, Bool.false_and]; exact Ev.now false
    | true => simp only [if_true, Bool.true_and]; exact Ev.bind e3 (Ev.now _)
theorem ref_same (x y : S26) (w : wf26 x) : Ev (fun k => mapmakerref14_Same.f k x.f0 x.f1 x.f2 y.f0 y.f1 y.f2) (dataEq x y) := by
  obtain ⟨⟨h0, p0⟩, ⟨h1, p1⟩, ⟨h2, p2⟩⟩ := w
  have hj : Ev (fun k => mapmakerref14_Same.j0 k true x.f0 x.f1 x.f2 y.f0 y.f1 y.f2) false := Ev.step (f := fun _ => some false) (fun k => by simp only [mapmakerref14_Same.j0, if_true]) (Ev.now false)
  unfold mapmakerref14_Same.f dataEq
  by_cases c0 : (x.f0.length : Int) = (y.f0.length : Int)
  · simp only [if_pos c0]
    by_cases c1 : (x.f1.length : Int) = (y.f1.length : Int)
    · simp only [if_pos c1]
      by_cases c2 : (x.f2.length : Int) = (y.f2.length : Int)
      · rw [bne_eq_false_iff_eq.mpr c2]
        refine Ev.step (fun k => by simp only [mapmakerref14_Same.j0, Bool.false_eq_true, if_false]; rfl) ?_
        have hr := ev_loop x.f2.length (fun k i => mapmakerref14_Same.l2 k (i : Int) x.f0 x.f1 x.f2 y.f0 y.f1 y.f2) (fun i => listEq relEq (x.f2.drop i) (y.f2.drop i))
          (Ev.step (f := fun _ => some true) (fun k => by simp only [mapmakerref14_Same.l2]; rw [if_neg (by omega)]) (by rw [listEq_end relEq x.f2 y.f2 (by omega)]; exact Ev.now true))
          (fun i hi ih => by
            rw [listEq_drop relEq x.f2 y.f2 i hi (by omega)]
            refine Ev.step (f := fun k => (mapmakerref14_SameRel.f k x.f2[i].f0 x.f2[i].f1 x.f2[i].f2 (y.f2[i]'(by omega)).f0 (y.f2[i]'(by omega)).f1 (y.f2[i]'(by omega)).f2).bind fun t => if t = true then mapmakerref14_Same.l2 k (wrap64 ((i : Int) + 1)) x.f0 x.f1 x.f2 y.f0 y.f1 y.f2 else some false) (fun k => by
              simp only [mapmakerref14_Same.l2]
              rw [if_pos (by omega), if_pos (by omega), if_pos (by omega), rd43 x.f2 i hi, rd43 y.f2 i (by omega)]) (Ev.bind (ref_sameRel _ _ (p2 _ (List.getElem_mem hi)).2.1.1 (p2 _ (List.getElem_mem hi)).2.2.1) ?_)
            cases relEq x.f2[i] (y.f2[i]'(by omega)) with
            | true => simp only [if_true, Bool.true_and]; rw [wrap_succ i (by omega)]; exact ih
            | false => simp only [Bool.false_eq_true, if_false, Bool.false_and]; exact Ev.now false)
          0 (by omega)
        have hw := ev_loop x.f1.length (fun k i => mapmakerref14_Same.l1 k (i : Int) x.f0 x.f1 x.f2 y.f0 y.f1 y.f2) (fun i => listEq wayEq (x.f1.drop i) (y.f1.drop i) && listEq relEq x.f2 y.f2)
          (Ev.step (f := fun k => mapmakerref14_Same.l2 k 0 x.f0 x.f1 x.f2 y.f0 y.f1 y.f2) (fun k => by simp only [mapmakerref14_Same.l1]; rw [if_neg (by omega)]) (by rw [listEq_end wayEq x.f1 y.f1 (by omega), Bool.true_and]; exact hr))
          (fun i hi ih => by
            rw [listEq_drop wayEq x.f1 y.f1 i hi (by omega)]
            refine Ev.step (f := fun k => (mapmakerref14_SameWay.f k x.f1[i].f0 x.f1[i].f1 x.f1[i].f2 (y.f1[i]'(by omega)).f0 (y.f1[i]'(by omega)).f1 (y.f1[i]'(by omega)).f2).bind fun t => if t = true then mapmakerref14_Same.l1 k (wrap64 ((i : Int) + 1)) x.f0 x.f1 x.f2 y.f0 y.f1 y.f2 else some false) (fun k => by
              simp only [mapmakerref14_Same.l1]
              rw [if_pos (by omega), if_pos (by omega), if_pos (by omega), rd40 x.f1 i hi, rd40 y.f1 i (by omega)]) (Ev.bind (ref_sameWay _ _ (p1 _ (List.getElem_mem hi)).2.1.1 (p1 _ (List.getElem_mem hi)).2.2.1) ?_)
            cases wayEq x.f1[i] (y.f1[i]'(by omega)) with
            | true => simp only [if_true, Bool.true_and]; rw [wrap_succ i (by omega)]; exact ih
            | false => simp only [Bool.false_eq_true, if_false, Bool.false_and]; exact Ev.now false)
          0 (by omega)
        have hn := ev_loop x.f0.length (fun k i => mapmakerref14_Same.l0 k (i : Int) x.f0 x.f1 x.f2 y.f0 y.f1 y.f2) (fun i => listEq nodeEq (x.f0.drop i) (y.f0.drop i) && (listEq wayEq x.f1 y.f1 && listEq relEq x.f2 y.f2))
          (Ev.step (f := fun k => mapmakerref14_Same.l1 k 0 x.f0 x.f1 x.f2 y.f0 y.f1 y.f2) (fun k => by simp only [mapmakerref14_Same.l0]; rw [if_neg (by omega)]) (by rw [listEq_end nodeEq x.f0 y.f0 (by omega), Bool.true_and]; exact hw))
          (fun i hi ih => by
            rw [listEq_drop nodeEq x.f0 y.f0 i hi (by omega)]
            refine Ev.step (f := fun k => (mapmakerref14_SameNode.f k x.f0[i].f0 x.f0[i].f1.f0 x.f0[i].f1.f1 x.f0[i].f2 (y.f0[i]'(by omega)).f0 (y.f0[i]'(by omega)).f1.f0 (y.f0[i]'(by omega)).f1.f1 (y.f0[i]'(by omega)).f2).bind fun t => if t = true then mapmakerref14_Same.l0 k (wrap64 ((i : Int) + 1)) x.f0 x.f1 x.f2 y.f0 y.f1 y.f2 else some false) (fun k => by
              simp only [mapmakerref14_Same.l0]
              rw [if_pos (by omega), if_pos (by omega), if_pos (by omega), rd37 x.f0 i hi, rd37 y.f0 i (by omega)]) (Ev.bind (ref_sameNode _ _ (p0 _ (List.getElem_mem hi)).2.2.1) ?_)
            cases nodeEq x.f0[i] (y.f0[i]'(by omega)) with
            | true => simp only [if_true, Bool.true_and]; rw [wrap_succ i (by omega)]; exact ih
            | false => simp only [Bool.false_eq_true, if_false, Bool.false_and]; exact Ev.now false)
          0 (by omega)
        exact hn
      · rw [bne_iff_ne.mpr c2, listEq_len relEq x.f2 y.f2 (by omega), Bool.and_false, Bool.and_false]
        exact hj
    · simp only [if_neg c1]
      rw [listEq_len wayEq x.f1 y.f1 (by omega), Bool.false_and, Bool.and_false]
      exact hj
  · simp only [if_neg c0]
    rw [listEq_len nodeEq x.f0 y.f0 (by omega), Bool.false_and]
    exact hj
theorem idE_iff (n p : Int) : idE n p = 0 ↔ 1 ≤ n ∧ n ≤ 2147483647 ∧ p < n := by
  unfold idE
  constructor
  · intro h
    by_cases h1 : n < 1
    · rw [if_pos h1] at h; cases h
    · rw [if_neg h1] at h
      by_cases h2 : n > 2147483647
      · rw [if_pos h2] at h; cases h
      · rw [if_neg h2] at h
        by_cases h3 : n ≤ p
        · rw [if_pos h3] at h; cases h
        · omega
  · rintro ⟨h1, h2, h3⟩
    rw [if_neg (by omega), if_neg (by omega), if_neg (by omega)]
def okIds : Int → List Int → Prop
  | _, [] => True
  | p, x :: r => idE x p = 0 ∧ okIds x r
theorem ngo_iff : ∀ (l : List S37) (p : Int), ngo p l = 0 ↔ okIds p (i37 l) ∧ ∀ x ∈ l, badc x = false ∧ tchk x.f2 = 0
  | [], p => by simp [ngo, i37, okIds]
  | x :: l, p => by
    have ih := ngo_iff l x.f0
    have e : i37 (x :: l) = x.f0 :: i37 l := rfl
    rw [e]
    simp only [ngo, okIds, List.forall_mem_cons]
    by_cases h1 : idE x.f0 p = 0
    · rw [if_pos h1]
      by_cases h2 : badc x = true
      · rw [if_pos h2]; simp [h2]
      · rw [if_neg h2]
        by_cases h3 : tchk x.f2 = 0
        · rw [if_pos h3, ih]; simp [h1, h2, h3]
        · rw [if_neg h3]; simp [h3]
    · rw [if_neg h1]; simp [h1]
theorem wgo_iff (ids : List Int) : ∀ (l : List S40) (p : Int), wgo ids p l = 0 ↔ okIds p (i40 l) ∧ ∀ x ∈ l, wayE ids x = 0
  | [], p => by simp [wgo, i40, okIds]
  | x :: l, p => by
    have ih := wgo_iff ids l x.f0
    have e : i40 (x :: l) = x.f0 :: i40 l := rfl
    rw [e]
    simp only [wgo, okIds, List.forall_mem_cons]
    by_cases h1 : idE x.f0 p = 0
    · rw [if_pos h1]
      by_cases h2 : wayE ids x = 0
      · rw [if_pos h2, ih]; simp [h1, h2]
      · rw [if_neg h2]; simp [h2]
    · rw [if_neg h1]; simp [h1]
theorem rgo_iff (i0 i1 : List Int) : ∀ (l : List S43) (p : Int), rgo i0 i1 p l = 0 ↔ okIds p (i43 l) ∧ ∀ x ∈ l, relE i0 i1 x = 0
  | [], p => by simp [rgo, i43, okIds]
  | x :: l, p => by
    have ih := rgo_iff i0 i1 l x.f0
    have e : i43 (x :: l) = x.f0 :: i43 l := rfl
    rw [e]
    simp only [rgo, okIds, List.forall_mem_cons]
    by_cases h1 : idE x.f0 p = 0
    · rw [if_pos h1]
      by_cases h2 : relE i0 i1 x = 0
      · rw [if_pos h2, ih]; simp [h1, h2]
      · rw [if_neg h2]; simp [h2]
    · rw [if_neg h1]; simp [h1]
theorem chk_iff (l0 : List S37) (l1 : List S40) (l2 : List S43) : chk l0 l1 l2 = 0 ↔ (l0.length ≤ 10000 ∧ l1.length ≤ 10000 ∧ l2.length ≤ 10000) ∧ ngo 0 l0 = 0 ∧ wgo (i37 l0) 0 l1 = 0 ∧ rgo (i37 l0) (i40 l1) 0 l2 = 0 := by
  unfold chk
  by_cases h : 10000 < l0.length ∨ 10000 < l1.length ∨ 10000 < l2.length
  · rw [if_pos h]
    constructor
    · intro h; cases h
    · rintro ⟨h1, _⟩; omega
  · rw [if_neg h]
    by_cases h1 : ngo 0 l0 = 0
    · rw [if_pos h1]
      by_cases h2 : wgo (i37 l0) 0 l1 = 0
      · rw [if_pos h2]; simp [h1, h2]; omega
      · rw [if_neg h2]; simp [h2]
    · rw [if_neg h1]; simp [h1]
end Go.Proofs.YtijoaohckgbneaaGreat.Pure
