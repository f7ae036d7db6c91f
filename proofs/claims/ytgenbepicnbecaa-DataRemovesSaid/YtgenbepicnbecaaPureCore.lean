/- c14, plain: tags, IDs, lookups: what Check needs, of the program and of its reference. -/
import Derived.Test.YtgenbepicnbecaaPAllx15
import Derived.Test.YtgenbepicnbecaaPAllx22
namespace Go.Proofs.Ytgenbepicnbecaa.Pure
open Go.RowKit Go.Proofs.Ytgenbepicnbecaa.PAll Go.Proofs.YtgenbepicnbecaaW.PrintWords Go.Proofs.YtgenbepicnbecaaW.PrintLast
set_option linter.unusedVariables false
set_option linter.unusedSimpArgs false
theorem rdI (l : List Int) (i : Nat) (h : i < l.length) : rd l (i : Int) = l[i] := by
  unfold rd; rw [Int.toNat_natCast, List.getD_eq_getElem?_getD, List.getElem?_eq_getElem h]; rfl
theorem rd39 (l : List S39) (i : Nat) (h : i < l.length) : rd_T39 l (i : Int) = l[i] := by
  unfold rd_T39; rw [Int.toNat_natCast, List.getD_eq_getElem?_getD, List.getElem?_eq_getElem h]; rfl
theorem rd45 (l : List S45) (i : Nat) (h : i < l.length) : rd_T45 l (i : Int) = l[i] := by
  unfold rd_T45; rw [Int.toNat_natCast, List.getD_eq_getElem?_getD, List.getElem?_eq_getElem h]; rfl
theorem rd51 (l : List S51) (i : Nat) (h : i < l.length) : rd_T51 l (i : Int) = l[i] := by
  unfold rd_T51; rw [Int.toNat_natCast, List.getD_eq_getElem?_getD, List.getElem?_eq_getElem h]; rfl
theorem wrap_succ (i : Nat) (h : (i : Int) < 9223372036854775807) : wrap64 ((i : Int) + 1) = ((i + 1 : Nat) : Int) := by unfold wrap64; omega
theorem wrapI {n : Int} (h : -9223372036854775808 ≤ n ∧ n ≤ 9223372036854775807) : wrap64 n = n := by unfold wrap64; omega
theorem ev_loop {α : Type} (n : Nat) (g : Nat → Nat → Option α) (spec : Nat → α) (hend : Ev (fun k => g k n) (spec n)) (hstep : ∀ i, i < n → Ev (fun k => g k (i + 1)) (spec (i + 1)) → Ev (fun k => g k i) (spec i)) : ∀ i, i ≤ n → Ev (fun k => g k i) (spec i) := by
  have go : ∀ d i, i ≤ n → n - i = d → Ev (fun k => g k i) (spec i) := by
    intro d
    induction d with
    | zero => intro i hi hd; obtain rfl : i = n := by omega
              exact hend
    | succ d ih => intro i hi hd; exact hstep i (by omega) (ih (i + 1) (by omega) (by omega))
  exact fun i hi => go (n - i) i hi rfl
theorem toList_length (s : ByteArray) : s.toList.length = s.size := by rw [ByteArray.toList_eq s]; rfl
theorem empty_iff (a : ByteArray) : a.toList = ([] : List UInt8) ↔ (a.size : Int) < 1 := by
  have h : a.toList.length = a.size := toList_length a
  constructor
  · intro e; rw [e] at h; simp at h; omega
  · intro e; exact List.eq_nil_of_length_eq_zero (by omega)
theorem good_same (a b : ByteArray) : tags_good.f a b = mapmakerref06_inTag.f a b := by
  unfold tags_good.f mapmakerref06_inTag.f
  by_cases h : (a.size : Int) < 1
  · rw [if_pos ((empty_iff a).2 h), if_neg (by omega)]
  · rw [if_neg (fun e => h ((empty_iff a).1 e)), if_pos (show (a.size : Int) ≥ 1 by omega)]
theorem check_same0 (l : List S70) : ∀ (k : Nat) (i : Int), tags_Check.l0 k l l (l.length : Int) i = mapmakerref06_Check.l0 k l i
  | 0, _ => rfl
  | k + 1, i => by
    simp only [tags_Check.l0, mapmakerref06_Check.l0, check_same0 l k, good_same]
    by_cases h : i < (l.length : Int)
    · simp only [h, if_true]
    · simp only [h, if_false]
theorem check_same (l : List S70) (k : Nat) : tags_Check.f k l = mapmakerref06_Check.f k l := by
  unfold tags_Check.f mapmakerref06_Check.f
  rw [check_same0]
theorem inTag_ex (a b : ByteArray) : ∃ r, mapmakerref06_inTag.f a b = some r := by
  unfold mapmakerref06_inTag.f
  repeat' split
  all_goals exact ⟨_, rfl⟩
theorem check_ends (l : List S70) (hl : l.length ≤ 16) (d : Nat) : ∀ (k : Nat) (i : Nat), i ≤ l.length → l.length - i = d → d < k → ∃ r, mapmakerref06_Check.l0 k l (i : Int) = some r := by
  induction d with
  | zero =>
    intro k i hi hd hk
    obtain ⟨k, rfl⟩ : ∃ m, k = m + 1 := ⟨k - 1, by omega⟩
    simp only [mapmakerref06_Check.l0]
    rw [if_neg (by omega)]
    exact ⟨_, rfl⟩
  | succ d ih =>
    intro k i hi hd hk
    obtain ⟨k, rfl⟩ : ∃ m, k = m + 1 := ⟨k - 1, by omega⟩
    obtain ⟨r, hr⟩ := ih k (i + 1) (by omega) (by omega) (by omega)
    obtain ⟨b, hb⟩ := inTag_ex (rd_T70 l (i : Int)).f0 (rd_T70 l (i : Int)).f1
    simp only [mapmakerref06_Check.l0]
    rw [if_pos (by omega), if_pos (by omega), hb, Option.bind_some, wrap_succ i (by omega), hr]
    by_cases hbt : b = true
    · rw [if_pos hbt]
      by_cases h0 : (i : Int) > 0
      · rw [if_pos h0, wrapI (by omega), if_pos (by omega), if_pos (by omega)]
        split <;> exact ⟨_, rfl⟩
      · rw [if_neg h0]; exact ⟨_, rfl⟩
    · rw [if_neg hbt]; exact ⟨_, rfl⟩
def tchk (l : List S70) : Int := (mapmakerref06_Check.f 25 l).getD 0
theorem ref_tags (l : List S70) : Ev (fun k => mapmakerref06_Check.f k l) (tchk l) := by
  have h : ∃ r, mapmakerref06_Check.f 25 l = some r := by
    unfold mapmakerref06_Check.f
    by_cases hl : (l.length : Int) > 16
    · rw [if_pos hl]; exact ⟨_, rfl⟩
    · rw [if_neg hl]; exact check_ends l (by omega) (l.length - 0) 25 0 (by omega) rfl (by omega)
  obtain ⟨r, hr⟩ := h
  have e : tchk l = r := by unfold tchk; rw [hr]; rfl
  rw [e]
  exact Ev.of (fun k => mapmakerref06_Check.mono l k) hr
theorem prog_tags (l : List S70) : Ev (fun k => tags_Check.f k l) (tchk l) := Ev.congr (fun k => check_same l k) (ref_tags l)
def idE (n p : Int) : Int := if n < 1 then 2 else if n > 2147483647 then 2 else if n ≤ p then 6 else 0
def pv (l : List Int) (i : Nat) : Int := if i = 0 then 0 else l.getD (i - 1) 0
theorem pv_succ (l : List Int) (i : Nat) (h : i < l.length) : pv l (i + 1) = l[i] := by
  unfold pv
  rw [if_neg (by omega), Nat.add_sub_cancel, List.getD_eq_getElem?_getD, List.getElem?_eq_getElem h]; rfl
theorem idsF_eq (l : List Int) (p : Int → Int) (i : Nat) (hi : i < l.length) (hp : ∀ j : Nat, (hj : j < l.length) → p (j : Int) = l[j]) : idsF p (i : Int) = idE l[i] (pv l i) := by
  unfold idsF idE
  rw [hp i hi]
  by_cases h1 : l[i] < 1
  · rw [if_pos h1, if_pos h1]
  · rw [if_neg h1, if_neg h1]
    by_cases h2 : l[i] > 2147483647
    · rw [if_pos h2, if_pos h2]
    · rw [if_neg h2, if_neg h2]
      by_cases h3 : i = 0
      · subst h3
        have e : ¬ (l[0] ≤ pv l 0) := by unfold pv; rw [if_pos rfl]; omega
        simp [e]
      · have e : (i : Int) - 1 = ((i - 1 : Nat) : Int) := by omega
        rw [if_pos (by omega), e, hp (i - 1) (by omega)]
        have e2 : pv l i = l[i - 1] := by unfold pv; rw [if_neg h3, List.getD_eq_getElem?_getD, List.getElem?_eq_getElem (by omega)]; rfl
        rw [e2]
def badc (x : S39) : Bool := decide (x.f1.f0 < -1800000000) || (decide (x.f1.f0 > 1800000000) || (decide (x.f1.f1 < -900000000) || decide (x.f1.f1 > 900000000)))
def ngo : Int → List S39 → Int
  | _, [] => 0
  | p, x :: r => if idE x.f0 p = 0 then (if badc x = true then 11 else if tchk x.f2 = 0 then ngo x.f0 r else tchk x.f2) else idE x.f0 p
theorem prog_nodes (l0 : List S39) (l1 : List S45) (l2 : List S51) (hl : l0.length ≤ 140737488355328) : Ev (fun k => data_checker_checkNodes.f k l0 l1 l2) (ngo 0 l0) := by
  have h := ev_loop l0.length (fun k i => data_checker_checkNodes.l0 k l0 (l0.length : Int) (i : Int) l0 l1 l2) (fun i => ngo (pv (l0.map (fun x => x.f0)) i) (l0.drop i))
    (Ev.step (f := fun _ => some 0) (fun k => by simp only [data_checker_checkNodes.l0]; rw [if_neg (by omega)]) (by rw [List.drop_length]; exact Ev.now 0))
    (fun i hi ih => by
      have hpv : pv (l0.map (fun x => x.f0)) (i + 1) = l0[i].f0 := by rw [pv_succ _ i (by simpa using hi)]; simp
      rw [hpv] at ih
      have hid : data_ids_by_data_checker_checkNodes_1.f (i : Int) l0 l1 l2 = some (idE l0[i].f0 (pv (l0.map (fun x => x.f0)) i)) := by
        unfold data_ids_by_data_checker_checkNodes_1.f
        rw [if_pos (by omega), if_pos (by omega), idsF_eq (l0.map (fun x => x.f0)) _ i (by simpa using hi) (fun j hj => by rw [rd39 l0 j (by simpa using hj)]; simp)]
        simp
      generalize pv (l0.map (fun x => x.f0)) i = p at hid
      rw [List.drop_eq_getElem_cons hi]
      simp only [ngo]
      have hj2 : Ev (fun k => data_checker_checkNodes.j2 k 0 l0 (l0.length : Int) (i : Int) l0 l1 l2 l0[i].f0 l0[i].f1.f0 l0[i].f1.f1 l0[i].f2) (if tchk l0[i].f2 = 0 then ngo l0[i].f0 (l0.drop (i + 1)) else tchk l0[i].f2) := by
        refine Ev.step (f := fun k => (tags_Check.f k l0[i].f2).bind fun t => if t = 0 then data_checker_checkNodes.l0 k l0 (l0.length : Int) (wrap64 ((i : Int) + 1)) l0 l1 l2 else some t) (fun k => by simp only [data_checker_checkNodes.j2]; rfl) (Ev.bind (prog_tags _) ?_)
        by_cases ht : tchk l0[i].f2 = 0
        · simp only [if_pos ht]
          rw [wrap_succ i (by omega)]
          exact ih
        · simp only [if_neg ht]
          exact Ev.now _
      have hj2' : ∀ e : Int, e ≠ 0 → Ev (fun k => data_checker_checkNodes.j2 k e l0 (l0.length : Int) (i : Int) l0 l1 l2 l0[i].f0 l0[i].f1.f0 l0[i].f1.f1 l0[i].f2) e := fun e he =>
        Ev.step (f := fun _ => some e) (fun k => by simp only [data_checker_checkNodes.j2]; rw [if_neg he]) (Ev.now e)
      have hj : ∀ b, Ev (fun k => data_checker_checkNodes.j1 k 0 l0 (l0.length : Int) (i : Int) b l0 l1 l2 l0[i].f0 l0[i].f1.f0 l0[i].f1.f1 l0[i].f2) (if b = true then 11 else if tchk l0[i].f2 = 0 then ngo l0[i].f0 (l0.drop (i + 1)) else tchk l0[i].f2) := by
        intro b
        cases b with
        | true => exact Ev.step (fun k => by simp only [data_checker_checkNodes.j1]; rfl) (hj2' 11 (by decide))
        | false => exact Ev.step (fun k => by simp only [data_checker_checkNodes.j1]; rfl) hj2
      refine Ev.step (f := fun k => (some (idE l0[i].f0 p)).bind fun t => if t = 0 then (if l0[i].f1.f0 < -1800000000 then data_checker_checkNodes.j1 k t l0 (l0.length : Int) (i : Int) true l0 l1 l2 l0[i].f0 l0[i].f1.f0 l0[i].f1.f1 l0[i].f2 else if l0[i].f1.f0 > 1800000000 then data_checker_checkNodes.j1 k t l0 (l0.length : Int) (i : Int) true l0 l1 l2 l0[i].f0 l0[i].f1.f0 l0[i].f1.f1 l0[i].f2 else if l0[i].f1.f1 < -900000000 then data_checker_checkNodes.j1 k t l0 (l0.length : Int) (i : Int) true l0 l1 l2 l0[i].f0 l0[i].f1.f0 l0[i].f1.f1 l0[i].f2 else data_checker_checkNodes.j1 k t l0 (l0.length : Int) (i : Int) (decide (l0[i].f1.f1 > 900000000)) l0 l1 l2 l0[i].f0 l0[i].f1.f0 l0[i].f1.f1 l0[i].f2) else data_checker_checkNodes.j1 k t l0 (l0.length : Int) (i : Int) false l0 l1 l2 l0[i].f0 l0[i].f1.f0 l0[i].f1.f1 l0[i].f2) (fun k => by
        simp only [data_checker_checkNodes.l0]
        rw [if_pos (by omega), if_pos (by omega), if_pos (by omega), rd39 l0 i hi, hid]) ?_
      simp only [Option.bind_some]
      by_cases he : idE l0[i].f0 p = 0
      · simp only [he, if_true]
        have hb : badc l0[i] = (decide (l0[i].f1.f0 < -1800000000) || (decide (l0[i].f1.f0 > 1800000000) || (decide (l0[i].f1.f1 < -900000000) || decide (l0[i].f1.f1 > 900000000)))) := rfl
        rw [hb]
        by_cases h1 : l0[i].f1.f0 < -1800000000
        · simp only [if_pos h1, decide_eq_true h1, Bool.true_or]; exact hj true
        · simp only [if_neg h1, decide_eq_false h1, Bool.false_or]
          by_cases h2 : l0[i].f1.f0 > 1800000000
          · simp only [if_pos h2, decide_eq_true h2, Bool.true_or]; exact hj true
          · simp only [if_neg h2, decide_eq_false h2, Bool.false_or]
            by_cases h3 : l0[i].f1.f1 < -900000000
            · simp only [if_pos h3, decide_eq_true h3, Bool.true_or]; exact hj true
            · simp only [if_neg h3, decide_eq_false h3, Bool.false_or]; exact hj _
      · simp only [if_neg he]
        exact Ev.step (fun k => by simp only [data_checker_checkNodes.j1]; rfl) (hj2' _ he))
    0 (by omega)
  exact h
end Go.Proofs.Ytgenbepicnbecaa.Pure
