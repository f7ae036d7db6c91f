/- c14, plain: Users: the program sorts and drops what is told twice, the reference inserts; both give the strictly sorted list of one set. -/
import Derived.Test.YtgenbepicnbecaaPureFinds
import Derived.Test.YtgenbepicnbecaaPAllx26
namespace Go.Proofs.Ytgenbepicnbecaa.Pure
open Go.RowKit Go.Proofs.Ytgenbepicnbecaa.PAll Go.Proofs.YtgenbepicnbecaaW.PrintWords Go.Proofs.YtgenbepicnbecaaW.PrintLast
set_option linter.unusedVariables false
set_option linter.unusedSimpArgs false
theorem s34_ext {x y : S34} (h0 : x.f0 = y.f0) (h1 : x.f1 = y.f1) : x = y := by cases x; cases y; simp_all
def ltR (x y : S34) : Prop := x.f0 < y.f0 ∨ x.f0 = y.f0 ∧ x.f1 < y.f1
instance (x y : S34) : Decidable (ltR x y) := inferInstanceAs (Decidable (_ ∨ _))
theorem ltR_irrefl (x : S34) : ¬ ltR x x := by unfold ltR; omega
theorem ltR_trans {x y z : S34} (h1 : ltR x y) (h2 : ltR y z) : ltR x z := by unfold ltR at *; omega
theorem ltR_total {x y : S34} (h1 : ¬ ltR x y) (h2 : x ≠ y) : ltR y x := by
  unfold ltR at *
  by_cases e : x.f0 = y.f0
  · by_cases f : x.f1 = y.f1
    · exact absurd (s34_ext e f) h2
    · omega
  · omega
def eqR (x y : S34) : Bool := x.f0 == y.f0 && (x.f1 == y.f1)
theorem eqR_iff (x y : S34) : eqR x y = true ↔ x = y := by
  unfold eqR
  constructor
  · intro h; simp at h; exact s34_ext h.1 h.2
  · rintro rfl; simp
theorem eqs34_iff (x y : S34) : eqs34 x y = true ↔ x = y := eqR_iff x y
theorem strict_unique : ∀ {a b : List S34}, (∀ x, x ∈ a ↔ x ∈ b) → a.Pairwise ltR → b.Pairwise ltR → a = b
  | [], [], _, _, _ => rfl
  | [], y :: b, h, _, _ => absurd ((h y).2 List.mem_cons_self) (by simp)
  | x :: a, [], h, _, _ => absurd ((h x).1 List.mem_cons_self) (by simp)
  | x :: a, y :: b, h, ha, hb => by
    rw [List.pairwise_cons] at ha hb
    have hxy : x = y := by
      rcases List.mem_cons.1 ((h x).1 List.mem_cons_self) with e | e
      · exact e
      · rcases List.mem_cons.1 ((h y).2 List.mem_cons_self) with e2 | e2
        · exact e2.symm
        · exact absurd (ltR_trans (ha.1 y e2) (hb.1 x e)) (ltR_irrefl x)
    subst hxy
    rw [strict_unique (fun z => ?_) ha.2 hb.2]
    constructor
    · intro hz
      rcases List.mem_cons.1 ((h z).1 (List.mem_cons_of_mem _ hz)) with e | e
      · subst e; exact absurd (ha.1 z hz) (ltR_irrefl z)
      · exact e
    · intro hz
      rcases List.mem_cons.1 ((h z).2 (List.mem_cons_of_mem _ hz)) with e | e
      · subst e; exact absurd (hb.1 z hz) (ltR_irrefl z)
      · exact e
theorem ddG_cons (p y : S34) (l : List S34) : ddGo34 eqs34 p (y :: l) = if eqs34 y p = true then ddGo34 eqs34 y l else y :: ddGo34 eqs34 y l := rfl
theorem ddG_mem : ∀ (l : List S34) (p x : S34), x ∈ p :: ddGo34 eqs34 p l ↔ x ∈ p :: l
  | [], p, x => Iff.rfl
  | y :: l, p, x => by
    rw [ddG_cons]
    by_cases e : eqs34 y p = true
    · rw [if_pos e, (eqs34_iff _ _).1 e, ddG_mem l p x]
      simp
    · rw [if_neg e, List.mem_cons, ddG_mem l y x, ← List.mem_cons]
theorem ddG_sorted : ∀ (l : List S34) (p : S34), (p :: l).Pairwise (fun x y => ¬ ltR y x) → (p :: ddGo34 eqs34 p l).Pairwise ltR
  | [], p, _ => List.pairwise_singleton _ _
  | y :: l, p, h => by
    rw [List.pairwise_cons] at h
    obtain ⟨h1, h2⟩ := h
    have ih := ddG_sorted l y h2
    rw [ddG_cons]
    by_cases e : eqs34 y p = true
    · rw [if_pos e, (eqs34_iff _ _).1 e]
      rw [(eqs34_iff _ _).1 e] at ih
      exact ih
    · rw [if_neg e]
      refine List.pairwise_cons.2 ⟨fun z hz => ?_, ih⟩
      have hy : ltR p y := ltR_total (h1 y List.mem_cons_self) (fun he => e ((eqs34_iff _ _).2 he))
      rcases List.mem_cons.1 hz with rfl | hz
      · exact hy
      · exact ltR_trans hy ((List.pairwise_cons.1 ih).1 z hz)
theorem dd_mem (l : List S34) (x : S34) : x ∈ dd34 eqs34 l ↔ x ∈ l := by
  cases l with
  | nil => exact Iff.rfl
  | cons y l => exact ddG_mem l y x
theorem dd_sorted (l : List S34) (h : l.Pairwise (fun x y => ¬ ltR y x)) : (dd34 eqs34 l).Pairwise ltR := by
  cases l with
  | nil => exact List.Pairwise.nil
  | cons y l => exact ddG_sorted l y h
def insR (r : S34) : List S34 → List S34
  | [] => [r]
  | x :: l => if ltR x r then x :: insR r l else r :: (x :: l).filter (fun y => !eqR y r)
theorem insR_mem (r : S34) : ∀ (l : List S34) (y : S34), y ∈ insR r l ↔ y = r ∨ y ∈ l
  | [], y => by simp [insR]
  | x :: l, y => by
    unfold insR
    by_cases h : ltR x r
    · rw [if_pos h, List.mem_cons, insR_mem r l y, List.mem_cons]
      constructor
      · rintro (h | h | h) <;> simp [h]
      · rintro (h | h | h) <;> simp [h]
    · rw [if_neg h, List.mem_cons, List.mem_filter]
      constructor
      · rintro (h | h)
        · exact .inl h
        · exact .inr h.1
      · rintro (h | h)
        · exact .inl h
        · by_cases e : y = r
          · exact .inl e
          · refine .inr ⟨h, ?_⟩
            have : eqR y r = false := Bool.eq_false_iff.2 (fun he => e ((eqR_iff _ _).1 he))
            rw [this]; rfl
theorem insR_sorted (r : S34) : ∀ {l : List S34}, l.Pairwise ltR → (insR r l).Pairwise ltR
  | [], _ => List.pairwise_singleton _ _
  | x :: l, h => by
    unfold insR
    have h' := List.pairwise_cons.1 h
    by_cases hx : ltR x r
    · rw [if_pos hx]
      refine List.pairwise_cons.2 ⟨fun z hz => ?_, insR_sorted r h'.2⟩
      rcases (insR_mem r l z).1 hz with rfl | hz
      · exact hx
      · exact h'.1 z hz
    · rw [if_neg hx]
      refine List.pairwise_cons.2 ⟨fun z hz => ?_, h.filter _⟩
      obtain ⟨hz1, hz2⟩ := List.mem_filter.1 hz
      have hzr : z ≠ r := fun e => by rw [(eqR_iff z r).2 e] at hz2; exact absurd hz2 (by decide)
      rcases List.mem_cons.1 hz1 with rfl | hz1
      · exact ltR_total hx hzr
      · by_cases e : x = r
        · subst e; exact h'.1 z hz1
        · exact ltR_trans (ltR_total hx e) (h'.1 z hz1)
theorem insR_length (r : S34) : ∀ l : List S34, (insR r l).length ≤ l.length + 1
  | [] => Nat.le_refl _
  | x :: l => by
    unfold insR
    by_cases h : ltR x r
    · rw [if_pos h]; have := insR_length r l; simp; omega
    · rw [if_neg h]; have := List.length_filter_le (fun y => !eqR y r) (x :: l); simp at this ⊢; omega
theorem ref_less (x y : S34) : mapmakerref14_Less.f x.f0 x.f1 y.f0 y.f1 = some (decide (ltR x y)) := by
  unfold mapmakerref14_Less.f
  by_cases h : x.f0 < y.f0
  · rw [if_pos h, decide_eq_true (show ltR x y from .inl h)]
  · rw [if_neg h]
    by_cases e : x.f0 = y.f0
    · rw [if_pos e]; congr 1; rw [decide_eq_decide]; unfold ltR; omega
    · rw [if_neg e, decide_eq_false]; unfold ltR; omega
def wgoR (r : S34) (b : Bool) (l : List S34) : List S34 := if b = true then l.filter (fun y => !eqR y r) else insR r l
theorem ref_with_l (l : List S34) (a b : Int) (hl : l.length ≤ 1000000) : ∀ d i (inb : Bool) (out : List S34), i ≤ l.length → l.length - i = d → out.length + 2 * (l.length - i) ≤ 2000001 → Ev (fun k => mapmakerref14_With.l0 k l out inb (i : Int) a b) (out ++ wgoR ⟨a, b⟩ inb (l.drop i)) := by
  intro d
  induction d with
  | zero =>
    intro i inb out hi hd hB
    obtain rfl : i = l.length := by omega
    rw [List.drop_length]
    cases inb with
    | true =>
      refine Ev.step (f := fun _ => some out) (fun k => by simp only [mapmakerref14_With.l0]; rw [if_neg (by omega), if_pos trivial]) ?_
      have e : out ++ wgoR ⟨a, b⟩ true [] = out := List.append_nil _
      rw [e]; exact Ev.now _
    | false =>
      refine Ev.step (f := fun _ => some (out ++ [⟨a, b⟩])) (fun k => by simp only [mapmakerref14_With.l0]; rw [if_neg (by omega), if_neg (by decide), if_pos (by omega)]) (Ev.now _)
  | succ d ih =>
    intro i inb out hi hd hB
    have hlt : i < l.length := by omega
    have hne : ((!((l[i].f0) == a) || (!((l[i].f1) == b))) = true) ↔ ¬ (eqR l[i] ⟨a, b⟩ = true) := by
      unfold eqR; simp only [Bool.or_eq_true, Bool.not_eq_true', Bool.and_eq_true, not_and]
      cases (l[i].f0 == a) <;> cases (l[i].f1 == b) <;> simp
    rw [List.drop_eq_getElem_cons hlt]
    have hs : ∀ (o : List S34) (c : Bool), o.length + 2 * (l.length - i) ≤ 2000002 → Ev (fun k => if (!((l[i].f0) == a) || (!((l[i].f1) == b))) = true then (if o.length < 8796093022208 then mapmakerref14_With.l0 k l (o ++ [(⟨l[i].f0, l[i].f1⟩ : S34)]) c (wrap64 ((i : Int) + 1)) a b else none) else mapmakerref14_With.l0 k l o c (wrap64 ((i : Int) + 1)) a b) (o ++ (if eqR l[i] ⟨a, b⟩ = true then [] else [l[i]]) ++ wgoR ⟨a, b⟩ c (l.drop (i + 1))) := by
      intro o c ho
      rw [wrap_succ i (by omega)]
      by_cases e : eqR l[i] ⟨a, b⟩ = true
      · rw [if_pos e, List.append_nil]
        refine Ev.congr (fun k => by rw [if_neg (fun h => (hne.1 h) e)]) (ih (i + 1) c o (by omega) (by omega) (by omega))
      · rw [if_neg e]
        refine Ev.congr (fun k => by rw [if_pos (hne.2 e), if_pos (by omega)]) (ih (i + 1) c (o ++ [l[i]]) (by omega) (by omega) (by simp; omega))
    cases inb with
    | true =>
      have h := hs out true (by omega)
      have e2 : out ++ wgoR ⟨a, b⟩ true (l[i] :: l.drop (i + 1)) = out ++ (if eqR l[i] ⟨a, b⟩ = true then [] else [l[i]]) ++ wgoR ⟨a, b⟩ true (l.drop (i + 1)) := by
        unfold wgoR
        rw [if_pos rfl, if_pos rfl, List.filter_cons]
        by_cases e : eqR l[i] ⟨a, b⟩ = true
        · rw [if_pos e, e]; simp
        · rw [if_neg e, Bool.eq_false_iff.2 e]; simp
      rw [e2]
      refine Ev.step (fun k => by simp only [mapmakerref14_With.l0]; rw [if_pos (by omega), if_pos trivial]) (Ev.step (fun k => ?_) h)
      simp only [mapmakerref14_With.j1]
      rw [if_neg (by decide), if_pos (by omega), if_pos (by omega), rd34 l i hlt]
    | false =>
      refine Ev.step (f := fun k => mapmakerref14_With.j1 k l out false (i : Int) (!(decide (ltR l[i] ⟨a, b⟩))) a b) (fun k => by
        simp only [mapmakerref14_With.l0]
        rw [if_pos (by omega), if_neg (by decide), if_pos (by omega), rd34 l i hlt, ref_less l[i] ⟨a, b⟩, Option.bind_some]) ?_
      by_cases hx : ltR l[i] ⟨a, b⟩
      · rw [decide_eq_true hx]
        have h := hs out false (by omega)
        have e : eqR l[i] ⟨a, b⟩ = false := Bool.eq_false_iff.2 (fun he => by rw [(eqR_iff _ _).1 he] at hx; exact ltR_irrefl _ hx)
        have e2 : out ++ wgoR ⟨a, b⟩ false (l[i] :: l.drop (i + 1)) = out ++ (if eqR l[i] ⟨a, b⟩ = true then [] else [l[i]]) ++ wgoR ⟨a, b⟩ false (l.drop (i + 1)) := by
          unfold wgoR
          rw [if_neg (show ¬ (false = true) by decide), if_neg (fun h => Bool.false_ne_true (e.symm.trans h)), if_neg (show ¬ (false = true) by decide)]
          conv => lhs; unfold insR
          rw [if_pos hx]; simp
        rw [e2]
        refine Ev.step (fun k => ?_) h
        simp only [mapmakerref14_With.j1]
        rw [if_neg (by decide), if_pos (by omega), if_pos (by omega), rd34 l i hlt]
      · rw [decide_eq_false hx]
        have h := hs (out ++ [⟨a, b⟩]) true (by simp; omega)
        have e2 : out ++ wgoR ⟨a, b⟩ false (l[i] :: l.drop (i + 1)) = out ++ [⟨a, b⟩] ++ (if eqR l[i] ⟨a, b⟩ = true then [] else [l[i]]) ++ wgoR ⟨a, b⟩ true (l.drop (i + 1)) := by
          unfold wgoR
          rw [if_neg (by decide), if_pos rfl]
          conv => lhs; unfold insR
          rw [if_neg hx, List.filter_cons]
          by_cases e : eqR l[i] ⟨a, b⟩ = true
          · rw [if_pos e, e]; simp
          · rw [if_neg e, Bool.eq_false_iff.2 e]; simp
        rw [e2]
        refine Ev.step (fun k => ?_) h
        simp only [mapmakerref14_With.j1]
        rw [if_pos (by decide), if_pos (by omega), Option.bind_some, if_pos (by omega), if_pos (by omega), rd34 l i hlt]
theorem ref_with (l : List S34) (a b : Int) (hl : l.length ≤ 1000000) : Ev (fun k => mapmakerref14_With.f k l a b) (insR ⟨a, b⟩ l) := by
  have h := ref_with_l l a b hl l.length 0 false [] (by omega) rfl (by simp; omega)
  rw [List.drop_zero, List.nil_append] at h
  exact h
def foldIns (out l : List S34) : List S34 := l.foldl (fun o s => insR s o) out
theorem foldIns_mem : ∀ (l out : List S34) (y : S34), y ∈ foldIns out l ↔ y ∈ out ∨ y ∈ l
  | [], out, y => by simp [foldIns]
  | x :: l, out, y => by
    show y ∈ foldIns (insR x out) l ↔ _
    rw [foldIns_mem l, insR_mem, List.mem_cons]
    constructor
    · rintro ((h | h) | h) <;> simp [h]
    · rintro (h | h | h) <;> simp [h]
theorem foldIns_sorted : ∀ (l : List S34) {out : List S34}, out.Pairwise ltR → (foldIns out l).Pairwise ltR
  | [], _, h => h
  | x :: l, out, h => foldIns_sorted l (insR_sorted x h)
theorem foldIns_length : ∀ (l out : List S34), (foldIns out l).length ≤ out.length + l.length
  | [], out => Nat.le_refl _
  | x :: l, out => by
    have h1 := foldIns_length l (insR x out)
    have h2 := insR_length x out
    show (foldIns (insR x out) l).length ≤ _
    rw [List.length_cons]; omega
def uwi (b : Int) (id : Int) (l : List Int) : List S34 := (l.filter (fun n => n == b)).map fun _ => ⟨2, id⟩
def uw (b : Int) (l : List S45) : List S34 := l.flatMap fun w => uwi b w.f0 w.f1
def mem2 (a b : Int) (m : S67) : Bool := m.f0.f0 == a && (m.f0.f1 == b)
def uri (a b : Int) (id : Int) (l : List S67) : List S34 := (l.filter (mem2 a b)).map fun _ => ⟨3, id⟩
def ur (a b : Int) (l : List S51) : List S34 := l.flatMap fun x => uri a b x.f0 x.f1
theorem uwi_cons (b id n : Int) (l : List Int) : uwi b id (n :: l) = (if n = b then [⟨2, id⟩] else []) ++ uwi b id l := by
  unfold uwi; rw [List.filter_cons]
  by_cases h : n = b
  · subst h; simp
  · rw [if_neg h, if_neg (by simpa using h)]; rfl
theorem uri_cons (a b id : Int) (m : S67) (l : List S67) : uri a b id (m :: l) = (if mem2 a b m = true then [⟨3, id⟩] else []) ++ uri a b id l := by
  unfold uri; rw [List.filter_cons]
  by_cases h : mem2 a b m = true
  · rw [if_pos h, if_pos h]; rfl
  · rw [if_neg h, if_neg h]; rfl
theorem ref_users3 (l0 : List S39) (l1 : List S45) (l2 : List S51) (a b : Int) (hl : l2.length ≤ 140737488355328) (hp : ∀ x ∈ l2, x.f1.length ≤ 140737488355328) (i : Nat) (hi : i < l2.length)
    (nxt : ∀ out : List S34, out.length + (ur a b (l2.drop (i + 1))).length ≤ 1000000 → Ev (fun k => mapmakerref14_Users.l2 k out ((i + 1 : Nat) : Int) l0 l1 l2 a b) (foldIns out (ur a b (l2.drop (i + 1))))) :
    ∀ d j (out : List S34), j ≤ l2[i].f1.length → l2[i].f1.length - j = d → out.length + (uri a b l2[i].f0 (l2[i].f1.drop j)).length + (ur a b (l2.drop (i + 1))).length ≤ 1000000 → Ev (fun k => mapmakerref14_Users.l3 k out (i : Int) (j : Int) l0 l1 l2 a b) (foldIns out (uri a b l2[i].f0 (l2[i].f1.drop j) ++ ur a b (l2.drop (i + 1)))) := by
  have hpi := hp _ (List.getElem_mem hi)
  intro d
  induction d with
  | zero =>
    intro j out hj hd hB
    obtain rfl : j = l2[i].f1.length := by omega
    rw [List.drop_length] at hB ⊢
    have h := nxt out (by simp [uri] at hB; omega)
    refine Ev.step (fun k => ?_) (show Ev _ (foldIns out (uri a b l2[i].f0 [] ++ ur a b (l2.drop (i + 1)))) from h)
    simp only [mapmakerref14_Users.l3]
    rw [if_pos (by omega), if_pos (by omega), rd51 l2 i hi, if_neg (by omega), wrap_succ i (by omega)]
  | succ d ih =>
    intro j out hj hd hB
    have hlt : j < l2[i].f1.length := by omega
    rw [List.drop_eq_getElem_cons hlt, uri_cons] at hB ⊢
    have hm : ((((rd_T67 l2[i].f1 (j : Int)).f0.f0) == a && (((rd_T67 l2[i].f1 (j : Int)).f0.f1) == b)) = true) ↔ mem2 a b l2[i].f1[j] = true := by rw [rd67 _ j hlt]; exact Iff.rfl
    by_cases hc : mem2 a b l2[i].f1[j] = true
    · rw [if_pos hc] at hB ⊢
      have hlen := insR_length ⟨3, l2[i].f0⟩ out
      simp at hB
      have h := ih (j + 1) (insR ⟨3, l2[i].f0⟩ out) (by omega) (by omega) (by omega)
      refine Ev.step (f := fun k => (mapmakerref14_With.f k out 3 l2[i].f0).bind fun t => mapmakerref14_Users.l3 k t (i : Int) (wrap64 ((j : Int) + 1)) l0 l1 l2 a b) (fun k => by
        simp only [mapmakerref14_Users.l3]
        rw [if_pos (by omega), if_pos (by omega), rd51 l2 i hi, if_pos (by omega), if_pos (by omega), if_pos (hm.2 hc)]) (Ev.bind (ref_with out 3 _ (by omega)) ?_)
      rw [wrap_succ j (by omega)]
      exact h
    · rw [if_neg hc, List.nil_append] at hB ⊢
      refine Ev.step (fun k => ?_) (ih (j + 1) out (by omega) (by omega) hB)
      simp only [mapmakerref14_Users.l3]
      rw [if_pos (by omega), if_pos (by omega), rd51 l2 i hi, if_pos (by omega), if_pos (by omega), if_neg (fun h => hc (hm.1 h)), wrap_succ j (by omega)]
theorem ref_users2 (l0 : List S39) (l1 : List S45) (l2 : List S51) (a b : Int) (hl : l2.length ≤ 140737488355328) (hp : ∀ x ∈ l2, x.f1.length ≤ 140737488355328) :
    ∀ d i (out : List S34), i ≤ l2.length → l2.length - i = d → out.length + (ur a b (l2.drop i)).length ≤ 1000000 → Ev (fun k => mapmakerref14_Users.l2 k out (i : Int) l0 l1 l2 a b) (foldIns out (ur a b (l2.drop i))) := by
  intro d
  induction d with
  | zero =>
    intro i out hi hd hB
    obtain rfl : i = l2.length := by omega
    rw [List.drop_length]
    exact Ev.step (f := fun _ => some out) (fun k => by simp only [mapmakerref14_Users.l2]; rw [if_neg (by omega)]) (Ev.now out)
  | succ d ih =>
    intro i out hi hd hB
    have hlt : i < l2.length := by omega
    have e : ur a b (l2.drop i) = uri a b l2[i].f0 l2[i].f1 ++ ur a b (l2.drop (i + 1)) := by unfold ur; rw [List.drop_eq_getElem_cons hlt, List.flatMap_cons]
    rw [e] at hB ⊢
    rw [List.length_append] at hB
    have h := ref_users3 l0 l1 l2 a b hl hp i hlt (fun o ho => ih (i + 1) o (by omega) (by omega) ho) l2[i].f1.length 0 out (by omega) (by omega) (by rw [List.drop_zero]; omega)
    rw [List.drop_zero] at h
    exact Ev.step (fun k => by simp only [mapmakerref14_Users.l2]; rw [if_pos (by omega)]; rfl) h
theorem ref_users1 (l0 : List S39) (l1 : List S45) (l2 : List S51) (a b : Int) (hl : l1.length ≤ 140737488355328) (hp : ∀ x ∈ l1, x.f1.length ≤ 140737488355328) (m : Nat) (i : Nat) (hi : i < l1.length) (R : List S34)
    (nxt : ∀ out : List S34, out.length + m ≤ 1000000 → Ev (fun k => mapmakerref14_Users.l0 k out ((i + 1 : Nat) : Int) l0 l1 l2 a b) (foldIns out R)) :
    ∀ d j (out : List S34), j ≤ l1[i].f1.length → l1[i].f1.length - j = d → out.length + (uwi b l1[i].f0 (l1[i].f1.drop j)).length + m ≤ 1000000 → Ev (fun k => mapmakerref14_Users.l1 k out (i : Int) (j : Int) l0 l1 l2 a b) (foldIns out (uwi b l1[i].f0 (l1[i].f1.drop j) ++ R)) := by
  have hpi := hp _ (List.getElem_mem hi)
  intro d
  induction d with
  | zero =>
    intro j out hj hd hB
    obtain rfl : j = l1[i].f1.length := by omega
    rw [List.drop_length] at hB ⊢
    have h := nxt out (by simp [uwi] at hB; omega)
    refine Ev.step (fun k => ?_) (show Ev _ (foldIns out (uwi b l1[i].f0 [] ++ R)) from h)
    simp only [mapmakerref14_Users.l1]
    rw [if_pos (by omega), if_pos (by omega), rd45 l1 i hi, if_neg (by omega), wrap_succ i (by omega)]
  | succ d ih =>
    intro j out hj hd hB
    have hlt : j < l1[i].f1.length := by omega
    rw [List.drop_eq_getElem_cons hlt, uwi_cons] at hB ⊢
    by_cases hc : l1[i].f1[j] = b
    · rw [if_pos hc] at hB ⊢
      have hlen := insR_length ⟨2, l1[i].f0⟩ out
      simp at hB
      have h := ih (j + 1) (insR ⟨2, l1[i].f0⟩ out) (by omega) (by omega) (by omega)
      refine Ev.step (f := fun k => (mapmakerref14_With.f k out 2 l1[i].f0).bind fun t => mapmakerref14_Users.l1 k t (i : Int) (wrap64 ((j : Int) + 1)) l0 l1 l2 a b) (fun k => by
        simp only [mapmakerref14_Users.l1]
        rw [if_pos (by omega), if_pos (by omega), rd45 l1 i hi, if_pos (by omega), if_pos (by omega), rdI _ j hlt, if_pos hc]) (Ev.bind (ref_with out 2 _ (by omega)) ?_)
      rw [wrap_succ j (by omega)]
      exact h
    · rw [if_neg hc, List.nil_append] at hB ⊢
      refine Ev.step (fun k => ?_) (ih (j + 1) out (by omega) (by omega) hB)
      simp only [mapmakerref14_Users.l1]
      rw [if_pos (by omega), if_pos (by omega), rd45 l1 i hi, if_pos (by omega), if_pos (by omega), rdI _ j hlt, if_neg hc, wrap_succ j (by omega)]
theorem ref_users0 (l0 : List S39) (l1 : List S45) (l2 : List S51) (b : Int) (hl : l1.length ≤ 140737488355328) (hp : ∀ x ∈ l1, x.f1.length ≤ 140737488355328) (hl2 : l2.length ≤ 140737488355328) (hp2 : ∀ x ∈ l2, x.f1.length ≤ 140737488355328) :
    ∀ d i (out : List S34), i ≤ l1.length → l1.length - i = d → out.length + ((uw b (l1.drop i)).length + (ur 1 b l2).length) ≤ 1000000 → Ev (fun k => mapmakerref14_Users.l0 k out (i : Int) l0 l1 l2 1 b) (foldIns out (uw b (l1.drop i) ++ ur 1 b l2)) := by
  intro d
  induction d with
  | zero =>
    intro i out hi hd hB
    obtain rfl : i = l1.length := by omega
    rw [List.drop_length] at hB ⊢
    have h := ref_users2 l0 l1 l2 1 b hl2 hp2 l2.length 0 out (by omega) rfl (by rw [List.drop_zero]; omega)
    rw [List.drop_zero] at h
    refine Ev.step (fun k => by simp only [mapmakerref14_Users.l0]; rw [if_neg (by omega)]) (Ev.step (fun k => by simp only [mapmakerref14_Users.j1]; rw [if_neg (by decide)]; rfl) h)
  | succ d ih =>
    intro i out hi hd hB
    have hlt : i < l1.length := by omega
    have e : uw b (l1.drop i) = uwi b l1[i].f0 l1[i].f1 ++ uw b (l1.drop (i + 1)) := by unfold uw; rw [List.drop_eq_getElem_cons hlt, List.flatMap_cons]
    rw [e] at hB ⊢
    rw [List.length_append] at hB
    have h := ref_users1 l0 l1 l2 1 b hl hp ((uw b (l1.drop (i + 1))).length + (ur 1 b l2).length) i hlt (uw b (l1.drop (i + 1)) ++ ur 1 b l2) (fun o ho => ih (i + 1) o (by omega) (by omega) ho) l1[i].f1.length 0 out (by omega) (by omega) (by rw [List.drop_zero]; omega)
    rw [List.drop_zero, ← List.append_assoc] at h
    refine Ev.step (fun k => by simp only [mapmakerref14_Users.l0]; rw [if_pos (by omega)]) (Ev.step (fun k => by simp only [mapmakerref14_Users.j1]; rw [if_pos (by decide)]; rfl) h)
def uall (l1 : List S45) (l2 : List S51) (a b : Int) : List S34 := (if a = 1 then uw b l1 else []) ++ ur a b l2
def usersV (l1 : List S45) (l2 : List S51) (a b : Int) : List S34 := foldIns [] (uall l1 l2 a b)
theorem ref_users (l0 : List S39) (l1 : List S45) (l2 : List S51) (a b : Int) (hl : l1.length ≤ 140737488355328) (hp : ∀ x ∈ l1, x.f1.length ≤ 140737488355328) (hl2 : l2.length ≤ 140737488355328) (hp2 : ∀ x ∈ l2, x.f1.length ≤ 140737488355328) (hB : (uall l1 l2 a b).length ≤ 1000000) : Ev (fun k => mapmakerref14_Users.f k l0 l1 l2 a b) (usersV l1 l2 a b) := by
  unfold mapmakerref14_Users.f usersV
  unfold uall at hB ⊢
  rw [List.length_append] at hB
  by_cases h1 : a = 1
  · subst h1
    rw [if_pos rfl] at hB ⊢
    have h := ref_users0 l0 l1 l2 b hl hp hl2 hp2 l1.length 0 [] (by omega) rfl (by rw [List.drop_zero]; simp; omega)
    rw [List.drop_zero] at h
    exact h
  · rw [if_neg h1] at hB ⊢
    have h := ref_users2 l0 l1 l2 a b hl2 hp2 l2.length 0 [] (by omega) rfl (by rw [List.drop_zero]; simp at hB ⊢; omega)
    rw [List.drop_zero] at h
    have hb : (a == 1) = false := beq_eq_false_iff_ne.mpr h1
    refine Ev.step (f := fun k => mapmakerref14_Users.j1 k [] 0 false l0 l1 l2 a b) (fun k => by simp only [mapmakerref14_Users.l0, hb]; split <;> rfl) (Ev.step (fun k => by simp only [mapmakerref14_Users.j1]; rw [if_neg (by decide)]; rfl) h)
end Go.Proofs.Ytgenbepicnbecaa.Pure
