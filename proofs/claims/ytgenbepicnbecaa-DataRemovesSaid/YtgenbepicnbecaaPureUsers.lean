/- c14, plain: Users: the program sorts and drops what is told twice, the reference inserts; both give the strictly sorted list of one set. -/
import Derived.Test.YtgenbepicnbecaaPureFinds
import Derived.Test.YtgenbepicnbecaaPAllx0
import Derived.Test.YtgenbepicnbecaaPAllx1
namespace Go.Proofs.Ytgenbepicnbecaa.Pure
open Go.RowKit Go.Proofs.Ytgenbepicnbecaa.PAll Go.Proofs.YtgenbepicnbecaaW.PrintWords Go.Proofs.YtgenbepicnbecaaW.PrintLast
set_option linter.unusedVariables false
set_option linter.unusedSimpArgs false
theorem s34_ext {x y : S34} (h0 : x.f0 = y.f0) (h1 : x.f1 = y.f1) : x = y := by cases x; cases y; simp_all
def ltR (x y : S34) : Prop := x.f0 < y.f0 ∨ x.f0 = y.f0 ∧ x.f1 < y.f1
instance (x y : S34) : Decidable (ltR x y) := inferInstanceAs (Decidable (_ ∨ _))
theorem ltR_irrefl (x : S34) : ¬ ltR x x := by unfold ltR; omega
theorem ltR_trans {x y z : S34} (h1 : ltR x y) (h2 : ltR y z) : ltR x z := by unfold ltR at *; omega
theorem ltR_total {x y : S34} (h1 : ¬ ltR x y) (h2 : x ≠ y) : ltR y x := by
  unfold ltR at *
  by_cases e : x.f0 = y.f0
  · by_cases f : x.f1 = y.f1
    · exact absurd (s34_ext e f) h2
    · omega
  · omega
def eqR (x y : S34) : Bool := x.f0 == y.f0 && (x.f1 == y.f1)
theorem eqR_iff (x y : S34) : eqR x y = true ↔ x = y := by
  unfold eqR
  constructor
  · intro h; simp at h; exact s34_ext h.1 h.2
  · rintro rfl; simp
theorem eqs34_iff (x y : S34) : eqs34 x y = true ↔ x = y := eqR_iff x y
theorem strict_unique : ∀ {a b : List S34}, (∀ x, x ∈ a ↔ x ∈ b) → a.Pairwise ltR → b.Pairwise ltR → a = b
  | [], [], _, _, _ => rfl
  | [], y :: b, h, _, _ => absurd ((h y).2 List.mem_cons_self) (by simp)
  | x :: a, [], h, _, _ => absurd ((h x).1 List.mem_cons_self) (by simp)
  | x :: a, y :: b, h, ha, hb => by
    rw [List.pairwise_cons] at ha hb
    have hxy : x = y := by
      rcases List.mem_cons.1 ((h x).1 List.mem_cons_self) with e | e
      · exact e
      · rcases List.mem_cons.1 ((h y).2 List.mem_cons_self) with e2 | e2
        · exact e2.symm
        · exact absurd (ltR_trans (ha.1 y e2) (hb.1 x e)) (ltR_irrefl x)
    subst hxy
    rw [strict_unique (fun z => ?_) ha.2 hb.2]
    constructor
    · intro hz
      rcases List.mem_cons.1 ((h z).1 (List.mem_cons_of_mem _ hz)) with e | e
      · subst e; exact absurd (ha.1 z hz) (ltR_irrefl z)
      · exact e
    · intro hz
      rcases List.mem_cons.1 ((h z).2 (List.mem_cons_of_mem _ hz)) with e | e
      · subst e; exact absurd (hb.1 z hz) (ltR_irrefl z)
      · exact e
theorem ddG_cons (p y : S34) (l : List S34) : ddGo34 eqs34 p (y :: l) = if eqs34 y p = true then ddGo34 eqs34 y l else y :: ddGo34 eqs34 y l := rfl
theorem ddG_mem : ∀ (l : List S34) (p x : S34), x ∈ p :: ddGo34 eqs34 p l ↔ x ∈ p :: l
  | [], p, x => Iff.rfl
  | y :: l, p, x => by
    rw [ddG_cons]
    by_cases e : eqs34 y p = true
    · rw [if_pos e, (eqs34_iff _ _).1 e, ddG_mem l p x]
      simp
    · rw [if_neg e, List.mem_cons, ddG_mem l y x, ← List.mem_cons]
theorem ddG_sorted : ∀ (l : List S34) (p : S34), (p :: l).Pairwise (fun x y => ¬ ltR y x) → (p :: ddGo34 eqs34 p l).Pairwise ltR
  | [], p, _ => List.pairwise_singleton _ _
  | y :: l, p, h => by
    rw [List.pairwise_cons] at h
    obtain ⟨h1, h2⟩ := h
    have ih := ddG_sorted l y h2
    rw [ddG_cons]
    by_cases e : eqs34 y p = true
    · rw [if_pos e, (eqs34_iff _ _).1 e]
      rw [(eqs34_iff _ _).1 e] at ih
      exact ih
    · rw [if_neg e]
      refine List.pairwise_cons.2 ⟨fun z hz => ?_, ih⟩
      have hy : ltR p y := ltR_total (h1 y List.mem_cons_self) (fun he => e ((eqs34_iff _ _).2 he))
      rcases List.mem_cons.1 hz with rfl | hz
      · exact hy
      · exact ltR_trans hy ((List.pairwise_cons.1 ih).1 z hz)
theorem dd_mem (l : List S34) (x : S34) : x ∈ dd34 eqs34 l ↔ x ∈ l := by
  cases l with
  | nil => exact Iff.rfl
  | cons y l => exact ddG_mem l y x
theorem dd_sorted (l : List S34) (h : l.Pairwise (fun x y => ¬ ltR y x)) : (dd34 eqs34 l).Pairwise ltR := by
  cases l with
  | nil => exact List.Pairwise.nil
  | cons y l => exact ddG_sorted l y h
def insR (r : S34) : List S34 → List S34
  | [] => [r]
  | x :: l => if ltR x r then x :: insR r l else r :: (x :: l).filter (fun y => !eqR y r)
theorem insR_mem (r : S34) : ∀ (l : List S34) (y : S34), y ∈ insR r l ↔ y = r ∨ y ∈ l
  | [], y => by simp [insR]
  | x :: l, y => by
    unfold insR
    by_cases h : ltR x r
    · rw [if_pos h, List.mem_cons, insR_mem r l y, List.mem_cons]
      constructor
      · rintro (h | h | h) <;> simp [h]
      · rintro (h | h | h) <;> simp [h]
    · rw [if_neg h, List.mem_cons, List.mem_filter]
      constructor
      · rintro (h | h)
        · exact .inl h
        · exact .inr h.1
      · rintro (h | h)
        · exact .inl h
        · by_cases e : y = r
          · exact .inl e
          · refine .inr ⟨h, ?_⟩
            have : eqR y r = false := Bool.eq_false_iff.2 (fun he => e ((eqR_iff _ _).1 he))
            rw [this]; rfl
theorem insR_sorted (r : S34) : ∀ {l : List S34}, l.Pairwise ltR → (insR r l).Pairwise ltR
  | [], _ => List.pairwise_singleton _ _
  | x :: l, h => by
    unfold insR
    have h' := List.pairwise_cons.1 h
    by_cases hx : ltR x r
    · rw [if_pos hx]
      refine List.pairwise_cons.2 ⟨fun z hz => ?_, insR_sorted r h'.2⟩
      rcases (insR_mem r l z).1 hz with rfl | hz
      · exact hx
      · exact h'.1 z hz
    · rw [if_neg hx]
      refine List.pairwise_cons.2 ⟨fun z hz => ?_, h.filter _⟩
      obtain ⟨hz1, hz2⟩ := List.mem_filter.1 hz
      have hzr : z ≠ r := fun e => by rw [(eqR_iff z r).2 e] at hz2; exact absurd hz2 (by decide)
      rcases List.mem_cons.1 hz1 with rfl | hz1
      · exact ltR_total hx hzr
      · by_cases e : x = r
        · subst e; exact h'.1 z hz1
        · exact ltR_trans (ltR_total hx e) (h'.1 z hz1)
def foldIns (out l : List S34) : List S34 := l.foldl (fun o s => insR s o) out
theorem foldIns_mem : ∀ (l out : List S34) (y : S34), y ∈ foldIns out l ↔ y ∈ out ∨ y ∈ l
  | [], out, y => by simp [foldIns]
  | x :: l, out, y => by
    show y ∈ foldIns (insR x out) l ↔ _
    rw [foldIns_mem l, insR_mem, List.mem_cons]
    constructor
    · rintro ((h | h) | h) <;> simp [h]
    · rintro (h | h | h) <;> simp [h]
theorem foldIns_sorted : ∀ (l : List S34) {out : List S34}, out.Pairwise ltR → (foldIns out l).Pairwise ltR
  | [], _, h => h
  | x :: l, out, h => foldIns_sorted l (insR_sorted x h)
def uwi (b : Int) (id : Int) (l : List Int) : List S34 := (l.filter (fun n => n == b)).map fun _ => ⟨2, id⟩
def uw (b : Int) (l : List S45) : List S34 := l.flatMap fun w => uwi b w.f0 w.f1
def mem2 (a b : Int) (m : S67) : Bool := m.f0.f0 == a && (m.f0.f1 == b)
def uri (a b : Int) (id : Int) (l : List S67) : List S34 := (l.filter (mem2 a b)).map fun _ => ⟨3, id⟩
def ur (a b : Int) (l : List S51) : List S34 := l.flatMap fun x => uri a b x.f0 x.f1
def uall (l1 : List S45) (l2 : List S51) (a b : Int) : List S34 := (if a = 1 then uw b l1 else []) ++ ur a b l2
def usersV (l1 : List S45) (l2 : List S51) (a b : Int) : List S34 := foldIns [] (uall l1 l2 a b)
end Go.Proofs.Ytgenbepicnbecaa.Pure
