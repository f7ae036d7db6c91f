/- c15, plain: what Diff and Touched compute of valid datasets (numbers of the seat .Z). -/
import Derived.Test.YtijoaohckgbneaaGreatPureGen
import Derived.Test.YtijoaohckgbneaaGreatPureJoin
namespace Go.Proofs.YtijoaohckgbneaaGreat.Pure
open Go.RowKit Go.Proofs.YtijoaohckgbneaaGreat.PAll Go.Proofs.YtijoaohckgbneaaGreatG Go.Proofs.YtijoaohckgbneaaGreatW.PrintWords Go.Proofs.YtijoaohckgbneaaGreatW.PrintLast
set_option linter.unusedVariables false
set_option linter.unusedSimpArgs false
theorem toList_inj {a b : ByteArray} (h : a.toList = b.toList) : a = b := by
  rw [ByteArray.toList_eq, ByteArray.toList_eq] at h
  cases a; cases b
  congr 1
  exact Array.toList_inj.1 h
theorem listEq_iff {α : Type} {p : α → α → Bool} (hp : ∀ x y, p x y = true ↔ x = y) : ∀ a b : List α, listEq p a b = true ↔ a = b
  | [], [] => by simp [listEq]
  | [], _ :: _ => by simp [listEq]
  | _ :: _, [] => by simp [listEq]
  | x :: a, y :: b => by
    simp only [listEq, Bool.and_eq_true, hp, listEq_iff hp a b, List.cons.injEq]
theorem tagEq_iff (a b : S129) : tagEq a b = true ↔ a = b := by
  unfold tagEq
  rw [Bool.and_eq_true, beq_iff_eq, beq_iff_eq]
  constructor
  · rintro ⟨h1, h2⟩
    cases a; cases b
    rw [S129.mk.injEq]
    exact ⟨toList_inj h1, toList_inj h2⟩
  · rintro rfl; exact ⟨rfl, rfl⟩
theorem intEq_iff (a b : Int) : intEq a b = true ↔ a = b := by unfold intEq; exact beq_iff_eq
theorem memEq_iff (a b : S112) : memEq a b = true ↔ a = b := by
  unfold memEq
  rw [Bool.and_eq_true, Bool.and_eq_true, beq_iff_eq, beq_iff_eq, beq_iff_eq]
  constructor
  · rintro ⟨⟨h1, h2⟩, h3⟩
    obtain ⟨⟨a1, a2⟩, a3⟩ := a
    obtain ⟨⟨b1, b2⟩, b3⟩ := b
    rw [S112.mk.injEq, S48.mk.injEq]
    exact ⟨⟨h1, h2⟩, toList_inj h3⟩
  · rintro rfl; exact ⟨⟨rfl, rfl⟩, rfl⟩
theorem nodeEq_iff (a b : S37) : nodeEq a b = true ↔ a = b := by
  unfold nodeEq
  simp only [Bool.and_eq_true, beq_iff_eq, listEq_iff tagEq_iff]
  constructor
  · rintro ⟨h1, ⟨h2, h3⟩, h4⟩
    obtain ⟨a1, ⟨a2, a3⟩, a4⟩ := a
    obtain ⟨b1, ⟨b2, b3⟩, b4⟩ := b
    rw [S37.mk.injEq, S34.mk.injEq]
    exact ⟨h1, ⟨h2, h3⟩, h4⟩
  · rintro rfl; exact ⟨rfl, ⟨rfl, rfl⟩, rfl⟩
theorem wayEq_iff (a b : S40) : wayEq a b = true ↔ a = b := by
  unfold wayEq
  simp only [Bool.and_eq_true, beq_iff_eq, listEq_iff tagEq_iff, listEq_iff intEq_iff]
  constructor
  · rintro ⟨h1, h2, h3⟩
    cases a; cases b
    rw [S40.mk.injEq]
    exact ⟨h1, h2, h3⟩
  · rintro rfl; exact ⟨rfl, rfl, rfl⟩
theorem relEq_iff (a b : S43) : relEq a b = true ↔ a = b := by
  unfold relEq
  simp only [Bool.and_eq_true, beq_iff_eq, listEq_iff tagEq_iff, listEq_iff memEq_iff]
  constructor
  · rintro ⟨h1, h2, h3⟩
    cases a; cases b
    rw [S43.mk.injEq]
    exact ⟨h1, h2, h3⟩
  · rintro rfl; exact ⟨rfl, rfl, rfl⟩
abbrev gN := gone (fun x : S37 => x.f0)
abbrev gW := gone (fun x : S40 => x.f0)
abbrev gR := gone (fun x : S43 => x.f0)
abbrev cN := came nodeEq
abbrev cW := came wayEq
abbrev cR := came relEq
theorem dropN_eq (t0 t1 t2 l) : dropN t0 t1 t2 l = (gN l t0).map (fun x => delN x.f0) := by
  unfold dropN gN gone hasT
  simp only [if_true]
theorem dropW_eq (t0 t1 t2 l) : dropW t0 t1 t2 l = (gW l t1).map (fun x => delW x.f0) := by
  unfold dropW gW gone hasT
  simp only [show ¬ ((2 : Int) = 1) by decide, if_true, if_false]
theorem dropR_eq (t0 t1 t2 l) : dropR t0 t1 t2 l = (gR l t2).map (fun x => delR x.f0) := by
  unfold dropR gR gone hasT
  simp only [show ¬ ((3 : Int) = 1) by decide, show ¬ ((3 : Int) = 2) by decide, if_true, if_false]
theorem any_find {α : Type} {id : α → Int} {eq : α → α → Bool} (he : ∀ x y, eq x y = true ↔ x = y) {t : List α} (ht : Rising id t) (x : α) : t.any (fun y => eq y x) = match t.find? (fun y => id y == id x) with | none => false | some y => eq y x := by
  cases h : t.find? (fun y => id y == id x) with
  | none =>
    rw [List.any_eq_false]
    intro y hy hxy
    have h1 := List.find?_eq_none.1 h y hy
    rw [(he y x).1 hxy] at h1
    simp at h1
  | some y =>
    have hy := List.mem_of_find?_eq_some h
    have hyx : id y = id x := by simpa using List.find?_some h
    show _ = eq y x
    rw [Bool.eq_iff_iff, List.any_eq_true]
    constructor
    · rintro ⟨z, hz, hzx⟩
      have e := (he z x).1 hzx
      subst e
      rw [rising_one ht y hy z hz hyx]
      exact (he z z).2 rfl
    · intro h2
      exact ⟨y, hy, h2⟩
theorem putN_ev {t : List S37} (ht : Rising (fun x : S37 => x.f0) t) (hw : ∀ y ∈ t, wf37 y) : ∀ l : List S37, Ev (fun k => putN (data_Same.f k) t l) ((cN t l).map mkN)
  | [] => Ev.now _
  | x :: l => by
    have ih := putN_ev ht hw l
    have ha := any_find nodeEq_iff ht x
    unfold putN cN came
    rw [List.filter_cons, ha]
    cases h : t.find? (fun y => y.f0 == x.f0) with
    | none =>
      dsimp only
      exact Ev.bind ih (Ev.now _)
    | some y =>
      dsimp only
      have hwy := hw y (List.mem_of_find?_eq_some h)
      refine Ev.bind (prog_same ⟨[y], [], []⟩ ⟨[x], [], []⟩ ⟨⟨by show 1 ≤ _; omega, fun z hz => by rw [List.mem_singleton.1 hz]; exact hwy⟩, ⟨Nat.zero_le _, fun z hz => by simp at hz⟩, ⟨Nat.zero_le _, fun z hz => by simp at hz⟩⟩) (Ev.bind ih ?_)
      have e : dataEq ⟨[y], [], []⟩ ⟨[x], [], []⟩ = nodeEq y x := by simp [dataEq, listEq]
      rw [e]
      by_cases hq : nodeEq y x = true
      · simp only [hq, if_true, Bool.not_true, Bool.false_eq_true, if_false]
        exact Ev.now _
      · have hq := Bool.eq_false_iff.mpr hq
        simp only [hq, Bool.false_eq_true, if_false, Bool.not_false, if_true]
        exact Ev.now _
theorem putW_ev {t : List S40} (ht : Rising (fun x : S40 => x.f0) t) (hw : ∀ y ∈ t, wf40 y) : ∀ l : List S40, Ev (fun k => putW (data_Same.f k) t l) ((cW t l).map mkW)
  | [] => Ev.now _
  | x :: l => by
    have ih := putW_ev ht hw l
    have ha := any_find wayEq_iff ht x
    unfold putW cW came
    rw [List.filter_cons, ha]
    cases h : t.find? (fun y => y.f0 == x.f0) with
    | none =>
      dsimp only
      exact Ev.bind ih (Ev.now _)
    | some y =>
      dsimp only
      have hwy := hw y (List.mem_of_find?_eq_some h)
      refine Ev.bind (prog_same ⟨[], [y], []⟩ ⟨[], [x], []⟩ ⟨⟨Nat.zero_le _, fun z hz => by simp at hz⟩, ⟨by show 1 ≤ _; omega, fun z hz => by rw [List.mem_singleton.1 hz]; exact hwy⟩, ⟨Nat.zero_le _, fun z hz => by simp at hz⟩⟩) (Ev.bind ih ?_)
      have e : dataEq ⟨[], [y], []⟩ ⟨[], [x], []⟩ = wayEq y x := by simp [dataEq, listEq]
      rw [e]
      by_cases hq : wayEq y x = true
      · simp only [hq, if_true, Bool.not_true, Bool.false_eq_true, if_false]
        exact Ev.now _
      · have hq := Bool.eq_false_iff.mpr hq
        simp only [hq, Bool.false_eq_true, if_false, Bool.not_false, if_true]
        exact Ev.now _
theorem putR_ev {t : List S43} (ht : Rising (fun x : S43 => x.f0) t) (hw : ∀ y ∈ t, wf43 y) : ∀ l : List S43, Ev (fun k => putR (data_Same.f k) t l) ((cR t l).map mkR)
  | [] => Ev.now _
  | x :: l => by
    have ih := putR_ev ht hw l
    have ha := any_find relEq_iff ht x
    unfold putR cR came
    rw [List.filter_cons, ha]
    cases h : t.find? (fun y => y.f0 == x.f0) with
    | none =>
      dsimp only
      exact Ev.bind ih (Ev.now _)
    | some y =>
      dsimp only
      have hwy := hw y (List.mem_of_find?_eq_some h)
      refine Ev.bind (prog_same ⟨[], [], [y]⟩ ⟨[], [], [x]⟩ ⟨⟨Nat.zero_le _, fun z hz => by simp at hz⟩, ⟨Nat.zero_le _, fun z hz => by simp at hz⟩, ⟨by show 1 ≤ _; omega, fun z hz => by rw [List.mem_singleton.1 hz]; exact hwy⟩⟩) (Ev.bind ih ?_)
      have e : dataEq ⟨[], [], [y]⟩ ⟨[], [], [x]⟩ = relEq y x := by simp [dataEq, listEq]
      rw [e]
      by_cases hq : relEq y x = true
      · simp only [hq, if_true, Bool.not_true, Bool.false_eq_true, if_false]
        exact Ev.now _
      · have hq := Bool.eq_false_iff.mpr hq
        simp only [hq, Bool.false_eq_true, if_false, Bool.not_false, if_true]
        exact Ev.now _
def diffV (a0 : List S37) (a1 : List S40) (a2 : List S43) (b0 : List S37) (b1 : List S40) (b2 : List S43) : List S45 :=
  ((gR a2 b2).map (fun x => delR x.f0) ++ (gW a1 b1).map (fun x => delW x.f0) ++ (gN a0 b0).map (fun x => delN x.f0)) ++ ((cN a0 b0).map mkN ++ (cW a1 b1).map mkW ++ (cR a2 b2).map mkR)
def Good (l0 : List S37) (l1 : List S40) (l2 : List S43) : Prop := wf26 ⟨l0, l1, l2⟩ ∧ chk l0 l1 l2 = 0
theorem Good.rs {l0 l1 l2} (h : Good l0 l1 l2) : RsE l0 l1 l2 := (chk_parts h.2).2
theorem diff_ev {a0 a1 a2 b0 b1 b2} (ha : Good a0 a1 a2) (hb : Good b0 b1 b2) : Ev (fun k => change_Diff.f k a0 a1 a2 b0 b1 b2) (diffV a0 a1 a2 b0 b1 b2) := by
  unfold change_Diff.f
  refine Ev.bind (prog_check a0 a1 a2 (wfD_of ⟨a0, a1, a2⟩ ha.1)) ?_
  simp only [if_pos ha.2]
  refine Ev.bind (prog_check b0 b1 b2 (wfD_of ⟨b0, b1, b2⟩ hb.1)) ?_
  simp only [if_pos hb.2]
  have hg : (GD a0 a1 a2 && GD b0 b1 b2) = true := by rw [chk_good ha.2, chk_good hb.2]; rfl
  simp only [if_pos hg]
  refine Ev.bind (putN_ev ha.rs.1 ha.1.1.2 b0) (Ev.bind (putW_ev ha.rs.2.1 ha.1.2.1.2 b1) (Ev.bind (putR_ev ha.rs.2.2 ha.1.2.2.2 b2) ?_))
  rw [dropR_eq, dropW_eq, dropN_eq]
  exact Ev.now _
theorem runN : ∀ (ds : List S37) (l0 : List S37) (l1 : List S40) (l2 : List S43) (rest : List S45), (∀ x ∈ ds, x ∈ l0) → ds.Pairwise (fun x y => x.f0 ≠ y.f0) → apAll (ds.map (fun x => delN x.f0) ++ rest) l0 l1 l2 = apAll rest (foldDel (fun x : S37 => x.f0) ds l0) l1 l2
  | [], _, _, _, _, _, _ => rfl
  | x :: ds, l0, l1, l2, rest, h, hp => by
    obtain ⟨hp1, hp2⟩ := List.pairwise_cons.1 hp
    have hx := h x (List.mem_cons_self ..)
    have hok : okC (delN x.f0) = true := rfl
    have hid : chID (delN x.f0) = x.f0 := rfl
    have hhas : hasT (delN x.f0).f1 (chID (delN x.f0)) l0 l1 l2 = true := by
      rw [hid]
      show hasT 1 x.f0 l0 l1 l2 = true
      unfold hasT
      rw [if_pos rfl, List.any_eq_true]
      exact ⟨x, hx, by simp⟩
    have he : apE (delN x.f0) l0 l1 l2 = 0 := by
      unfold apE
      rw [if_pos hok, if_neg (fun hh => by rw [hhas] at hh; cases hh.2)]
    have e0 : ap0 (delN x.f0) l0 = l0.filter (fun y => y.f0 != x.f0) := rfl
    have e1 : ap1 (delN x.f0) l1 = l1 := rfl
    have e2 : ap2 (delN x.f0) l2 = l2 := rfl
    rw [List.map_cons, List.cons_append, apAll, if_pos he, e0, e1, e2]
    exact runN ds _ l1 l2 rest (fun y hy => List.mem_filter.2 ⟨h y (List.mem_cons_of_mem _ hy), by have := hp1 y hy; simp; omega⟩) hp2
theorem runW : ∀ (ds : List S40) (l0 : List S37) (l1 : List S40) (l2 : List S43) (rest : List S45), (∀ x ∈ ds, x ∈ l1) → ds.Pairwise (fun x y => x.f0 ≠ y.f0) → apAll (ds.map (fun x => delW x.f0) ++ rest) l0 l1 l2 = apAll rest l0 (foldDel (fun x : S40 => x.f0) ds l1) l2
  | [], _, _, _, _, _, _ => rfl
  | x :: ds, l0, l1, l2, rest, h, hp => by
    obtain ⟨hp1, hp2⟩ := List.pairwise_cons.1 hp
    have hx := h x (List.mem_cons_self ..)
    have hok : okC (delW x.f0) = true := rfl
    have hid : chID (delW x.f0) = x.f0 := rfl
    have hhas : hasT (delW x.f0).f1 (chID (delW x.f0)) l0 l1 l2 = true := by
      rw [hid]
      show hasT 2 x.f0 l0 l1 l2 = true
      unfold hasT
      rw [if_neg (by decide), if_pos rfl, List.any_eq_true]
      exact ⟨x, hx, by simp⟩
    have he : apE (delW x.f0) l0 l1 l2 = 0 := by
      unfold apE
      rw [if_pos hok, if_neg (fun hh => by rw [hhas] at hh; cases hh.2)]
    have e0 : ap0 (delW x.f0) l0 = l0 := rfl
    have e1 : ap1 (delW x.f0) l1 = l1.filter (fun y => y.f0 != x.f0) := rfl
    have e2 : ap2 (delW x.f0) l2 = l2 := rfl
    rw [List.map_cons, List.cons_append, apAll, if_pos he, e0, e1, e2]
    exact runW ds l0 _ l2 rest (fun y hy => List.mem_filter.2 ⟨h y (List.mem_cons_of_mem _ hy), by have := hp1 y hy; simp; omega⟩) hp2
theorem runR : ∀ (ds : List S43) (l0 : List S37) (l1 : List S40) (l2 : List S43) (rest : List S45), (∀ x ∈ ds, x ∈ l2) → ds.Pairwise (fun x y => x.f0 ≠ y.f0) → apAll (ds.map (fun x => delR x.f0) ++ rest) l0 l1 l2 = apAll rest l0 l1 (foldDel (fun x : S43 => x.f0) ds l2)
  | [], _, _, _, _, _, _ => rfl
  | x :: ds, l0, l1, l2, rest, h, hp => by
    obtain ⟨hp1, hp2⟩ := List.pairwise_cons.1 hp
    have hx := h x (List.mem_cons_self ..)
    have hok : okC (delR x.f0) = true := rfl
    have hid : chID (delR x.f0) = x.f0 := rfl
    have hhas : hasT (delR x.f0).f1 (chID (delR x.f0)) l0 l1 l2 = true := by
      rw [hid]
      show hasT 3 x.f0 l0 l1 l2 = true
      unfold hasT
      rw [if_neg (by decide), if_neg (by decide), if_pos rfl, List.any_eq_true]
      exact ⟨x, hx, by simp⟩
    have he : apE (delR x.f0) l0 l1 l2 = 0 := by
      unfold apE
      rw [if_pos hok, if_neg (fun hh => by rw [hhas] at hh; cases hh.2)]
    have e0 : ap0 (delR x.f0) l0 = l0 := rfl
    have e1 : ap1 (delR x.f0) l1 = l1 := rfl
    have e2 : ap2 (delR x.f0) l2 = l2.filter (fun y => y.f0 != x.f0) := rfl
    rw [List.map_cons, List.cons_append, apAll, if_pos he, e0, e1, e2]
    exact runR ds l0 l1 _ rest (fun y hy => List.mem_filter.2 ⟨h y (List.mem_cons_of_mem _ hy), by have := hp1 y hy; simp; omega⟩) hp2
theorem layN : ∀ (xs : List S37) (l0 : List S37) (l1 : List S40) (l2 : List S43) (rest : List S45), apAll (xs.map mkN ++ rest) l0 l1 l2 = apAll rest (foldIns (fun x : S37 => x.f0) xs l0) l1 l2
  | [], _, _, _, _ => rfl
  | x :: xs, l0, l1, l2, rest => by
    have he : apE (mkN x) l0 l1 l2 = 0 := rfl
    have e0 : ap0 (mkN x) l0 = ins (fun y => y.f0) x l0 := rfl
    have e1 : ap1 (mkN x) l1 = l1 := rfl
    have e2 : ap2 (mkN x) l2 = l2 := rfl
    rw [List.map_cons, List.cons_append, apAll, if_pos he, e0, e1, e2]
    exact layN xs _ l1 l2 rest
theorem layW : ∀ (xs : List S40) (l0 : List S37) (l1 : List S40) (l2 : List S43) (rest : List S45), apAll (xs.map mkW ++ rest) l0 l1 l2 = apAll rest l0 (foldIns (fun x : S40 => x.f0) xs l1) l2
  | [], _, _, _, _ => rfl
  | x :: xs, l0, l1, l2, rest => by
    have he : apE (mkW x) l0 l1 l2 = 0 := rfl
    have e0 : ap0 (mkW x) l0 = l0 := rfl
    have e1 : ap1 (mkW x) l1 = ins (fun y => y.f0) x l1 := rfl
    have e2 : ap2 (mkW x) l2 = l2 := rfl
    rw [List.map_cons, List.cons_append, apAll, if_pos he, e0, e1, e2]
    exact layW xs l0 _ l2 rest
theorem layR : ∀ (xs : List S43) (l0 : List S37) (l1 : List S40) (l2 : List S43) (rest : List S45), apAll (xs.map mkR ++ rest) l0 l1 l2 = apAll rest l0 l1 (foldIns (fun x : S43 => x.f0) xs l2)
  | [], _, _, _, _ => rfl
  | x :: xs, l0, l1, l2, rest => by
    have he : apE (mkR x) l0 l1 l2 = 0 := rfl
    have e0 : ap0 (mkR x) l0 = l0 := rfl
    have e1 : ap1 (mkR x) l1 = l1 := rfl
    have e2 : ap2 (mkR x) l2 = ins (fun y => y.f0) x l2 := rfl
    rw [List.map_cons, List.cons_append, apAll, if_pos he, e0, e1, e2]
    exact layR xs l0 l1 _ rest
theorem pw_gone {α : Type} {id : α → Int} {a b : List α} (ha : Rising id a) : (gone id a b).Pairwise (fun x y => id x ≠ id y) := (ha.filter _).imp (fun h e => by omega)
theorem pw_came {α : Type} {id : α → Int} {eq : α → α → Bool} {a b : List α} (hb : Rising id b) : (came eq a b).Pairwise (fun x y => id x ≠ id y) := (hb.filter _).imp (fun h e => by omega)
theorem apply_diff {a0 a1 a2 b0 b1 b2} (ha : RsE a0 a1 a2) (hb : RsE b0 b1 b2) : apAll (diffV a0 a1 a2 b0 b1 b2) a0 a1 a2 = (b0, b1, b2, 0) := by
  unfold diffV
  rw [List.append_assoc, List.append_assoc, runR _ a0 a1 a2 _ (fun x hx => (mem_gone.1 hx).1) (pw_gone ha.2.2), runW _ a0 a1 _ _ (fun x hx => (mem_gone.1 hx).1) (pw_gone ha.2.1), runN _ a0 _ _ _ (fun x hx => (mem_gone.1 hx).1) (pw_gone ha.1),
    List.append_assoc, layN, layW, ← List.append_nil ((cR a2 b2).map mkR), layR, turned nodeEq_iff ha.1 hb.1, turned wayEq_iff ha.2.1 hb.2.1, turned relEq_iff ha.2.2 hb.2.2]
  rfl
theorem diff_self {a0 a1 a2} : diffV a0 a1 a2 a0 a1 a2 = [] := by
  unfold diffV gN gW gR cN cW cR
  rw [gone_self, gone_self, gone_self, came_self nodeEq_iff, came_self wayEq_iff, came_self relEq_iff]
  rfl
theorem diff_ok {a0 a1 a2 b0 b1 b2} : ∀ x ∈ diffV a0 a1 a2 b0 b1 b2, okC x = true := by
  intro x hx
  unfold diffV at hx
  simp only [List.mem_append, List.mem_map] at hx
  rcases hx with ((⟨y, _, rfl⟩ | ⟨y, _, rfl⟩) | ⟨y, _, rfl⟩) | ((⟨y, _, rfl⟩ | ⟨y, _, rfl⟩) | ⟨y, _, rfl⟩) <;> rfl
def DifR (a0 : List S37) (a1 : List S40) (a2 : List S43) (b0 : List S37) (b1 : List S40) (b2 : List S43) (r : S48) : Prop :=
  (r.f0 = 1 ∧ Dif (fun x : S37 => x.f0) a0 b0 r.f1) ∨ (r.f0 = 2 ∧ Dif (fun x : S40 => x.f0) a1 b1 r.f1) ∨ (r.f0 = 3 ∧ Dif (fun x : S43 => x.f0) a2 b2 r.f1)
def refsV (a0 : List S37) (a1 : List S40) (a2 : List S43) (b0 : List S37) (b1 : List S40) (b2 : List S43) : List S48 := (diffV a0 a1 a2 b0 b1 b2).map refOf
theorem refs_form {a0 a1 a2 b0 b1 b2} : refsV a0 a1 a2 b0 b1 b2 = (((gR a2 b2).map (fun x => (⟨3, x.f0⟩ : S48)) ++ (gW a1 b1).map (fun x => (⟨2, x.f0⟩ : S48)) ++ (gN a0 b0).map (fun x => (⟨1, x.f0⟩ : S48))) ++ ((cN a0 b0).map (fun x => (⟨1, x.f0⟩ : S48)) ++ (cW a1 b1).map (fun x => (⟨2, x.f0⟩ : S48)) ++ (cR a2 b2).map (fun x => (⟨3, x.f0⟩ : S48)))) := by
  unfold refsV diffV
  simp only [List.map_append, List.map_map]
  rfl
theorem mem_refs {a0 a1 a2 b0 b1 b2} (ha : RsE a0 a1 a2) (hb : RsE b0 b1 b2) (r : S48) : r ∈ refsV a0 a1 a2 b0 b1 b2 ↔ DifR a0 a1 a2 b0 b1 b2 r := by
  rw [refs_form]
  unfold DifR
  rw [← dif_iff nodeEq_iff ha.1 hb.1, ← dif_iff wayEq_iff ha.2.1 hb.2.1, ← dif_iff relEq_iff ha.2.2 hb.2.2]
  obtain ⟨k, i⟩ := r
  simp only [List.mem_append, List.mem_map, S48.mk.injEq]
  constructor
  · rintro (((⟨y, hy, rfl, rfl⟩ | ⟨y, hy, rfl, rfl⟩) | ⟨y, hy, rfl, rfl⟩) | ((⟨y, hy, rfl, rfl⟩ | ⟨y, hy, rfl, rfl⟩) | ⟨y, hy, rfl, rfl⟩))
    · exact .inr (.inr ⟨rfl, .inl ⟨y, hy, rfl⟩⟩)
    · exact .inr (.inl ⟨rfl, .inl ⟨y, hy, rfl⟩⟩)
    · exact .inl ⟨rfl, .inl ⟨y, hy, rfl⟩⟩
    · exact .inl ⟨rfl, .inr ⟨y, hy, rfl⟩⟩
    · exact .inr (.inl ⟨rfl, .inr ⟨y, hy, rfl⟩⟩)
    · exact .inr (.inr ⟨rfl, .inr ⟨y, hy, rfl⟩⟩)
  · rintro (⟨rfl, ⟨y, hy, rfl⟩ | ⟨y, hy, rfl⟩⟩ | ⟨rfl, ⟨y, hy, rfl⟩ | ⟨y, hy, rfl⟩⟩ | ⟨rfl, ⟨y, hy, rfl⟩ | ⟨y, hy, rfl⟩⟩)
    · exact .inl (.inr ⟨y, hy, rfl, rfl⟩)
    · exact .inr (.inl (.inl ⟨y, hy, rfl, rfl⟩))
    · exact .inl (.inl (.inr ⟨y, hy, rfl, rfl⟩))
    · exact .inr (.inl (.inr ⟨y, hy, rfl, rfl⟩))
    · exact .inl (.inl (.inl ⟨y, hy, rfl, rfl⟩))
    · exact .inr (.inr ⟨y, hy, rfl, rfl⟩)
theorem nd_map {α : Type} {id : α → Int} (k : Int) {l : List α} (h : l.Pairwise (fun x y => id x ≠ id y)) : (l.map (fun x => (⟨k, id x⟩ : S48))).Nodup := by
  rw [List.nodup_iff_pairwise_ne, List.pairwise_map]
  exact h.imp (fun hne e => hne (S48.mk.inj e).2)
theorem refs_nodup {a0 a1 a2 b0 b1 b2} (ha : RsE a0 a1 a2) (hb : RsE b0 b1 b2) : (refsV a0 a1 a2 b0 b1 b2).Nodup := by
  rw [refs_form]
  have n1 := nd_map (id := fun x : S43 => x.f0) 3 (pw_gone (b := b2) ha.2.2)
  have n2 := nd_map (id := fun x : S40 => x.f0) 2 (pw_gone (b := b1) ha.2.1)
  have n3 := nd_map (id := fun x : S37 => x.f0) 1 (pw_gone (b := b0) ha.1)
  have n4 := nd_map (id := fun x : S37 => x.f0) 1 (pw_came (eq := nodeEq) (a := a0) hb.1)
  have n5 := nd_map (id := fun x : S40 => x.f0) 2 (pw_came (eq := wayEq) (a := a1) hb.2.1)
  have n6 := nd_map (id := fun x : S43 => x.f0) 3 (pw_came (eq := relEq) (a := a2) hb.2.2)
  refine List.nodup_append.2 ⟨List.nodup_append.2 ⟨List.nodup_append.2 ⟨n1, n2, ?_⟩, n3, ?_⟩, List.nodup_append.2 ⟨List.nodup_append.2 ⟨n4, n5, ?_⟩, n6, ?_⟩, ?_⟩
  · intro x hx y hy e
    obtain ⟨u, _, rfl⟩ := List.mem_map.1 hx
    obtain ⟨v, _, rfl⟩ := List.mem_map.1 hy
    exact absurd (S48.mk.inj e).1 (by decide)
  · intro x hx y hy e
    obtain ⟨v, _, rfl⟩ := List.mem_map.1 hy
    rcases List.mem_append.1 hx with hx | hx
    · obtain ⟨u, _, rfl⟩ := List.mem_map.1 hx
      exact absurd (S48.mk.inj e).1 (by decide)
    · obtain ⟨u, _, rfl⟩ := List.mem_map.1 hx
      exact absurd (S48.mk.inj e).1 (by decide)
  · intro x hx y hy e
    obtain ⟨u, _, rfl⟩ := List.mem_map.1 hx
    obtain ⟨v, _, rfl⟩ := List.mem_map.1 hy
    exact absurd (S48.mk.inj e).1 (by decide)
  · intro x hx y hy e
    obtain ⟨v, _, rfl⟩ := List.mem_map.1 hy
    rcases List.mem_append.1 hx with hx | hx
    · obtain ⟨u, _, rfl⟩ := List.mem_map.1 hx
      exact absurd (S48.mk.inj e).1 (by decide)
    · obtain ⟨u, _, rfl⟩ := List.mem_map.1 hx
      exact absurd (S48.mk.inj e).1 (by decide)
  · intro x hx y hy e
    subst e
    simp only [List.mem_append, List.mem_map] at hx hy
    rcases hx with (⟨u, hu, rfl⟩ | ⟨u, hu, rfl⟩) | ⟨u, hu, rfl⟩ <;> rcases hy with (⟨v, hv, e⟩ | ⟨v, hv, e⟩) | ⟨v, hv, e⟩
    · exact absurd (S48.mk.inj e).1 (by decide)
    · exact absurd (S48.mk.inj e).1 (by decide)
    · exact gone_came hu hv (S48.mk.inj e).2.symm
    · exact absurd (S48.mk.inj e).1 (by decide)
    · exact gone_came hu hv (S48.mk.inj e).2.symm
    · exact absurd (S48.mk.inj e).1 (by decide)
    · exact gone_came hu hv (S48.mk.inj e).2.symm
    · exact absurd (S48.mk.inj e).1 (by decide)
    · exact absurd (S48.mk.inj e).1 (by decide)
def touchV (a0 : List S37) (a1 : List S40) (a2 : List S43) (b0 : List S37) (b1 : List S40) (b2 : List S43) : List S48 := sortRefs (refsV a0 a1 a2 b0 b1 b2)
theorem sorted_one {l m : List S48} (h : ∀ y, y ∈ l ↔ y ∈ m) (hl : l.Nodup) (hm : m.Nodup) : sortRefs l = sortRefs m := by
  have p : (sortRefs l).Perm (sortRefs m) := ((sortRefs_spec l).1.trans ((List.perm_ext_iff_of_nodup hl hm).2 h)).trans (sortRefs_spec m).1.symm
  refine p.eq_of_pairwise (le := fun x y => ¬ ltR y x) (fun a b _ _ h1 h2 => ?_) (sortRefs_spec l).2 (sortRefs_spec m).2
  obtain ⟨a1, a2⟩ := a
  obtain ⟨b1, b2⟩ := b
  unfold ltR at h1 h2
  rw [S48.mk.injEq]
  dsimp only at h1 h2
  omega
theorem touch_symm {a0 a1 a2 b0 b1 b2} (ha : RsE a0 a1 a2) (hb : RsE b0 b1 b2) : touchV a0 a1 a2 b0 b1 b2 = touchV b0 b1 b2 a0 a1 a2 := by
  refine sorted_one (fun y => ?_) (refs_nodup ha hb) (refs_nodup hb ha)
  rw [mem_refs ha hb, mem_refs hb ha]
  unfold DifR
  rw [dif_symm (a := a0), dif_symm (a := a1), dif_symm (a := a2)]
theorem touch_rising {a0 a1 a2 b0 b1 b2} (ha : RsE a0 a1 a2) (hb : RsE b0 b1 b2) : (touchV a0 a1 a2 b0 b1 b2).Pairwise ltR := by
  have h1 := (sortRefs_spec (refsV a0 a1 a2 b0 b1 b2)).2
  have h2 : (sortRefs (refsV a0 a1 a2 b0 b1 b2)).Nodup := (sortRefs_spec _).1.nodup_iff.2 (refs_nodup ha hb)
  rw [List.nodup_iff_pairwise_ne] at h2
  refine (h1.and h2).imp fun {x y} ⟨h3, h4⟩ => ?_
  obtain ⟨x1, x2⟩ := x
  obtain ⟨y1, y2⟩ := y
  rw [Ne, S48.mk.injEq] at h4
  unfold ltR at h3 ⊢
  dsimp only at h3 ⊢
  omega
theorem touch_len {a0 a1 a2 b0 b1 b2} : (touchV a0 a1 a2 b0 b1 b2).length = (diffV a0 a1 a2 b0 b1 b2).length := by
  unfold touchV
  rw [(sortRefs_spec _).1.length_eq]
  unfold refsV
  rw [List.length_map]
theorem touch_has {a0 a1 a2 b0 b1 b2} (ha : RsE a0 a1 a2) (hb : RsE b0 b1 b2) {r : S48} (hr : r ∈ touchV a0 a1 a2 b0 b1 b2) : Hs a0 a1 a2 r.f0 r.f1 ∨ Hs b0 b1 b2 r.f0 r.f1 := by
  have h := (mem_refs ha hb r).1 ((sortRefs_spec _).1.mem_iff.1 hr)
  unfold Hs
  rcases h with ⟨e, h⟩ | ⟨e, h⟩ | ⟨e, h⟩
  · exact (dif_has h).imp (fun h => .inl ⟨e, h⟩) (fun h => .inl ⟨e, h⟩)
  · exact (dif_has h).imp (fun h => .inr (.inl ⟨e, h⟩)) (fun h => .inr (.inl ⟨e, h⟩))
  · exact (dif_has h).imp (fun h => .inr (.inr ⟨e, h⟩)) (fun h => .inr (.inr ⟨e, h⟩))
theorem diff_len {a0 a1 a2 b0 b1 b2} : (diffV a0 a1 a2 b0 b1 b2).length ≤ a0.length + a1.length + a2.length + b0.length + b1.length + b2.length := by
  unfold diffV gN gW gR cN cW cR gone came
  have h1 := List.length_filter_le (fun x : S43 => !(b2.any (fun y => y.f0 == x.f0))) a2
  have h2 := List.length_filter_le (fun x : S40 => !(b1.any (fun y => y.f0 == x.f0))) a1
  have h3 := List.length_filter_le (fun x : S37 => !(b0.any (fun y => y.f0 == x.f0))) a0
  have h4 := List.length_filter_le (fun x : S37 => !(a0.any (fun y => nodeEq y x))) b0
  have h5 := List.length_filter_le (fun x : S40 => !(a1.any (fun y => wayEq y x))) b1
  have h6 := List.length_filter_le (fun x : S43 => !(a2.any (fun y => relEq y x))) b2
  simp only [List.length_append, List.length_map]
  omega
theorem touch_ev {a0 a1 a2 b0 b1 b2} (ha : Good a0 a1 a2) (hb : Good b0 b1 b2) : Ev (fun k => change_Touched.f k a0 a1 a2 b0 b1 b2) (touchV a0 a1 a2 b0 b1 b2) := by
  unfold change_Touched.f
  refine Ev.bind (diff_ev ha hb) ?_
  have h1 := (chk_parts ha.2).1
  have h2 := (chk_parts hb.2).1
  obtain ⟨x1, x2, x3⟩ := h1
  obtain ⟨y1, y2, y3⟩ := h2
  have hl := diff_len (a0 := a0) (a1 := a1) (a2 := a2) (b0 := b0) (b1 := b1) (b2 := b2)
  have hg : ((diffV a0 a1 a2 b0 b1 b2).all okC && decide ((diffV a0 a1 a2 b0 b1 b2).length ≤ 1000000)) = true := by
    rw [Bool.and_eq_true, List.all_eq_true, decide_eq_true_eq]
    exact ⟨diff_ok, by omega⟩
  simp only [if_pos hg]
  exact Ev.now _
end Go.Proofs.YtijoaohckgbneaaGreat.Pure
