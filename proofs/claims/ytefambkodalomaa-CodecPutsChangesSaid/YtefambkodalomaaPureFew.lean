/- c16, plain: what Few lets in is small. -/
import Derived.Test.YtefambkodalomaaPureEnc
import Derived.Test.YtefambkodalomaaPAllx15
namespace Go.Proofs.Ytefambkodalomaa.Pure
open Go.RowKit Go.Proofs.Ytefambkodalomaa.PAll Go.Proofs.YtefambkodalomaaW.PrintWords Go.Proofs.YtefambkodalomaaW.PrintLast Go.Proofs.YtefambkodalomaaW.PrintMore Go.Proofs.YtefambkodalomaaG
set_option linter.unusedVariables false
set_option linter.unusedSimpArgs false
theorem ev_ex (n : Nat) (g : Nat → Nat → Option Bool) (Q : Nat → Prop) (R : Prop) (hend : ∃ b, Ev (fun k => g k n) b ∧ (b = true → R))
    (hstep : ∀ i, i < n → Ev (fun k => g k i) false ∨ (Q i ∧ ∀ r, Ev (fun k => g k (i + 1)) r → Ev (fun k => g k i) r)) : ∀ d i, i + d = n → ∃ b, Ev (fun k => g k i) b ∧ (b = true → (∀ j, i ≤ j → j < n → Q j) ∧ R)
  | 0, i, h => by
    obtain rfl : i = n := by omega
    obtain ⟨b, hb, hr⟩ := hend
    exact ⟨b, hb, fun h => ⟨fun j h1 h2 => absurd h2 (by omega), hr h⟩⟩
  | d + 1, i, h => by
    rcases hstep i (by omega) with h0 | ⟨hq, hs⟩
    · exact ⟨false, h0, fun h => by cases h⟩
    · obtain ⟨b, hb, hr⟩ := ev_ex n g Q R hend hstep d (i + 1) (by omega)
      refine ⟨b, hs b hb, fun h => ⟨fun j h1 h2 => ?_, (hr h).2⟩⟩
      by_cases e : j = i
      · subst e; exact hq
      · exact (hr h).1 j (by omega) h2
theorem all_mem {α : Type} {l : List α} {P : α → Prop} (h : ∀ (j : Nat) (hj : j < l.length), P l[j]) : ∀ x ∈ l, P x := by
  intro x hx
  obtain ⟨j, hj, rfl⟩ := List.getElem_of_mem hx
  exact h j hj
def fTags (l : List S130) : Prop := l.length ≤ 20 ∧ ∀ x ∈ l, x.f0.size ≤ 200 ∧ x.f1.size ≤ 200
theorem few_tags (l : List S130) : ∃ b, Ev (fun k => mapmakerlaw19_tags.f k l) b ∧ (b = true → fTags l) := by
  unfold mapmakerlaw19_tags.f
  by_cases h : (l.length : Int) > 20
  · simp only [if_pos h]; exact ⟨false, Ev.now _, fun h => by cases h⟩
  simp only [if_neg h]
  obtain ⟨b, hb, hr⟩ := ev_ex l.length (fun k i => mapmakerlaw19_tags.l0 k l (i : Int)) (fun i => ∀ h : i < l.length, l[i].f0.size ≤ 200 ∧ l[i].f1.size ≤ 200) True
    ⟨true, Ev.step (f := fun _ => some true) (fun k => by simp only [mapmakerlaw19_tags.l0]; rw [if_neg (by omega)]) (Ev.now _), fun _ => trivial⟩
    (fun i hi => by
      by_cases c1 : (l[i].f0.size : Int) > 200
      · exact .inl (Ev.step (f := fun _ => some false) (fun k => by simp only [mapmakerlaw19_tags.l0]; rw [if_pos (by omega), if_pos (by omega), rd130' l i hi, if_pos c1]) (Ev.now _))
      by_cases c2 : (l[i].f1.size : Int) > 200
      · exact .inl (Ev.step (f := fun _ => some false) (fun k => by simp only [mapmakerlaw19_tags.l0]; rw [if_pos (by omega), if_pos (by omega), rd130' l i hi, if_neg c1, if_pos c2]) (Ev.now _))
      exact .inr ⟨fun _ => ⟨by omega, by omega⟩, fun r ih => Ev.step (fun k => by simp only [mapmakerlaw19_tags.l0]; rw [if_pos (by omega), if_pos (by omega), rd130' l i hi, if_neg c1, if_neg c2, wrn i (by omega)]) ih⟩)
    l.length 0 (by omega)
  exact ⟨b, hb, fun h => ⟨by omega, all_mem fun j hj => (hr h).1 j (by omega) hj hj⟩⟩
def fR (x : S59) : Prop := x.f1.length ≤ 8 ∧ fTags x.f2 ∧ ∀ y ∈ x.f1, y.f1.size ≤ 200
def fD (x : S26) : Prop := (x.f0.length ≤ 20 ∧ x.f1.length ≤ 12 ∧ x.f2.length ≤ 8) ∧ (∀ y ∈ x.f0, fTags y.f2) ∧ (∀ y ∈ x.f1, y.f1.length ≤ 12 ∧ fTags y.f2) ∧ ∀ y ∈ x.f2, fR y
theorem few_rels (l0 : List S53) (l1 : List S56) (l : List S59) (hl : l.length ≤ 8) : ∃ b, Ev (fun k => mapmakerlaw19_Few.l2 k 0 l0 l1 l) b ∧ (b = true → ∀ y ∈ l, fR y) := by
  obtain ⟨b, hb, hr⟩ := ev_ex l.length (fun k i => mapmakerlaw19_Few.l2 k (i : Int) l0 l1 l) (fun i => ∀ h : i < l.length, fR l[i]) True
    ⟨true, Ev.step (f := fun _ => some true) (fun k => by simp only [mapmakerlaw19_Few.l2]; rw [if_neg (by omega)]) (Ev.now _), fun _ => trivial⟩
    (fun i hi => by
      have hj : Ev (fun k => mapmakerlaw19_Few.j4 k (i : Int) true l0 l1 l) false := Ev.step (f := fun _ => some false) (fun k => by simp only [mapmakerlaw19_Few.j4, if_true]) (Ev.now _)
      by_cases c1 : (l[i].f1.length : Int) > 8
      · exact .inl (Ev.step (fun k => by simp only [mapmakerlaw19_Few.l2]; rw [if_pos (by omega), if_pos (by omega), rd59' l i hi, if_pos c1]) hj)
      obtain ⟨b, hb, ht⟩ := few_tags l[i].f2
      cases b with
      | false => exact .inl (Ev.step (fun k => by simp only [mapmakerlaw19_Few.l2]; rw [if_pos (by omega), if_pos (by omega), rd59' l i hi, if_neg c1]) (Ev.bind hb hj))
      | true =>
        -- the members
        have hm : (Ev (fun k => mapmakerlaw19_Few.l3 k (i : Int) 0 l0 l1 l) false) ∨ ((∀ y ∈ l[i].f1, y.f1.size ≤ 200) ∧ ∀ r, Ev (fun k => mapmakerlaw19_Few.l2 k ((i + 1 : Nat) : Int) l0 l1 l) r → Ev (fun k => mapmakerlaw19_Few.l3 k (i : Int) 0 l0 l1 l) r) := by
          by_cases hall : ∀ y ∈ l[i].f1, y.f1.size ≤ 200
          · refine .inr ⟨hall, fun r hr => ?_⟩
            have : ∀ d j, j + d = l[i].f1.length → Ev (fun k => mapmakerlaw19_Few.l3 k (i : Int) (j : Int) l0 l1 l) r := by
              intro d
              induction d with
              | zero =>
                intro j hj
                exact Ev.step (fun k => by simp only [mapmakerlaw19_Few.l3]; rw [if_pos (by omega), if_pos (by omega), rd59' l i hi, if_neg (by omega), wrn i (by omega)]) hr
              | succ d ihd =>
                intro j hj
                have hjl : j < l[i].f1.length := by omega
                have := hall _ (List.getElem_mem hjl)
                exact Ev.step (fun k => by simp only [mapmakerlaw19_Few.l3]; rw [if_pos (by omega), if_pos (by omega), rd59' l i hi, if_pos (by omega), if_pos (by omega), rd63' _ j hjl, if_neg (by omega), wrn j (by omega)]) (ihd (j + 1) (by omega))
            exact this l[i].f1.length 0 (by omega)
          · left
            have : ∀ d j, j + d = l[i].f1.length → (∃ y ∈ l[i].f1.drop j, ¬ y.f1.size ≤ 200) → Ev (fun k => mapmakerlaw19_Few.l3 k (i : Int) (j : Int) l0 l1 l) false := by
              intro d
              induction d with
              | zero =>
                intro j hj hex
                obtain rfl : j = l[i].f1.length := by omega
                rw [List.drop_length] at hex
                obtain ⟨y, hy, _⟩ := hex
                cases hy
              | succ d ihd =>
                intro j hj hex
                have hjl : j < l[i].f1.length := by omega
                by_cases c : (l[i].f1[j].f1.size : Int) > 200
                · exact Ev.step (f := fun _ => some false) (fun k => by simp only [mapmakerlaw19_Few.l3]; rw [if_pos (by omega), if_pos (by omega), rd59' l i hi, if_pos (by omega), if_pos (by omega), rd63' _ j hjl, if_pos c]) (Ev.now _)
                · refine Ev.step (fun k => by simp only [mapmakerlaw19_Few.l3]; rw [if_pos (by omega), if_pos (by omega), rd59' l i hi, if_pos (by omega), if_pos (by omega), rd63' _ j hjl, if_neg c, wrn j (by omega)]) (ihd (j + 1) (by omega) ?_)
                  rw [List.drop_eq_getElem_cons hjl] at hex
                  obtain ⟨y, hy, hn⟩ := hex
                  rcases List.mem_cons.1 hy with rfl | hy
                  · exact absurd hn (by omega)
                  · exact ⟨y, hy, hn⟩
            refine this l[i].f1.length 0 (by omega) ?_
            rw [List.drop_zero]
            exact Classical.byContradiction fun hno => hall fun y hy => Classical.byContradiction fun hn => hno ⟨y, hy, hn⟩
        have hj4 : ∀ r, Ev (fun k => mapmakerlaw19_Few.l3 k (i : Int) 0 l0 l1 l) r → Ev (fun k => mapmakerlaw19_Few.l2 k (i : Int) l0 l1 l) r := fun r hr => by
          refine Ev.step (fun k => by simp only [mapmakerlaw19_Few.l2]; rw [if_pos (by omega), if_pos (by omega), rd59' l i hi, if_neg c1]) (Ev.bind hb ?_)
          exact Ev.step (fun k => by simp only [mapmakerlaw19_Few.j4, Bool.not_true, Bool.false_eq_true, if_false]) hr
        rcases hm with hm | ⟨hall, hm⟩
        · exact .inl (hj4 _ hm)
        · exact .inr ⟨fun _ => ⟨by omega, ht rfl, hall⟩, fun r ih => hj4 r (hm r ih)⟩)
    l.length 0 (by omega)
  exact ⟨b, hb, fun h => all_mem fun j hj => (hr h).1 j (by omega) hj hj⟩
theorem few_ways (l0 : List S53) (l : List S56) (l2 : List S59) (hl : l.length ≤ 12) (hl2 : l2.length ≤ 8) : ∃ b, Ev (fun k => mapmakerlaw19_Few.l1 k 0 l0 l l2) b ∧ (b = true → (∀ y ∈ l, y.f1.length ≤ 12 ∧ fTags y.f2) ∧ ∀ y ∈ l2, fR y) := by
  obtain ⟨b2, hb2, hr2⟩ := few_rels l0 l l2 hl2
  obtain ⟨b, hb, hr⟩ := ev_ex l.length (fun k i => mapmakerlaw19_Few.l1 k (i : Int) l0 l l2) (fun i => ∀ h : i < l.length, l[i].f1.length ≤ 12 ∧ fTags l[i].f2) (∀ y ∈ l2, fR y)
    ⟨b2, Ev.step (fun k => by simp only [mapmakerlaw19_Few.l1]; rw [if_neg (by omega)]) hb2, hr2⟩
    (fun i hi => by
      by_cases c1 : (l[i].f1.length : Int) > 12
      · exact .inl (Ev.step (f := fun _ => some false) (fun k => by simp only [mapmakerlaw19_Few.l1]; rw [if_pos (by omega), if_pos (by omega), rd56' l i hi, if_pos c1]) (Ev.now _))
      obtain ⟨b, hb, ht⟩ := few_tags l[i].f2
      cases b with
      | false => exact .inl (Ev.step (fun k => by simp only [mapmakerlaw19_Few.l1]; rw [if_pos (by omega), if_pos (by omega), rd56' l i hi, if_neg c1]) (Ev.bind hb (by simp only [Bool.false_eq_true, if_false]; exact Ev.now _)))
      | true => exact .inr ⟨fun _ => ⟨by omega, ht rfl⟩, fun r ih => Ev.step (fun k => by simp only [mapmakerlaw19_Few.l1]; rw [if_pos (by omega), if_pos (by omega), rd56' l i hi, if_neg c1, wrn i (by omega)]) (Ev.bind hb (by simp only [if_true]; exact ih))⟩)
    l.length 0 (by omega)
  exact ⟨b, hb, fun h => ⟨all_mem fun j hj => (hr h).1 j (by omega) hj hj, (hr h).2⟩⟩
theorem few_nodes (l : List S53) (l1 : List S56) (l2 : List S59) (hl : l.length ≤ 20) (hl1 : l1.length ≤ 12) (hl2 : l2.length ≤ 8) : ∃ b, Ev (fun k => mapmakerlaw19_Few.l0 k 0 l l1 l2) b ∧ (b = true → (∀ y ∈ l, fTags y.f2) ∧ (∀ y ∈ l1, y.f1.length ≤ 12 ∧ fTags y.f2) ∧ ∀ y ∈ l2, fR y) := by
  obtain ⟨b2, hb2, hr2⟩ := few_ways l l1 l2 hl1 hl2
  obtain ⟨b, hb, hr⟩ := ev_ex l.length (fun k i => mapmakerlaw19_Few.l0 k (i : Int) l l1 l2) (fun i => ∀ h : i < l.length, fTags l[i].f2) ((∀ y ∈ l1, y.f1.length ≤ 12 ∧ fTags y.f2) ∧ ∀ y ∈ l2, fR y)
    ⟨b2, Ev.step (fun k => by simp only [mapmakerlaw19_Few.l0]; rw [if_neg (by omega)]) hb2, hr2⟩
    (fun i hi => by
      obtain ⟨b, hb, ht⟩ := few_tags l[i].f2
      cases b with
      | false => exact .inl (Ev.step (fun k => by simp only [mapmakerlaw19_Few.l0]; rw [if_pos (by omega), if_pos (by omega), rd53' l i hi]) (Ev.bind hb (by simp only [Bool.false_eq_true, if_false]; exact Ev.now _)))
      | true => exact .inr ⟨fun _ => ht rfl, fun r ih => Ev.step (fun k => by simp only [mapmakerlaw19_Few.l0]; rw [if_pos (by omega), if_pos (by omega), rd53' l i hi, wrn i (by omega)]) (Ev.bind hb (by simp only [if_true]; exact ih))⟩)
    l.length 0 (by omega)
  exact ⟨b, hb, fun h => ⟨all_mem fun j hj => (hr h).1 j (by omega) hj hj, (hr h).2⟩⟩
theorem few_ev (x : S26) : ∃ b, Ev (fun k => mapmakerlaw19_Few.f k x.f0 x.f1 x.f2) b ∧ (b = true → fD x) := by
  unfold mapmakerlaw19_Few.f
  have hj : Ev (fun k => mapmakerlaw19_Few.j0 k true x.f0 x.f1 x.f2) false := Ev.step (f := fun _ => some false) (fun k => by simp only [mapmakerlaw19_Few.j0, if_true]) (Ev.now _)
  by_cases h0 : (x.f0.length : Int) > 20
  · simp only [if_pos h0]; exact ⟨false, hj, fun h => by cases h⟩
  by_cases h1 : (x.f1.length : Int) > 12
  · simp only [if_neg h0, if_pos h1]; exact ⟨false, hj, fun h => by cases h⟩
  simp only [if_neg h0, if_neg h1]
  by_cases h2 : (x.f2.length : Int) > 8
  · simp only [decide_eq_true h2]; exact ⟨false, hj, fun h => by cases h⟩
  simp only [decide_eq_false h2]
  obtain ⟨b, hb, hr⟩ := few_nodes x.f0 x.f1 x.f2 (by omega) (by omega) (by omega)
  exact ⟨b, Ev.step (fun k => by simp only [mapmakerlaw19_Few.j0, Bool.false_eq_true, if_false]) hb, fun h => ⟨⟨by omega, by omega, by omega⟩, (hr h).1, (hr h).2.1, (hr h).2.2⟩⟩
theorem flat_len {α : Type} (f : α → List UInt8) (B : Nat) : ∀ l : List α, (∀ x ∈ l, (f x).length ≤ B) → (l.flatMap f).length ≤ l.length * B
  | [], _ => by simp
  | x :: l, h => by
    have h1 := h x (by simp)
    have h2 := flat_len f B l (fun y hy => h y (by simp [hy]))
    rw [List.flatMap_cons, List.length_append, List.length_cons, Nat.add_mul]
    omega
theorem many_le {α : Type} (f : α → List UInt8) (B N : Nat) (l : List α) (hl : l.length ≤ N) (hN : N < 18446744073709551616) (h : ∀ x ∈ l, (f x).length ≤ B) : (encMany f l).length ≤ 10 + N * B := by
  unfold encMany
  rw [List.length_append]
  have h1 := flat_len f B l h
  have h2 := encU_len10 (n := l.length) (by omega)
  have h3 := Nat.mul_le_mul_right B hl
  omega
theorem encI_le {x : Int} (h : I64 x) : (encI x).length ≤ 10 := encU_len10 (zig_lt h.1 h.2)
theorem encT_le {a : ByteArray} (h : a.size ≤ 200) : (encT a).length ≤ 210 := by
  unfold encT
  rw [List.length_append]
  have := encU_len10 (n := a.size) (by omega)
  have hd : a.data.toList.length = a.size := rfl
  omega
theorem encTags_le {l : List S130} (h : fTags l) : (encTags l).length ≤ 8410 := by
  have := many_le encTag 420 20 l h.1 (by decide) (fun x hx => by
    have := h.2 x hx
    have h1 := encT_le this.1
    have h2 := encT_le this.2
    unfold encTag
    rw [List.length_append]; omega)
  exact this
theorem wfI {x : Int} (h : (Lit.int .i64 x).wf = true) : I64 x := by
  simp only [Lit.wf, IntKind.min, IntKind.max, IntKind.signed, IntKind.bits, Bool.and_eq_true, decide_eq_true_eq, if_true, Bool.false_eq_true, if_false] at h
  unfold I64
  omega
end Go.Proofs.Ytefambkodalomaa.Pure
