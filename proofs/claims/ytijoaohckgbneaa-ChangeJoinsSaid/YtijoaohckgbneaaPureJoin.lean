/- c15, plain: what Apply computes; ChangeJoins. -/
import Derived.Test.YtijoaohckgbneaaPureBase
namespace Go.Proofs.Ytijoaohckgbneaa.Pure
open Go.RowKit Go.Proofs.Ytijoaohckgbneaa.PAll Go.Proofs.YtijoaohckgbneaaG Go.Proofs.YtijoaohckgbneaaW.PrintWords Go.Proofs.YtijoaohckgbneaaW.PrintLast
set_option linter.unusedVariables false
set_option linter.unusedSimpArgs false
theorem rd50 (l : List S50) (i : Nat) (h : i < l.length) : rd_T50 l (i : Int) = l[i] := by
  unfold rd_T50; rw [Int.toNat_natCast, List.getD_eq_getElem?_getD, List.getElem?_eq_getElem h]; rfl
theorem wf_small {n : Int} (h : 1 ≤ n ∧ n ≤ 2147483647) : (Lit.int .i64 n).wf = true := by
  have e1 : IntKind.i64.min = -9223372036854775808 := rfl
  have e2 : IntKind.i64.max = 9223372036854775807 := rfl
  simp [Lit.wf, e1, e2]
  omega
theorem okIds_rising {α : Type} (g : α → Int) : ∀ (l : List α) (p : Int), okIds p (l.map g) → Rising g l ∧ ∀ x ∈ l, p < g x ∧ 1 ≤ g x ∧ g x ≤ 2147483647
  | [], _, _ => ⟨List.Pairwise.nil, fun x hx => by simp at hx⟩
  | x :: l, p, h => by
    obtain ⟨h1, h2⟩ := h
    have h3 := (idE_iff _ _).1 h1
    obtain ⟨h4, h5⟩ := okIds_rising g l (g x) h2
    refine ⟨List.pairwise_cons.2 ⟨fun y hy => (h5 y hy).1, h4⟩, fun y hy => ?_⟩
    rcases List.mem_cons.1 hy with rfl | hy
    · omega
    · have := h5 y hy; omega
theorem chk_good {l0 : List S42} {l1 : List S45} {l2 : List S48} (h : chk l0 l1 l2 = 0) : GD l0 l1 l2 = true := by
  obtain ⟨h1, h2, h3, h4⟩ := (chk_iff _ _ _).1 h
  obtain ⟨r0, b0⟩ := okIds_rising (fun x : S42 => x.f0) l0 0 ((ngo_iff _ _).1 h2).1
  obtain ⟨r1, b1⟩ := okIds_rising (fun x : S45 => x.f0) l1 0 ((wgo_iff _ _ _).1 h3).1
  obtain ⟨r2, b2⟩ := okIds_rising (fun x : S48 => x.f0) l2 0 ((rgo_iff _ _ _ _).1 h4).1
  unfold GD
  simp only [Bool.and_eq_true, decide_eq_true_eq, List.all_eq_true]
  exact ⟨⟨⟨⟨⟨⟨h1, r0⟩, r1⟩, r2⟩, fun x hx => wf_small (b0 x hx).2⟩, fun x hx => wf_small (b1 x hx).2⟩, fun x hx => wf_small (b2 x hx).2⟩
theorem apAll_append : ∀ (xs ys : List S50) (l0 : List S42) (l1 : List S45) (l2 : List S48), (apAll xs l0 l1 l2).2.2.2 = 0 → apAll (xs ++ ys) l0 l1 l2 = apAll ys (apAll xs l0 l1 l2).1 (apAll xs l0 l1 l2).2.1 (apAll xs l0 l1 l2).2.2.1
  | [], ys, l0, l1, l2, _ => rfl
  | x :: xs, ys, l0, l1, l2, h => by
    rw [List.cons_append]
    by_cases he : apE x l0 l1 l2 = 0
    · have e1 : ∀ zs, apAll (x :: zs) l0 l1 l2 = apAll zs (ap0 x l0) (ap1 x l1) (ap2 x l2) := fun zs => by rw [apAll, if_pos he]
      rw [e1] at h ⊢
      rw [e1]
      exact apAll_append xs ys _ _ _ h
    · rw [apAll, if_neg he] at h
      exact absurd h he
theorem ap0_mem {x : S50} {l : List S42} {y : S42} (h : y ∈ ap0 x l) : y ∈ l ∨ y = x.f2 := by
  unfold ap0 at h
  split at h
  · split at h
    · exact .inl (List.mem_filter.1 h).1
    · rcases mem_ins.1 h with h | h
      · exact .inr h
      · exact .inl h.1
  · exact .inl h
theorem ap1_mem {x : S50} {l : List S45} {y : S45} (h : y ∈ ap1 x l) : y ∈ l ∨ y = x.f3 := by
  unfold ap1 at h
  split at h
  · split at h
    · exact .inl (List.mem_filter.1 h).1
    · rcases mem_ins.1 h with h | h
      · exact .inr h
      · exact .inl h.1
  · exact .inl h
theorem ap2_mem {x : S50} {l : List S48} {y : S48} (h : y ∈ ap2 x l) : y ∈ l ∨ y = x.f4 := by
  unfold ap2 at h
  split at h
  · split at h
    · exact .inl (List.mem_filter.1 h).1
    · rcases mem_ins.1 h with h | h
      · exact .inr h
      · exact .inl h.1
  · exact .inl h
def WfE (l0 : List S42) (l1 : List S45) (l2 : List S48) : Prop := (∀ y ∈ l0, wf42 y) ∧ (∀ y ∈ l1, wf45 y) ∧ ∀ y ∈ l2, wf48 y
def BdE (B : Nat) (l0 : List S42) (l1 : List S45) (l2 : List S48) : Prop := l0.length ≤ B ∧ l1.length ≤ B ∧ l2.length ≤ B
def RsE (l0 : List S42) (l1 : List S45) (l2 : List S48) : Prop := Rising (fun x : S42 => x.f0) l0 ∧ Rising (fun x : S45 => x.f0) l1 ∧ Rising (fun x : S48 => x.f0) l2
theorem len_ap {x : S50} {B : Nat} {l0 : List S42} {l1 : List S45} {l2 : List S48} (h : BdE B l0 l1 l2) (hr : RsE l0 l1 l2) : BdE (B + 1) (ap0 x l0) (ap1 x l1) (ap2 x l2) ∧ RsE (ap0 x l0) (ap1 x l1) (ap2 x l2) := by
  have a := ap0_ok (x := x) hr.1
  have b := ap1_ok (x := x) hr.2.1
  have c := ap2_ok (x := x) hr.2.2
  obtain ⟨h0, h1, h2⟩ := h
  exact ⟨⟨by omega, by omega, by omega⟩, a.1, b.1, c.1⟩
theorem apAll_wf : ∀ (l : List S50) (B : Nat) (l0 : List S42) (l1 : List S45) (l2 : List S48), WfE l0 l1 l2 → BdE B l0 l1 l2 → RsE l0 l1 l2 → (∀ c ∈ l, wf50 c) → WfE (apAll l l0 l1 l2).1 (apAll l l0 l1 l2).2.1 (apAll l l0 l1 l2).2.2.1 ∧ BdE (B + l.length) (apAll l l0 l1 l2).1 (apAll l l0 l1 l2).2.1 (apAll l l0 l1 l2).2.2.1
  | [], B, l0, l1, l2, hw, hb, _, _ => ⟨hw, hb⟩
  | x :: l, B, l0, l1, l2, hw, hb, hr, hc => by
    by_cases he : apE x l0 l1 l2 = 0
    · rw [apAll, if_pos he]
      have hx := hc x (List.mem_cons_self ..)
      obtain ⟨hb2, hr2⟩ := len_ap (x := x) hb hr
      have h := apAll_wf l (B + 1) (ap0 x l0) (ap1 x l1) (ap2 x l2) ⟨fun y hy => (ap0_mem hy).elim (hw.1 y) (fun e => e ▸ hx.2.2.1), fun y hy => (ap1_mem hy).elim (hw.2.1 y) (fun e => e ▸ hx.2.2.2.1), fun y hy => (ap2_mem hy).elim (hw.2.2 y) (fun e => e ▸ hx.2.2.2.2)⟩ hb2 hr2 (fun c h => hc c (List.mem_cons_of_mem _ h))
      refine ⟨h.1, ?_⟩
      rw [List.length_cons, show B + (l.length + 1) = B + 1 + l.length by omega]
      exact h.2
    · rw [apAll, if_neg he]
      exact ⟨⟨fun y hy => by simp at hy, fun y hy => by simp at hy, fun y hy => by simp at hy⟩, Nat.zero_le _, Nat.zero_le _, Nat.zero_le _⟩
theorem apAll_ok : ∀ (l : List S50) (l0 : List S42) (l1 : List S45) (l2 : List S48), (apAll l l0 l1 l2).2.2.2 = 0 → ∀ c ∈ l, okC c = true
  | [], _, _, _, _ => fun c hc => by simp at hc
  | x :: l, l0, l1, l2, h => by
    by_cases he : apE x l0 l1 l2 = 0
    · rw [apAll, if_pos he] at h
      intro c hc
      rcases List.mem_cons.1 hc with rfl | hc
      · unfold apE at he
        by_cases ho : okC c = true
        · exact ho
        · rw [if_neg ho] at he
          exact absurd he (by decide)
      · exact apAll_ok l _ _ _ h c hc
    · rw [apAll, if_neg he] at h
      exact absurd h he
def res3 (r : List S42 × List S45 × List S48 × Int) : Int := chk r.1 r.2.1 r.2.2.1
def applyV (l0 : List S42) (l1 : List S45) (l2 : List S48) (l : List S50) : List S42 × List S45 × List S48 × Int :=
  if chk l0 l1 l2 = 0 then (if (apAll l l0 l1 l2).2.2.2 = 0 then (if res3 (apAll l l0 l1 l2) = 0 then ((apAll l l0 l1 l2).1, (apAll l l0 l1 l2).2.1, (apAll l l0 l1 l2).2.2.1, 0) else ([], [], [], res3 (apAll l l0 l1 l2))) else ([], [], [], (apAll l l0 l1 l2).2.2.2)) else ([], [], [], chk l0 l1 l2)
theorem wf26_of {B : Nat} {l0 : List S42} {l1 : List S45} {l2 : List S48} (hw : WfE l0 l1 l2) (hb : BdE B l0 l1 l2) (hB : B ≤ 1000000) : wf26 ⟨l0, l1, l2⟩ := by
  obtain ⟨h0, h1, h2⟩ := hb
  exact ⟨⟨by show l0.length ≤ _; omega, hw.1⟩, ⟨by show l1.length ≤ _; omega, hw.2.1⟩, ⟨by show l2.length ≤ _; omega, hw.2.2⟩⟩
theorem GC_of {l : List S50} (h : ∀ c ∈ l, wf50 c) : GC l = true := by
  unfold GC
  simp only [List.all_eq_true, Bool.and_eq_true]
  exact fun x hx => ⟨⟨(h x hx).2.2.1.1, (h x hx).2.2.2.1.1⟩, (h x hx).2.2.2.2.1⟩
theorem chk_parts {l0 : List S42} {l1 : List S45} {l2 : List S48} (h : chk l0 l1 l2 = 0) : BdE 10000 l0 l1 l2 ∧ RsE l0 l1 l2 := by
  have h2 := GD_out (chk_good h)
  exact ⟨h2.1, h2.2.1⟩
theorem apply_ev {B : Nat} (l0 : List S42) (l1 : List S45) (l2 : List S48) (l : List S50) (hw : WfE l0 l1 l2) (hb : BdE B l0 l1 l2) (hB : B ≤ 1000000) (hl : l.length ≤ 20) (hc : ∀ c ∈ l, wf50 c) : Ev (fun k => change_Apply.f k l0 l1 l2 l) (applyV l0 l1 l2 l) := by
  unfold change_Apply.f applyV
  refine Ev.bind (prog_check l0 l1 l2 (wfD_of ⟨l0, l1, l2⟩ (wf26_of hw hb hB))) ?_
  by_cases hk : chk l0 l1 l2 = 0
  · simp only [if_pos hk, if_neg (show ¬ 10000 < l.length by omega)]
    have hg : (GD l0 l1 l2 && GC l) = true := by rw [chk_good hk, GC_of hc]; rfl
    simp only [if_pos hg]
    obtain ⟨hb0, hr0⟩ := chk_parts hk
    obtain ⟨hw2, hb2⟩ := apAll_wf l 10000 l0 l1 l2 hw hb0 hr0 hc
    generalize apAll l l0 l1 l2 = r at *
    by_cases he : r.2.2.2 = 0
    · simp only [if_pos he]
      refine Ev.bind (prog_check r.1 r.2.1 r.2.2.1 (wfD_of ⟨r.1, r.2.1, r.2.2.1⟩ (wf26_of hw2 hb2 (by omega)))) ?_
      show Ev (fun k => if res3 r = 0 then _ else _) _
      by_cases h3 : res3 r = 0
      · simp only [if_pos h3]; exact Ev.now _
      · simp only [if_neg h3]; exact Ev.now _
    · simp only [if_neg he]; exact Ev.now _
  · simp only [if_neg hk]; exact Ev.now _
theorem apply_zero {l0 : List S42} {l1 : List S45} {l2 : List S48} {l : List S50} (h : (applyV l0 l1 l2 l).2.2.2 = 0) : chk l0 l1 l2 = 0 ∧ (apAll l l0 l1 l2).2.2.2 = 0 ∧ res3 (apAll l l0 l1 l2) = 0 ∧ applyV l0 l1 l2 l = ((apAll l l0 l1 l2).1, (apAll l l0 l1 l2).2.1, (apAll l l0 l1 l2).2.2.1, 0) := by
  unfold applyV at h ⊢
  by_cases hk : chk l0 l1 l2 = 0
  · rw [if_pos hk] at h ⊢
    by_cases he : (apAll l l0 l1 l2).2.2.2 = 0
    · rw [if_pos he] at h ⊢
      by_cases h3 : res3 (apAll l l0 l1 l2) = 0
      · rw [if_pos h3] at h ⊢
        exact ⟨hk, he, h3, rfl⟩
      · rw [if_neg h3] at h; exact absurd h h3
    · rw [if_neg he] at h; exact absurd h he
  · rw [if_neg hk] at h; exact absurd h hk
theorem apply_join {l0 : List S42} {l1 : List S45} {l2 : List S48} {xs ys : List S50} (h : (applyV l0 l1 l2 xs).2.2.2 = 0) : applyV (applyV l0 l1 l2 xs).1 (applyV l0 l1 l2 xs).2.1 (applyV l0 l1 l2 xs).2.2.1 ys = applyV l0 l1 l2 (xs ++ ys) := by
  obtain ⟨h1, h2, h3, h4⟩ := apply_zero h
  rw [h4]
  dsimp only
  unfold applyV
  rw [if_pos h1, if_pos (show chk (apAll xs l0 l1 l2).1 (apAll xs l0 l1 l2).2.1 (apAll xs l0 l1 l2).2.2.1 = 0 from h3), apAll_append xs ys l0 l1 l2 h2]
theorem ap_i42 {c : S50} {l : List S42} {b : Int} : b ∈ i42 (ap0 c l) ↔ if c.f1 = 1 then (if c.f0 = 2 then b ∈ i42 l ∧ b ≠ chID c else b ∈ i42 l ∨ b = chID c) else b ∈ i42 l := by
  unfold ap0 i42
  by_cases h1 : c.f1 = 1
  · have hid : chID c = c.f2.f0 := by unfold chID; rw [if_pos h1]
    rw [if_pos h1, if_pos h1]
    by_cases h2 : c.f0 = 2
    · rw [if_pos h2, if_pos h2]
      simp only [List.mem_map, List.mem_filter, bne_iff_ne, ne_eq]
      exact ⟨fun ⟨x, ⟨hx, hn⟩, e⟩ => ⟨⟨x, hx, e⟩, fun e2 => hn (by rw [e, e2])⟩, fun ⟨⟨x, hx, e⟩, hn⟩ => ⟨x, ⟨hx, fun e2 => hn (by rw [← e, e2])⟩, e⟩⟩
    · rw [if_neg h2, if_neg h2, hid]
      simp only [List.mem_map, mem_ins]
      constructor
      · rintro ⟨x, rfl | ⟨hx, _⟩, rfl⟩
        · exact .inr rfl
        · exact .inl ⟨x, hx, rfl⟩
      · rintro (⟨x, hx, rfl⟩ | rfl)
        · by_cases e : x.f0 = c.f2.f0
          · exact ⟨c.f2, .inl rfl, e.symm⟩
          · exact ⟨x, .inr ⟨hx, e⟩, rfl⟩
        · exact ⟨c.f2, .inl rfl, rfl⟩
  · rw [if_neg h1, if_neg h1]
theorem ap_i45 {c : S50} {l : List S45} {b : Int} : b ∈ i45 (ap1 c l) ↔ if c.f1 = 2 then (if c.f0 = 2 then b ∈ i45 l ∧ b ≠ chID c else b ∈ i45 l ∨ b = chID c) else b ∈ i45 l := by
  unfold ap1 i45
  by_cases h1 : c.f1 = 2
  · have hid : chID c = c.f3.f0 := by unfold chID; rw [if_neg (by omega), if_pos h1]
    rw [if_pos h1, if_pos h1]
    by_cases h2 : c.f0 = 2
    · rw [if_pos h2, if_pos h2]
      simp only [List.mem_map, List.mem_filter, bne_iff_ne, ne_eq]
      exact ⟨fun ⟨x, ⟨hx, hn⟩, e⟩ => ⟨⟨x, hx, e⟩, fun e2 => hn (by rw [e, e2])⟩, fun ⟨⟨x, hx, e⟩, hn⟩ => ⟨x, ⟨hx, fun e2 => hn (by rw [← e, e2])⟩, e⟩⟩
    · rw [if_neg h2, if_neg h2, hid]
      simp only [List.mem_map, mem_ins]
      constructor
      · rintro ⟨x, rfl | ⟨hx, _⟩, rfl⟩
        · exact .inr rfl
        · exact .inl ⟨x, hx, rfl⟩
      · rintro (⟨x, hx, rfl⟩ | rfl)
        · by_cases e : x.f0 = c.f3.f0
          · exact ⟨c.f3, .inl rfl, e.symm⟩
          · exact ⟨x, .inr ⟨hx, e⟩, rfl⟩
        · exact ⟨c.f3, .inl rfl, rfl⟩
  · rw [if_neg h1, if_neg h1]
theorem ap_i48 {c : S50} {l : List S48} {b : Int} (hc : c.f1 = 1 ∨ c.f1 = 2 ∨ c.f1 = 3) : b ∈ i48 (ap2 c l) ↔ if c.f1 = 3 then (if c.f0 = 2 then b ∈ i48 l ∧ b ≠ chID c else b ∈ i48 l ∨ b = chID c) else b ∈ i48 l := by
  unfold ap2 i48
  by_cases h1 : c.f1 = 3
  · have hid : chID c = c.f4.f0 := by unfold chID; rw [if_neg (by omega), if_neg (by omega)]
    rw [if_pos h1, if_pos h1]
    by_cases h2 : c.f0 = 2
    · rw [if_pos h2, if_pos h2]
      simp only [List.mem_map, List.mem_filter, bne_iff_ne, ne_eq]
      exact ⟨fun ⟨x, ⟨hx, hn⟩, e⟩ => ⟨⟨x, hx, e⟩, fun e2 => hn (by rw [e, e2])⟩, fun ⟨⟨x, hx, e⟩, hn⟩ => ⟨x, ⟨hx, fun e2 => hn (by rw [← e, e2])⟩, e⟩⟩
    · rw [if_neg h2, if_neg h2, hid]
      simp only [List.mem_map, mem_ins]
      constructor
      · rintro ⟨x, rfl | ⟨hx, _⟩, rfl⟩
        · exact .inr rfl
        · exact .inl ⟨x, hx, rfl⟩
      · rintro (⟨x, hx, rfl⟩ | rfl)
        · by_cases e : x.f0 = c.f4.f0
          · exact ⟨c.f4, .inl rfl, e.symm⟩
          · exact ⟨x, .inr ⟨hx, e⟩, rfl⟩
        · exact ⟨c.f4, .inl rfl, rfl⟩
  · rw [if_neg h1, if_neg h1]
def Hs (l0 : List S42) (l1 : List S45) (l2 : List S48) (a b : Int) : Prop := (a = 1 ∧ b ∈ i42 l0) ∨ (a = 2 ∧ b ∈ i45 l1) ∨ (a = 3 ∧ b ∈ i48 l2)
theorem hasV_iff (l0 : List S42) (l1 : List S45) (l2 : List S48) (a b : Int) : hasV l0 l1 l2 a b = true ↔ Hs l0 l1 l2 a b := by
  unfold hasV Hs
  by_cases h1 : a = 1
  · simp [h1]
  · by_cases h2 : a = 2
    · simp [h2]
    · rw [if_neg h1, if_neg h2]
      by_cases h3 : (i48 l2).contains b = true
      · rw [if_pos h3]
        have : b ∈ i48 l2 := by simpa using h3
        simp [h1, h2, this]
      · rw [if_neg h3]
        have : b ∉ i48 l2 := by simpa using h3
        simp [h1, h2, this]
theorem okC_parts {c : S50} (h : okC c = true) : (c.f0 = 1 ∨ c.f0 = 2) ∧ (c.f1 = 1 ∨ c.f1 = 2 ∨ c.f1 = 3) := by
  simp only [okC, decide_eq_true_eq] at h
  omega
theorem has_other {c : S50} (hc : okC c = true) {l0 : List S42} {l1 : List S45} {l2 : List S48} {a b : Int} (h : ¬ (c.f1 = a ∧ chID c = b)) : Hs (ap0 c l0) (ap1 c l1) (ap2 c l2) a b ↔ Hs l0 l1 l2 a b := by
  obtain ⟨_, hk⟩ := okC_parts hc
  unfold Hs
  rw [ap_i42, ap_i45, ap_i48 hk]
  have h1 : ∀ n : Int, a = n → c.f1 = n → b ≠ chID c := fun n e1 e2 e3 => h ⟨by omega, e3.symm⟩
  refine or_congr ?_ (or_congr ?_ ?_)
  · refine and_congr_right fun ha => ?_
    split
    · rename_i hf
      have := h1 1 ha hf
      split <;> simp [this]
    · exact Iff.rfl
  · refine and_congr_right fun ha => ?_
    split
    · rename_i hf
      have := h1 2 ha hf
      split <;> simp [this]
    · exact Iff.rfl
  · refine and_congr_right fun ha => ?_
    split
    · rename_i hf
      have := h1 3 ha hf
      split <;> simp [this]
    · exact Iff.rfl
theorem has_self {c : S50} (hc : okC c = true) {l0 : List S42} {l1 : List S45} {l2 : List S48} : Hs (ap0 c l0) (ap1 c l1) (ap2 c l2) c.f1 (chID c) ↔ c.f0 = 1 := by
  obtain ⟨ho, hk⟩ := okC_parts hc
  unfold Hs
  rw [ap_i42, ap_i45, ap_i48 hk]
  rcases hk with hk | hk | hk <;> rcases ho with ho | ho <;> simp [hk, ho]
theorem has_keep : ∀ (xs : List S50) (l0 : List S42) (l1 : List S45) (l2 : List S48) (a b : Int), (apAll xs l0 l1 l2).2.2.2 = 0 → (∀ y ∈ xs, ¬ (y.f1 = a ∧ chID y = b)) → (Hs (apAll xs l0 l1 l2).1 (apAll xs l0 l1 l2).2.1 (apAll xs l0 l1 l2).2.2.1 a b ↔ Hs l0 l1 l2 a b)
  | [], l0, l1, l2, a, b, _, _ => Iff.rfl
  | x :: xs, l0, l1, l2, a, b, h, hn => by
    have hx := apAll_ok _ _ _ _ h x (List.mem_cons_self ..)
    by_cases he : apE x l0 l1 l2 = 0
    · rw [apAll, if_pos he] at h ⊢
      exact (has_keep xs _ _ _ a b h (fun y hy => hn y (List.mem_cons_of_mem _ hy))).trans (has_other hx (hn x (List.mem_cons_self ..)))
    · rw [apAll, if_neg he] at h
      exact absurd h he
theorem has_last (l : List S50) (l0 : List S42) (l1 : List S45) (l2 : List S48) (i : Nat) (hi : i < l.length) (h : (apAll l l0 l1 l2).2.2.2 = 0) (hn : ∀ n, i < n → (hnl : n < l.length) → ¬ (l[n].f1 = l[i].f1 ∧ chID l[n] = chID l[i])) : Hs (apAll l l0 l1 l2).1 (apAll l l0 l1 l2).2.1 (apAll l l0 l1 l2).2.2.1 l[i].f1 (chID l[i]) ↔ l[i].f0 = 1 := by
  have hok := apAll_ok _ _ _ _ h l[i] (List.getElem_mem hi)
  have e : l = l.take i ++ l[i] :: l.drop (i + 1) := by rw [← List.drop_eq_getElem_cons hi, List.take_append_drop]
  have hz : (apAll (l.take i) l0 l1 l2).2.2.2 = 0 := by
    have go : ∀ (xs ys : List S50) (l0 : List S42) (l1 : List S45) (l2 : List S48), (apAll (xs ++ ys) l0 l1 l2).2.2.2 = 0 → (apAll xs l0 l1 l2).2.2.2 = 0 := by
      intro xs
      induction xs with
      | nil => intro _ _ _ _ _; rfl
      | cons x xs ih =>
        intro ys l0 l1 l2 h
        rw [List.cons_append] at h
        by_cases he : apE x l0 l1 l2 = 0
        · rw [apAll, if_pos he] at h ⊢
          exact ih ys _ _ _ h
        · rw [apAll, if_neg he] at h
          exact absurd h he
    exact go _ (l[i] :: l.drop (i + 1)) l0 l1 l2 (by rw [← e]; exact h)
  have h2 : apAll l l0 l1 l2 = apAll (l[i] :: l.drop (i + 1)) (apAll (l.take i) l0 l1 l2).1 (apAll (l.take i) l0 l1 l2).2.1 (apAll (l.take i) l0 l1 l2).2.2.1 := by
    have := apAll_append (l.take i) (l[i] :: l.drop (i + 1)) l0 l1 l2 hz
    rwa [← e] at this
  rw [h2] at h ⊢
  generalize (apAll (l.take i) l0 l1 l2).1 = c0 at *
  generalize (apAll (l.take i) l0 l1 l2).2.1 = c1 at *
  generalize (apAll (l.take i) l0 l1 l2).2.2.1 = c2 at *
  by_cases he : apE l[i] c0 c1 c2 = 0
  · rw [apAll, if_pos he] at h ⊢
    refine (has_keep _ _ _ _ _ _ h (fun y hy => ?_)).trans (has_self hok)
    obtain ⟨j, hj, rfl⟩ := List.getElem_of_mem hy
    rw [List.getElem_drop]
    have hj2 : j < l.length - (i + 1) := by simpa using hj
    exact hn (i + 1 + j) (by omega) (by omega)
  · rw [apAll, if_neg he] at h
    exact absurd h he
end Go.Proofs.Ytijoaohckgbneaa.Pure
