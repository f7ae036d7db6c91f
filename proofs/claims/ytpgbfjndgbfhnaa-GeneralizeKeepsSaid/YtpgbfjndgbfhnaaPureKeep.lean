/- c26, plain: what a simplified line keeps. -/
import Derived.Test.YtpgbfjndgbfhnaaPureLines
namespace Go.Proofs.Ytpgbfjndgbfhnaa.Pure
open Go.RowKit Go.Proofs.Ytpgbfjndgbfhnaa.PAll Go.Proofs.YtpgbfjndgbfhnaaW.PrintWords Go.Proofs.YtpgbfjndgbfhnaaW.PrintLast
set_option linter.unusedVariables false
set_option linter.unusedSimpArgs false
inductive Sub (fx : List S40) : List S40 → List Int → List S40 → List Int → Prop
  | nil : Sub fx [] [] [] []
  | keep {p n p' n'} (a : S40) (m : Int) : Sub fx p n p' n' → Sub fx (a :: p) (m :: n) (a :: p') (m :: n')
  | drop {p n p' n'} (a : S40) (m : Int) : a ∉ fx → Sub fx p n p' n' → Sub fx (a :: p) (m :: n) p' n'
theorem sub_refl (fx : List S40) : ∀ (p : List S40) (n : List Int), p.length = n.length → Sub fx p n p n
  | [], [], _ => .nil
  | a :: p, m :: n, h => .keep a m (sub_refl fx p n (by simpa using h))
theorem sub_cut {fx : List S40} {p : List S40} {n : List Int} {p' : List S40} {n' : List Int} (h : Sub fx p n p' n') : ∀ i, i < p'.length → p'.getD i z40 ∉ fx → Sub fx p n (p'.take i ++ p'.drop (i + 1)) (n'.take i ++ n'.drop (i + 1)) := by
  induction h with
  | nil => intro i hi; simp at hi
  | keep a m h ih =>
    intro i hi hn
    cases i with
    | zero => exact .drop a m (by simpa using hn) (by simpa using h)
    | succ i => exact .keep a m (ih i (by simpa using hi) (by simpa using hn))
  | drop a m ha h ih => exact fun i hi hn => .drop a m ha (ih i hi hn)
theorem sub_len {fx : List S40} {p : List S40} {n : List Int} {p' : List S40} {n' : List Int} (h : Sub fx p n p' n') : p'.length = n'.length ∧ p'.length ≤ p.length := by
  induction h with
  | nil => simp
  | keep a m h ih => simp; omega
  | drop a m ha h ih => simp; omega
theorem sub_mem {fx : List S40} {p : List S40} {n : List Int} {p' : List S40} {n' : List Int} (h : Sub fx p n p' n') : ∀ q ∈ p', q ∈ p := by
  induction h with
  | nil => simp
  | keep a m h ih =>
    intro q hq
    rcases List.mem_cons.1 hq with rfl | hq
    · simp
    · exact List.mem_cons_of_mem _ (ih q hq)
  | drop a m ha h ih => exact fun q hq => List.mem_cons_of_mem _ (ih q hq)
theorem sub_count {fx : List S40} {p : List S40} {n : List Int} {p' : List S40} {n' : List Int} (h : Sub fx p n p' n') (q : S40) : p'.count q ≤ p.count q ∧ (q ∈ fx → p'.count q = p.count q) := by
  induction h with
  | nil => simp
  | keep a m h ih =>
    rw [List.count_cons, List.count_cons]
    exact ⟨by omega, fun hq => by rw [ih.2 hq]⟩
  | drop a m ha h ih =>
    rw [List.count_cons]
    refine ⟨by omega, fun hq => ?_⟩
    rw [ih.2 hq, if_neg (by simp; intro e; exact ha (by rw [e]; exact hq))]
    rfl
theorem lineGo_sub (fx : List S40) (lim : Int) {P : List S40} {M : List Int} : ∀ (n : Nat) (p : List S40) (ns : List Int), Sub fx P M p ns → Sub fx P M (lineGo fx lim n p ns).1 (lineGo fx lim n p ns).2
  | 0, p, ns, h => h
  | n + 1, p, ns, h => by
    simp only [lineGo]
    split
    · exact h
    · rename_i c
      have hw := wk_ok p fx lim
      exact lineGo_sub fx lim n _ _ (sub_cut h _ (by omega) (hw.elim (fun h => absurd h (by omega)) (fun h => h.2.2)))
def EndP (l : List S40) (p : S40) : Prop := l[0]? = some p ∨ l[l.length - 1]? = some p
theorem ends_iff (l : List S40) (p : S40) : (p, true) ∈ ends l ↔ EndP l p := by
  have hl : (ends l).length = l.length := endsGo_len _ _ _
  have hg : ∀ j (h : j < l.length), (ends l)[j]? = some (l[j], decide (j = 0) || decide (j + 1 = l.length)) := by
    intro j h
    have h1 := ends_take l j h
    have h2 : (ends l).take (j + 1) = (ends l).take j ++ [(ends l)[j]'(by omega)] := List.take_succ_eq_append_getElem (by omega)
    have h3 := List.append_cancel_left (h2.symm.trans h1)
    rw [List.getElem?_eq_getElem (by omega)]
    exact congrArg some (List.cons.inj h3).1
  unfold EndP
  constructor
  · intro h
    obtain ⟨j, hj, e⟩ := List.getElem_of_mem h
    have h2 := hg j (by omega)
    rw [List.getElem?_eq_getElem hj, e] at h2
    have h3 := Option.some.inj h2
    rw [Prod.mk.injEq] at h3
    have h4 := h3.2.symm
    rw [Bool.or_eq_true, decide_eq_true_eq, decide_eq_true_eq] at h4
    rcases h4 with h4 | h4
    · subst h4; left; rw [List.getElem?_eq_getElem (by omega), h3.1]
    · right
      have e2 : l.length - 1 = j := by omega
      rw [e2, List.getElem?_eq_getElem (by omega), h3.1]
  · rintro (h | h)
    · obtain ⟨h1, e⟩ := List.getElem?_eq_some_iff.1 h
      have := hg 0 h1
      rw [e] at this
      simp at this
      exact List.mem_iff_getElem?.2 ⟨0, this⟩
    · obtain ⟨h1, e⟩ := List.getElem?_eq_some_iff.1 h
      have := hg (l.length - 1) h1
      rw [e, decide_eq_true (show l.length - 1 + 1 = l.length by omega), Bool.or_true] at this
      exact List.mem_iff_getElem?.2 ⟨l.length - 1, this⟩
theorem cut_end (l : List S40) (i : Nat) (h1 : 1 ≤ i) (h2 : i + 1 < l.length) (p : S40) : EndP (l.take i ++ l.drop (i + 1)) p ↔ EndP l p := by
  have e0 : (l.take i ++ l.drop (i + 1))[0]? = l[0]? := by
    rw [List.getElem?_append_left (by rw [List.length_take]; omega), List.getElem?_take_of_lt (by omega)]
  have e1 : (l.take i ++ l.drop (i + 1))[(l.take i ++ l.drop (i + 1)).length - 1]? = l[l.length - 1]? := by
    rw [cut_len (by omega), List.getElem?_append_right (by rw [List.length_take]; omega), List.length_take, List.getElem?_drop]
    congr 1; omega
  unfold EndP
  rw [e0, e1]
theorem lineGo_end (fx : List S40) (lim : Int) (q : S40) : ∀ (n : Nat) (p : List S40) (ns : List Int), EndP (lineGo fx lim n p ns).1 q ↔ EndP p q
  | 0, p, ns => Iff.rfl
  | n + 1, p, ns => by
    simp only [lineGo]
    split
    · exact Iff.rfl
    · have hw := wk_ok p fx lim
      rw [lineGo_end fx lim q n, cut_end p _ (by omega) (by omega)]
theorem lineGo_stop (fx : List S40) (lim : Int) : ∀ (n : Nat) (p : List S40) (ns : List Int), p.length = n → wk (lineGo fx lim n p ns).1 fx lim < 0
  | 0, p, ns, h => by
    rw [show (lineGo fx lim 0 p ns).1 = p from rfl, wk_small p fx lim (by omega)]; decide
  | n + 1, p, ns, h => by
    simp only [lineGo]
    have hw := wk_ok p fx lim
    split
    · assumption
    · exact lineGo_stop fx lim n _ _ (by rw [cut_len (by omega)]; omega)
theorem lineGo_id (fx : List S40) (lim : Int) (p : List S40) (ns : List Int) (h : wk p fx lim < 0) : ∀ n, lineGo fx lim n p ns = (p, ns)
  | 0 => rfl
  | n + 1 => by simp only [lineGo]; rw [if_pos h]
theorem L_good {fx : List S40} {lim : Int} {x : S31} (g : good x = true) : L fx lim x = ⟨x.f0, (lineGo fx lim x.f1.length x.f1 x.f2).1, (lineGo fx lim x.f1.length x.f1 x.f2).2, x.f3⟩ := by unfold L; rw [if_pos g]
theorem L_bad {fx : List S40} {lim : Int} {x : S31} (g : ¬ good x = true) : L fx lim x = x := by unfold L; rw [if_neg g]
theorem L_sub {fx : List S40} {lim : Int} {x : S31} (g : good x = true) : Sub fx x.f1 x.f2 (L fx lim x).f1 (L fx lim x).f2 := by
  rw [L_good g]
  exact lineGo_sub fx lim _ _ _ (sub_refl fx _ _ ((good_iff x).1 g).1)
theorem L_idem (fx : List S40) (lim : Int) (x : S31) : L fx lim (L fx lim x) = L fx lim x := by
  by_cases g : good x = true
  · have hs := L_sub (fx := fx) (lim := lim) g
    have g2 : good (L fx lim x) = true := (good_iff _).2 ⟨(sub_len hs).1, fun q hq => ((good_iff x).1 g).2 q (sub_mem hs q hq)⟩
    have hst := lineGo_stop fx lim x.f1.length x.f1 x.f2 rfl
    have e := L_good (fx := fx) (lim := lim) g
    rw [L_good g2]
    have hw : wk (L fx lim x).f1 fx lim < 0 := by rw [e]; exact hst
    rw [lineGo_id fx lim _ _ hw]
  · rw [L_bad g, L_bad g]
theorem L_count (fx : List S40) (lim : Int) (x : S31) (q : S40) : (L fx lim x).f1.count q ≤ x.f1.count q ∧ (q ∈ fx → (L fx lim x).f1.count q = x.f1.count q) := by
  by_cases g : good x = true
  · exact sub_count (L_sub g) q
  · rw [L_bad g]; exact ⟨Nat.le_refl _, fun _ => rfl⟩
theorem L_end (fx : List S40) (lim : Int) (x : S31) (q : S40) : EndP (L fx lim x).f1 q ↔ EndP x.f1 q := by
  by_cases g : good x = true
  · rw [L_good g]; exact lineGo_end fx lim q _ _ _
  · rw [L_bad g]
theorem L_mem (fx : List S40) (lim : Int) (x : S31) (q : S40) (h : q ∈ (L fx lim x).f1) : q ∈ x.f1 := by
  by_cases g : good x = true
  · exact sub_mem (L_sub g) q h
  · rw [L_bad g] at h; exact h
theorem L_len (fx : List S40) (lim : Int) (x : S31) : (L fx lim x).f1.length ≤ x.f1.length := by
  by_cases g : good x = true
  · exact (sub_len (L_sub g)).2
  · rw [L_bad g]; exact Nat.le_refl _
theorem pts_count (fx : List S40) (lim : Int) (q : S40) : ∀ l : List S31, (allPts (l.map (L fx lim))).count q ≤ (allPts l).count q ∧ (q ∈ fx → (allPts (l.map (L fx lim))).count q = (allPts l).count q)
  | [] => ⟨Nat.le_refl _, fun _ => rfl⟩
  | x :: l => by
    have ih := pts_count fx lim q l
    have h := L_count fx lim x q
    unfold allPts at *
    rw [List.map_cons, List.flatMap_cons, List.flatMap_cons, List.count_append, List.count_append]
    exact ⟨by omega, fun hq => by rw [ih.2 hq, h.2 hq]⟩
theorem pts_len (fx : List S40) (lim : Int) : ∀ l : List S31, (allPts (l.map (L fx lim))).length ≤ (allPts l).length
  | [] => Nat.le_refl _
  | x :: l => by
    have ih := pts_len fx lim l
    have h := L_len fx lim x
    unfold allPts at *
    rw [List.map_cons, List.flatMap_cons, List.flatMap_cons, List.length_append, List.length_append]
    omega
theorem ends_all (l : List S31) (q : S40) : (q, true) ∈ allEnds l ↔ ∃ x ∈ l, EndP x.f1 q := by
  unfold allEnds
  rw [List.mem_flatMap]
  constructor
  · rintro ⟨x, hx, h⟩; exact ⟨x, hx, (ends_iff _ _).1 h⟩
  · rintro ⟨x, hx, h⟩; exact ⟨x, hx, (ends_iff _ _).2 h⟩
theorem ends_L (fx : List S40) (lim : Int) (l : List S31) (q : S40) : (q, true) ∈ allEnds (l.map (L fx lim)) ↔ (q, true) ∈ allEnds l := by
  rw [ends_all, ends_all]
  constructor
  · rintro ⟨y, hy, h⟩
    obtain ⟨x, hx, rfl⟩ := List.mem_map.1 hy
    exact ⟨x, hx, (L_end fx lim x q).1 h⟩
  · rintro ⟨x, hx, h⟩
    exact ⟨L fx lim x, List.mem_map.2 ⟨x, hx, rfl⟩, (L_end fx lim x q).2 h⟩
theorem ok_L {l : List S31} (h : Ok l) (fx : List S40) (lim : Int) : Ok (l.map (L fx lim)) := by
  refine ⟨fun p hp => ?_, Nat.le_trans (pts_len fx lim l) h.pts, by rw [List.length_map]; exact h.len⟩
  unfold allPts at hp
  obtain ⟨y, hy, hp⟩ := List.mem_flatMap.1 hp
  obtain ⟨x, hx, rfl⟩ := List.mem_map.1 hy
  exact h.inl p (List.mem_flatMap.2 ⟨x, hx, L_mem fx lim x p hp⟩)
theorem fx_again {l : List S31} (h : Ok l) {fx : List S40} (lim : Int) (hs : Srt fx) (hm : ∀ p, p ∈ fx ↔ (vld p = true ∧ ((p, true) ∈ allEnds l ∨ 2 ≤ (allPts l).count p))) : generalize_Fixed.f (l.map (L fx lim)) = some fx := by
  obtain ⟨r, e1, e2, _, e3⟩ := nFixed (l.map (L fx lim)) (ok_L h fx lim).inl (ok_L h fx lim).pts (ok_L h fx lim).len
  rw [e1]
  refine congrArg some (srt_ext r fx e2 hs (fun p => ?_))
  rw [e3, ends_L]
  have hc := pts_count fx lim p l
  constructor
  · rintro ⟨hv, hh | hh⟩
    · exact (hm p).2 ⟨hv, .inl hh⟩
    · exact (hm p).2 ⟨hv, .inr (by omega)⟩
  · intro hp
    obtain ⟨hv, hh⟩ := (hm p).1 hp
    exact ⟨hv, hh.imp id (fun hh => by rw [hc.2 hp]; exact hh)⟩
theorem lines_again {l : List S31} (h : Ok l) {fx : List S40} (lim : Int) (hs : Srt fx) (hf : fx.length ≤ 1000000) (hm : ∀ p, p ∈ fx ↔ (vld p = true ∧ ((p, true) ∈ allEnds l ∨ 2 ≤ (allPts l).count p))) : Ev (fun k => generalize_Lines.f k (l.map (L fx lim)) lim) (l.map (L fx lim)) := by
  have := nLines (l.map (L fx lim)) lim (ok_L h fx lim) (fx_again h lim hs hm) hf
  rw [List.map_map, show (L fx lim) ∘ (L fx lim) = L fx lim from funext (fun x => L_idem fx lim x)] at this
  exact this
end Go.Proofs.Ytpgbfjndgbfhnaa.Pure
