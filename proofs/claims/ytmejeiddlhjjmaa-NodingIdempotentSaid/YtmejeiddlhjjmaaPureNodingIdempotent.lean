/- NodingIdempotent: what is divided stays as it is; no two pieces overlap; the ends are given ends. -/
import Derived.Test.YtmejeiddlhjjmaaPureDivNodingIdempotent
namespace Go.Proofs.Ytmejeiddlhjjmaa.Pure
open Go.RowKit Go.Proofs.Ytmejeiddlhjjmaa.PNodingIdempotent Go.Proofs.YtmejeiddlhjjmaaW.PrintWords Go.Proofs.YtmejeiddlhjjmaaW.PrintLast
set_option linter.unusedVariables false
set_option linter.unusedSimpArgs false

theorem end_loop (l : List S35) (hl : l.length ≤ 1000000) (p : S33) (d : Nat) : ∀ (k i : Nat), i ≤ l.length → l.length - i = d → d < k → (∃ s ∈ l.drop i, p = s.f0 ∨ p = s.f1) → mapmakerlaw20_end.l0 k l (i : Int) p.f0 p.f1 = some true := by
  induction d with
  | zero =>
    intro k i hi hd hk h
    rw [List.drop_eq_nil_of_le (by omega)] at h
    obtain ⟨s, hs, _⟩ := h
    exact absurd hs (by simp)
  | succ d ih =>
    intro k i hi hd hk h
    cases k with
    | zero => omega
    | succ k =>
      have hlt : i < l.length := by omega
      simp only [mapmakerlaw20_end.l0]
      rw [if_pos (by omega), if_pos (by omega), rd35 l i hlt]
      rw [List.drop_eq_getElem_cons hlt] at h
      by_cases c1 : eqs33 l[i].f0 p = true
      · rw [if_pos (show (l[i].f0.f0 == p.f0 && (l[i].f0.f1 == p.f1)) = true from c1)]
      · rw [if_neg (show ¬ (l[i].f0.f0 == p.f0 && (l[i].f0.f1 == p.f1)) = true from c1)]
        by_cases c2 : eqs33 l[i].f1 p = true
        · rw [if_pos (show (l[i].f1.f0 == p.f0 && (l[i].f1.f1 == p.f1)) = true from c2)]
        · rw [if_neg (show ¬ (l[i].f1.f0 == p.f0 && (l[i].f1.f1 == p.f1)) = true from c2), wrap_succ i (by omega)]
          refine ih k (i + 1) (by omega) (by omega) (by omega) ?_
          obtain ⟨s, hs, he⟩ := h
          rcases List.mem_cons.1 hs with rfl | hs
          · rcases he with e | e
            · exact absurd ((eqs33_iff _ _).2 e.symm) c1
            · exact absurd ((eqs33_iff _ _).2 e.symm) c2
          · exact ⟨s, hs, he⟩
theorem end_true (l : List S35) (hl : l.length ≤ 1000000) (p : S33) (h : p ∈ noding_Split.ends l) (k : Nat) (hk : l.length < k) : mapmakerlaw20_end.f k l p.f0 p.f1 = some true := by
  unfold mapmakerlaw20_end.f
  exact end_loop l hl p l.length k 0 (by omega) rfl hk (by rw [List.drop_zero]; exact (mem_ends l p).1 h)
theorem less_end {s : S35} (h : Seg s) : mapmakerref09_Less.f s.f0.f0 s.f0.f1 s.f0.f0 s.f0.f1 s.f0.f0 s.f0.f1 s.f1.f0 s.f1.f1 = some true := by
  unfold mapmakerref09_Less.f
  rw [if_neg (by simp), rLess_some, lt_cd h.a h.b, Option.bind_some, decide_eq_true h.lt]
theorem idLoop (S C : List S35) (hS : ∀ s ∈ S, Seg s) (hl : S.length ≤ 100000) (hC : C.length ≤ 100000) (hE : ∀ s ∈ S, s.f0 ∈ noding_Split.ends C ∧ s.f1 ∈ noding_Split.ends C) (hO : ∀ s ∈ S, ∀ t ∈ S, s ≠ t → ¬ Ov s t) (hlv : ∀ k, 100 ≤ k → mapmakerlaw20_lives.f k = some true) (d : Nat) :
    ∀ (k i : Nat), i ≤ S.length → S.length - i = d → 200000 + 300000 * d ≤ k → mapmakerlaw20_NodingIdempotent.l0 k S C (i : Int) = some true := by
  induction d with
  | zero =>
    intro k i hi hd hk
    cases k with
    | zero => omega
    | succ k =>
      simp only [mapmakerlaw20_NodingIdempotent.l0]
      rw [if_neg (by omega), hlv k (by omega)]
      rfl
  | succ d ih =>
    intro k i hi hd hk
    have hlt : i < S.length := by omega
    have hs := hS S[i] (List.getElem_mem hlt)
    have hin : ∀ (e kk j : Nat), j ≤ i → i - j = e → 200000 + 300000 * d + 2 * e + 2 ≤ kk → mapmakerlaw20_NodingIdempotent.l1 kk S C (i : Int) (j : Int) = some true := by
      intro e
      induction e with
      | zero =>
        intro kk j hj hje hkk
        cases kk with
        | zero => omega
        | succ kk =>
          simp only [mapmakerlaw20_NodingIdempotent.l1]
          rw [if_neg (by omega)]
          cases kk with
          | zero => omega
          | succ kk =>
            simp only [mapmakerlaw20_NodingIdempotent.j3]
            rw [if_neg (by simp), wrap_succ i (by omega)]
            exact ih kk (i + 1) (by omega) (by omega) (by omega)
      | succ e ihe =>
        intro kk j hj hje hkk
        cases kk with
        | zero => omega
        | succ kk =>
          simp only [mapmakerlaw20_NodingIdempotent.l1]
          rw [if_pos (by omega)]
          cases kk with
          | zero => omega
          | succ kk =>
            have hjt : j < S.length := by omega
            have ht := hS S[j] (List.getElem_mem hjt)
            simp only [mapmakerlaw20_NodingIdempotent.j3]
            by_cases c80 : (S.length : Int) ≤ 80
            · rw [decide_eq_true c80, if_pos rfl, if_pos (by omega), if_pos (by omega), if_pos (by omega), if_pos (by omega), rd35 S i hlt, rd35 S j hjt, wrap_succ j (by omega)]
              have hgo := ihe kk (j + 1) (by omega) (by omega) (by omega)
              by_cases cn : S[i] = S[j]
              · rw [if_neg (fun h => (ne35 _ _).1 h cn), hgo]
              · rw [if_pos ((ne35 _ _).2 cn), rRelV hs ht kk (by omega), Option.bind_some]
                have h3 : relV S[i] S[j] ≠ 3 := fun h => hO _ (List.getElem_mem hlt) _ (List.getElem_mem hjt) cn (relV_three hs ht h)
                rw [if_neg h3, hgo]
            · rw [decide_eq_false c80, if_neg (by simp), wrap_succ i (by omega)]
              exact ih kk (i + 1) (by omega) (by omega) (by omega)
    cases k with
    | zero => omega
    | succ k =>
      obtain ⟨e1, e2⟩ := hE _ (List.getElem_mem hlt)
      simp only [mapmakerlaw20_NodingIdempotent.l0]
      rw [if_pos (by omega), if_pos (by omega), rd35 S i hlt, end_true C (by omega) _ e1 k (by omega), Option.bind_some, if_pos rfl, end_true C (by omega) _ e2 k (by omega), Option.bind_some, if_pos rfl, less_end hs, Option.bind_some]
      cases k with
      | zero => omega
      | succ k =>
        simp only [Bool.not_true, mapmakerlaw20_NodingIdempotent.j1]
        rw [if_neg (by simp)]
        exact hin i k 0 (by omega) rfl (by omega)
theorem NodingIdempotent : mapmakerlaw20_NodingIdempotent.Pure := by
  intro l h
  refine ⟨900000000, ?_⟩
  unfold mapmakerlaw20_NodingIdempotent.f
  rw [few_some, Option.bind_some]
  by_cases hf : (l.length : Int) ≤ 24
  · obtain ⟨E, hE, hEl, hg, hm, h1⟩ := nSplitX l (by omega) 900000000 (by omega)
    have hcl := canonP_length l
    have hfl := flat_length E hEl (canonP l)
    obtain ⟨f1, f2, f3⟩ := divs E hE hg (canonP l) (canon_seg l) hm
    have hlen : (sortS ((canonP l).flatMap (pcs E))).length ≤ 2500 := by rw [sortS_length]; omega
    have h2 := nSplitE (sortS ((canonP l).flatMap (pcs E))) (by omega) E hE hEl (by rw [canonP_id _ f1]; exact f2) 900000000 (by omega)
    rw [canonP_id _ f1, divs_same E hE hg (canonP l) (canon_seg l)] at h2
    rw [decide_eq_true hf, if_pos rfl, h1, Option.bind_some, nSort l (by omega) _ (by omega), Option.bind_some, h2, Option.bind_some, same _ (by omega) _ (by omega), Option.bind_some, if_pos rfl]
    refine idLoop _ _ f1 (by omega) (by rw [sortS_length]; omega) (fun s hs => ?_) f3 (fun k hk => lives 100 livesAll k hk) _ 900000000 0 (by omega) rfl (by omega)
    have hme : ∀ q, q ∈ noding_Split.ends (canonP l) → q ∈ noding_Split.ends (sortS (canonP l)) := fun q hq => by
      obtain ⟨t, ht, e⟩ := (mem_ends _ q).1 hq
      exact (mem_ends _ q).2 ⟨t, (sortS_perm _).mem_iff.2 ht, e⟩
    exact ⟨hme _ ((hm _).1 ((f2 _).2 ((mem_ends _ _).2 ⟨s, hs, Or.inl rfl⟩))), hme _ ((hm _).1 ((f2 _).2 ((mem_ends _ _).2 ⟨s, hs, Or.inr rfl⟩)))⟩
  · rw [decide_eq_false hf, if_neg (by simp), lives 100 livesAll 900000000 (by omega)]
    rfl
end Go.Proofs.Ytmejeiddlhjjmaa.Pure
