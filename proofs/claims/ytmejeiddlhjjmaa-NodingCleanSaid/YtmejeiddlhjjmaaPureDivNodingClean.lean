/- What a division is: the pieces, that they are not divided again, that no two overlap; Relate's value. -/
import Derived.Test.YtmejeiddlhjjmaaPureSplNodingClean
namespace Go.Proofs.Ytmejeiddlhjjmaa.Pure
open Go.RowKit Go.Proofs.Ytmejeiddlhjjmaa.PNodingClean Go.Proofs.YtmejeiddlhjjmaaW.PrintWords Go.Proofs.YtmejeiddlhjjmaaW.PrintLast
set_option linter.unusedVariables false
set_option linter.unusedSimpArgs false

theorem nAllB (es : List S33) (hg : ∀ x ∈ es, onG x) (hes : es.length ≤ 100) (k : Nat) (hk : 10 < k) : ∀ (ss : List S35) (out : List S35), (∀ s ∈ ss, Seg s) → out.length + ss.length * 101 ≤ 900000 → noding_Split.all k es ss out = some (out ++ ss.flatMap (pcs es))
  | [], out, _, _ => by simp [noding_Split.all]
  | s :: ss, out, hv, hl => by
    simp at hl
    unfold noding_Split.all
    have hc := List.length_filter_le (fun p => wB p s) es
    rw [nCut (hv s List.mem_cons_self) k hk es s.f0 out hg (by omega), Option.bind_some]
    dsimp only
    rw [if_pos (by rw [List.length_append, chn_length]; omega), nAllB es hg hes k hk ss _ (fun t ht => hv t (List.mem_cons_of_mem _ ht)) (by rw [List.length_append, List.length_append, chn_length]; simp; omega)]
    rw [List.flatMap_cons, show pcs es s = chn s.f0 (es.filter (fun p => wB p s) ++ [s.f1]) from rfl, chn_last]
    simp only [List.append_assoc]
theorem flat_length (es : List S33) (hes : es.length ≤ 100) : ∀ L : List S35, (L.flatMap (pcs es)).length ≤ L.length * 101
  | [] => by simp
  | s :: L => by rw [List.flatMap_cons, List.length_append, List.length_cons]; have := pcs_length es s; have := flat_length es hes L; omega
theorem uniq_ends (l : List S35) (x : S33) : x ∈ noding_Split.ends (dd35 eqs35 (sortS (canonP l))) ↔ x ∈ noding_Split.ends (canonP l) := by
  rw [mem_ends, mem_ends]
  constructor
  · rintro ⟨s, hs, h⟩; exact ⟨s, (sortS_perm _).mem_iff.1 (dd_sub _ s hs), h⟩
  · rintro ⟨s, hs, h⟩; exact ⟨s, dd_mem _ s ((sortS_perm _).mem_iff.2 hs), h⟩
theorem canon_ends (l : List S35) (x : S33) (hx : x ∈ noding_Split.ends (canonP l)) : onG x := by
  obtain ⟨t, ht, e | e⟩ := (mem_ends _ x).1 hx
  · rw [e]; exact (canon_seg l t ht).a
  · rw [e]; exact (canon_seg l t ht).b
theorem nSplitE (l : List S35) (hl : l.length ≤ 8000) (E : List S33) (hE : Inc E) (hn : E.length ≤ 100) (hm : ∀ x, x ∈ E ↔ x ∈ noding_Split.ends (canonP l)) (k : Nat) (hk : 1000000 < k) : noding_Split.f k l = some (sortS ((canonP l).flatMap (pcs E))) := by
  have hcl := canonP_length l
  have hul := unique_length l
  have hge : ∀ x ∈ noding_Split.ends (dd35 eqs35 (sortS (canonP l))), onG x := fun x hx => canon_ends l x ((uniq_ends l x).1 hx)
  obtain ⟨e, es, h1, h2, h3, h4, h5⟩ := pts_by (noding_Split.ends (dd35 eqs35 (sortS (canonP l)))) hge (by rw [noding_Split.ends_length]; omega)
  have hes : es = E := inc_ext h3 hE (fun x => by rw [h5, hm, uniq_ends])
  subst hes
  have hg : ∀ x ∈ es, onG x := fun x hx => hge x ((h5 x).1 hx)
  have hfl := flat_length es hn (canonP l)
  have hfs : ∀ x ∈ (canonP l).flatMap (pcs es), Seg x := fun x hx => by
    obtain ⟨s, hs, hx⟩ := List.mem_flatMap.1 hx
    exact pcs_seg (canon_seg l s hs) h3 hg x hx
  unfold noding_Split.f
  rw [nUnique l (by omega) k (by omega), Option.bind_some, if_pos (by omega), h1, Option.bind_some, h2, Option.bind_some, canon l (by omega) k (by omega), Option.bind_some, nAllB es hg hn k (by omega) (canonP l) [] (canon_seg l) (by simp; omega), Option.bind_some, List.nil_append, nSort _ (by omega) k (by omega), canonP_id _ hfs]
theorem nSplitX (l : List S35) (hl : l.length ≤ 24) (k : Nat) (hk : 1000000 < k) : ∃ E, Inc E ∧ E.length ≤ 100 ∧ (∀ x ∈ E, onG x) ∧ (∀ x, x ∈ E ↔ x ∈ noding_Split.ends (canonP l)) ∧ noding_Split.f k l = some (sortS ((canonP l).flatMap (pcs E))) := by
  have hul := unique_length l
  have hge : ∀ x ∈ noding_Split.ends (dd35 eqs35 (sortS (canonP l))), onG x := fun x hx => canon_ends l x ((uniq_ends l x).1 hx)
  obtain ⟨e, es, h1, h2, h3, h4, h5⟩ := pts_by (noding_Split.ends (dd35 eqs35 (sortS (canonP l)))) hge (by rw [noding_Split.ends_length]; omega)
  rw [noding_Split.ends_length] at h4
  have hm : ∀ x, x ∈ es ↔ x ∈ noding_Split.ends (canonP l) := fun x => by rw [h5, uniq_ends]
  exact ⟨es, h3, by omega, fun x hx => hge x ((h5 x).1 hx), hm, nSplitE l (by omega) es h3 (by omega) hm k hk⟩
instance (s t : S35) : Decidable (X s t) := by unfold X; exact inferInstance
def relV (s t : S35) : Int := if X s t then 2 else fin ([s.f0, s.f1, t.f0, t.f1].foldl (stepB s t) [])
theorem rRelV {s t : S35} (hs : Seg s) (ht : Seg t) (k : Nat) (hk : 100 < k) : mapmakerref09_Relate.f k s.f0.f0 s.f0.f1 s.f1.f0 s.f1.f1 t.f0.f0 t.f0.f1 t.f1.f0 t.f1.f1 = some (relV s t) := by
  have hE : ∀ k' x, 50 < k' → x = false → mapmakerref09_Relate.j1 k' x s.f0.f0 s.f0.f1 s.f1.f0 s.f1.f1 t.f0.f0 t.f0.f1 t.f1.f0 t.f1.f1 = some (fin ([s.f0, s.f1, t.f0, t.f1].foldl (stepB s t) [])) := by
    intro k' x hk' hx
    subst hx
    cases k' with
    | zero => omega
    | succ k' =>
      simp only [mapmakerref09_Relate.j1]
      rw [if_neg (by simp)]
      exact rEnds s t hs ht [s.f0, s.f1, t.f0, t.f1] rfl (by intro e he; simp at he; rcases he with rfl | rfl | rfl | rfl <;> first | exact hs.a | exact hs.b | exact ht.a | exact ht.b) 4 0 [] k' (by omega) rfl (by simp) (by omega)
  cases k with
  | zero => omega
  | succ k =>
    cases k with
    | zero => omega
    | succ k =>
      unfold mapmakerref09_Relate.f relV
      rw [three_on hs.a hs.b ht.a, Option.bind_some, if_pos rfl, rValid_some, vB_on ht.b, Option.bind_some, if_pos rfl, neq hs, if_neg (by simp), neq ht]
      simp only [mapmakerref09_Relate.j0]
      rw [if_neg (by simp)]
      simp only [rTurn hs.a hs.b ht.a, rTurn hs.a hs.b ht.b, rTurn ht.a ht.b hs.a, rTurn ht.a ht.b hs.b, rSign, Option.bind_some]
      by_cases c1 : wrap64 (sg (turn s.f0 s.f1 t.f0) * sg (turn s.f0 s.f1 t.f1)) < 0
      · rw [if_pos c1]
        by_cases c2 : wrap64 (sg (turn t.f0 t.f1 s.f0) * sg (turn t.f0 t.f1 s.f1)) < 0
        · rw [decide_eq_true c2, if_pos (show X s t from ⟨c1, c2⟩)]
          simp only [mapmakerref09_Relate.j1, if_true]
        · rw [decide_eq_false c2, if_neg (show ¬ X s t from fun h => c2 h.2)]
          exact hE (k + 1) false (by omega) rfl
      · rw [if_neg c1, if_neg (show ¬ X s t from fun h => c1 h.1)]
        exact hE (k + 1) false (by omega) rfl
end Go.Proofs.Ytmejeiddlhjjmaa.Pure
