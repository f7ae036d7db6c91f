/- What a division is: the pieces, that they are not divided again, that no two overlap; Relate's value. -/
import Derived.Test.YtmejeiddlhjjmaaPureSplNodingIdempotent
namespace Go.Proofs.Ytmejeiddlhjjmaa.Pure
open Go.RowKit Go.Proofs.Ytmejeiddlhjjmaa.PNodingIdempotent Go.Proofs.YtmejeiddlhjjmaaW.PrintWords Go.Proofs.YtmejeiddlhjjmaaW.PrintLast
set_option linter.unusedVariables false
set_option linter.unusedSimpArgs false

theorem wB_iff {p : S33} {s : S35} (hp : onG p) (h : Seg s) : wB p s = true ↔ turn s.f0 s.f1 p = 0 ∧ cd s.f0 < cd p ∧ cd p < cd s.f1 := by
  constructor
  · intro hw
    have h1 := wB_cd hp h hw
    unfold wB at hw
    simp only [Bool.and_eq_true] at hw
    exact ⟨onP_turn hw.1, h1⟩
  · rintro ⟨h1, h2, h3⟩
    have ho : onP p s = true := (onP_cd hp h).2 ⟨h1, by omega, by omega⟩
    have n1 : eqs33 p s.f0 = false := by rw [Bool.eq_false_iff]; intro e; rw [(eqs33_iff _ _).1 e] at h2; omega
    have n2 : eqs33 p s.f1 = false := by rw [Bool.eq_false_iff]; intro e; rw [(eqs33_iff _ _).1 e] at h3; omega
    unfold wB
    rw [ho, n1, n2]
    rfl
theorem chn_ends : ∀ (l : List S33) (p : S33), ∀ x ∈ chn p l, (x.f0 = p ∨ x.f0 ∈ l) ∧ x.f1 ∈ l
  | [], _, x, h => absurd h (by simp [chn])
  | q :: l, p, x, h => by
    rcases List.mem_cons.1 (show x ∈ ⟨p, q⟩ :: chn q l from h) with rfl | h
    · exact ⟨Or.inl rfl, List.mem_cons_self⟩
    · obtain ⟨h1, h2⟩ := chn_ends l q x h
      exact ⟨Or.inr (h1.elim (fun e => by rw [e]; exact List.mem_cons_self) (List.mem_cons_of_mem _)), List.mem_cons_of_mem _ h2⟩
theorem chn_gap : ∀ (l : List S33) (p : S33), Inc (p :: l) → ∀ x ∈ chn p l, ∀ q ∈ p :: l, ¬ (cd x.f0 < cd q ∧ cd q < cd x.f1)
  | [], _, _, x, h => absurd h (by simp [chn])
  | y :: l, p, hi, x, h => by
    have hi' := List.pairwise_cons.1 hi
    intro q hq
    rcases List.mem_cons.1 (show x ∈ ⟨p, y⟩ :: chn y l from h) with rfl | h
    · rintro ⟨a, b⟩
      dsimp only at a b
      rcases List.mem_cons.1 hq with rfl | hq
      · omega
      · rcases List.mem_cons.1 hq with rfl | hq
        · omega
        · have := (List.pairwise_cons.1 hi'.2).1 q hq; omega
    · rcases List.mem_cons.1 hq with e | hq
      · obtain ⟨h1, _⟩ := chn_ends l y x h
        rw [e]
        have : cd p < cd x.f0 := by
          rcases h1 with e | h1
          · rw [e]; exact hi'.1 y List.mem_cons_self
          · exact hi'.1 _ (List.mem_cons_of_mem _ h1)
        omega
      · exact chn_gap l y hi'.2 x h q hq
theorem pcs_on {es : List S33} {s : S35} (hs : Seg s) : ∀ x ∈ pcs es s, onP x.f0 s = true ∧ onP x.f1 s = true := fun x hx => by
  have hf : ∀ q ∈ es.filter (fun p => wB p s) ++ [s.f1], onP q s = true := fun q hq => by
    rcases List.mem_append.1 hq with hq | hq
    · have := (List.mem_filter.1 hq).2
      unfold wB at this
      simp only [Bool.and_eq_true] at this
      exact this.1
    · simp at hq; rw [hq]; exact end_b hs
  obtain ⟨h1, h2⟩ := chn_ends _ _ x hx
  exact ⟨h1.elim (fun e => by rw [e]; exact end_a hs) (hf _), hf _ h2⟩
theorem pcs_gap {es : List S33} {s : S35} (hs : Seg s) (he : Inc es) (hg : ∀ x ∈ es, onG x) : ∀ x ∈ pcs es s, ∀ p ∈ es, wB p x = false := fun x hx p hp => by
  have hxs := pcs_seg hs he hg x hx
  obtain ⟨o0, o1⟩ := pcs_on hs x hx
  rw [Bool.eq_false_iff]
  intro hw
  obtain ⟨t, a, b⟩ := (wB_iff (hg p hp) hxs).1 hw
  have a0 := (onP_cd hxs.a hs).1 o0
  have a1 := (onP_cd hxs.b hs).1 o1
  have l1 := col3 hs.ne a0.1 a1.1 (turn_left s.f0 s.f1)
  have l2 := col3 hs.ne a0.1 a1.1 (turn_right s.f0 s.f1)
  have t' : turn s.f0 s.f1 p = 0 := col3 hxs.ne l1 l2 t
  have hm : p ∈ es.filter (fun p => wB p s) := List.mem_filter.2 ⟨hp, (wB_iff (hg p hp) hs).2 ⟨t', by omega, by omega⟩⟩
  exact chn_gap _ _ (inc_pcs hs he hg) x hx p (List.mem_cons_of_mem _ (List.mem_append_left _ hm)) ⟨a, b⟩
theorem pcs_one {es : List S33} {s : S35} (h : ∀ p ∈ es, wB p s = false) : pcs es s = [s] := by
  unfold pcs
  rw [List.filter_eq_nil_iff.2 (fun p hp => by rw [h p hp]; simp)]
  rfl
theorem chn_first (l : List S33) (p b : S33) : ∃ x ∈ chn p (l ++ [b]), x.f0 = p := by
  cases l with
  | nil => exact ⟨⟨p, b⟩, List.mem_cons_self, rfl⟩
  | cons q l => exact ⟨⟨p, q⟩, List.mem_cons_self, rfl⟩
theorem pcs_ends (es : List S33) (ss : List S35) (hes : ∀ x ∈ es, x ∈ noding_Split.ends ss) (p : S33) : p ∈ noding_Split.ends (ss.flatMap (pcs es)) ↔ p ∈ noding_Split.ends ss := by
  rw [mem_ends, mem_ends]
  constructor
  · rintro ⟨x, hx, h⟩
    obtain ⟨s, hs, hx⟩ := List.mem_flatMap.1 hx
    have he : ∀ q, q = s.f0 ∨ q ∈ es.filter (fun p => wB p s) ++ [s.f1] → ∃ t ∈ ss, q = t.f0 ∨ q = t.f1 := fun q hq => by
      rcases hq with rfl | hq
      · exact ⟨s, hs, Or.inl rfl⟩
      · rcases List.mem_append.1 hq with hq | hq
        · exact (mem_ends ss q).1 (hes q (List.mem_filter.1 hq).1)
        · simp at hq; exact ⟨s, hs, Or.inr hq⟩
    obtain ⟨h1, h2⟩ := chn_ends _ _ x hx
    rcases h with rfl | rfl
    · exact he _ h1
    · exact he _ (Or.inr h2)
  · rintro ⟨s, hs, h⟩
    rcases h with rfl | rfl
    · obtain ⟨x, hx, e⟩ := chn_first (es.filter (fun p => wB p s)) s.f0 s.f1
      exact ⟨x, List.mem_flatMap.2 ⟨s, hs, hx⟩, Or.inl e.symm⟩
    · exact ⟨⟨lst s.f0 (es.filter (fun p => wB p s)), s.f1⟩, List.mem_flatMap.2 ⟨s, hs, by unfold pcs; rw [chn_last]; simp⟩, Or.inr rfl⟩
/-- THE DIVISION OF A LIST: its pieces are segments, have the list's ends, and no two different ones overlap. -/
theorem divs (E : List S33) (hE : Inc E) (hg : ∀ x ∈ E, onG x) (ss : List S35) (hss : ∀ s ∈ ss, Seg s) (hm : ∀ x, x ∈ E ↔ x ∈ noding_Split.ends ss) :
    (∀ x ∈ sortS (ss.flatMap (pcs E)), Seg x) ∧ (∀ p, p ∈ E ↔ p ∈ noding_Split.ends (sortS (ss.flatMap (pcs E)))) ∧ (∀ x ∈ sortS (ss.flatMap (pcs E)), ∀ y ∈ sortS (ss.flatMap (pcs E)), x ≠ y → ¬ Ov x y) := by
  have f0 : ∀ x ∈ sortS (ss.flatMap (pcs E)), Seg x ∧ ∀ p ∈ E, wB p x = false := fun x hx => by
    obtain ⟨s, hs, hx⟩ := List.mem_flatMap.1 ((sortS_perm _).mem_iff.1 hx)
    exact ⟨pcs_seg (hss s hs) hE hg x hx, pcs_gap (hss s hs) hE hg x hx⟩
  have f2 : ∀ p, p ∈ E ↔ p ∈ noding_Split.ends (sortS (ss.flatMap (pcs E))) := fun p => by
    rw [hm, ← pcs_ends E ss (fun x hx => (hm x).1 hx) p, mem_ends, mem_ends]
    constructor
    · rintro ⟨s, hs, h⟩; exact ⟨s, (sortS_perm _).mem_iff.2 hs, h⟩
    · rintro ⟨s, hs, h⟩; exact ⟨s, (sortS_perm _).mem_iff.1 hs, h⟩
  refine ⟨fun x hx => (f0 x hx).1, f2, fun x hx y hy hxy => ?_⟩
  rintro ⟨⟨ta, tb⟩, hlt⟩
  obtain ⟨sx, nx⟩ := f0 x hx
  obtain ⟨sy, ny⟩ := f0 y hy
  have ex0 := (f2 _).2 ((mem_ends _ _).2 ⟨x, hx, Or.inl rfl⟩)
  have ex1 := (f2 _).2 ((mem_ends _ _).2 ⟨x, hx, Or.inr rfl⟩)
  have ey0 := (f2 _).2 ((mem_ends _ _).2 ⟨y, hy, Or.inl rfl⟩)
  have ey1 := (f2 _).2 ((mem_ends _ _).2 ⟨y, hy, Or.inr rfl⟩)
  have tc : turn y.f0 y.f1 x.f0 = 0 := col3 sx.ne ta tb (turn_left _ _)
  have td : turn y.f0 y.f1 x.f1 = 0 := col3 sx.ne ta tb (turn_right _ _)
  have hno : ∀ {p : S33} {s : S35}, p ∈ E → Seg s → (∀ p ∈ E, wB p s = false) → turn s.f0 s.f1 p = 0 → ¬ (cd s.f0 < cd p ∧ cd p < cd s.f1) := fun {p s} hp hs hn ht hc => by
    have := hn p hp
    rw [(wB_iff (hg p hp) hs).2 ⟨ht, hc⟩] at this
    cases this
  have n1 := hno ey0 sx nx ta
  have n2 := hno ey1 sx nx tb
  have n3 := hno ex0 sy ny tc
  have n4 := hno ex1 sy ny td
  have lx := sx.lt
  have ly := sy.lt
  have e0 : cd x.f0 = cd y.f0 := by omega
  have e1 : cd x.f1 = cd y.f1 := by omega
  have q0 := cd_inj sx.a sy.a e0
  have q1 := cd_inj sx.b sy.b e1
  exact hxy (s35_ext (by rw [q0]) (by rw [q0]) (by rw [q1]) (by rw [q1]))
theorem divs_same (E : List S33) (hE : Inc E) (hg : ∀ x ∈ E, onG x) (ss : List S35) (hss : ∀ s ∈ ss, Seg s) : sortS ((sortS (ss.flatMap (pcs E))).flatMap (pcs E)) = sortS (ss.flatMap (pcs E)) := by
  have h1 : ∀ (L : List S35), (∀ x ∈ L, ∀ p ∈ E, wB p x = false) → L.flatMap (pcs E) = L := by
    intro L
    induction L with
    | nil => intro _; rfl
    | cons x L ih =>
      intro h
      rw [List.flatMap_cons, pcs_one (h x List.mem_cons_self), ih (fun y hy => h y (List.mem_cons_of_mem _ hy))]
      rfl
  rw [h1 _ (fun x hx => by
    obtain ⟨s, hs, hx⟩ := List.mem_flatMap.1 ((sortS_perm _).mem_iff.1 hx)
    exact pcs_gap (hss s hs) hE hg x hx)]
  exact sorted_unique (sortS_perm _) (sortS_sorted _) (sortS_sorted _)
theorem nAllB (es : List S33) (hg : ∀ x ∈ es, onG x) (hes : es.length ≤ 100) (k : Nat) (hk : 10 < k) : ∀ (ss : List S35) (out : List S35), (∀ s ∈ ss, Seg s) → out.length + ss.length * 101 ≤ 900000 → noding_Split.all k es ss out = some (out ++ ss.flatMap (pcs es))
  | [], out, _, _ => by simp [noding_Split.all]
  | s :: ss, out, hv, hl => by
    simp at hl
    unfold noding_Split.all
    have hc := List.length_filter_le (fun p => wB p s) es
    rw [nCut (hv s List.mem_cons_self) k hk es s.f0 out hg (by omega), Option.bind_some]
    dsimp only
    rw [if_pos (by rw [List.length_append, chn_length]; omega), nAllB es hg hes k hk ss _ (fun t ht => hv t (List.mem_cons_of_mem _ ht)) (by rw [List.length_append, List.length_append, chn_length]; simp; omega)]
    rw [List.flatMap_cons, show pcs es s = chn s.f0 (es.filter (fun p => wB p s) ++ [s.f1]) from rfl, chn_last]
    simp only [List.append_assoc]
theorem flat_length (es : List S33) (hes : es.length ≤ 100) : ∀ L : List S35, (L.flatMap (pcs es)).length ≤ L.length * 101
  | [] => by simp
  | s :: L => by rw [List.flatMap_cons, List.length_append, List.length_cons]; have := pcs_length es s; have := flat_length es hes L; omega
theorem uniq_ends (l : List S35) (x : S33) : x ∈ noding_Split.ends (dd35 eqs35 (sortS (canonP l))) ↔ x ∈ noding_Split.ends (canonP l) := by
  rw [mem_ends, mem_ends]
  constructor
  · rintro ⟨s, hs, h⟩; exact ⟨s, (sortS_perm _).mem_iff.1 (dd_sub _ s hs), h⟩
  · rintro ⟨s, hs, h⟩; exact ⟨s, dd_mem _ s ((sortS_perm _).mem_iff.2 hs), h⟩
theorem canon_ends (l : List S35) (x : S33) (hx : x ∈ noding_Split.ends (canonP l)) : onG x := by
  obtain ⟨t, ht, e | e⟩ := (mem_ends _ x).1 hx
  · rw [e]; exact (canon_seg l t ht).a
  · rw [e]; exact (canon_seg l t ht).b
theorem nSplitE (l : List S35) (hl : l.length ≤ 8000) (E : List S33) (hE : Inc E) (hn : E.length ≤ 100) (hm : ∀ x, x ∈ E ↔ x ∈ noding_Split.ends (canonP l)) (k : Nat) (hk : 1000000 < k) : noding_Split.f k l = some (sortS ((canonP l).flatMap (pcs E))) := by
  have hcl := canonP_length l
  have hul := unique_length l
  have hge : ∀ x ∈ noding_Split.ends (dd35 eqs35 (sortS (canonP l))), onG x := fun x hx => canon_ends l x ((uniq_ends l x).1 hx)
  obtain ⟨e, es, h1, h2, h3, h4, h5⟩ := pts_by (noding_Split.ends (dd35 eqs35 (sortS (canonP l)))) hge (by rw [noding_Split.ends_length]; omega)
  have hes : es = E := inc_ext h3 hE (fun x => by rw [h5, hm, uniq_ends])
  subst hes
  have hg : ∀ x ∈ es, onG x := fun x hx => hge x ((h5 x).1 hx)
  have hfl := flat_length es hn (canonP l)
  have hfs : ∀ x ∈ (canonP l).flatMap (pcs es), Seg x := fun x hx => by
    obtain ⟨s, hs, hx⟩ := List.mem_flatMap.1 hx
    exact pcs_seg (canon_seg l s hs) h3 hg x hx
  unfold noding_Split.f
  rw [nUnique l (by omega) k (by omega), Option.bind_some, if_pos (by omega), h1, Option.bind_some, h2, Option.bind_some, canon l (by omega) k (by omega), Option.bind_some, nAllB es hg hn k (by omega) (canonP l) [] (canon_seg l) (by simp; omega), Option.bind_some, List.nil_append, nSort _ (by omega) k (by omega), canonP_id _ hfs]
theorem nSplitX (l : List S35) (hl : l.length ≤ 24) (k : Nat) (hk : 1000000 < k) : ∃ E, Inc E ∧ E.length ≤ 100 ∧ (∀ x ∈ E, onG x) ∧ (∀ x, x ∈ E ↔ x ∈ noding_Split.ends (canonP l)) ∧ noding_Split.f k l = some (sortS ((canonP l).flatMap (pcs E))) := by
  have hul := unique_length l
  have hge : ∀ x ∈ noding_Split.ends (dd35 eqs35 (sortS (canonP l))), onG x := fun x hx => canon_ends l x ((uniq_ends l x).1 hx)
  obtain ⟨e, es, h1, h2, h3, h4, h5⟩ := pts_by (noding_Split.ends (dd35 eqs35 (sortS (canonP l)))) hge (by rw [noding_Split.ends_length]; omega)
  rw [noding_Split.ends_length] at h4
  have hm : ∀ x, x ∈ es ↔ x ∈ noding_Split.ends (canonP l) := fun x => by rw [h5, uniq_ends]
  exact ⟨es, h3, by omega, fun x hx => hge x ((h5 x).1 hx), hm, nSplitE l (by omega) es h3 (by omega) hm k hk⟩
instance (s t : S35) : Decidable (X s t) := by unfold X; exact inferInstance
def relV (s t : S35) : Int := if X s t then 2 else fin ([s.f0, s.f1, t.f0, t.f1].foldl (stepB s t) [])
theorem rRelV {s t : S35} (hs : Seg s) (ht : Seg t) (k : Nat) (hk : 100 < k) : mapmakerref09_Relate.f k s.f0.f0 s.f0.f1 s.f1.f0 s.f1.f1 t.f0.f0 t.f0.f1 t.f1.f0 t.f1.f1 = some (relV s t) := by
  have hE : ∀ k' x, 50 < k' → x = false → mapmakerref09_Relate.j1 k' x s.f0.f0 s.f0.f1 s.f1.f0 s.f1.f1 t.f0.f0 t.f0.f1 t.f1.f0 t.f1.f1 = some (fin ([s.f0, s.f1, t.f0, t.f1].foldl (stepB s t) [])) := by
    intro k' x hk' hx
    subst hx
    cases k' with
    | zero => omega
    | succ k' =>
      simp only [mapmakerref09_Relate.j1]
      rw [if_neg (by simp)]
      exact rEnds s t hs ht [s.f0, s.f1, t.f0, t.f1] rfl (by intro e he; simp at he; rcases he with rfl | rfl | rfl | rfl <;> first | exact hs.a | exact hs.b | exact ht.a | exact ht.b) 4 0 [] k' (by omega) rfl (by simp) (by omega)
  cases k with
  | zero => omega
  | succ k =>
    cases k with
    | zero => omega
    | succ k =>
      unfold mapmakerref09_Relate.f relV
      rw [three_on hs.a hs.b ht.a, Option.bind_some, if_pos rfl, rValid_some, vB_on ht.b, Option.bind_some, if_pos rfl, neq hs, if_neg (by simp), neq ht]
      simp only [mapmakerref09_Relate.j0]
      rw [if_neg (by simp)]
      simp only [rTurn hs.a hs.b ht.a, rTurn hs.a hs.b ht.b, rTurn ht.a ht.b hs.a, rTurn ht.a ht.b hs.b, rSign, Option.bind_some]
      by_cases c1 : wrap64 (sg (turn s.f0 s.f1 t.f0) * sg (turn s.f0 s.f1 t.f1)) < 0
      · rw [if_pos c1]
        by_cases c2 : wrap64 (sg (turn t.f0 t.f1 s.f0) * sg (turn t.f0 t.f1 s.f1)) < 0
        · rw [decide_eq_true c2, if_pos (show X s t from ⟨c1, c2⟩)]
          simp only [mapmakerref09_Relate.j1, if_true]
        · rw [decide_eq_false c2, if_neg (show ¬ X s t from fun h => c2 h.2)]
          exact hE (k + 1) false (by omega) rfl
      · rw [if_neg c1, if_neg (show ¬ X s t from fun h => c1 h.1)]
        exact hE (k + 1) false (by omega) rfl
theorem relV_three {s t : S35} (hs : Seg s) (ht : Seg t) (h : relV s t = 3) : Ov s t := by
  unfold relV at h
  by_cases c : X s t
  · rw [if_pos c] at h; omega
  · rw [if_neg c] at h
    exact (overlap hs ht).1 (by omega)
end Go.Proofs.Ytmejeiddlhjjmaa.Pure
