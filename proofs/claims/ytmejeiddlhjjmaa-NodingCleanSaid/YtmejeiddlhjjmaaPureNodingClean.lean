/- NodingClean: the order of the segments and of their ends does not matter; two segments of a clean list have at most an end in common. -/
import Derived.Test.YtmejeiddlhjjmaaPureDivNodingClean
namespace Go.Proofs.Ytmejeiddlhjjmaa.Pure
open Go.RowKit Go.Proofs.Ytmejeiddlhjjmaa.PNodingClean Go.Proofs.YtmejeiddlhjjmaaW.PrintWords Go.Proofs.YtmejeiddlhjjmaaW.PrintLast
set_option linter.unusedVariables false
set_option linter.unusedSimpArgs false

def sw (s : S35) : S35 := ⟨s.f1, s.f0⟩
theorem good_sw (s : S35) : goodS (sw s) = goodS s := by
  have h : ∀ a b : Int, (a == b) = (b == a) := fun a b => by rw [Bool.eq_iff_iff, beq_iff_eq, beq_iff_eq]; exact eq_comm
  unfold goodS sw
  dsimp only
  rw [Bool.and_comm (vB s.f1.f0 s.f1.f1), h s.f1.f0, h s.f1.f1]
theorem of_sw {s : S35} (hg : goodS s = true) : ofS (sw s) = ofS s := by
  have hg' := hg
  unfold goodS vB at hg'
  simp at hg'
  obtain ⟨hne, ⟨a1, a2, a3, a4⟩, b1, b2, b3, b4⟩ := hg'
  have ha : onG s.f0 := ⟨a1, a2, a3, a4⟩
  have hb : onG s.f1 := ⟨b1, b2, b3, b4⟩
  have hcd : cd s.f0 ≠ cd s.f1 := fun e => by
    have := cd_inj ha hb e
    rcases hne with h | h <;> exact h (by rw [this])
  unfold ofS sw
  dsimp only
  rw [lt_cd ha hb, lt_cd hb ha]
  by_cases c : cd s.f0 < cd s.f1
  · rw [decide_eq_true c, decide_eq_false (by omega), if_pos rfl, if_neg (by simp)]
  · rw [decide_eq_false c, decide_eq_true (by omega), if_pos rfl, if_neg (by simp)]
theorem canon_sw : ∀ l : List S35, canonP (l.map sw) = canonP l
  | [] => rfl
  | s :: l => by
    rw [List.map_cons, canonP_cons, canonP_cons, good_sw, canon_sw l]
    by_cases c : goodS s = true
    · rw [if_pos c, if_pos c, of_sw c]
    · rw [if_neg c, if_neg c]
theorem canon_back (l : List S35) : (canonP (l.reverse.map sw)).Perm (canonP l) := by
  rw [canon_sw]
  unfold canonP
  exact ((List.reverse_perm l).filter _).map _
theorem sort_perm {a b : List S35} (h : a.Perm b) : sortS a = sortS b :=
  sorted_unique ((sortS_perm a).trans (h.trans (sortS_perm b).symm)) (sortS_sorted _) (sortS_sorted _)
theorem ends_perm {a b : List S35} (h : a.Perm b) (x : S33) : x ∈ noding_Split.ends a ↔ x ∈ noding_Split.ends b := by
  rw [mem_ends, mem_ends]
  constructor
  · rintro ⟨s, hs, e⟩; exact ⟨s, h.mem_iff.1 hs, e⟩
  · rintro ⟨s, hs, e⟩; exact ⟨s, h.mem_iff.2 hs, e⟩
theorem same_eq0 (a b : List S35) (hab : a.length = b.length) (hl : a.length ≤ 1000000) : ∀ (k i : Nat), mapmakerref20_Same.l0 k a b (i : Int) = some true → ∀ j, i ≤ j → (h : j < a.length) → a[j] = b[j]'(by omega)
  | 0, i, h => absurd h (by simp [mapmakerref20_Same.l0])
  | k + 1, i, h => by
    intro j hij hj
    simp only [mapmakerref20_Same.l0] at h
    rw [if_pos (by omega), if_pos (by omega), if_pos (by omega), rd35 a i (by omega), rd35 b i (by omega)] at h
    by_cases cn : a[i] = b[i]
    · rw [if_neg (fun hh => (ne35 _ _).1 hh cn), wrap_succ i (by omega)] at h
      by_cases e : i = j
      · subst e; exact cn
      · exact same_eq0 a b hab hl k (i + 1) h j (by omega) hj
    · rw [if_pos ((ne35 _ _).2 cn)] at h
      cases h
theorem same_eq (a b : List S35) (hl : a.length ≤ 1000000) (k : Nat) (h : mapmakerref20_Same.f k a b = some true) : a = b := by
  unfold mapmakerref20_Same.f at h
  by_cases c : (a.length : Int) = (b.length : Int)
  · rw [if_pos c] at h
    exact List.ext_getElem (by omega) (fun j h1 h2 => same_eq0 a b (by omega) hl k 0 h j (by omega) h1)
  · rw [if_neg c] at h
    cases h
theorem flat_none (E : List S33) : ∀ L : List S35, L.length ≤ (L.flatMap (pcs E)).length ∧ ((L.flatMap (pcs E)).length = L.length → ∀ s ∈ L, ∀ p ∈ E, wB p s = false)
  | [] => ⟨by simp, fun _ s hs => absurd hs (by simp)⟩
  | s :: L => by
    obtain ⟨i1, i2⟩ := flat_none E L
    have hp : (pcs E s).length = (E.filter (fun p => wB p s)).length + 1 := by unfold pcs; rw [chn_length, List.length_append]; rfl
    rw [List.flatMap_cons, List.length_append, List.length_cons, hp]
    refine ⟨by omega, fun he => ?_⟩
    have h0 : (E.filter (fun p => wB p s)) = [] := List.length_eq_zero_iff.1 (by omega)
    intro t ht p hpE
    rcases List.mem_cons.1 ht with e | ht
    · rw [e]
      cases hw : wB p s
      · rfl
      · exact absurd (List.mem_filter.2 ⟨hpE, hw⟩) (by rw [h0]; simp)
    · exact i2 (by omega) t ht p hpE
theorem cross_none : ∀ u : List S35, crossP u = [] → u.Pairwise (fun s t => ¬ (X s t ∨ Ov s t))
  | [], _ => List.Pairwise.nil
  | s :: ss, h => by
    unfold crossP at h
    rw [List.append_eq_nil_iff] at h
    have h1 := List.map_eq_nil_iff.1 h.1
    refine List.pairwise_cons.2 ⟨fun t ht hh => ?_, cross_none ss h.2⟩
    exact absurd (List.mem_filter.2 ⟨ht, (hit_iff s t).2 hh⟩) (by rw [h1]; simp)
theorem ov_symm {s t : S35} (hs : Seg s) (h : Ov s t) : Ov t s := by
  obtain ⟨⟨ta, tb⟩, hlt⟩ := h
  exact ⟨⟨col3 hs.ne ta tb (turn_left _ _), col3 hs.ne ta tb (turn_right _ _)⟩, by omega⟩
theorem step_mem (s t : S35) : ∀ (l b : List S33) (x : S33), x ∈ l.foldl (stepB s t) b → x ∈ b ∨ (x ∈ l ∧ onP x s = true ∧ onP x t = true)
  | [], b, x, h => Or.inl h
  | e :: l, b, x, h => by
    rcases step_mem s t l (stepB s t b e) x h with h | h
    · unfold stepB at h
      by_cases c1 : onP e s = true
      · rw [if_pos c1] at h
        by_cases c2 : onP e t = true
        · rw [if_pos c2] at h
          by_cases c3 : b.any (fun x => eqs33 x e) = true
          · rw [if_pos c3] at h; exact Or.inl h
          · rw [if_neg c3] at h
            rcases List.mem_append.1 h with h | h
            · exact Or.inl h
            · simp at h
              subst h
              exact Or.inr ⟨List.mem_cons_self, c1, c2⟩
        · rw [if_neg c2] at h; exact Or.inl h
      · rw [if_neg c1] at h; exact Or.inl h
    · exact Or.inr ⟨List.mem_cons_of_mem _ h.1, h.2⟩
theorem relV_one {s t : S35} (h : relV s t = 1) : ∃ p, (p = s.f0 ∨ p = s.f1 ∨ p = t.f0 ∨ p = t.f1) ∧ onP p s = true ∧ onP p t = true := by
  unfold relV at h
  by_cases c : X s t
  · rw [if_pos c] at h; omega
  · rw [if_neg c] at h
    have hm := step_mem s t [s.f0, s.f1, t.f0, t.f1] []
    generalize [s.f0, s.f1, t.f0, t.f1].foldl (stepB s t) [] = b at h hm
    cases b with
    | nil => exact absurd h (by simp [fin])
    | cons p b =>
      rcases hm p List.mem_cons_self with h | h
      · exact absurd h (by simp)
      · exact ⟨p, by simpa using h.1, h.2⟩
theorem clSh (b1 b2 b3 b4 : Bool) (R : Option Int) (N : Option Bool) : (if b1 = true then (R.bind fun t => (if t > 1 then (some false) else (if t = 1 then N else N))) else (if b2 = true then (R.bind fun t => (if t > 1 then (some false) else (if t = 1 then N else N))) else (if b3 = true then (R.bind fun t => (if t > 1 then (some false) else (if t = 1 then N else N))) else (R.bind fun t => (if t > 1 then (some false) else (if t = 1 then (if b4 = true then N else (some false)) else N)))))) = (R.bind fun t => (if t > 1 then (some false) else (if t = 1 then (if (((b1 || b2) || b3) || b4) = true then N else (some false)) else N))) := by
  cases b1 <;> cases b2 <;> cases b3 <;> cases b4 <;> rfl
def shB (s t : S35) : Bool := (((eqs33 s.f0 t.f0 || eqs33 s.f0 t.f1) || eqs33 s.f1 t.f0) || eqs33 s.f1 t.f1)
/-- TWO SEGMENTS OF A CLEAN LIST. -/
theorem clean_pair {E : List S33} (hg : ∀ x ∈ E, onG x) {s t : S35} (hs : Seg s) (ht : Seg t) (hsE : s.f0 ∈ E ∧ s.f1 ∈ E) (htE : t.f0 ∈ E ∧ t.f1 ∈ E) (ns : ∀ p ∈ E, wB p s = false) (nt : ∀ p ∈ E, wB p t = false) (hx : ¬ (X s t ∨ Ov s t)) :
    relV s t ≤ 1 ∧ (relV s t = 1 → shB s t = true) := by
  constructor
  · unfold relV
    rw [if_neg (fun h => hx (Or.inl h))]
    have hov : ¬ (fin ([s.f0, s.f1, t.f0, t.f1].foldl (stepB s t) []) ≥ 2) := fun h => hx (Or.inr ((overlap hs ht).1 h))
    omega
  · intro h1
    obtain ⟨p, hp, h2, h3⟩ := relV_one h1
    have hpE : p ∈ E := by rcases hp with rfl | rfl | rfl | rfl <;> first | exact hsE.1 | exact hsE.2 | exact htE.1 | exact htE.2
    have en : ∀ {v : S35}, onP p v = true → wB p v = false → p = v.f0 ∨ p = v.f1 := fun {v} h4 h5 => by
      unfold wB at h5
      rw [h4, Bool.true_and] at h5
      by_cases e : p = v.f0
      · exact Or.inl e
      · by_cases e' : p = v.f1
        · exact Or.inr e'
        · have n1 : eqs33 p v.f0 = false := Bool.eq_false_iff.2 (fun h => e ((eqs33_iff _ _).1 h))
          have n2 : eqs33 p v.f1 = false := Bool.eq_false_iff.2 (fun h => e' ((eqs33_iff _ _).1 h))
          rw [n1, n2] at h5
          cases h5
    unfold shB
    rcases en h2 (ns p hpE) with e | e <;> rcases en h3 (nt p hpE) with e' | e' <;> (rw [← e, ← e', (eqs33_iff p p).2 rfl]; simp)
theorem clLoop (l u : List S35) (hu : ∀ s ∈ u, Seg s) (hl : u.length ≤ 1000) (KC : Nat) (b : Bool) (hC : ∀ k, KC ≤ k → noding_Clean.f k l = some b)
    (hp : b = true → ∀ (i j : Nat) (hi : i < u.length) (hj : j < i), relV u[i] (u[j]'(by omega)) ≤ 1 ∧ (relV u[i] (u[j]'(by omega)) = 1 → shB u[i] (u[j]'(by omega)) = true)) (hlv : ∀ k, 100 ≤ k → mapmakerlaw20_lives.f k = some true) (d : Nat) :
    ∀ (k i : Nat), i ≤ u.length → u.length - i = d → KC + 2000 + 3000 * d ≤ k → mapmakerlaw20_NodingClean.l1 k l u (i : Int) = some true := by
  have hend : ∀ (k : Nat) (i : Int), 200 ≤ k → mapmakerlaw20_NodingClean.j3 k l u i false = some true := by
    intro k i hk
    cases k with
    | zero => omega
    | succ k =>
      simp only [mapmakerlaw20_NodingClean.j3]
      rw [if_neg (by simp), hlv k (by omega)]
      rfl
  induction d with
  | zero =>
    intro k i hi hd hk
    cases k with
    | zero => omega
    | succ k =>
      simp only [mapmakerlaw20_NodingClean.l1]
      rw [if_neg (by omega)]
      exact hend k _ (by omega)
  | succ d ih =>
    intro k i hi hd hk
    have hlt : i < u.length := by omega
    cases k with
    | zero => omega
    | succ k =>
      simp only [mapmakerlaw20_NodingClean.l1]
      rw [if_pos (by omega), hC k (by omega), Option.bind_some]
      cases b with
      | false => exact hend k _ (by omega)
      | true =>
        have hin : ∀ (e kk j : Nat), j ≤ i → i - j = e → KC + 2000 + 3000 * d + e + 2 ≤ kk → mapmakerlaw20_NodingClean.l2 kk l u (i : Int) (j : Int) = some true := by
          intro e
          induction e with
          | zero =>
            intro kk j hj hje hkk
            cases kk with
            | zero => omega
            | succ kk =>
              simp only [mapmakerlaw20_NodingClean.l2]
              rw [if_neg (by omega), wrap_succ i (by omega)]
              exact ih kk (i + 1) (by omega) (by omega) (by omega)
          | succ e ihe =>
            intro kk j hj hje hkk
            cases kk with
            | zero => omega
            | succ kk =>
              have hjt : j < u.length := by omega
              obtain ⟨r1, r2⟩ := hp rfl i j hlt (by omega)
              have hgo := ihe kk (j + 1) (by omega) (by omega) (by omega)
              simp only [mapmakerlaw20_NodingClean.l2]
              rw [if_pos (by omega), if_pos (by omega), if_pos (by omega), if_pos (by omega), if_pos (by omega), clSh, rd35 u i hlt, rd35 u j hjt, rRelV (hu _ (List.getElem_mem hlt)) (hu _ (List.getElem_mem hjt)) kk (by omega), Option.bind_some, if_neg (by omega), wrap_succ j (by omega), hgo]
              by_cases c1 : relV u[i] u[j] = 1
              · have hB := r2 c1
                unfold shB eqs33 at hB
                rw [if_pos c1, if_pos hB]
              · rw [if_neg c1]
        cases k with
        | zero => omega
        | succ k =>
          simp only [mapmakerlaw20_NodingClean.j3, if_true]
          exact hin i k 0 (by omega) rfl (by omega)
def clFin (k : Nat) (l a : List S35) : Option Bool := (noding_Clean.f k a).bind fun t255 => ((noding_Clean.f k l).bind fun t256 => (if (t255 != t256) = true then (mapmakerlaw20_NodingClean.j1 k l true) else ((noding_Split.f k a).bind fun t257 => ((noding_Split.f k l).bind fun t260 => ((mapmakerref20_Same.f k t257 t260).bind fun t263 => (mapmakerlaw20_NodingClean.j1 k l (!t263)))))))
theorem backLoop (l : List S35) (hl : l.length ≤ 1000) (K : Nat) (hfin : ∀ k, K ≤ k → clFin k l (l.reverse.map sw) = some true) : ∀ (i k : Nat) (acc : List S35), i ≤ l.length → K + i + 1 ≤ k → acc.length + i = l.length → acc ++ (l.take i).reverse.map sw = l.reverse.map sw → mapmakerlaw20_NodingClean.l0 k l acc ((i : Int) - 1) = some true
  | 0, k, acc, hi, hk, hlen, he => by
    cases k with
    | zero => omega
    | succ k =>
      simp only [mapmakerlaw20_NodingClean.l0]
      rw [if_neg (by omega)]
      have e : acc = l.reverse.map sw := by simpa using he
      rw [e]
      exact hfin k (by omega)
  | i + 1, k, acc, hi, hk, hlen, he => by
    cases k with
    | zero => omega
    | succ k =>
      have hlt : i < l.length := by omega
      rw [show (((i + 1 : Nat) : Int) - 1) = (i : Int) from by omega]
      simp only [mapmakerlaw20_NodingClean.l0]
      rw [if_pos (by omega), if_pos (by omega), if_pos (by omega), if_pos (by omega), rd35 l i hlt, show wrap64 ((i : Int) - 1) = (i : Int) - 1 from by unfold wrap64; omega]
      refine backLoop l hl K hfin i k _ (by omega) (by omega) (by simp; omega) ?_
      rw [← he, List.take_succ_eq_append_getElem hlt, List.reverse_append, List.map_append, List.append_assoc]
      rfl
theorem NodingClean : mapmakerlaw20_NodingClean.Pure := by
  intro l h
  refine ⟨900000000, ?_⟩
  unfold mapmakerlaw20_NodingClean.f
  rw [few_some, Option.bind_some]
  by_cases hf : (l.length : Int) ≤ 24
  · rw [decide_eq_true hf, if_pos rfl]
    obtain ⟨E, hE, hEl, hg, hm, _⟩ := nSplitX l (by omega) 900000000 (by omega)
    have hS : ∀ k, 2000000 ≤ k → noding_Split.f k l = some (sortS ((canonP l).flatMap (pcs E))) := fun k hk => nSplitE l (by omega) E hE hEl hm k (by omega)
    have hbl : (l.reverse.map sw).length = l.length := by simp
    have hpm := canon_back l
    have hSb : ∀ k, 2000000 ≤ k → noding_Split.f k (l.reverse.map sw) = some (sortS ((canonP l).flatMap (pcs E))) := fun k hk => by
      rw [nSplitE (l.reverse.map sw) (by omega) E hE hEl (fun x => (hm x).trans (ends_perm hpm x).symm) k (by omega), sort_perm (hpm.flatMap_right _)]
    have hcl := canonP_length l
    have hfl := flat_length E hEl (canonP l)
    have hul := unique_length l
    have hCb : ∀ k, 2000000 ≤ k → noding_Clean.f k (l.reverse.map sw) = noding_Clean.f k l := fun k hk => by
      unfold noding_Clean.f
      rw [hSb k hk, hS k hk, nSort l (by omega) k (by omega), nSort (l.reverse.map sw) (by omega) k (by omega), nCrossings l (by omega) k (by omega), nCrossings (l.reverse.map sw) (by omega) k (by omega), sort_perm hpm]
    have hb : ∃ b, noding_Clean.f 2000000 l = some b ∧ (b = true → sortS ((canonP l).flatMap (pcs E)) = sortS (canonP l) ∧ crossP (dd35 eqs35 (sortS (canonP l))) = []) := by
      obtain ⟨r, h3, h4⟩ := same_some (sortS ((canonP l).flatMap (pcs E))) (sortS (canonP l)) (by rw [sortS_length]; omega) 2000000 (by rw [sortS_length]; omega)
      unfold noding_Clean.f
      rw [hS 2000000 (by omega), Option.bind_some, nSort l (by omega) 2000000 (by omega), Option.bind_some, h4, Option.bind_some]
      cases r with
      | false => exact ⟨false, rfl, fun h => by cases h⟩
      | true =>
        rw [if_pos rfl, nCrossings l (by omega) 2000000 (by omega), Option.bind_some]
        refine ⟨_, rfl, fun hb => ⟨same_eq _ _ (by rw [sortS_length]; omega) 2000000 h3, ?_⟩⟩
        have := beq_iff_eq.1 hb
        exact List.length_eq_zero_iff.1 (by omega)
    obtain ⟨b, hb0, hbt⟩ := hb
    have hC : ∀ k, 2000000 ≤ k → noding_Clean.f k l = some b := fun k hk => by
      obtain ⟨d, rfl⟩ : ∃ d, k = 2000000 + d := ⟨k - 2000000, by omega⟩
      clear hk
      induction d with
      | zero => exact hb0
      | succ d ih => exact noding_Clean.mono _ _ _ ih
    have hp : b = true → ∀ (i j : Nat) (hi : i < (dd35 eqs35 (sortS (canonP l))).length) (hj : j < i), relV (dd35 eqs35 (sortS (canonP l)))[i] ((dd35 eqs35 (sortS (canonP l)))[j]'(by omega)) ≤ 1 ∧ (relV (dd35 eqs35 (sortS (canonP l)))[i] ((dd35 eqs35 (sortS (canonP l)))[j]'(by omega)) = 1 → shB (dd35 eqs35 (sortS (canonP l)))[i] ((dd35 eqs35 (sortS (canonP l)))[j]'(by omega)) = true) := by
      intro hbb i j hi hj
      obtain ⟨b1, b2⟩ := hbt hbb
      have hlen : ((canonP l).flatMap (pcs E)).length = (canonP l).length := by
        have := congrArg List.length b1
        rwa [sortS_length, sortS_length] at this
      have hnone := (flat_none E (canonP l)).2 hlen
      have hmem : ∀ s ∈ dd35 eqs35 (sortS (canonP l)), s ∈ canonP l := fun s hs => (sortS_perm _).mem_iff.1 (dd_sub _ s hs)
      have hends : ∀ s ∈ canonP l, s.f0 ∈ E ∧ s.f1 ∈ E := fun s hs => ⟨(hm _).2 ((mem_ends _ _).2 ⟨s, hs, Or.inl rfl⟩), (hm _).2 ((mem_ends _ _).2 ⟨s, hs, Or.inr rfl⟩)⟩
      have hi' := hmem _ (List.getElem_mem hi)
      have hj' := hmem _ (List.getElem_mem (show j < (dd35 eqs35 (sortS (canonP l))).length by omega))
      have si := canon_seg l _ hi'
      have sj := canon_seg l _ hj'
      have hx := List.pairwise_iff_getElem.1 (cross_none _ b2) j i (by omega) hi hj
      exact clean_pair hg si sj (hends _ hi') (hends _ hj') (hnone _ hi') (hnone _ hj') (fun h => hx (h.elim (fun h => Or.inl ⟨h.2, h.1⟩) (fun h => Or.inr (ov_symm si h))))
    rw [show wrap64 ((l.length : Int) - 1) = (l.length : Int) - 1 from by unfold wrap64; omega]
    refine backLoop l (by omega) 100000000 (fun k hk => ?_) l.length 900000000 [] (by omega) (by omega) (by simp) (by simp)
    unfold clFin
    rw [hCb k (by omega), hC k (by omega), Option.bind_some, Option.bind_some, if_neg (by simp), hSb k (by omega), Option.bind_some, hS k (by omega), Option.bind_some, same _ (by rw [sortS_length]; omega) k (by rw [sortS_length]; omega), Option.bind_some]
    cases k with
    | zero => omega
    | succ k =>
      simp only [mapmakerlaw20_NodingClean.j1]
      rw [if_neg (by simp), nUnique l (by omega) k (by omega), Option.bind_some]
      exact clLoop l _ (unique_seg l) (by omega) 2000000 b hC hp (fun k hk => lives 100 livesAll k hk) _ k 0 (by omega) rfl (by omega)
  · rw [decide_eq_false hf, if_neg (by simp), lives 100 livesAll 900000000 (by omega)]
    rfl
end Go.Proofs.Ytmejeiddlhjjmaa.Pure
