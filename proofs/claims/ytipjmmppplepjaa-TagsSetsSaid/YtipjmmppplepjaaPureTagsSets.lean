/- TagsSets: for a valid list and a valid tag Set keeps the order and sets the value, Drop undoes the Set of a new key, other keys keep their values. -/
import Derived.Test.YtipjmmppplepjaaPureSetEd
namespace Go.Proofs.Ytipjmmppplepjaa.Pure
set_option linter.unusedVariables false
set_option linter.unusedSimpArgs false
open Go.RowKit Go.Proofs.Ytipjmmppplepjaa.PEd Go.Proofs.YtipjmmppplepjaaW.PrintWords Go.Proofs.YtipjmmppplepjaaW.PrintLast Go.Proofs.YtipjmmppplepjaaG

/-! Check -/
def goodB (t : S34) : Bool := decide ((t.f0.size : Int) ≥ 1 ∧ (t.f0.size : Int) ≤ 64 ∧ (t.f1.size : Int) ≤ 64)
theorem good_some (t : S34) : tags_good.f t.f0 t.f1 = some (goodB t) := by
  unfold tags_good.f goodB
  by_cases h : (t.f0.size : Int) < 1
  · rw [if_pos ((empty_iff _).2 h), decide_eq_false (by omega)]
  · rw [if_neg (fun e => h ((empty_iff _).1 e))]
    by_cases h2 : (t.f0.size : Int) ≤ 64
    · rw [if_pos h2]
      congr 1
      by_cases h3 : (t.f1.size : Int) ≤ 64
      · rw [decide_eq_true h3, decide_eq_true (by omega)]
      · rw [decide_eq_false h3, decide_eq_false (by omega)]
    · rw [if_neg h2, decide_eq_false (by omega)]
theorem check_from2 (l : List S34) (hl : l.length ≤ 16) (d : Nat) : ∀ (k : Nat) (i : Nat), i ≤ l.length → l.length - i = d → d < k →
    ∃ r, tags_Check.l0 k l l (l.length : Int) (i : Int) = some r ∧ (r = 0 ↔ ∀ j, i ≤ j → (hj : j < l.length) → goodB l[j] = true ∧ ∀ h0 : 0 < j, lt l[j - 1] l[j]) := by
  induction d with
  | zero =>
    intro k i hi hd hk
    obtain ⟨k, rfl⟩ : ∃ m, k = m + 1 := ⟨k - 1, by omega⟩
    simp only [tags_Check.l0]
    rw [if_neg (by omega)]
    exact ⟨0, rfl, fun _ j h1 h2 => by omega, fun _ => rfl⟩
  | succ d ih =>
    intro k i hi hd hk
    obtain ⟨k, rfl⟩ : ∃ m, k = m + 1 := ⟨k - 1, by omega⟩
    have hlt : i < l.length := by omega
    simp only [tags_Check.l0]
    rw [if_pos (by omega), if_pos (by omega), if_pos (by omega), rd_at l i hlt, good_some, Option.bind_some]
    cases hg : goodB l[i] with
    | false =>
      rw [if_neg Bool.false_ne_true]
      refine ⟨10, rfl, fun h => by omega, fun h => ?_⟩
      have := (h i (Nat.le_refl _) hlt).1
      rw [hg] at this
      cases this
    | true =>
      rw [if_pos rfl]
      obtain ⟨r, hr, hr0⟩ := ih k (i + 1) (by omega) (by omega) (by omega)
      rw [wrap_succ i (by omega)]
      by_cases h0 : (i : Int) > 0
      · have hw : wrap64 ((i : Int) - 1) = ((i - 1 : Nat) : Int) := by unfold wrap64; omega
        rw [if_pos h0, hw, if_pos (by omega), if_pos (by omega), rd_at l (i - 1) (by omega)]
        by_cases hb : Op.bytesLess (l[i - 1].f0.toList) (l[i].f0.toList) = true
        · rw [if_pos hb]
          refine ⟨r, hr, fun h j h1 h2 => ?_, fun h => hr0.2 (fun j h1 h2 => h j (by omega) h2)⟩
          by_cases e : j = i
          · subst e; exact ⟨hg, fun _ => hb⟩
          · exact hr0.1 h j (by omega) h2
        · rw [if_neg hb]
          exact ⟨6, rfl, fun h => by omega, fun h => absurd ((h i (Nat.le_refl _) hlt).2 (by omega)) hb⟩
      · rw [if_neg h0]
        refine ⟨r, hr, fun h j h1 h2 => ?_, fun h => hr0.2 (fun j h1 h2 => h j (by omega) h2)⟩
        by_cases e : j = i
        · subst e; exact ⟨hg, fun h' => by omega⟩
        · exact hr0.1 h j (by omega) h2
def Fine (l : List S34) : Prop := l.length ≤ 16 ∧ (∀ t ∈ l, goodB t = true) ∧ l.Pairwise lt
theorem adj_sorted (l : List S34) (h : ∀ j, (hj : j < l.length) → ∀ h0 : 0 < j, lt l[j - 1] l[j]) : l.Pairwise lt := by
  rw [List.pairwise_iff_getElem]
  intro i j hi hj hij
  obtain ⟨d, rfl⟩ : ∃ d, j = i + 1 + d := ⟨j - i - 1, by omega⟩
  clear hij
  induction d with
  | zero => exact h (i + 1) hj (by omega)
  | succ d ih => exact lt_trans (ih (by omega)) (h (i + 1 + (d + 1)) hj (by omega))
theorem check_iff (l : List S34) (k : Nat) (hk : 20 < k) : ∃ r, tags_Check.f k l = some r ∧ (r = 0 ↔ Fine l) := by
  unfold tags_Check.f
  by_cases h : (l.length : Int) > 16
  · rw [if_pos h]
    exact ⟨5, rfl, fun h => by omega, fun h' => by have := h'.1; omega⟩
  · rw [if_neg h]
    obtain ⟨r, hr, h0⟩ := check_from2 l (by omega) l.length k 0 (by omega) (by omega) (by omega)
    refine ⟨r, hr, fun e => ?_, fun e => h0.2 (fun j _ hj => ⟨e.2.1 _ (List.getElem_mem hj), fun hp => (List.pairwise_iff_getElem.1 e.2.2) (j - 1) j (by omega) hj (by omega)⟩)⟩
    have h1 := h0.1 e
    refine ⟨by omega, fun t ht => ?_, adj_sorted l (fun j hj hp => (h1 j (by omega) hj).2 hp)⟩
    obtain ⟨j, hj, rfl⟩ := List.getElem_of_mem ht
    exact (h1 j (by omega) hj).1

/-! Set on a sorted list -/
theorem getOf_hit (t : S34) (l : List S34) (key : ByteArray) (h : t.f0.toList = key.toList) : getOf (t :: l) key = (t.f1, true) := by rw [getOf_cons, if_pos h]
theorem getOf_skip (t : S34) (l : List S34) (key : ByteArray) (h : t.f0.toList ≠ key.toList) : getOf (t :: l) key = getOf l key := by rw [getOf_cons, if_neg h]
theorem setRest_nokey (a1 a2 : ByteArray) : ∀ l : List S34, (∀ x ∈ l, keyL x ≠ a1.toList) → setRest a1 a2 true true l = l
  | [], _ => rfl
  | t :: l, h => by
    simp only [setRest, if_true]
    rw [if_neg (show ¬ t.f0.toList = a1.toList from h t List.mem_cons_self), setRest_nokey a1 a2 l (fun x hx => h x (List.mem_cons_of_mem _ hx))]
theorem set_replace (a1 a2 : ByteArray) : ∀ l : List S34, l.Pairwise lt → (∃ x ∈ l, keyL x = a1.toList) →
    (setRest a1 a2 true false l).map keyL = l.map keyL ∧ (∀ x ∈ setRest a1 a2 true false l, x = ⟨a1, a2⟩ ∨ x ∈ l) ∧ getOf (setRest a1 a2 true false l) a1 = (a2, true) ∧ ∀ o : ByteArray, o.toList ≠ a1.toList → getOf (setRest a1 a2 true false l) o = getOf l o
  | [], _, h => by obtain ⟨x, hx, _⟩ := h; cases hx
  | t :: l, hs, h => by
    rw [List.pairwise_cons] at hs
    simp only [setRest, if_true]
    by_cases hk : t.f0.toList = a1.toList
    · rw [if_pos hk, if_neg Bool.false_ne_true, setRest_nokey a1 a2 l (fun x hx => fun e => lt_ne (hs.1 x hx) (show keyL t = keyL x by rw [e]; exact hk))]
      refine ⟨?_, fun x hx => ?_, getOf_hit _ _ _ rfl, fun o ho => ?_⟩
      · rw [List.map_cons, List.map_cons]
        congr 1
        exact hk.symm
      · rcases List.mem_cons.1 hx with rfl | hx
        · exact .inl rfl
        · exact .inr (List.mem_cons_of_mem _ hx)
      · rw [getOf_skip _ _ _ (show a1.toList ≠ o.toList from fun e => ho e.symm), getOf_skip _ _ _ (fun e => ho (by rw [← e]; exact hk))]
    · rw [if_neg hk]
      have h' : ∃ x ∈ l, keyL x = a1.toList := by
        obtain ⟨x, hx, e⟩ := h
        rcases List.mem_cons.1 hx with rfl | hx
        · exact absurd e hk
        · exact ⟨x, hx, e⟩
      obtain ⟨g1, g2, g3, g4⟩ := set_replace a1 a2 l hs.2 h'
      refine ⟨by rw [List.map_cons, List.map_cons, g1], fun x hx => ?_, by rw [getOf_skip _ _ _ hk]; exact g3, fun o ho => by rw [getOf_cons, getOf_cons, g4 o ho]⟩
      rcases List.mem_cons.1 hx with rfl | hx
      · exact .inr List.mem_cons_self
      · rcases g2 x hx with e | e
        · exact .inl e
        · exact .inr (List.mem_cons_of_mem _ e)
theorem filter_none (a1 : ByteArray) (l : List S34) (h : ∀ x ∈ l, keyL x ≠ a1.toList) : l.filter (fun x => !keyIs a1 x) = l := by
  rw [List.filter_eq_self]
  intro x hx
  rw [(keyIs_not a1 x).2 (h x hx)]
  rfl
theorem set_new (a1 a2 : ByteArray) : ∀ l : List S34, (∀ x ∈ l, keyL x ≠ a1.toList) →
    getOf (setRest a1 a2 false false l) a1 = (a2, true) ∧ (∀ o : ByteArray, o.toList ≠ a1.toList → getOf (setRest a1 a2 false false l) o = getOf l o) ∧ (setRest a1 a2 false false l).filter (fun x => !keyIs a1 x) = l
  | [], _ => by
    simp only [setRest, Bool.false_eq_true, if_false]
    refine ⟨getOf_hit _ _ _ rfl, fun o ho => getOf_skip _ _ _ (fun e => ho e.symm), ?_⟩
    rw [List.filter_cons, (keyIs_iff a1 ⟨a1, a2⟩).2 rfl]
    rfl
  | t :: l, h => by
    simp only [setRest, Bool.false_eq_true, if_false]
    have ht : t.f0.toList ≠ a1.toList := h t List.mem_cons_self
    by_cases hb : Op.bytesLess a1.toList t.f0.toList = true
    · rw [if_pos hb, setRest_done]
      refine ⟨getOf_hit _ _ _ rfl, fun o ho => getOf_skip _ _ _ (fun e => ho e.symm), ?_⟩
      rw [List.filter_cons, (keyIs_iff a1 ⟨a1, a2⟩).2 rfl, Bool.not_true, if_neg Bool.false_ne_true, filter_none a1 _ h]
    · rw [if_neg hb]
      obtain ⟨g1, g2, g3⟩ := set_new a1 a2 l (fun x hx => h x (List.mem_cons_of_mem _ hx))
      refine ⟨by rw [getOf_skip _ _ _ ht]; exact g1, fun o ho => by rw [getOf_cons, getOf_cons, g2 o ho], ?_⟩
      rw [List.filter_cons, (keyIs_not a1 t).2 ht, Bool.not_false, if_pos rfl, g3]
theorem sorted_of_keys {l m : List S34} (h : m.map keyL = l.map keyL) (hs : l.Pairwise lt) : m.Pairwise lt := by
  have e : ∀ l : List S34, l.Pairwise lt ↔ (l.map keyL).Pairwise (fun a b => Op.bytesLess a b = true) := fun l => by rw [List.pairwise_map]; exact Iff.rfl
  rw [e, h, ← e]
  exact hs
structure SetP (l m : List S34) (a1 a2 : ByteArray) : Prop where
  get : getOf m a1 = (a2, true)
  oth : ∀ o : ByteArray, o.toList ≠ a1.toList → getOf m o = getOf l o
  fine : m.length ≤ 16 → Fine m
  had : ((getOf l a1).2 = true ∧ m.length = l.length) ∨ ((getOf l a1).2 = false ∧ m.length = l.length + 1 ∧ m.filter (fun x => !keyIs a1 x) = l)
theorem setP (l : List S34) (a1 a2 : ByteArray) (hf : Fine l) (hg : goodB ⟨a1, a2⟩ = true) : SetP l (setRest a1 a2 (getOf l a1).2 false l) a1 a2 := by
  cases hh : (getOf l a1).2 with
  | true =>
    obtain ⟨g1, g2, g3, g4⟩ := set_replace a1 a2 l hf.2.2 ((has_iff l a1).1 hh)
    have hlen : (setRest a1 a2 true false l).length = l.length := by have := congrArg List.length g1; simpa using this
    refine ⟨g3, g4, fun hm => ⟨hm, fun t ht => ?_, sorted_of_keys g1 hf.2.2⟩, .inl ⟨hh, hlen⟩⟩
    rcases g2 t ht with rfl | h
    · exact hg
    · exact hf.2.1 t h
  | false =>
    have hn : ∀ x ∈ l, keyL x ≠ a1.toList := fun x hx e => by
      have := (has_iff l a1).2 ⟨x, hx, e⟩
      rw [hh] at this
      cases this
    obtain ⟨g1, g2, g3⟩ := set_new a1 a2 l hn
    obtain ⟨p1, p2⟩ := set_insert a1 a2 l hf.2.2 hn
    refine ⟨g1, g2, fun hm => ⟨hm, fun t ht => ?_, p2⟩, .inr ⟨hh, by have := p1.length_eq; simpa using this, g3⟩⟩
    rcases List.mem_cons.1 (p1.mem_iff.1 ht) with rfl | h
    · exact hg
    · exact hf.2.1 t h

/-! the law -/
theorem TagsSets_out (l : List S34) (a1 a2 a3 : ByteArray) (k : Nat) (hk : 60 ≤ k) : mapmakerlaw06_TagsSets.j0 (k + 1) l a1 a2 a3 true = some true := by
  simp only [mapmakerlaw06_TagsSets.j0, if_true]
  rw [lives k hk]
  rfl
theorem TagsSets_last (l m : List S34) (a1 a2 a3 : ByteArray) (h : SetP l m a1 a2) (hl : l.length ≤ 40) (k : Nat) (hk : 60 ≤ k) : mapmakerlaw06_TagsSets.j1 (k + 1) l a1 a3 m false = some true := by
  simp only [mapmakerlaw06_TagsSets.j1, Bool.false_eq_true, if_false]
  have hd : (getOf (l.filter (fun x => !keyIs a1 x)) a1).2 = false := by
    cases hh : (getOf (l.filter (fun x => !keyIs a1 x)) a1).2 with
    | false => rfl
    | true =>
      obtain ⟨x, hx, e⟩ := (has_iff _ a1).1 hh
      have := (List.mem_filter.1 hx).2
      rw [(keyIs_iff a1 x).2 e] at this
      cases this
  rw [tagsGet, Option.bind_some, tagsGet, Option.bind_some, tagsDrop l a1 (by omega), Option.bind_some, tagsGet, Option.bind_some, hd, if_neg Bool.false_ne_true]
  by_cases ho : a3.toList = a1.toList
  · rw [if_pos ho, lives k hk]; rfl
  · rw [if_neg ho, h.oth a3 ho, if_pos rfl, if_pos (by simp), lives k hk]; rfl
theorem TagsSets_in (l : List S34) (a1 a2 a3 : ByteArray) (hl : l.length ≤ 40) (hf : Fine l) (hg : goodB ⟨a1, a2⟩ = true) (k : Nat) (hk : 200 ≤ k) : mapmakerlaw06_TagsSets.j0 (k + 1 + 1) l a1 a2 a3 false = some true := by
  have hP := setP l a1 a2 hf hg
  have hsl := setRest_len a1 a2 (getOf l a1).2 l
  simp only [mapmakerlaw06_TagsSets.j0, Bool.false_eq_true, if_false]
  rw [tagsSet l a1 a2 (by omega), Option.bind_some]
  generalize setRest a1 a2 (getOf l a1).2 false l = m at *
  have hlast := TagsSets_last l m a1 a2 a3 hP hl k (by omega)
  obtain ⟨r, hr, hr0⟩ := check_iff m (k + 1) (by omega)
  rw [tagsGet, Option.bind_some, tagsGet, Option.bind_some, hP.get, if_pos rfl, if_pos rfl, hr, Option.bind_some]
  have htail : (if ((getOf l a1).2 != ((m.length : Int) == (l.length : Int))) = true then mapmakerlaw06_TagsSets.j1 (k + 1) l a1 a3 m true
      else if (getOf l a1).2 = true then mapmakerlaw06_TagsSets.j1 (k + 1) l a1 a3 m false
      else (tags_Drop.f m a1).bind fun t213 => (mapmakerref06_Same.f (k + 1) t213 l).bind fun t216 => mapmakerlaw06_TagsSets.j1 (k + 1) l a1 a3 m (!t216)) = some true := by
    rcases hP.had with ⟨h1, h2⟩ | ⟨h1, h2, h3⟩
    · rw [h1, h2, if_neg (by simp), if_pos rfl]
      exact hlast
    · have hne : ((m.length : Int) == (l.length : Int)) = false := beq_eq_false_iff_ne.mpr (by omega)
      rw [h1, hne, if_neg (by simp), if_neg Bool.false_ne_true, tagsDrop m a1 (by omega), Option.bind_some, h3, refSame l l (by unfold maxLen; omega) (k + 1) (by omega), Option.bind_some]
      rw [decide_eq_true rfl]
      exact hlast
  by_cases hm : (m.length : Int) ≤ 16
  · rw [if_pos hm, if_pos (hr0.2 (hP.fine (by omega)))]
    exact htail
  · rw [if_neg hm]
    exact htail
theorem TagsSets : mapmakerlaw06_TagsSets.Pure := by
  intro l a1 a2 a3 hw w1 w2 w3
  obtain ⟨b, hb, hs⟩ := small l hw.1 (2 * l.length + 502) (by omega)
  obtain ⟨r, hr, hr0⟩ := check_iff l (2 * l.length + 502) (by omega)
  obtain ⟨q, hq, hq0⟩ := check_iff [⟨a1, a2⟩] (2 * l.length + 502) (by omega)
  refine ⟨2 * l.length + 500 + 1 + 1, ?_⟩
  unfold mapmakerlaw06_TagsSets.f
  rw [hb, Option.bind_some]
  have ho := TagsSets_out l a1 a2 a3 (2 * l.length + 501) (by omega)
  cases b with
  | false => rw [if_neg Bool.false_ne_true]; exact ho
  | true =>
    rw [if_pos rfl]
    by_cases h1 : (a1.size : Int) > 200
    · rw [if_pos h1]; exact ho
    rw [if_neg h1]
    by_cases h2 : (a2.size : Int) > 200
    · rw [if_pos h2]; exact ho
    rw [if_neg h2]
    by_cases h3 : (a3.size : Int) > 200
    · rw [if_pos h3]; exact ho
    rw [if_neg h3, hr, Option.bind_some]
    by_cases h4 : r = 0
    · rw [if_pos h4, hq, Option.bind_some]
      by_cases h5 : q = 0
      · subst h5
        exact TagsSets_in l a1 a2 a3 (hs rfl) (hr0.1 h4) ((hq0.1 rfl).2.1 _ List.mem_cons_self) (2 * l.length + 500) (by omega)
      · have : (q != 0) = true := by simp [h5]
        rw [this]
        exact ho
    · rw [if_neg h4]
      exact ho
end Go.Proofs.Ytipjmmppplepjaa.Pure
