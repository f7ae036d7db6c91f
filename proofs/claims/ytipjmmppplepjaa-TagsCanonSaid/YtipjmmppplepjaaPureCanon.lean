/- Plain facts: what Check and Canon answer, of the program and of its reference. -/
import Derived.Test.YtipjmmppplepjaaPureCore
namespace Go.Proofs.Ytipjmmppplepjaa.Pure
set_option linter.unusedVariables false
set_option linter.unusedSimpArgs false
open Go.RowKit Go.Proofs.Ytipjmmppplepjaa.PAll Go.Proofs.YtipjmmppplepjaaW.PrintWords Go.Proofs.YtipjmmppplepjaaW.PrintLast Go.Proofs.YtipjmmppplepjaaG

/-! the order of keys -/
def lt (x y : S34) : Prop := Op.bytesLess x.f0.toList y.f0.toList = true
def keyL (x : S34) : List UInt8 := x.f0.toList
theorem lt_irrefl (x : S34) : ¬ lt x x := by unfold lt; rw [bytesLess_irrefl]; exact Bool.false_ne_true
theorem lt_trans {x y z : S34} (h1 : lt x y) (h2 : lt y z) : lt x z := bytesLess_trans _ _ _ h1 h2
theorem lt_total {x y : S34} (h1 : ¬ lt x y) (h2 : ¬ lt y x) : keyL x = keyL y := show x.f0.toList = y.f0.toList from bytesLess_total _ _ (by simpa [lt] using h1) (by simpa [lt] using h2)
theorem lt_ne {x y : S34} (h : lt x y) : keyL x ≠ keyL y := fun e => by
  unfold lt at h
  unfold keyL at e
  rw [e, bytesLess_irrefl] at h
  cases h
theorem sorted_unique : ∀ {a b : List S34}, a.Perm b → a.Pairwise lt → b.Pairwise lt → a = b
  | [], b, h, _, _ => (List.Perm.eq_nil h.symm).symm
  | x :: a, [], h, _, _ => absurd h.length_eq (by simp)
  | x :: a, y :: b, h, ha, hb => by
    rw [List.pairwise_cons] at ha hb
    have hxy : x = y := by
      by_cases e : x = y
      · exact e
      · have h1 : x ∈ y :: b := h.mem_iff.1 List.mem_cons_self
        have h2 : y ∈ x :: a := h.mem_iff.2 List.mem_cons_self
        have h3 : x ∈ b := (List.mem_cons.1 h1).resolve_left e
        have h4 : y ∈ a := (List.mem_cons.1 h2).resolve_left (fun e' => e e'.symm)
        exact absurd (lt_trans (ha.1 y h4) (hb.1 x h3)) (lt_irrefl x)
    subst hxy
    rw [sorted_unique ((List.perm_cons x).1 h) ha.2 hb.2]
theorem nodup_of_sorted : ∀ {a : List S34}, a.Pairwise lt → (a.map keyL).Nodup
  | [], _ => List.nodup_nil
  | x :: a, h => by
    rw [List.pairwise_cons] at h
    rw [List.map_cons, List.nodup_cons]
    refine ⟨fun hm => ?_, nodup_of_sorted h.2⟩
    obtain ⟨y, hy, e⟩ := List.mem_map.1 hm
    exact lt_ne (h.1 y hy) e.symm

/-! Check -/
theorem good_same (a b : ByteArray) : tags_good.f a b = mapmakerref06_inTag.f a b := by
  unfold tags_good.f mapmakerref06_inTag.f
  by_cases h : (a.size : Int) < 1
  · rw [if_pos ((empty_iff a).2 h), if_neg (by omega)]
  · rw [if_neg (fun e => h ((empty_iff a).1 e)), if_pos (show (a.size : Int) ≥ 1 by omega)]
def goodB (t : S34) : Bool := decide ((t.f0.size : Int) ≥ 1 ∧ (t.f0.size : Int) ≤ 64 ∧ (t.f1.size : Int) ≤ 64)
theorem inTag_some (t : S34) : mapmakerref06_inTag.f t.f0 t.f1 = some (goodB t) := by
  unfold mapmakerref06_inTag.f goodB
  by_cases h1 : (t.f0.size : Int) ≥ 1
  · by_cases h2 : (t.f0.size : Int) ≤ 64
    · rw [if_pos h1, if_pos h2]; simp [h1, h2]
    · rw [if_pos h1, if_neg h2]; simp [h2]
  · rw [if_neg h1]; simp [h1]
theorem good_some (t : S34) : tags_good.f t.f0 t.f1 = some (goodB t) := by rw [good_same]; exact inTag_some t
theorem check_same0 (l : List S34) : ∀ (k : Nat) (i : Int), tags_Check.l0 k l l (l.length : Int) i = mapmakerref06_Check.l0 k l i
  | 0, _ => rfl
  | k + 1, i => by
    simp only [tags_Check.l0, mapmakerref06_Check.l0, check_same0 l k, good_same]
    by_cases h : i < (l.length : Int)
    · simp only [h, if_true]
    · simp only [h, if_false]
theorem check_same (l : List S34) (k : Nat) : tags_Check.f k l = mapmakerref06_Check.f k l := by
  unfold tags_Check.f mapmakerref06_Check.f
  rw [check_same0]
/-- From position i on: a tag that is not good, or one that is not above the one before it. -/
theorem check_from (l : List S34) (hl : l.length ≤ 16) (d : Nat) : ∀ (k : Nat) (i : Nat), i ≤ l.length → l.length - i = d → d < k →
    ∃ r, mapmakerref06_Check.l0 k l (i : Int) = some r ∧ ((∀ t ∈ l, goodB t = true) → l.Pairwise lt → r = 0) := by
  induction d with
  | zero =>
    intro k i hi hd hk
    obtain ⟨k, rfl⟩ : ∃ m, k = m + 1 := ⟨k - 1, by omega⟩
    simp only [mapmakerref06_Check.l0]
    rw [if_neg (by omega)]
    exact ⟨0, rfl, fun _ _ => rfl⟩
  | succ d ih =>
    intro k i hi hd hk
    obtain ⟨k, rfl⟩ : ∃ m, k = m + 1 := ⟨k - 1, by omega⟩
    have hlt : i < l.length := by omega
    simp only [mapmakerref06_Check.l0]
    rw [if_pos (by omega), if_pos (by omega), rd_at l i hlt, inTag_some, Option.bind_some]
    cases hg : goodB l[i] with
    | false =>
      rw [if_neg Bool.false_ne_true]
      refine ⟨10, rfl, fun h _ => ?_⟩
      have := h l[i] (List.getElem_mem hlt)
      rw [hg] at this
      cases this
    | true =>
      rw [if_pos rfl]
      obtain ⟨r, hr, hr0⟩ := ih k (i + 1) (by omega) (by omega) (by omega)
      rw [wrap_succ i (by omega)]
      by_cases h0 : (i : Int) > 0
      · have hw : wrap64 ((i : Int) - 1) = ((i - 1 : Nat) : Int) := by unfold wrap64; omega
        rw [if_pos h0, hw, if_pos (by omega), if_pos (by omega), rd_at l (i - 1) (by omega)]
        by_cases hb : Op.bytesLess (l[i - 1].f0.toList) (l[i].f0.toList) = true
        · rw [if_pos hb]
          exact ⟨r, hr, hr0⟩
        · rw [if_neg hb]
          refine ⟨6, rfl, fun _ hs => absurd (?_ : lt l[i - 1] l[i]) hb⟩
          exact (List.pairwise_iff_getElem.1 hs) (i - 1) i (by omega) hlt (by omega)
      · rw [if_neg h0]
        exact ⟨r, hr, hr0⟩
theorem check_some (l : List S34) (k : Nat) (hk : 20 < k) : ∃ r, mapmakerref06_Check.f k l = some r ∧ (l.length ≤ 16 → (∀ t ∈ l, goodB t = true) → l.Pairwise lt → r = 0) := by
  unfold mapmakerref06_Check.f
  by_cases h : (l.length : Int) > 16
  · rw [if_pos h]
    exact ⟨5, rfl, fun h' => by omega⟩
  · rw [if_neg h]
    obtain ⟨r, hr, h0⟩ := check_from l (by omega) l.length k 0 (by omega) (by omega) (by omega)
    exact ⟨r, hr, fun _ => h0⟩

/-! the reference's Set -/
def setRest (key val : ByteArray) (has : Bool) : Bool → List S34 → List S34
  | done, [] => if done = true then [] else [⟨key, val⟩]
  | done, t :: r =>
    if has = true then (if t.f0.toList = key.toList then (if done = true then setRest key val has true r else ⟨key, val⟩ :: setRest key val has true r) else t :: setRest key val has done r)
    else if done = true then t :: setRest key val has true r
    else if Op.bytesLess key.toList t.f0.toList = true then ⟨key, val⟩ :: t :: setRest key val has true r
    else t :: setRest key val has false r
theorem refSet0 (l : List S34) (key val : ByteArray) (has : Bool) (hl : l.length ≤ 1000000) (d : Nat) : ∀ (k : Nat) (i : Nat) (out : List S34) (done : Bool), i ≤ l.length → l.length - i = d → 2 * d + 1 < k → out.length + 2 * d + 2 < 4398046511104 →
    mapmakerref06_Set.l0 k l key val out has done (i : Int) = some (out ++ setRest key val has done (l.drop i)) := by
  induction d with
  | zero =>
    intro k i out done hi hd hk ho
    obtain ⟨k, rfl⟩ : ∃ m, k = m + 1 := ⟨k - 1, by omega⟩
    simp only [mapmakerref06_Set.l0]
    rw [if_neg (by omega), List.drop_eq_nil_of_le (by omega)]
    cases done with
    | true => simp [setRest]
    | false => rw [if_neg Bool.false_ne_true, if_pos (by omega)]; simp [setRest]
  | succ d ih =>
    intro k i out done hi hd hk ho
    obtain ⟨k, rfl⟩ : ∃ m, k = m + 2 := ⟨k - 2, by omega⟩
    have hlt : i < l.length := by omega
    have hrd := rd_at l i hlt
    have e : (⟨l[i].f0, l[i].f1⟩ : S34) = l[i] := rfl
    have hw := wrap_succ i (by omega)
    have I := fun (out : List S34) (done : Bool) (h : out.length + 2 * d + 2 < 4398046511104) => ih k (i + 1) out done (by omega) (by omega) (by omega) h
    have c0 : (0 : Int) ≤ (i : Int) := by omega
    have c1 : (i : Int) < (l.length : Int) := by omega
    have c2 : out.length < 4398046511104 := by omega
    rw [List.drop_eq_getElem_cons hlt]
    simp only [mapmakerref06_Set.l0, setRest]
    rw [if_pos c1]
    simp only [mapmakerref06_Set.j1]
    rw [hrd, hw, e]
    cases has with
    | true =>
      rw [if_pos rfl, if_pos rfl, if_pos c0]
      by_cases hk' : l[i].f0.toList = key.toList
      · have : (l[i].f0.toList == key.toList) = true := beq_iff_eq.mpr hk'
        rw [this, if_pos rfl, if_pos hk']
        cases done with
        | true => rw [if_pos rfl, if_pos rfl]; exact I _ _ (by omega)
        | false => rw [if_neg Bool.false_ne_true, if_neg Bool.false_ne_true, if_pos c2, I _ _ (by simp; omega), List.append_assoc]; rfl
      · have : (l[i].f0.toList == key.toList) = false := beq_eq_false_iff_ne.mpr hk'
        rw [this, if_neg Bool.false_ne_true, if_neg hk', if_pos rfl, if_pos c0, if_pos c1, if_pos c2, I _ _ (by simp; omega), List.append_assoc]
        rfl
    | false =>
      rw [if_neg Bool.false_ne_true, if_neg Bool.false_ne_true, if_neg Bool.false_ne_true, if_neg Bool.false_ne_true]
      cases done with
      | true => rw [if_pos rfl, if_pos rfl, if_pos c0, if_pos c1, if_pos c2, I _ _ (by simp; omega), List.append_assoc]; rfl
      | false =>
        rw [if_neg Bool.false_ne_true, if_neg Bool.false_ne_true, if_pos c0, if_pos c1]
        by_cases hb : Op.bytesLess key.toList l[i].f0.toList = true
        · rw [if_pos hb, if_pos hb, if_pos c2, Option.bind_some, if_pos (by simp; omega), I _ _ (by simp; omega), List.append_assoc, List.append_assoc]
          rfl
        · rw [if_neg hb, if_neg hb, if_pos c2, I _ _ (by simp; omega), List.append_assoc]
          rfl
theorem refSet (l : List S34) (key val : ByteArray) (hl : l.length ≤ 1000000) (k : Nat) (hk : 2 * l.length + 1 < k) : mapmakerref06_Set.f k l key val = some (setRest key val (getOf l key).2 false l) := by
  unfold mapmakerref06_Set.f
  rw [refGet l key (by unfold maxLen; omega) k (by omega), Option.bind_some]
  have := refSet0 l key val (getOf l key).2 hl l.length k 0 [] false (by omega) (by omega) hk (by simp; omega)
  simpa using this

theorem has_iff (l : List S34) (key : ByteArray) : (getOf l key).2 = true ↔ ∃ x ∈ l, keyL x = key.toList := by
  induction l with
  | nil => simp [getOf]
  | cons t l ih =>
    rw [getOf_cons]
    by_cases h : t.f0.toList = key.toList
    · rw [if_pos h]
      exact ⟨fun _ => ⟨t, List.mem_cons_self, h⟩, fun _ => rfl⟩
    · rw [if_neg h, ih]
      constructor
      · rintro ⟨x, hx, e⟩
        exact ⟨x, List.mem_cons_of_mem _ hx, e⟩
      · rintro ⟨x, hx, e⟩
        rcases List.mem_cons.1 hx with rfl | hx
        · exact absurd e h
        · exact ⟨x, hx, e⟩
theorem setRest_done (key val : ByteArray) : ∀ l : List S34, setRest key val false true l = l
  | [] => rfl
  | t :: l => by simp [setRest, setRest_done key val l]
theorem set_insert (key val : ByteArray) : ∀ l : List S34, l.Pairwise lt → (∀ x ∈ l, keyL x ≠ key.toList) → (setRest key val false false l).Perm (⟨key, val⟩ :: l) ∧ (setRest key val false false l).Pairwise lt
  | [], _, _ => ⟨List.Perm.refl _, List.pairwise_singleton _ _⟩
  | t :: l, hs, hn => by
    rw [List.pairwise_cons] at hs
    simp only [setRest, Bool.false_eq_true, if_false]
    by_cases hb : Op.bytesLess key.toList t.f0.toList = true
    · rw [if_pos hb, setRest_done]
      refine ⟨List.Perm.refl _, List.pairwise_cons.2 ⟨fun x hx => ?_, List.pairwise_cons.2 hs⟩⟩
      rcases List.mem_cons.1 hx with rfl | hx
      · exact hb
      · exact bytesLess_trans _ _ _ hb (hs.1 x hx)
    · rw [if_neg hb]
      obtain ⟨h1, h2⟩ := set_insert key val l hs.2 (fun x hx => hn x (List.mem_cons_of_mem _ hx))
      refine ⟨(h1.cons t).trans (List.Perm.swap _ _ _), List.pairwise_cons.2 ⟨fun x hx => ?_, h2⟩⟩
      have hx' := h1.mem_iff.1 hx
      rcases List.mem_cons.1 hx' with rfl | hx'
      · show Op.bytesLess t.f0.toList key.toList = true
        cases h : Op.bytesLess t.f0.toList key.toList with
        | true => rfl
        | false => exact absurd (bytesLess_total _ _ h (by simpa using hb)) (hn t List.mem_cons_self)
      · exact hs.1 x hx'

/-! Canon -/
structure CanonP (l a : List S34) (e : Int) : Prop where
  long : 16 < l.length → a = [] ∧ e = 5
  bad : l.length ≤ 16 → (∃ t ∈ l, goodB t = false) → a = [] ∧ e = 10
  twice : l.length ≤ 16 → (∀ t ∈ l, goodB t = true) → ¬ (l.map keyL).Nodup → a = [] ∧ e = 7
  fine : l.length ≤ 16 → (∀ t ∈ l, goodB t = true) → (l.map keyL).Nodup → e = 0 ∧ a.Perm l ∧ a.Pairwise lt
theorem CanonP.unique {l l' a a' : List S34} {e e' : Int} (h : CanonP l a e) (h' : CanonP l' a' e') (hp : l.Perm l') : a = a' ∧ e = e' := by
  have hlen := hp.length_eq
  by_cases c1 : 16 < l.length
  · obtain ⟨rfl, rfl⟩ := h.long c1
    obtain ⟨rfl, rfl⟩ := h'.long (by omega)
    exact ⟨rfl, rfl⟩
  by_cases c2 : ∃ t ∈ l, goodB t = false
  · obtain ⟨rfl, rfl⟩ := h.bad (by omega) c2
    obtain ⟨t, ht, hg⟩ := c2
    obtain ⟨rfl, rfl⟩ := h'.bad (by omega) ⟨t, hp.mem_iff.1 ht, hg⟩
    exact ⟨rfl, rfl⟩
  have c2a : ∀ t ∈ l, goodB t = true := fun t ht => by
    cases hg : goodB t with
    | true => rfl
    | false => exact absurd ⟨t, ht, hg⟩ c2
  have c2b : ∀ t ∈ l', goodB t = true := fun t ht => c2a t (hp.mem_iff.2 ht)
  have hnd : (l.map keyL).Nodup ↔ (l'.map keyL).Nodup := (hp.map keyL).nodup_iff
  by_cases c3 : (l.map keyL).Nodup
  · obtain ⟨rfl, p1, s1⟩ := h.fine (by omega) c2a c3
    obtain ⟨rfl, p2, s2⟩ := h'.fine (by omega) c2b (hnd.1 c3)
    exact ⟨sorted_unique (p1.trans (hp.trans p2.symm)) s1 s2, rfl⟩
  · obtain ⟨rfl, rfl⟩ := h.twice (by omega) c2a c3
    obtain ⟨rfl, rfl⟩ := h'.twice (by omega) c2b (fun x => c3 (hnd.2 x))
    exact ⟨rfl, rfl⟩

theorem nodup_take {l : List S34} (i : Nat) (hi : i < l.length) (hn : (l.map keyL).Nodup) : ∀ x ∈ l.take i, keyL x ≠ keyL l[i] := by
  intro x hx e
  rw [← List.take_append_drop i l, List.map_append, List.nodup_append] at hn
  refine hn.2.2 (keyL x) (List.mem_map_of_mem hx) (keyL l[i]) ?_ e
  rw [List.drop_eq_getElem_cons hi]
  exact List.mem_map_of_mem List.mem_cons_self

theorem refCanon1 (l : List S34) (hl : l.length ≤ 16) (d : Nat) : ∀ (k : Nat) (i : Nat) (out : List S34), i ≤ l.length → l.length - i = d → d + 40 < k → out.Perm (l.take i) → out.Pairwise lt →
    ∃ a e, mapmakerref06_Canon.l1 k l out (i : Int) = some (a, e) ∧ (¬ (l.map keyL).Nodup → a = [] ∧ e = 7) ∧ ((l.map keyL).Nodup → e = 0 ∧ a.Perm l ∧ a.Pairwise lt) := by
  induction d with
  | zero =>
    intro k i out hi hd hk hp hs
    obtain ⟨k, rfl⟩ : ∃ m, k = m + 1 := ⟨k - 1, by omega⟩
    simp only [mapmakerref06_Canon.l1]
    rw [if_neg (by omega)]
    have ht : l.take i = l := List.take_of_length_le (by omega)
    rw [ht] at hp
    refine ⟨out, 0, rfl, fun hn => absurd ?_ hn, fun _ => ⟨rfl, hp, hs⟩⟩
    exact (hp.map keyL).nodup_iff.1 (nodup_of_sorted hs)
  | succ d ih =>
    intro k i out hi hd hk hp hs
    obtain ⟨k, rfl⟩ : ∃ m, k = m + 1 := ⟨k - 1, by omega⟩
    have hlt : i < l.length := by omega
    have hol : out.length = i := by rw [hp.length_eq, List.length_take]; omega
    simp only [mapmakerref06_Canon.l1]
    rw [if_pos (by omega), if_pos (by omega), rd_at l i hlt, refGet out _ (by unfold maxLen; omega) k (by omega), Option.bind_some]
    by_cases hh : (getOf out l[i].f0).2 = true
    · rw [if_pos hh]
      obtain ⟨x, hx, e⟩ := (has_iff _ _).1 hh
      exact ⟨_, _, rfl, fun _ => ⟨rfl, rfl⟩, fun hn => absurd e (nodup_take i hlt hn x (hp.mem_iff.1 hx))⟩
    · have hf : (getOf out l[i].f0).2 = false := Bool.eq_false_iff.mpr hh
      rw [if_neg hh, refSet out _ _ (by omega) k (by omega), Option.bind_some, hf, wrap_succ i (by omega)]
      obtain ⟨h1, h2⟩ := set_insert l[i].f0 l[i].f1 out hs (fun x hx e => hh ((has_iff _ _).2 ⟨x, hx, e⟩))
      refine ih k (i + 1) _ (by omega) (by omega) (by omega) ?_ h2
      refine h1.trans ?_
      rw [List.take_succ_eq_append_getElem hlt]
      exact ((hp.cons _).trans (List.perm_append_singleton _ _).symm)
theorem refCanon0 (l : List S34) (hl : l.length ≤ 16) (d : Nat) : ∀ (k : Nat) (i : Nat), i ≤ l.length → l.length - i = d → d + 60 < k → (∀ t ∈ l.take i, goodB t = true) →
    ∃ a e, mapmakerref06_Canon.l0 k l (i : Int) = some (a, e) ∧ CanonP l a e := by
  induction d with
  | zero =>
    intro k i hi hd hk hg
    obtain ⟨k, rfl⟩ : ∃ m, k = m + 1 := ⟨k - 1, by omega⟩
    simp only [mapmakerref06_Canon.l0]
    rw [if_neg (by omega)]
    have ht : l.take i = l := List.take_of_length_le (by omega)
    rw [ht] at hg
    obtain ⟨a, e, h, h1, h2⟩ := refCanon1 l hl l.length k 0 [] (by omega) (by omega) (by omega) (List.Perm.refl _) List.Pairwise.nil
    refine ⟨a, e, h, ⟨fun h' => by omega, fun _ ⟨t, ht, hb⟩ => ?_, fun _ _ => h1, fun _ _ => h2⟩⟩
    rw [hg t ht] at hb
    cases hb
  | succ d ih =>
    intro k i hi hd hk hg
    obtain ⟨k, rfl⟩ : ∃ m, k = m + 1 := ⟨k - 1, by omega⟩
    have hlt : i < l.length := by omega
    simp only [mapmakerref06_Canon.l0]
    rw [if_pos (by omega), if_pos (by omega), rd_at l i hlt, inTag_some, Option.bind_some]
    cases hb : goodB l[i] with
    | false =>
      rw [if_neg Bool.false_ne_true]
      refine ⟨_, _, rfl, ⟨fun h' => by omega, fun _ _ => ⟨rfl, rfl⟩, fun _ h' => ?_, fun _ h' => ?_⟩⟩
      · have := h' _ (List.getElem_mem hlt); rw [hb] at this; cases this
      · have := h' _ (List.getElem_mem hlt); rw [hb] at this; cases this
    | true =>
      rw [if_pos rfl, wrap_succ i (by omega)]
      refine ih k (i + 1) (by omega) (by omega) (by omega) (fun t ht => ?_)
      rw [List.take_succ_eq_append_getElem hlt] at ht
      rcases List.mem_append.1 ht with ht | ht
      · exact hg t ht
      · rw [List.mem_singleton.1 ht]; exact hb
theorem refCanon (l : List S34) (k : Nat) (hk : 80 < k) : ∃ a e, mapmakerref06_Canon.f k l = some (a, e) ∧ CanonP l a e := by
  unfold mapmakerref06_Canon.f
  by_cases h : (l.length : Int) > 16
  · rw [if_pos h]
    exact ⟨_, _, rfl, ⟨fun _ => ⟨rfl, rfl⟩, fun h' => by omega, fun h' => by omega, fun h' => by omega⟩⟩
  · rw [if_neg h]
    exact refCanon0 l (by omega) l.length k 0 (by omega) (by omega) (by omega) (fun t ht => by simp at ht)

/-- The program's second loop: over the sorted list. -/
theorem tagsCanon1 (l r : List S34) (hl : l.length ≤ 16) (hp : r.Perm l) (hs : ∀ i j, (hi : i < r.length) → (hj : j < r.length) → i < j → ¬ lt r[j] r[i]) (d : Nat) : ∀ (k : Nat) (i : Nat), i ≤ r.length → r.length - i = d → d < k → (∀ j, (hj : j + 1 < i) → (h2 : j + 1 < r.length) → keyL r[j] ≠ keyL r[j + 1]) →
    ∃ a e, tags_Canon.l1 k r (r.length : Int) (i : Int) = some (a, e) ∧ (¬ (l.map keyL).Nodup → a = [] ∧ e = 7) ∧ ((l.map keyL).Nodup → e = 0 ∧ a.Perm l ∧ a.Pairwise lt) := by
  have hrl : r.length = l.length := hp.length_eq
  induction d with
  | zero =>
    intro k i hi hd hk ha
    obtain ⟨k, rfl⟩ : ∃ m, k = m + 1 := ⟨k - 1, by omega⟩
    simp only [tags_Canon.l1]
    rw [if_neg (by omega)]
    have hne : ∀ i' j', (h1 : i' < r.length) → (h2 : j' < r.length) → i' < j' → keyL r[i'] ≠ keyL r[j'] := by
      intro i' j' h1 h2 hij e
      refine ha i' (by omega) (by omega) ?_
      refine (lt_total (fun h => ?_) (hs i' (i' + 1) (by omega) (by omega) (by omega)))
      by_cases e2 : i' + 1 = j'
      · subst e2; exact lt_ne h e
      · have := hs (i' + 1) j' (by omega) h2 (by omega)
        refine this ?_
        show Op.bytesLess (keyL r[j']) _ = true
        rw [← e]; exact h
    have hsr : r.Pairwise lt := by
      rw [List.pairwise_iff_getElem]
      intro i' j' h1 h2 hij
      cases hb : Op.bytesLess r[i'].f0.toList r[j'].f0.toList with
      | true => exact hb
      | false => exact absurd (lt_total (by unfold lt; rw [hb]; exact Bool.false_ne_true) (hs i' j' h1 h2 hij)) (hne i' j' h1 h2 hij)
    refine ⟨r, 0, rfl, fun hn => absurd ?_ hn, fun _ => ⟨rfl, hp, hsr⟩⟩
    exact (hp.map keyL).nodup_iff.1 (nodup_of_sorted hsr)
  | succ d ih =>
    intro k i hi hd hk ha
    obtain ⟨k, rfl⟩ : ∃ m, k = m + 1 := ⟨k - 1, by omega⟩
    have hlt : i < r.length := by omega
    simp only [tags_Canon.l1]
    rw [if_pos (by omega), wrap_succ i (by omega)]
    by_cases h0 : (i : Int) > 0
    · have hw : wrap64 ((i : Int) - 1) = ((i - 1 : Nat) : Int) := by unfold wrap64; omega
      rw [if_pos h0, if_pos (by omega), if_pos (by omega), hw, if_pos (by omega), if_pos (by omega), rd_at r i hlt, rd_at r (i - 1) (by omega)]
      by_cases he : r[i].f0.toList = r[i - 1].f0.toList
      · rw [if_pos he]
        refine ⟨_, _, rfl, fun _ => ⟨rfl, rfl⟩, fun hn => ?_⟩
        have hn' := (hp.map keyL).nodup_iff.2 hn
        have h3 := (List.pairwise_iff_getElem.1 hn') (i - 1) i (by simp; omega) (by simp; omega) (by omega)
        simp only [List.getElem_map] at h3
        exact absurd he.symm h3
      · rw [if_neg he]
        refine ih k (i + 1) (by omega) (by omega) (by omega) (fun j hj h2 => ?_)
        by_cases e : j + 1 = i
        · subst e
          exact fun e => he e.symm
        · exact ha j (by omega) h2
    · rw [if_neg h0]
      refine ih k (i + 1) (by omega) (by omega) (by omega) (fun j hj h2 => ?_)
      omega
theorem tagsCanon0 (l : List S34) (hl : l.length ≤ 16) (d : Nat) : ∀ (k : Nat) (i : Nat), i ≤ l.length → l.length - i = d → d + 20 < k → (∀ t ∈ l.take i, goodB t = true) →
    ∃ a e, tags_Canon.l0 k l l (l.length : Int) (i : Int) = some (a, e) ∧ CanonP l a e := by
  induction d with
  | zero =>
    intro k i hi hd hk hg
    obtain ⟨k, rfl⟩ : ∃ m, k = m + 1 := ⟨k - 1, by omega⟩
    simp only [tags_Canon.l0]
    rw [if_neg (by omega)]
    have ht : l.take i = l := List.take_of_length_le (by omega)
    rw [ht] at hg
    have h1 : tags_edited.f l = some l := by unfold tags_edited.f; rw [if_pos (by omega)]
    obtain ⟨r, h2⟩ : ∃ r, api_Tag_by_tags_Canon_1.f l = some r := by unfold api_Tag_by_tags_Canon_1.f; rw [if_pos (by omega)]; exact ⟨_, rfl⟩
    obtain ⟨hp, hso⟩ := api_Tag_by_tags_Canon_1.spec l r h2
    rw [h1, Option.bind_some, h2, Option.bind_some, ← hp.length_eq]
    have hs : ∀ i j, (hi : i < r.length) → (hj : j < r.length) → i < j → ¬ lt r[j] r[i] := by
      intro i j hi hj hij h
      have := hso i j hij hj
      rw [ltBy27, List.getD_eq_getElem?_getD, List.getD_eq_getElem?_getD, List.getElem?_eq_getElem hj, List.getElem?_eq_getElem hi] at this
      unfold lt at h
      simp only [Option.getD_some] at this
      rw [h] at this
      cases this
    obtain ⟨a, e, h, h3, h4⟩ := tagsCanon1 l r hl hp hs r.length k 0 (by omega) (by omega) (by have := hp.length_eq; omega) (fun j hj => by omega)
    refine ⟨a, e, h, ⟨fun h' => by omega, fun _ ⟨t, ht, hb⟩ => ?_, fun _ _ => h3, fun _ _ => h4⟩⟩
    rw [hg t ht] at hb
    cases hb
  | succ d ih =>
    intro k i hi hd hk hg
    obtain ⟨k, rfl⟩ : ∃ m, k = m + 1 := ⟨k - 1, by omega⟩
    have hlt : i < l.length := by omega
    simp only [tags_Canon.l0]
    rw [if_pos (by omega), if_pos (by omega), if_pos (by omega), rd_at l i hlt, good_some, Option.bind_some]
    cases hb : goodB l[i] with
    | false =>
      rw [if_neg Bool.false_ne_true]
      refine ⟨_, _, rfl, ⟨fun h' => by omega, fun _ _ => ⟨rfl, rfl⟩, fun _ h' => ?_, fun _ h' => ?_⟩⟩
      · have := h' _ (List.getElem_mem hlt); rw [hb] at this; cases this
      · have := h' _ (List.getElem_mem hlt); rw [hb] at this; cases this
    | true =>
      rw [if_pos rfl, wrap_succ i (by omega)]
      refine ih k (i + 1) (by omega) (by omega) (by omega) (fun t ht => ?_)
      rw [List.take_succ_eq_append_getElem hlt] at ht
      rcases List.mem_append.1 ht with ht | ht
      · exact hg t ht
      · rw [List.mem_singleton.1 ht]; exact hb
theorem tagsCanon (l : List S34) (k : Nat) (hk : 80 < k) : ∃ a e, tags_Canon.f k l = some (a, e) ∧ CanonP l a e := by
  unfold tags_Canon.f
  by_cases h : (l.length : Int) > 16
  · rw [if_pos h]
    exact ⟨_, _, rfl, ⟨fun _ => ⟨rfl, rfl⟩, fun h' => by omega, fun h' => by omega, fun h' => by omega⟩⟩
  · rw [if_neg h]
    exact tagsCanon0 l (by omega) l.length k 0 (by omega) (by omega) (by omega) (fun t ht => by simp at ht)
theorem CanonP.len {l a : List S34} {e : Int} (h : CanonP l a e) : a.length ≤ 16 := by
  by_cases c1 : 16 < l.length
  · rw [(h.long c1).1]; simp
  by_cases c2 : ∃ t ∈ l, goodB t = false
  · rw [(h.bad (by omega) c2).1]; simp
  have c2a : ∀ t ∈ l, goodB t = true := fun t ht => by
    cases hg : goodB t with
    | true => rfl
    | false => exact absurd ⟨t, ht, hg⟩ c2
  by_cases c3 : (l.map keyL).Nodup
  · rw [(h.fine (by omega) c2a c3).2.1.length_eq]; omega
  · rw [(h.twice (by omega) c2a c3).1]; simp
end Go.Proofs.Ytipjmmppplepjaa.Pure
