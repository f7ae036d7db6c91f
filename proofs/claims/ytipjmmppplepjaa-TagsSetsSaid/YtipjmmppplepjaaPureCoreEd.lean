/- Plain facts on the printed functions of the package tags and of its reference: what Get, Number, Same, Check and Canon answer. -/
import Derived.Test.YtipjmmppplepjaaPEdx
namespace Go.Proofs.Ytipjmmppplepjaa.Pure
set_option linter.unusedVariables false
set_option linter.unusedSimpArgs false
open Go.RowKit Go.Proofs.Ytipjmmppplepjaa.PEd Go.Proofs.YtipjmmppplepjaaW.PrintWords Go.Proofs.YtipjmmppplepjaaW.PrintLast Go.Proofs.YtipjmmppplepjaaG

theorem toList_data (s : ByteArray) : s.toList = s.data.toList := ByteArray.toList_eq s
theorem toList_inj {a b : ByteArray} (h : a.toList = b.toList) : a = b := by
  rw [toList_data, toList_data] at h
  cases a; cases b
  simpa using h
theorem toList_length (s : ByteArray) : s.toList.length = s.size := by rw [toList_data]; rfl
theorem rd_at (l : List S34) (i : Nat) (h : i < l.length) : rd_T34 l (i : Int) = l[i] := by
  unfold rd_T34
  rw [Int.toNat_natCast, List.getD_eq_getElem?_getD, List.getElem?_eq_getElem h]
  rfl
theorem wrap_succ (i : Nat) (h : (i : Int) < 9223372036854775807) : wrap64 ((i : Int) + 1) = ((i + 1 : Nat) : Int) := by unfold wrap64; omega

/-- What Get answers. -/
def getOf (l : List S34) (key : ByteArray) : ByteArray × Bool := match l.find? (keyIs key) with | some t => (t.f1, true) | none => (⟨#[]⟩, false)
theorem getOf_cons (t : S34) (l : List S34) (key : ByteArray) : getOf (t :: l) key = if t.f0.toList = key.toList then (t.f1, true) else getOf l key := by
  unfold getOf
  rw [List.find?_cons]
  by_cases h : t.f0.toList = key.toList
  · rw [if_pos h]
    have : keyIs key t = true := by unfold keyIs; rw [h]; exact beq_self_eq_true _
    rw [this]
  · rw [if_neg h]
    have : keyIs key t = false := by unfold keyIs; exact beq_eq_false_iff_ne.mpr h
    rw [this]
theorem tagsGet (l : List S34) (key : ByteArray) : tags_Get.f l key = some (getOf l key) := by
  unfold tags_Get.f tags_find.f getOf
  rw [Option.bind_some]
  unfold ixOf
  cases h : l.findIdx? (keyIs key) with
  | none =>
    have h2 : l.find? (keyIs key) = none := by
      rw [List.find?_eq_none]
      rw [List.findIdx?_eq_none_iff] at h
      intro x hx
      rw [h x hx]
      exact Bool.false_ne_true
    rw [h2]
    rfl
  | some i =>
    rw [List.findIdx?_eq_some_iff_getElem] at h
    obtain ⟨hi, hp, hb⟩ := h
    have h2 : l.find? (keyIs key) = some l[i] := by
      rw [List.find?_eq_some_iff_getElem]
      exact ⟨hp, i, hi, rfl, fun j hj => by simpa using hb j hj⟩
    rw [h2]
    show (if (i : Int) < 0 then _ else if (0 : Int) ≤ i then if (i : Int) < (l.length : Int) then some ((rd_T34 l i).f1, true) else none else none) = _
    rw [if_neg (by omega), if_pos (by omega), if_pos (by omega), rd_at l i hi]
theorem refGet0 (l : List S34) (key : ByteArray) (hl : l.length ≤ maxLen) (d : Nat) : ∀ (k : Nat) (i : Nat), i ≤ l.length → l.length - i = d → d < k → mapmakerref06_Get.l0 k l key (i : Int) = some (getOf (l.drop i) key) := by
  unfold maxLen at hl
  induction d with
  | zero =>
    intro k i hi hd hk
    obtain ⟨k, rfl⟩ : ∃ m, k = m + 1 := ⟨k - 1, by omega⟩
    have : i = l.length := by omega
    subst this
    simp only [mapmakerref06_Get.l0]
    rw [if_neg (by omega), List.drop_length]
    rfl
  | succ d ih =>
    intro k i hi hd hk
    obtain ⟨k, rfl⟩ : ∃ m, k = m + 1 := ⟨k - 1, by omega⟩
    have hlt : i < l.length := by omega
    simp only [mapmakerref06_Get.l0]
    rw [if_pos (by omega), if_pos (by omega), List.drop_eq_getElem_cons hlt, getOf_cons, rd_at l i hlt]
    by_cases h : l[i].f0.toList = key.toList
    · rw [if_pos h, if_pos h]
    · rw [if_neg h, if_neg h, wrap_succ i (by omega)]
      exact ih k (i + 1) (by omega) (by omega) (by omega)
theorem refGet (l : List S34) (key : ByteArray) (hl : l.length ≤ maxLen) (k : Nat) (hk : l.length < k) : mapmakerref06_Get.f k l key = some (getOf l key) := by
  unfold mapmakerref06_Get.f
  exact refGet0 l key hl l.length k 0 (by omega) (by omega) hk

/-! Number -/
theorem empty_iff (v : ByteArray) : v.toList = ([] : List UInt8) ↔ (v.size : Int) < 1 := by
  constructor
  · intro h
    have := toList_length v
    rw [h] at this
    simp at this
    omega
  · intro h
    have := toList_length v
    exact List.eq_nil_of_length_eq_zero (by omega)
theorem s34_ext {x y : S34} (h0 : x.f0.toList = y.f0.toList) (h1 : x.f1.toList = y.f1.toList) : x = y := by
  cases x; cases y
  simp only [S34.mk.injEq]
  exact ⟨toList_inj h0, toList_inj h1⟩
theorem ne_iff (x y : S34) : ((!((x.f0.toList) == (y.f0.toList)) || (!((x.f1.toList) == (y.f1.toList)))) = true) ↔ x ≠ y := by
  constructor
  · rintro h rfl
    simp at h
  · intro h
    by_cases h0 : x.f0.toList = y.f0.toList
    · by_cases h1 : x.f1.toList = y.f1.toList
      · exact absurd (s34_ext h0 h1) h
      · simp [h1]
    · simp [h0]
instance decS34 : DecidableEq S34 := fun x y => if h : ((!((x.f0.toList) == (y.f0.toList)) || (!((x.f1.toList) == (y.f1.toList)))) = true) then isFalse ((ne_iff x y).1 h) else isTrue (Classical.byContradiction fun hn => h ((ne_iff x y).2 hn))
theorem refSame0 (a b : List S34) (hab : a.length = b.length) (hl : a.length ≤ maxLen) (d : Nat) : ∀ (k : Nat) (i : Nat), i ≤ a.length → a.length - i = d → d < k → mapmakerref06_Same.l0 k a b (i : Int) = some (decide (a.drop i = b.drop i)) := by
  unfold maxLen at hl
  induction d with
  | zero =>
    intro k i hi hd hk
    obtain ⟨k, rfl⟩ : ∃ m, k = m + 1 := ⟨k - 1, by omega⟩
    simp only [mapmakerref06_Same.l0]
    rw [if_neg (by omega), List.drop_eq_nil_of_le (show a.length ≤ i by omega), List.drop_eq_nil_of_le (show b.length ≤ i by omega)]
    rfl
  | succ d ih =>
    intro k i hi hd hk
    obtain ⟨k, rfl⟩ : ∃ m, k = m + 1 := ⟨k - 1, by omega⟩
    simp only [mapmakerref06_Same.l0]
    have h1 : i < a.length := by omega
    have h2 : i < b.length := by omega
    have hc : (a.drop i = b.drop i) ↔ (a[i] = b[i] ∧ a.drop (i + 1) = b.drop (i + 1)) := by rw [List.drop_eq_getElem_cons h1, List.drop_eq_getElem_cons h2, List.cons.injEq]
    rw [if_pos (by omega), if_pos (by omega), if_pos (by omega), rd_at a i h1, rd_at b i h2, show decide (a.drop i = b.drop i) = decide (a[i] = b[i] ∧ a.drop (i + 1) = b.drop (i + 1)) from decide_eq_decide.2 hc]
    by_cases h : a[i] = b[i]
    · rw [if_neg (fun hn => (ne_iff _ _).1 hn h), wrap_succ i (by omega), ih k (i + 1) (by omega) (by omega) (by omega)]
      simp [h]
    · rw [if_pos ((ne_iff _ _).2 h)]
      simp [h]
theorem refSame (a b : List S34) (hl : a.length ≤ maxLen) (k : Nat) (hk : a.length < k) : mapmakerref06_Same.f k a b = some (decide (a = b)) := by
  unfold mapmakerref06_Same.f
  by_cases h : a.length = b.length
  · rw [if_pos (by omega)]
    exact refSame0 a b h hl a.length k 0 (by omega) (by omega) hk
  · rw [if_neg (by omega)]
    have : a ≠ b := fun e => h (by rw [e])
    simp [this]
theorem small0 (l : List S34) (hl : l.length ≤ maxLen) (d : Nat) : ∀ (k : Nat) (i : Nat), i ≤ l.length → l.length - i = d → 2 * d + 1 < k → ∃ b, mapmakerlaw06_Small.l0 k l (i : Int) = some b ∧ (b = true → l.length ≤ 40) := by
  unfold maxLen at hl
  induction d with
  | zero =>
    intro k i hi hd hk
    obtain ⟨k, rfl⟩ : ∃ m, k = m + 2 := ⟨k - 2, by omega⟩
    simp only [mapmakerlaw06_Small.l0]
    rw [if_neg (by omega)]
    simp only [mapmakerlaw06_Small.j1]
    exact ⟨_, rfl, fun h => by have := of_decide_eq_true h; omega⟩
  | succ d ih =>
    intro k i hi hd hk
    obtain ⟨k, rfl⟩ : ∃ m, k = m + 2 := ⟨k - 2, by omega⟩
    simp only [mapmakerlaw06_Small.l0]
    rw [if_pos (by omega)]
    simp only [mapmakerlaw06_Small.j1]
    by_cases h : (i : Int) < 41
    · rw [if_pos (decide_eq_true h), if_pos (by omega), if_pos (by omega)]
      by_cases h1 : (((rd_T34 l i).f0).size : Int) > 200
      · rw [if_pos h1]; exact ⟨_, rfl, fun h => by cases h⟩
      rw [if_neg h1]
      by_cases h2 : (((rd_T34 l i).f1).size : Int) > 200
      · rw [if_pos h2]; exact ⟨_, rfl, fun h => by cases h⟩
      rw [if_neg h2, wrap_succ i (by omega)]
      exact ih k (i + 1) (by omega) (by omega) (by omega)
    · rw [if_neg (by simp [h])]
      exact ⟨_, rfl, fun h => by have := of_decide_eq_true h; omega⟩
theorem small (l : List S34) (hl : l.length ≤ maxLen) (k : Nat) (hk : 2 * l.length + 1 < k) : ∃ b, mapmakerlaw06_Small.f k l = some b ∧ (b = true → l.length ≤ 40) := by
  unfold mapmakerlaw06_Small.f
  exact small0 l hl l.length k 0 (by omega) (by omega) hk
theorem lives60 : mapmakerlaw06_lives.f 60 = some true := by decide +kernel
theorem lives (k : Nat) (hk : 60 ≤ k) : mapmakerlaw06_lives.f k = some true := by
  obtain ⟨d, rfl⟩ : ∃ d, k = 60 + d := ⟨k - 60, by omega⟩
  clear hk
  induction d with
  | zero => exact lives60
  | succ d ih => exact mapmakerlaw06_lives.mono _ _ ih

def lt (x y : S34) : Prop := Op.bytesLess x.f0.toList y.f0.toList = true
def keyL (x : S34) : List UInt8 := x.f0.toList
theorem lt_irrefl (x : S34) : ¬ lt x x := by unfold lt; rw [bytesLess_irrefl]; exact Bool.false_ne_true
theorem lt_trans {x y z : S34} (h1 : lt x y) (h2 : lt y z) : lt x z := bytesLess_trans _ _ _ h1 h2
theorem lt_total {x y : S34} (h1 : ¬ lt x y) (h2 : ¬ lt y x) : keyL x = keyL y := show x.f0.toList = y.f0.toList from bytesLess_total _ _ (by simpa [lt] using h1) (by simpa [lt] using h2)
theorem lt_ne {x y : S34} (h : lt x y) : keyL x ≠ keyL y := fun e => by
  unfold lt at h
  unfold keyL at e
  rw [e, bytesLess_irrefl] at h
  cases h
theorem sorted_unique : ∀ {a b : List S34}, a.Perm b → a.Pairwise lt → b.Pairwise lt → a = b
  | [], b, h, _, _ => (List.Perm.eq_nil h.symm).symm
  | x :: a, [], h, _, _ => absurd h.length_eq (by simp)
  | x :: a, y :: b, h, ha, hb => by
    rw [List.pairwise_cons] at ha hb
    have hxy : x = y := by
      by_cases e : x = y
      · exact e
      · have h1 : x ∈ y :: b := h.mem_iff.1 List.mem_cons_self
        have h2 : y ∈ x :: a := h.mem_iff.2 List.mem_cons_self
        have h3 : x ∈ b := (List.mem_cons.1 h1).resolve_left e
        have h4 : y ∈ a := (List.mem_cons.1 h2).resolve_left (fun e' => e e'.symm)
        exact absurd (lt_trans (ha.1 y h4) (hb.1 x h3)) (lt_irrefl x)
    subst hxy
    rw [sorted_unique ((List.perm_cons x).1 h) ha.2 hb.2]
theorem nodup_of_sorted : ∀ {a : List S34}, a.Pairwise lt → (a.map keyL).Nodup
  | [], _ => List.nodup_nil
  | x :: a, h => by
    rw [List.pairwise_cons] at h
    rw [List.map_cons, List.nodup_cons]
    refine ⟨fun hm => ?_, nodup_of_sorted h.2⟩
    obtain ⟨y, hy, e⟩ := List.mem_map.1 hm
    exact lt_ne (h.1 y hy) e.symm

/-! Check -/
def setRest (key val : ByteArray) (has : Bool) : Bool → List S34 → List S34
  | done, [] => if done = true then [] else [⟨key, val⟩]
  | done, t :: r =>
    if has = true then (if t.f0.toList = key.toList then (if done = true then setRest key val has true r else ⟨key, val⟩ :: setRest key val has true r) else t :: setRest key val has done r)
    else if done = true then t :: setRest key val has true r
    else if Op.bytesLess key.toList t.f0.toList = true then ⟨key, val⟩ :: t :: setRest key val has true r
    else t :: setRest key val has false r
theorem refSet0 (l : List S34) (key val : ByteArray) (has : Bool) (hl : l.length ≤ 1000000) (d : Nat) : ∀ (k : Nat) (i : Nat) (out : List S34) (done : Bool), i ≤ l.length → l.length - i = d → 2 * d + 1 < k → out.length + 2 * d + 2 < 4398046511104 →
    mapmakerref06_Set.l0 k l key val out has done (i : Int) = some (out ++ setRest key val has done (l.drop i)) := by
  induction d with
  | zero =>
    intro k i out done hi hd hk ho
    obtain ⟨k, rfl⟩ : ∃ m, k = m + 1 := ⟨k - 1, by omega⟩
    simp only [mapmakerref06_Set.l0]
    rw [if_neg (by omega), List.drop_eq_nil_of_le (by omega)]
    cases done with
    | true => simp [setRest]
    | false => rw [if_neg Bool.false_ne_true, if_pos (by omega)]; simp [setRest]
  | succ d ih =>
    intro k i out done hi hd hk ho
    obtain ⟨k, rfl⟩ : ∃ m, k = m + 2 := ⟨k - 2, by omega⟩
    have hlt : i < l.length := by omega
    have hrd := rd_at l i hlt
    have e : (⟨l[i].f0, l[i].f1⟩ : S34) = l[i] := rfl
    have hw := wrap_succ i (by omega)
    have I := fun (out : List S34) (done : Bool) (h : out.length + 2 * d + 2 < 4398046511104) => ih k (i + 1) out done (by omega) (by omega) (by omega) h
    have c0 : (0 : Int) ≤ (i : Int) := by omega
    have c1 : (i : Int) < (l.length : Int) := by omega
    have c2 : out.length < 4398046511104 := by omega
    rw [List.drop_eq_getElem_cons hlt]
    simp only [mapmakerref06_Set.l0, setRest]
    rw [if_pos c1]
    simp only [mapmakerref06_Set.j1]
    rw [hrd, hw, e]
    cases has with
    | true =>
      rw [if_pos rfl, if_pos rfl, if_pos c0]
      by_cases hk' : l[i].f0.toList = key.toList
      · have : (l[i].f0.toList == key.toList) = true := beq_iff_eq.mpr hk'
        rw [this, if_pos rfl, if_pos hk']
        cases done with
        | true => rw [if_pos rfl, if_pos rfl]; exact I _ _ (by omega)
        | false => rw [if_neg Bool.false_ne_true, if_neg Bool.false_ne_true, if_pos c2, I _ _ (by simp; omega), List.append_assoc]; rfl
      · have : (l[i].f0.toList == key.toList) = false := beq_eq_false_iff_ne.mpr hk'
        rw [this, if_neg Bool.false_ne_true, if_neg hk', if_pos rfl, if_pos c0, if_pos c1, if_pos c2, I _ _ (by simp; omega), List.append_assoc]
        rfl
    | false =>
      rw [if_neg Bool.false_ne_true, if_neg Bool.false_ne_true, if_neg Bool.false_ne_true, if_neg Bool.false_ne_true]
      cases done with
      | true => rw [if_pos rfl, if_pos rfl, if_pos c0, if_pos c1, if_pos c2, I _ _ (by simp; omega), List.append_assoc]; rfl
      | false =>
        rw [if_neg Bool.false_ne_true, if_neg Bool.false_ne_true, if_pos c0, if_pos c1]
        by_cases hb : Op.bytesLess key.toList l[i].f0.toList = true
        · rw [if_pos hb, if_pos hb, if_pos c2, Option.bind_some, if_pos (by simp; omega), I _ _ (by simp; omega), List.append_assoc, List.append_assoc]
          rfl
        · rw [if_neg hb, if_neg hb, if_pos c2, I _ _ (by simp; omega), List.append_assoc]
          rfl
theorem refSet (l : List S34) (key val : ByteArray) (hl : l.length ≤ 1000000) (k : Nat) (hk : 2 * l.length + 1 < k) : mapmakerref06_Set.f k l key val = some (setRest key val (getOf l key).2 false l) := by
  unfold mapmakerref06_Set.f
  rw [refGet l key (by unfold maxLen; omega) k (by omega), Option.bind_some]
  have := refSet0 l key val (getOf l key).2 hl l.length k 0 [] false (by omega) (by omega) hk (by simp; omega)
  simpa using this

theorem has_iff (l : List S34) (key : ByteArray) : (getOf l key).2 = true ↔ ∃ x ∈ l, keyL x = key.toList := by
  induction l with
  | nil => simp [getOf]
  | cons t l ih =>
    rw [getOf_cons]
    by_cases h : t.f0.toList = key.toList
    · rw [if_pos h]
      exact ⟨fun _ => ⟨t, List.mem_cons_self, h⟩, fun _ => rfl⟩
    · rw [if_neg h, ih]
      constructor
      · rintro ⟨x, hx, e⟩
        exact ⟨x, List.mem_cons_of_mem _ hx, e⟩
      · rintro ⟨x, hx, e⟩
        rcases List.mem_cons.1 hx with rfl | hx
        · exact absurd e h
        · exact ⟨x, hx, e⟩
theorem setRest_done (key val : ByteArray) : ∀ l : List S34, setRest key val false true l = l
  | [] => rfl
  | t :: l => by simp [setRest, setRest_done key val l]
theorem set_insert (key val : ByteArray) : ∀ l : List S34, l.Pairwise lt → (∀ x ∈ l, keyL x ≠ key.toList) → (setRest key val false false l).Perm (⟨key, val⟩ :: l) ∧ (setRest key val false false l).Pairwise lt
  | [], _, _ => ⟨List.Perm.refl _, List.pairwise_singleton _ _⟩
  | t :: l, hs, hn => by
    rw [List.pairwise_cons] at hs
    simp only [setRest, Bool.false_eq_true, if_false]
    by_cases hb : Op.bytesLess key.toList t.f0.toList = true
    · rw [if_pos hb, setRest_done]
      refine ⟨List.Perm.refl _, List.pairwise_cons.2 ⟨fun x hx => ?_, List.pairwise_cons.2 hs⟩⟩
      rcases List.mem_cons.1 hx with rfl | hx
      · exact hb
      · exact bytesLess_trans _ _ _ hb (hs.1 x hx)
    · rw [if_neg hb]
      obtain ⟨h1, h2⟩ := set_insert key val l hs.2 (fun x hx => hn x (List.mem_cons_of_mem _ hx))
      refine ⟨(h1.cons t).trans (List.Perm.swap _ _ _), List.pairwise_cons.2 ⟨fun x hx => ?_, h2⟩⟩
      have hx' := h1.mem_iff.1 hx
      rcases List.mem_cons.1 hx' with rfl | hx'
      · show Op.bytesLess t.f0.toList key.toList = true
        cases h : Op.bytesLess t.f0.toList key.toList with
        | true => rfl
        | false => exact absurd (bytesLess_total _ _ h (by simpa using hb)) (hn t List.mem_cons_self)
      · exact hs.1 x hx'

end Go.Proofs.Ytipjmmppplepjaa.Pure
