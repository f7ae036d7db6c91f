/- Plain facts on the printed functions of the package tags and of its reference: what Get, Number, Same, Check and Canon answer. -/
import Derived.Test.YtipjmmppplepjaaPAllx
namespace Go.Proofs.Ytipjmmppplepjaa.Pure
set_option linter.unusedVariables false
set_option linter.unusedSimpArgs false
open Go.RowKit Go.Proofs.Ytipjmmppplepjaa.PAll Go.Proofs.YtipjmmppplepjaaW.PrintWords Go.Proofs.YtipjmmppplepjaaW.PrintLast

theorem toList_data (s : ByteArray) : s.toList = s.data.toList := ByteArray.toList_eq s
theorem toList_inj {a b : ByteArray} (h : a.toList = b.toList) : a = b := by
  rw [toList_data, toList_data] at h
  cases a; cases b
  simpa using h
theorem toList_length (s : ByteArray) : s.toList.length = s.size := by rw [toList_data]; rfl
theorem rd_at (l : List S34) (i : Nat) (h : i < l.length) : rd_T34 l (i : Int) = l[i] := by
  unfold rd_T34
  rw [Int.toNat_natCast, List.getD_eq_getElem?_getD, List.getElem?_eq_getElem h]
  rfl
theorem wrap_succ (i : Nat) (h : (i : Int) < 9223372036854775807) : wrap64 ((i : Int) + 1) = ((i + 1 : Nat) : Int) := by unfold wrap64; omega

/-- What Get answers. -/
def getOf (l : List S34) (key : ByteArray) : ByteArray × Bool := match l.find? (keyIs key) with | some t => (t.f1, true) | none => (⟨#[]⟩, false)
theorem getOf_cons (t : S34) (l : List S34) (key : ByteArray) : getOf (t :: l) key = if t.f0.toList = key.toList then (t.f1, true) else getOf l key := by
  unfold getOf
  rw [List.find?_cons]
  by_cases h : t.f0.toList = key.toList
  · rw [if_pos h]
    have : keyIs key t = true := by unfold keyIs; rw [h]; exact beq_self_eq_true _
    rw [this]
  · rw [if_neg h]
    have : keyIs key t = false := by unfold keyIs; exact beq_eq_false_iff_ne.mpr h
    rw [this]
theorem tagsGet (l : List S34) (key : ByteArray) : tags_Get.f l key = some (getOf l key) := by
  unfold tags_Get.f tags_find.f getOf
  rw [Option.bind_some]
  unfold ixOf
  cases h : l.findIdx? (keyIs key) with
  | none =>
    have h2 : l.find? (keyIs key) = none := by
      rw [List.find?_eq_none]
      rw [List.findIdx?_eq_none_iff] at h
      intro x hx
      rw [h x hx]
      exact Bool.false_ne_true
    rw [h2]
    rfl
  | some i =>
    rw [List.findIdx?_eq_some_iff_getElem] at h
    obtain ⟨hi, hp, hb⟩ := h
    have h2 : l.find? (keyIs key) = some l[i] := by
      rw [List.find?_eq_some_iff_getElem]
      exact ⟨hp, i, hi, rfl, fun j hj => by simpa using hb j hj⟩
    rw [h2]
    show (if (i : Int) < 0 then _ else if (0 : Int) ≤ i then if (i : Int) < (l.length : Int) then some ((rd_T34 l i).f1, true) else none else none) = _
    rw [if_neg (by omega), if_pos (by omega), if_pos (by omega), rd_at l i hi]
theorem refGet0 (l : List S34) (key : ByteArray) (hl : l.length ≤ maxLen) (d : Nat) : ∀ (k : Nat) (i : Nat), i ≤ l.length → l.length - i = d → d < k → mapmakerref06_Get.l0 k l key (i : Int) = some (getOf (l.drop i) key) := by
  unfold maxLen at hl
  induction d with
  | zero =>
    intro k i hi hd hk
    obtain ⟨k, rfl⟩ : ∃ m, k = m + 1 := ⟨k - 1, by omega⟩
    have : i = l.length := by omega
    subst this
    simp only [mapmakerref06_Get.l0]
    rw [if_neg (by omega), List.drop_length]
    rfl
  | succ d ih =>
    intro k i hi hd hk
    obtain ⟨k, rfl⟩ : ∃ m, k = m + 1 := ⟨k - 1, by omega⟩
    have hlt : i < l.length := by omega
    simp only [mapmakerref06_Get.l0]
    rw [if_pos (by omega), if_pos (by omega), List.drop_eq_getElem_cons hlt, getOf_cons, rd_at l i hlt]
    by_cases h : l[i].f0.toList = key.toList
    · rw [if_pos h, if_pos h]
    · rw [if_neg h, if_neg h, wrap_succ i (by omega)]
      exact ih k (i + 1) (by omega) (by omega) (by omega)
theorem refGet (l : List S34) (key : ByteArray) (hl : l.length ≤ maxLen) (k : Nat) (hk : l.length < k) : mapmakerref06_Get.f k l key = some (getOf l key) := by
  unfold mapmakerref06_Get.f
  exact refGet0 l key hl l.length k 0 (by omega) (by omega) hk

/-! Number -/
theorem num_same (s : ByteArray) : ∀ (k : Nat) (n i : Int), tags_Number.l0 k s n (s.size : Int) i = mapmakerref06_Number.l0 k s n i
  | 0, _, _ => rfl
  | k + 1, n, i => by
    simp only [tags_Number.l0, mapmakerref06_Number.l0, num_same s k]
    by_cases h : i < (s.size : Int)
    · simp only [h, if_true]
    · simp only [h, if_false]
theorem num_some (s : ByteArray) (hs : s.size ≤ 9) (d : Nat) : ∀ (k : Nat) (n : Int) (i : Nat), i ≤ s.size → s.size - i = d → d < k → ∃ r, mapmakerref06_Number.l0 k s n (i : Int) = some r := by
  induction d with
  | zero =>
    intro k n i hi hd hk
    obtain ⟨k, rfl⟩ : ∃ m, k = m + 1 := ⟨k - 1, by omega⟩
    simp only [mapmakerref06_Number.l0]
    rw [if_neg (by omega)]
    exact ⟨_, rfl⟩
  | succ d ih =>
    intro k n i hi hd hk
    obtain ⟨k, rfl⟩ : ∃ m, k = m + 1 := ⟨k - 1, by omega⟩
    simp only [mapmakerref06_Number.l0]
    rw [if_pos (by omega), if_pos (by omega), wrap_succ i (by omega)]
    split
    · exact ⟨_, rfl⟩
    · split
      · exact ⟨_, rfl⟩
      · exact ih k _ (i + 1) (by omega) (by omega) (by omega)
theorem empty_iff (v : ByteArray) : v.toList = ([] : List UInt8) ↔ (v.size : Int) < 1 := by
  constructor
  · intro h
    have := toList_length v
    rw [h] at this
    simp at this
    omega
  · intro h
    have := toList_length v
    exact List.eq_nil_of_length_eq_zero (by omega)
theorem numbers (l : List S34) (key : ByteArray) (hl : l.length ≤ maxLen) (k : Nat) (hk : l.length + 11 < k) : ∃ r, tags_Number.f k l key = some r ∧ mapmakerref06_Number.f k l key = some r := by
  obtain ⟨k, rfl⟩ : ∃ m, k = m + 1 := ⟨k - 1, by omega⟩
  unfold tags_Number.f mapmakerref06_Number.f
  rw [tagsGet, refGet l key hl (k + 1) (by omega), Option.bind_some, Option.bind_some]
  generalize getOf l key = g
  obtain ⟨v, ok⟩ := g
  simp only [tags_Number.j0, mapmakerref06_Number.j0]
  cases ok with
  | false => exact ⟨_, rfl, rfl⟩
  | true =>
    rw [if_pos rfl, if_pos rfl]
    by_cases h1 : (v.size : Int) < 1
    · rw [if_pos ((empty_iff v).2 h1), if_pos h1]
      exact ⟨_, rfl, rfl⟩
    · rw [if_neg (fun h => h1 ((empty_iff v).1 h)), if_neg h1, num_same]
      by_cases h2 : (v.size : Int) > 9
      · rw [decide_eq_true h2]
        exact ⟨_, rfl, rfl⟩
      · rw [decide_eq_false h2, if_neg Bool.false_ne_true]
        obtain ⟨r, hr⟩ := num_some v (by omega) v.size k 0 0 (by omega) (by omega) (by omega)
        exact ⟨r, hr, hr⟩

/-! Same -/
theorem s34_ext {x y : S34} (h0 : x.f0.toList = y.f0.toList) (h1 : x.f1.toList = y.f1.toList) : x = y := by
  cases x; cases y
  simp only [S34.mk.injEq]
  exact ⟨toList_inj h0, toList_inj h1⟩
theorem ne_iff (x y : S34) : ((!((x.f0.toList) == (y.f0.toList)) || (!((x.f1.toList) == (y.f1.toList)))) = true) ↔ x ≠ y := by
  constructor
  · rintro h rfl
    simp at h
  · intro h
    by_cases h0 : x.f0.toList = y.f0.toList
    · by_cases h1 : x.f1.toList = y.f1.toList
      · exact absurd (s34_ext h0 h1) h
      · simp [h1]
    · simp [h0]
instance decS34 : DecidableEq S34 := fun x y => if h : ((!((x.f0.toList) == (y.f0.toList)) || (!((x.f1.toList) == (y.f1.toList)))) = true) then isFalse ((ne_iff x y).1 h) else isTrue (Classical.byContradiction fun hn => h ((ne_iff x y).2 hn))
theorem refSame0 (a b : List S34) (hab : a.length = b.length) (hl : a.length ≤ maxLen) (d : Nat) : ∀ (k : Nat) (i : Nat), i ≤ a.length → a.length - i = d → d < k → mapmakerref06_Same.l0 k a b (i : Int) = some (decide (a.drop i = b.drop i)) := by
  unfold maxLen at hl
  induction d with
  | zero =>
    intro k i hi hd hk
    obtain ⟨k, rfl⟩ : ∃ m, k = m + 1 := ⟨k - 1, by omega⟩
    simp only [mapmakerref06_Same.l0]
    rw [if_neg (by omega), List.drop_eq_nil_of_le (show a.length ≤ i by omega), List.drop_eq_nil_of_le (show b.length ≤ i by omega)]
    rfl
  | succ d ih =>
    intro k i hi hd hk
    obtain ⟨k, rfl⟩ : ∃ m, k = m + 1 := ⟨k - 1, by omega⟩
    simp only [mapmakerref06_Same.l0]
    have h1 : i < a.length := by omega
    have h2 : i < b.length := by omega
    have hc : (a.drop i = b.drop i) ↔ (a[i] = b[i] ∧ a.drop (i + 1) = b.drop (i + 1)) := by rw [List.drop_eq_getElem_cons h1, List.drop_eq_getElem_cons h2, List.cons.injEq]
    rw [if_pos (by omega), if_pos (by omega), if_pos (by omega), rd_at a i h1, rd_at b i h2, show decide (a.drop i = b.drop i) = decide (a[i] = b[i] ∧ a.drop (i + 1) = b.drop (i + 1)) from decide_eq_decide.2 hc]
    by_cases h : a[i] = b[i]
    · rw [if_neg (fun hn => (ne_iff _ _).1 hn h), wrap_succ i (by omega), ih k (i + 1) (by omega) (by omega) (by omega)]
      simp [h]
    · rw [if_pos ((ne_iff _ _).2 h)]
      simp [h]
theorem refSame (a b : List S34) (hl : a.length ≤ maxLen) (k : Nat) (hk : a.length < k) : mapmakerref06_Same.f k a b = some (decide (a = b)) := by
  unfold mapmakerref06_Same.f
  by_cases h : a.length = b.length
  · rw [if_pos (by omega)]
    exact refSame0 a b h hl a.length k 0 (by omega) (by omega) hk
  · rw [if_neg (by omega)]
    have : a ≠ b := fun e => h (by rw [e])
    simp [this]
theorem tagsSame0 (a b : List S34) (hab : a.length = b.length) : ∀ (k : Nat) (i : Int), api_Tag_31.l0 k a b (a.length : Int) i = mapmakerref06_Same.l0 k a b i
  | 0, _ => rfl
  | k + 1, i => by
    simp only [api_Tag_31.l0, mapmakerref06_Same.l0, tagsSame0 a b hab k]
    by_cases h : i < (a.length : Int)
    · simp only [h, if_true]
    · simp only [h, if_false]
theorem tagsSame (a b : List S34) (hl : a.length ≤ maxLen) (k : Nat) (hk : a.length < k) : tags_Same.f k a b = some (decide (a = b)) := by
  rw [← refSame a b hl k hk]
  unfold tags_Same.f api_Tag_31.f mapmakerref06_Same.f
  by_cases h : a.length = b.length
  · rw [if_pos (by omega), if_pos (by omega), tagsSame0 a b h]
    cases mapmakerref06_Same.l0 k a b 0 <;> rfl
  · rw [if_neg (by omega), if_neg (by omega)]
    rfl

/-! Small, lives -/
theorem small0 (l : List S34) (hl : l.length ≤ maxLen) (d : Nat) : ∀ (k : Nat) (i : Nat), i ≤ l.length → l.length - i = d → 2 * d + 1 < k → ∃ b, mapmakerlaw06_Small.l0 k l (i : Int) = some b ∧ (b = true → l.length ≤ 40) := by
  unfold maxLen at hl
  induction d with
  | zero =>
    intro k i hi hd hk
    obtain ⟨k, rfl⟩ : ∃ m, k = m + 2 := ⟨k - 2, by omega⟩
    simp only [mapmakerlaw06_Small.l0]
    rw [if_neg (by omega)]
    simp only [mapmakerlaw06_Small.j1]
    exact ⟨_, rfl, fun h => by have := of_decide_eq_true h; omega⟩
  | succ d ih =>
    intro k i hi hd hk
    obtain ⟨k, rfl⟩ : ∃ m, k = m + 2 := ⟨k - 2, by omega⟩
    simp only [mapmakerlaw06_Small.l0]
    rw [if_pos (by omega)]
    simp only [mapmakerlaw06_Small.j1]
    by_cases h : (i : Int) < 41
    · rw [if_pos (decide_eq_true h), if_pos (by omega), if_pos (by omega)]
      by_cases h1 : (((rd_T34 l i).f0).size : Int) > 200
      · rw [if_pos h1]; exact ⟨_, rfl, fun h => by cases h⟩
      rw [if_neg h1]
      by_cases h2 : (((rd_T34 l i).f1).size : Int) > 200
      · rw [if_pos h2]; exact ⟨_, rfl, fun h => by cases h⟩
      rw [if_neg h2, wrap_succ i (by omega)]
      exact ih k (i + 1) (by omega) (by omega) (by omega)
    · rw [if_neg (by simp [h])]
      exact ⟨_, rfl, fun h => by have := of_decide_eq_true h; omega⟩
theorem small (l : List S34) (hl : l.length ≤ maxLen) (k : Nat) (hk : 2 * l.length + 1 < k) : ∃ b, mapmakerlaw06_Small.f k l = some b ∧ (b = true → l.length ≤ 40) := by
  unfold mapmakerlaw06_Small.f
  exact small0 l hl l.length k 0 (by omega) (by omega) hk
theorem lives60 : mapmakerlaw06_lives.f 60 = some true := by decide +kernel
theorem lives (k : Nat) (hk : 60 ≤ k) : mapmakerlaw06_lives.f k = some true := by
  obtain ⟨d, rfl⟩ : ∃ d, k = 60 + d := ⟨k - 60, by omega⟩
  clear hk
  induction d with
  | zero => exact lives60
  | succ d ih => exact mapmakerlaw06_lives.mono _ _ ih
end Go.Proofs.Ytipjmmppplepjaa.Pure
