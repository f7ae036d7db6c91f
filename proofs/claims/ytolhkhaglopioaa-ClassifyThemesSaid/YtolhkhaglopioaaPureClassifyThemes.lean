/- ClassifyThemes: for every list of tags the program's Theme, IsArea and MinZoom answer what the reference answers; no condition. -/
import Derived.Test.YtolhkhaglopioaaPClassifyThemesx4
namespace Go.Proofs.Ytolhkhaglopioaa.Pure
set_option linter.unusedVariables false
set_option linter.unusedSimpArgs false
open Go.RowKit Go.Proofs.Ytolhkhaglopioaa.PClassifyThemes Go.Proofs.YtolhkhaglopioaaW.PrintWords Go.Proofs.YtolhkhaglopioaaW.PrintLast

/-- What Get answers. -/
def getOf (l : List S32) (key : ByteArray) : ByteArray × Bool := match l.find? (keyIs key) with | some t => (t.f1, true) | none => (⟨#[]⟩, false)

theorem getOf_cons (t : S32) (l : List S32) (key : ByteArray) : getOf (t :: l) key = if t.f0.toList = key.toList then (t.f1, true) else getOf l key := by
  unfold getOf
  rw [List.find?_cons]
  by_cases h : t.f0.toList = key.toList
  · rw [if_pos h]
    have : keyIs key t = true := by unfold keyIs; rw [h]; exact beq_self_eq_true _
    rw [this]
  · rw [if_neg h]
    have : keyIs key t = false := by unfold keyIs; exact beq_eq_false_iff_ne.mpr h
    rw [this]

theorem tagsGet (l : List S32) (key : ByteArray) : tags_Get.f l key = some (getOf l key) := by
  unfold tags_Get.f tags_find.f getOf
  rw [Option.bind_some]
  unfold ixOf
  cases h : l.findIdx? (keyIs key) with
  | none =>
    have h2 : l.find? (keyIs key) = none := by
      rw [List.find?_eq_none]
      rw [List.findIdx?_eq_none_iff] at h
      intro x hx
      rw [h x hx]
      exact Bool.false_ne_true
    rw [h2]
    rfl
  | some i =>
    rw [List.findIdx?_eq_some_iff_getElem] at h
    obtain ⟨hi, hp, hb⟩ := h
    have h2 : l.find? (keyIs key) = some l[i] := by
      rw [List.find?_eq_some_iff_getElem]
      exact ⟨hp, i, hi, rfl, fun j hj => by simpa using hb j hj⟩
    rw [h2]
    show (if (i : Int) < 0 then _ else if (0 : Int) ≤ i then if (i : Int) < (l.length : Int) then some ((rd_T32 l i).f1, true) else none else none) = _
    rw [if_neg (by omega), if_pos (by omega), if_pos (by omega)]
    unfold rd_T32
    rw [Int.toNat_natCast, List.getD_eq_getElem?_getD, List.getElem?_eq_getElem hi]
    rfl

theorem refGet0 (l : List S32) (key : ByteArray) (hl : l.length ≤ maxLen) (d : Nat) : ∀ (k : Nat) (i : Nat), i ≤ l.length → l.length - i = d → d < k → mapmakerref06_Get.l0 k l key (i : Int) = some (getOf (l.drop i) key) := by
  unfold maxLen at hl
  induction d with
  | zero =>
    intro k i hi hd hk
    obtain ⟨k, rfl⟩ : ∃ m, k = m + 1 := ⟨k - 1, by omega⟩
    have : i = l.length := by omega
    subst this
    simp only [mapmakerref06_Get.l0]
    rw [if_neg (by omega), List.drop_length]
    rfl
  | succ d ih =>
    intro k i hi hd hk
    obtain ⟨k, rfl⟩ : ∃ m, k = m + 1 := ⟨k - 1, by omega⟩
    have hlt : i < l.length := by omega
    simp only [mapmakerref06_Get.l0]
    rw [if_pos (by omega), if_pos (by omega), List.drop_eq_getElem_cons hlt, getOf_cons]
    have hr : rd_T32 l (i : Int) = l[i] := by
      unfold rd_T32
      rw [Int.toNat_natCast, List.getD_eq_getElem?_getD, List.getElem?_eq_getElem hlt]
      rfl
    rw [hr]
    by_cases h : l[i].f0.toList = key.toList
    · rw [if_pos h, if_pos h]
    · rw [if_neg h, if_neg h]
      have hw : wrap64 ((i : Int) + 1) = ((i + 1 : Nat) : Int) := by unfold wrap64; omega
      rw [hw]
      exact ih k (i + 1) (by omega) (by omega) (by omega)

theorem refGet (l : List S32) (key : ByteArray) (hl : l.length ≤ maxLen) (k : Nat) (hk : l.length < k) : mapmakerref06_Get.f k l key = some (getOf l key) := by
  unfold mapmakerref06_Get.f
  exact refGet0 l key hl l.length k 0 (by omega) (by omega) hk

def hasOf (l : List S32) (key : ByteArray) : Bool := (getOf l key).2
def isOf (l : List S32) (key val : ByteArray) : Bool := (getOf l key).2 && ((getOf l key).1.toList == val.toList)

theorem cHas (l : List S32) (key : ByteArray) : classify_has.f l key = some (hasOf l key) := by
  unfold classify_has.f
  rw [tagsGet]
  rfl
theorem cIs (l : List S32) (key val : ByteArray) : classify_is.f l key val = some (isOf l key val) := by
  unfold classify_is.f
  rw [tagsGet, Option.bind_some]
  unfold isOf
  cases (getOf l key).2 <;> rfl
theorem rHas (l : List S32) (key : ByteArray) (hl : l.length ≤ maxLen) (k : Nat) (hk : l.length < k) : mapmakerref18_has.f k l key = some (hasOf l key) := by
  unfold mapmakerref18_has.f
  rw [refGet l key hl k hk]
  rfl
theorem rIs (l : List S32) (key val : ByteArray) (hl : l.length ≤ maxLen) (k : Nat) (hk : l.length < k) : mapmakerref18_is.f k l key val = some (isOf l key val) := by
  unfold mapmakerref18_is.f
  rw [refGet l key hl k hk, Option.bind_some]
  unfold isOf
  cases (getOf l key).2 <;> rfl

theorem n0 : (⟨#[109, 111, 116, 111, 114, 119, 97, 121]⟩ : ByteArray).toList = classN0 := by decide +kernel
theorem n1 : (⟨#[112, 114, 105, 109, 97, 114, 121]⟩ : ByteArray).toList = classN1 := by decide +kernel
theorem n2 : (⟨#[115, 101, 99, 111, 110, 100, 97, 114, 121]⟩ : ByteArray).toList = classN2 := by decide +kernel
theorem n3 : (⟨#[114, 101, 115, 105, 100, 101, 110, 116, 105, 97, 108]⟩ : ByteArray).toList = classN3 := by decide +kernel
theorem n4 : (⟨#[116, 114, 97, 99, 107]⟩ : ByteArray).toList = classN4 := by decide +kernel

def classV (l : List S32) : Int := if hasOf l ⟨#[104, 105, 103, 104, 119, 97, 121]⟩ = true then classOf (getOf l ⟨#[104, 105, 103, 104, 119, 97, 121]⟩).1 else if isOf l ⟨#[114, 111, 117, 116, 101]⟩ ⟨#[102, 101, 114, 114, 121]⟩ = true then 6 else 0
theorem cClass (l : List S32) : classify_Class.f l = some (classV l) := by
  unfold classify_Class.f
  rw [tagsGet, Option.bind_some]
  unfold classV hasOf
  cases (getOf l ⟨#[104, 105, 103, 104, 119, 97, 121]⟩).2 with
  | true => rfl
  | false => rw [cIs]; rfl
theorem rClass (l : List S32) (hl : l.length ≤ maxLen) (k : Nat) (hk : l.length < k) : mapmakerref18_Class.f k l = some (classV l) := by
  unfold mapmakerref18_Class.f
  simp only [rIs l _ _ hl k hk, rHas l _ hl k hk, Option.bind_some]
  unfold classV isOf hasOf classOf
  rw [n0, n1, n2, n3, n4]
  cases (getOf l ⟨#[104, 105, 103, 104, 119, 97, 121]⟩).2 with
  | true =>
    simp only [Bool.true_and, if_true]
    generalize (getOf l ⟨#[104, 105, 103, 104, 119, 97, 121]⟩).1.toList = v
    repeat' split
    all_goals rfl
  | false =>
    simp only [Bool.false_and, Bool.false_eq_true, if_false]
    split <;> rfl
theorem classOf_range (v : ByteArray) : 0 ≤ classOf v ∧ classOf v < 6 := by
  unfold classOf
  repeat' split
  all_goals omega
theorem classV_range (l : List S32) : 0 ≤ classV l ∧ classV l < 7 := by
  unfold classV
  have := classOf_range (getOf l ⟨#[104, 105, 103, 104, 119, 97, 121]⟩).1
  repeat' split
  all_goals omega

/-- What Theme answers. -/
def themeOf (l : List S32) : Int :=
  if isOf l ⟨#[110, 97, 116, 117, 114, 97, 108]⟩ ⟨#[119, 97, 116, 101, 114]⟩ = true then 1
  else if (hasOf l ⟨#[98, 117, 105, 108, 100, 105, 110, 103]⟩ && !isOf l ⟨#[98, 117, 105, 108, 100, 105, 110, 103]⟩ ⟨#[110, 111]⟩) = true then 3
  else if hasOf l ⟨#[108, 97, 110, 100, 117, 115, 101]⟩ = true then 2
  else if classV l > 0 then 4
  else if hasOf l ⟨#[98, 111, 117, 110, 100, 97, 114, 121]⟩ = true then 5
  else if hasOf l ⟨#[112, 108, 97, 99, 101]⟩ = true then 6 else 0
theorem some_ite {α : Type} (c : Prop) [Decidable c] (a b : α) : (if c then some a else some b) = some (if c then a else b) := by split <;> rfl
theorem cTheme (l : List S32) (k : Nat) : classify_Theme.f (k + 1) l = some (themeOf l) := by
  unfold classify_Theme.f
  simp only [classify_Theme.j0, cIs, cHas, cClass, Option.bind_some]
  unfold themeOf
  cases hasOf l ⟨#[98, 117, 105, 108, 100, 105, 110, 103]⟩ <;> cases isOf l ⟨#[98, 117, 105, 108, 100, 105, 110, 103]⟩ ⟨#[110, 111]⟩ <;> simp [some_ite]
theorem rTheme (l : List S32) (hl : l.length ≤ maxLen) (k : Nat) (hk : l.length < k) : mapmakerref18_Theme.f (k + 1) l = some (themeOf l) := by
  unfold mapmakerref18_Theme.f
  simp only [mapmakerref18_Theme.j0, rIs l _ _ hl k hk, rHas l _ hl k hk, rIs l _ _ hl (k + 1) (by omega), rHas l _ hl (k + 1) (by omega), rClass l hl k hk, Option.bind_some]
  unfold themeOf
  cases hasOf l ⟨#[98, 117, 105, 108, 100, 105, 110, 103]⟩ <;> cases isOf l ⟨#[98, 117, 105, 108, 100, 105, 110, 103]⟩ ⟨#[110, 111]⟩ <;> simp [some_ite]

theorem themeOf_range (l : List S32) : 0 ≤ themeOf l ∧ themeOf l ≤ 6 := by
  unfold themeOf
  repeat' split
  all_goals omega
theorem areas (l : List S32) (hl : l.length ≤ maxLen) (k : Nat) (hk : l.length < k) : ∃ r, classify_IsArea.f (k + 1) l = some r ∧ mapmakerref18_IsArea.f (k + 1) l = some r := by
  unfold classify_IsArea.f mapmakerref18_IsArea.f
  simp only [cTheme, rTheme l hl k hk, cIs, rIs l _ _ hl (k + 1) (by omega), Option.bind_some, some_ite]
  refine ⟨_, rfl, ?_⟩
  congr 1
  have ex : isOf l ⟨#[97, 114, 101, 97]⟩ ⟨#[110, 111]⟩ = true → isOf l ⟨#[97, 114, 101, 97]⟩ ⟨#[121, 101, 115]⟩ = false := by
    unfold isOf
    intro h
    have h2 := (Bool.and_eq_true _ _ ▸ h).2
    rw [beq_iff_eq.mp h2]
    rw [show ((⟨#[110, 111]⟩ : ByteArray).toList == (⟨#[121, 101, 115]⟩ : ByteArray).toList) = false by decide +kernel, Bool.and_false]
  generalize isOf l ⟨#[97, 114, 101, 97]⟩ ⟨#[121, 101, 115]⟩ = b at ex ⊢
  cases h : isOf l ⟨#[97, 114, 101, 97]⟩ ⟨#[110, 111]⟩ with
  | false => simp
  | true =>
    rw [ex h]
    simp

theorem p0 : (⟨#[99, 105, 116, 121]⟩ : ByteArray).toList = [99, 105, 116, 121] := by decide +kernel
theorem p1 : (⟨#[116, 111, 119, 110]⟩ : ByteArray).toList = [116, 111, 119, 110] := by decide +kernel
theorem p2 : (⟨#[118, 105, 108, 108, 97, 103, 101]⟩ : ByteArray).toList = [118, 105, 108, 108, 97, 103, 101] := by decide +kernel
theorem theme6 (l : List S32) (h : themeOf l = 6) : hasOf l ⟨#[112, 108, 97, 99, 101]⟩ = true := by
  revert h
  unfold themeOf
  repeat' split
  all_goals first | (intro h; omega) | (intro _; assumption)
theorem theme4 (l : List S32) (h : themeOf l = 4) : classV l > 0 := by
  revert h
  unfold themeOf
  repeat' split
  all_goals first | (intro h; omega) | (intro _; assumption)
theorem rdC (c : Int) (h0 : 0 < c) (h1 : c < 7) : rd [0, 0, 2, 4, 5, 5, 5] c = if c = 1 then 0 else if c = 2 then 2 else if c = 3 then 4 else 5 := by
  have : c = 1 ∨ c = 2 ∨ c = 3 ∨ c = 4 ∨ c = 5 ∨ c = 6 := by omega
  rcases this with rfl | rfl | rfl | rfl | rfl | rfl <;> rfl
theorem cSettle (l : List S32) (h : hasOf l ⟨#[112, 108, 97, 99, 101]⟩ = true) : classify_settle.f l = some (if isOf l ⟨#[112, 108, 97, 99, 101]⟩ ⟨#[99, 105, 116, 121]⟩ = true then 0 else if isOf l ⟨#[112, 108, 97, 99, 101]⟩ ⟨#[116, 111, 119, 110]⟩ = true then 3 else if isOf l ⟨#[112, 108, 97, 99, 101]⟩ ⟨#[118, 105, 108, 108, 97, 103, 101]⟩ = true then 5 else 6) := by
  unfold classify_settle.f
  rw [tagsGet, Option.bind_some]
  unfold isOf
  unfold hasOf at h
  rw [h, p0, p1, p2]
  simp only [Bool.true_and, beq_iff_eq, some_ite]
theorem zooms (l : List S32) (hl : l.length ≤ maxLen) (k : Nat) (hk : l.length < k) : ∃ r, classify_MinZoom.f (k + 1) l = some r ∧ mapmakerref18_MinZoom.f (k + 1) l = some r := by
  unfold classify_MinZoom.f mapmakerref18_MinZoom.f
  simp only [cTheme, rTheme l hl k hk, rIs l _ _ hl (k + 1) (by omega), cClass, rClass l hl (k + 1) (by omega), Option.bind_some]
  have hr := themeOf_range l
  have hv := classV_range l
  have h4 := theme4 l
  have h6 := theme6 l
  have hs := cSettle l
  generalize themeOf l = t at *
  have : t = 0 ∨ t = 1 ∨ t = 2 ∨ t = 3 ∨ t = 4 ∨ t = 5 ∨ t = 6 := by omega
  rcases this with rfl | rfl | rfl | rfl | rfl | rfl | rfl
  · exact ⟨8, rfl, rfl⟩
  · exact ⟨0, rfl, rfl⟩
  · exact ⟨2, rfl, rfl⟩
  · exact ⟨6, rfl, rfl⟩
  · have h5 := h4 rfl
    refine ⟨rd [0, 0, 2, 4, 5, 5, 5] (classV l), ?_, ?_⟩
    · show (if 0 ≤ classV l then if classV l < 7 then some (rd [0, 0, 2, 4, 5, 5, 5] (classV l)) else none else none) = _
      rw [if_pos hv.1, if_pos hv.2]
    · show (if classV l = 1 then some 0 else if classV l = 2 then some 2 else if classV l = 3 then some 4 else some 5) = _
      rw [rdC _ (by omega) hv.2]
      simp only [some_ite]
  · exact ⟨0, rfl, rfl⟩
  · have h7 := hs (h6 rfl)
    rw [h7]
    refine ⟨_, rfl, ?_⟩
    show (if isOf l _ _ = true then some 0 else if isOf l _ _ = true then some 3 else if isOf l _ _ = true then some 5 else some 6) = _
    simp only [some_ite]

theorem small0 (l : List S32) (hl : l.length ≤ maxLen) (d : Nat) : ∀ (k : Nat) (i : Nat), i ≤ l.length → l.length - i = d → 2 * d + 1 < k → ∃ b, mapmakerlaw06_Small.l0 k l (i : Int) = some b := by
  unfold maxLen at hl
  induction d with
  | zero =>
    intro k i hi hd hk
    obtain ⟨k, rfl⟩ : ∃ m, k = m + 2 := ⟨k - 2, by omega⟩
    simp only [mapmakerlaw06_Small.l0]
    rw [if_neg (by omega)]
    simp only [mapmakerlaw06_Small.j1]
    exact ⟨_, rfl⟩
  | succ d ih =>
    intro k i hi hd hk
    obtain ⟨k, rfl⟩ : ∃ m, k = m + 2 := ⟨k - 2, by omega⟩
    simp only [mapmakerlaw06_Small.l0]
    rw [if_pos (by omega)]
    simp only [mapmakerlaw06_Small.j1]
    by_cases h : (i : Int) < 41
    · rw [if_pos (decide_eq_true h), if_pos (by omega), if_pos (by omega)]
      by_cases h1 : (((rd_T32 l i).f0).size : Int) > 200
      · rw [if_pos h1]; exact ⟨_, rfl⟩
      rw [if_neg h1]
      by_cases h2 : (((rd_T32 l i).f1).size : Int) > 200
      · rw [if_pos h2]; exact ⟨_, rfl⟩
      rw [if_neg h2]
      have hw : wrap64 ((i : Int) + 1) = ((i + 1 : Nat) : Int) := by unfold wrap64; omega
      rw [hw]
      exact ih k (i + 1) (by omega) (by omega) (by omega)
    · rw [if_neg (by simp [h])]
      exact ⟨_, rfl⟩
theorem small (l : List S32) (hl : l.length ≤ maxLen) (k : Nat) (hk : 2 * l.length + 1 < k) : ∃ b, mapmakerlaw06_Small.f k l = some b := by
  unfold mapmakerlaw06_Small.f
  exact small0 l hl l.length k 0 (by omega) (by omega) hk
theorem lives60 : mapmakerlaw18_lives.f 60 = some true := by decide +kernel
theorem lives (k : Nat) (hk : 60 ≤ k) : mapmakerlaw18_lives.f k = some true := by
  obtain ⟨d, rfl⟩ : ∃ d, k = 60 + d := ⟨k - 60, by omega⟩
  clear hk
  induction d with
  | zero => exact lives60
  | succ d ih => exact mapmakerlaw18_lives.mono _ _ ih

theorem ClassifyThemes : mapmakerlaw18_ClassifyThemes.Pure := by
  intro l hw
  have hl := hw.1
  obtain ⟨b, hb⟩ := small l hl (2 * l.length + 60 + 1) (by omega)
  obtain ⟨a, ha1, ha2⟩ := areas l hl (2 * l.length + 60) (by omega)
  obtain ⟨z, hz1, hz2⟩ := zooms l hl (2 * l.length + 60) (by omega)
  refine ⟨2 * l.length + 60 + 1, ?_⟩
  unfold mapmakerlaw18_ClassifyThemes.f
  rw [hb, Option.bind_some, lives _ (by omega), cTheme, rTheme l hl _ (by omega), ha1, ha2, hz1, hz2]
  simp
end Go.Proofs.Ytolhkhaglopioaa.Pure
