/- ClassifyRoads: for every list of tags and every class the program's Class, Speed, Oneway and Name answer what the reference answers; no condition. -/
import Derived.Test.YtolhkhaglopioaaPClassifyRoadsx
namespace Go.Proofs.Ytolhkhaglopioaa.Pure
set_option linter.unusedVariables false
set_option linter.unusedSimpArgs false
open Go.RowKit Go.Proofs.Ytolhkhaglopioaa.PClassifyRoads Go.Proofs.YtolhkhaglopioaaW.PrintWords Go.Proofs.YtolhkhaglopioaaW.PrintLast

/-- What Get answers. -/
def getOf (l : List S32) (key : ByteArray) : ByteArray × Bool := match l.find? (keyIs key) with | some t => (t.f1, true) | none => (⟨#[]⟩, false)

theorem getOf_cons (t : S32) (l : List S32) (key : ByteArray) : getOf (t :: l) key = if t.f0.toList = key.toList then (t.f1, true) else getOf l key := by
  unfold getOf
  rw [List.find?_cons]
  by_cases h : t.f0.toList = key.toList
  · rw [if_pos h]
    have : keyIs key t = true := by unfold keyIs; rw [h]; exact beq_self_eq_true _
    rw [this]
  · rw [if_neg h]
    have : keyIs key t = false := by unfold keyIs; exact beq_eq_false_iff_ne.mpr h
    rw [this]

theorem tagsGet (l : List S32) (key : ByteArray) : tags_Get.f l key = some (getOf l key) := by
  unfold tags_Get.f tags_find.f getOf
  rw [Option.bind_some]
  unfold ixOf
  cases h : l.findIdx? (keyIs key) with
  | none =>
    have h2 : l.find? (keyIs key) = none := by
      rw [List.find?_eq_none]
      rw [List.findIdx?_eq_none_iff] at h
      intro x hx
      rw [h x hx]
      exact Bool.false_ne_true
    rw [h2]
    rfl
  | some i =>
    rw [List.findIdx?_eq_some_iff_getElem] at h
    obtain ⟨hi, hp, hb⟩ := h
    have h2 : l.find? (keyIs key) = some l[i] := by
      rw [List.find?_eq_some_iff_getElem]
      exact ⟨hp, i, hi, rfl, fun j hj => by simpa using hb j hj⟩
    rw [h2]
    show (if (i : Int) < 0 then _ else if (0 : Int) ≤ i then if (i : Int) < (l.length : Int) then some ((rd_T32 l i).f1, true) else none else none) = _
    rw [if_neg (by omega), if_pos (by omega), if_pos (by omega)]
    unfold rd_T32
    rw [Int.toNat_natCast, List.getD_eq_getElem?_getD, List.getElem?_eq_getElem hi]
    rfl

theorem refGet0 (l : List S32) (key : ByteArray) (hl : l.length ≤ maxLen) (d : Nat) : ∀ (k : Nat) (i : Nat), i ≤ l.length → l.length - i = d → d < k → mapmakerref06_Get.l0 k l key (i : Int) = some (getOf (l.drop i) key) := by
  unfold maxLen at hl
  induction d with
  | zero =>
    intro k i hi hd hk
    obtain ⟨k, rfl⟩ : ∃ m, k = m + 1 := ⟨k - 1, by omega⟩
    have : i = l.length := by omega
    subst this
    simp only [mapmakerref06_Get.l0]
    rw [if_neg (by omega), List.drop_length]
    rfl
  | succ d ih =>
    intro k i hi hd hk
    obtain ⟨k, rfl⟩ : ∃ m, k = m + 1 := ⟨k - 1, by omega⟩
    have hlt : i < l.length := by omega
    simp only [mapmakerref06_Get.l0]
    rw [if_pos (by omega), if_pos (by omega), List.drop_eq_getElem_cons hlt, getOf_cons]
    have hr : rd_T32 l (i : Int) = l[i] := by
      unfold rd_T32
      rw [Int.toNat_natCast, List.getD_eq_getElem?_getD, List.getElem?_eq_getElem hlt]
      rfl
    rw [hr]
    by_cases h : l[i].f0.toList = key.toList
    · rw [if_pos h, if_pos h]
    · rw [if_neg h, if_neg h]
      have hw : wrap64 ((i : Int) + 1) = ((i + 1 : Nat) : Int) := by unfold wrap64; omega
      rw [hw]
      exact ih k (i + 1) (by omega) (by omega) (by omega)

theorem refGet (l : List S32) (key : ByteArray) (hl : l.length ≤ maxLen) (k : Nat) (hk : l.length < k) : mapmakerref06_Get.f k l key = some (getOf l key) := by
  unfold mapmakerref06_Get.f
  exact refGet0 l key hl l.length k 0 (by omega) (by omega) hk

def hasOf (l : List S32) (key : ByteArray) : Bool := (getOf l key).2
def isOf (l : List S32) (key val : ByteArray) : Bool := (getOf l key).2 && ((getOf l key).1.toList == val.toList)

theorem cHas (l : List S32) (key : ByteArray) : classify_has.f l key = some (hasOf l key) := by
  unfold classify_has.f
  rw [tagsGet]
  rfl
theorem cIs (l : List S32) (key val : ByteArray) : classify_is.f l key val = some (isOf l key val) := by
  unfold classify_is.f
  rw [tagsGet, Option.bind_some]
  unfold isOf
  cases (getOf l key).2 <;> rfl
theorem rHas (l : List S32) (key : ByteArray) (hl : l.length ≤ maxLen) (k : Nat) (hk : l.length < k) : mapmakerref18_has.f k l key = some (hasOf l key) := by
  unfold mapmakerref18_has.f
  rw [refGet l key hl k hk]
  rfl
theorem rIs (l : List S32) (key val : ByteArray) (hl : l.length ≤ maxLen) (k : Nat) (hk : l.length < k) : mapmakerref18_is.f k l key val = some (isOf l key val) := by
  unfold mapmakerref18_is.f
  rw [refGet l key hl k hk, Option.bind_some]
  unfold isOf
  cases (getOf l key).2 <;> rfl

theorem n0 : (⟨#[109, 111, 116, 111, 114, 119, 97, 121]⟩ : ByteArray).toList = classN0 := by decide +kernel
theorem n1 : (⟨#[112, 114, 105, 109, 97, 114, 121]⟩ : ByteArray).toList = classN1 := by decide +kernel
theorem n2 : (⟨#[115, 101, 99, 111, 110, 100, 97, 114, 121]⟩ : ByteArray).toList = classN2 := by decide +kernel
theorem n3 : (⟨#[114, 101, 115, 105, 100, 101, 110, 116, 105, 97, 108]⟩ : ByteArray).toList = classN3 := by decide +kernel
theorem n4 : (⟨#[116, 114, 97, 99, 107]⟩ : ByteArray).toList = classN4 := by decide +kernel

def classV (l : List S32) : Int := if hasOf l ⟨#[104, 105, 103, 104, 119, 97, 121]⟩ = true then classOf (getOf l ⟨#[104, 105, 103, 104, 119, 97, 121]⟩).1 else if isOf l ⟨#[114, 111, 117, 116, 101]⟩ ⟨#[102, 101, 114, 114, 121]⟩ = true then 6 else 0
theorem cClass (l : List S32) : classify_Class.f l = some (classV l) := by
  unfold classify_Class.f
  rw [tagsGet, Option.bind_some]
  unfold classV hasOf
  cases (getOf l ⟨#[104, 105, 103, 104, 119, 97, 121]⟩).2 with
  | true => rfl
  | false => rw [cIs]; rfl
theorem rClass (l : List S32) (hl : l.length ≤ maxLen) (k : Nat) (hk : l.length < k) : mapmakerref18_Class.f k l = some (classV l) := by
  unfold mapmakerref18_Class.f
  simp only [rIs l _ _ hl k hk, rHas l _ hl k hk, Option.bind_some]
  unfold classV isOf hasOf classOf
  rw [n0, n1, n2, n3, n4]
  cases (getOf l ⟨#[104, 105, 103, 104, 119, 97, 121]⟩).2 with
  | true =>
    simp only [Bool.true_and, if_true]
    generalize (getOf l ⟨#[104, 105, 103, 104, 119, 97, 121]⟩).1.toList = v
    repeat' split
    all_goals rfl
  | false =>
    simp only [Bool.false_and, Bool.false_eq_true, if_false]
    split <;> rfl
theorem classOf_range (v : ByteArray) : 0 ≤ classOf v ∧ classOf v < 6 := by
  unfold classOf
  repeat' split
  all_goals omega
theorem classV_range (l : List S32) : 0 ≤ classV l ∧ classV l < 7 := by
  unfold classV
  have := classOf_range (getOf l ⟨#[104, 105, 103, 104, 119, 97, 121]⟩).1
  repeat' split
  all_goals omega

theorem small0 (l : List S32) (hl : l.length ≤ maxLen) (d : Nat) : ∀ (k : Nat) (i : Nat), i ≤ l.length → l.length - i = d → 2 * d + 1 < k → ∃ b, mapmakerlaw06_Small.l0 k l (i : Int) = some b := by
  unfold maxLen at hl
  induction d with
  | zero =>
    intro k i hi hd hk
    obtain ⟨k, rfl⟩ : ∃ m, k = m + 2 := ⟨k - 2, by omega⟩
    simp only [mapmakerlaw06_Small.l0]
    rw [if_neg (by omega)]
    simp only [mapmakerlaw06_Small.j1]
    exact ⟨_, rfl⟩
  | succ d ih =>
    intro k i hi hd hk
    obtain ⟨k, rfl⟩ : ∃ m, k = m + 2 := ⟨k - 2, by omega⟩
    simp only [mapmakerlaw06_Small.l0]
    rw [if_pos (by omega)]
    simp only [mapmakerlaw06_Small.j1]
    by_cases h : (i : Int) < 41
    · rw [if_pos (decide_eq_true h), if_pos (by omega), if_pos (by omega)]
      by_cases h1 : (((rd_T32 l i).f0).size : Int) > 200
      · rw [if_pos h1]; exact ⟨_, rfl⟩
      rw [if_neg h1]
      by_cases h2 : (((rd_T32 l i).f1).size : Int) > 200
      · rw [if_pos h2]; exact ⟨_, rfl⟩
      rw [if_neg h2]
      have hw : wrap64 ((i : Int) + 1) = ((i + 1 : Nat) : Int) := by unfold wrap64; omega
      rw [hw]
      exact ih k (i + 1) (by omega) (by omega) (by omega)
    · rw [if_neg (by simp [h])]
      exact ⟨_, rfl⟩
theorem small (l : List S32) (hl : l.length ≤ maxLen) (k : Nat) (hk : 2 * l.length + 1 < k) : ∃ b, mapmakerlaw06_Small.f k l = some b := by
  unfold mapmakerlaw06_Small.f
  exact small0 l hl l.length k 0 (by omega) (by omega) hk
theorem lives60 : mapmakerlaw18_lives.f 60 = some true := by decide +kernel
theorem lives (k : Nat) (hk : 60 ≤ k) : mapmakerlaw18_lives.f k = some true := by
  obtain ⟨d, rfl⟩ : ∃ d, k = 60 + d := ⟨k - 60, by omega⟩
  clear hk
  induction d with
  | zero => exact lives60
  | succ d ih => exact mapmakerlaw18_lives.mono _ _ ih


theorem q0 : (⟨#[121, 101, 115]⟩ : ByteArray).toList = [121, 101, 115] := by decide +kernel
theorem q1 : (⟨#[45, 49]⟩ : ByteArray).toList = [45, 49] := by decide +kernel
theorem some_ite {α : Type} (c : Prop) [Decidable c] (a b : α) : (if c then some a else some b) = some (if c then a else b) := by split <;> rfl
theorem oneways (l : List S32) (hl : l.length ≤ maxLen) (k : Nat) (hk : l.length < k) : ∃ r, classify_Oneway.f (k + 2) l = some r ∧ mapmakerref18_Oneway.f (k + 2) l = some r := by
  unfold classify_Oneway.f mapmakerref18_Oneway.f
  simp only [classify_Oneway.j0, classify_Oneway.j1, mapmakerref18_Oneway.j0, tagsGet, cIs, rIs l _ _ hl (k + 2) (by omega), rIs l _ _ hl (k + 1) (by omega), rHas l _ hl (k + 2) (by omega), Option.bind_some, some_ite]
  generalize isOf l ⟨#[104, 105, 103, 104, 119, 97, 121]⟩ ⟨#[109, 111, 116, 111, 114, 119, 97, 121]⟩ = b
  unfold isOf hasOf
  rw [q0, q1]
  generalize getOf l ⟨#[111, 110, 101, 119, 97, 121]⟩ = g
  obtain ⟨v, ok⟩ := g
  refine ⟨_, rfl, ?_⟩
  congr 1
  cases ok with
  | false => cases b <;> simp
  | true =>
    by_cases h1 : v.toList = [121, 101, 115]
    · simp [h1]
    · by_cases h2 : v.toList = [45, 49]
      · simp [h2]
      · simp [h1, h2]
theorem speeds (a : Int) : mapmakerref18_Speed.f a = classify_Speed.f a := by
  unfold mapmakerref18_Speed.f classify_Speed.f
  rw [Option.bind_some]
  by_cases h1 : a < 1
  · rw [if_pos h1, if_pos h1]
  rw [if_neg h1, if_neg h1]
  by_cases h2 : 7 ≤ a
  · rw [if_pos (by omega), if_pos h2]
  rw [if_neg (by omega), if_neg h2, if_pos (by omega), if_pos (by show a < 7; omega)]

theorem ClassifyRoads : mapmakerlaw18_ClassifyRoads.Pure := by
  intro l a hw _
  have hl := hw.1
  obtain ⟨b, hb⟩ := small l hl (2 * l.length + 60 + 2) (by omega)
  obtain ⟨o, ho1, ho2⟩ := oneways l hl (2 * l.length + 60) (by omega)
  refine ⟨2 * l.length + 60 + 2, ?_⟩
  unfold mapmakerlaw18_ClassifyRoads.f classify_Name.f mapmakerref18_Name.f
  rw [hb, Option.bind_some, lives _ (by omega), cClass, rClass l hl _ (by omega), ho1, ho2, speeds, tagsGet, refGet l _ hl _ (by omega)]
  unfold classify_Speed.f
  simp
end Go.Proofs.Ytolhkhaglopioaa.Pure
