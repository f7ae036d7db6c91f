/- Plain facts: what the functions of classify answer, and what Set changes. -/
import Derived.Test.YtolhkhaglopioaaPEdx
namespace Go.Proofs.Ytolhkhaglopioaa.Pure
set_option linter.unusedVariables false
set_option linter.unusedSimpArgs false
open Go.RowKit Go.Proofs.Ytolhkhaglopioaa.PEd Go.Proofs.YtolhkhaglopioaaW.PrintWords Go.Proofs.YtolhkhaglopioaaW.PrintLast Go.Proofs.YtolhkhaglopioaaG

def getOf (l : List S32) (key : ByteArray) : ByteArray × Bool := match l.find? (keyIs key) with | some t => (t.f1, true) | none => (⟨#[]⟩, false)

theorem getOf_cons (t : S32) (l : List S32) (key : ByteArray) : getOf (t :: l) key = if t.f0.toList = key.toList then (t.f1, true) else getOf l key := by
  unfold getOf
  rw [List.find?_cons]
  by_cases h : t.f0.toList = key.toList
  · rw [if_pos h]
    have : keyIs key t = true := by unfold keyIs; rw [h]; exact beq_self_eq_true _
    rw [this]
  · rw [if_neg h]
    have : keyIs key t = false := by unfold keyIs; exact beq_eq_false_iff_ne.mpr h
    rw [this]

theorem tagsGet (l : List S32) (key : ByteArray) : tags_Get.f l key = some (getOf l key) := by
  unfold tags_Get.f tags_find.f getOf
  rw [Option.bind_some]
  unfold ixOf
  cases h : l.findIdx? (keyIs key) with
  | none =>
    have h2 : l.find? (keyIs key) = none := by
      rw [List.find?_eq_none]
      rw [List.findIdx?_eq_none_iff] at h
      intro x hx
      rw [h x hx]
      exact Bool.false_ne_true
    rw [h2]
    rfl
  | some i =>
    rw [List.findIdx?_eq_some_iff_getElem] at h
    obtain ⟨hi, hp, hb⟩ := h
    have h2 : l.find? (keyIs key) = some l[i] := by
      rw [List.find?_eq_some_iff_getElem]
      exact ⟨hp, i, hi, rfl, fun j hj => by simpa using hb j hj⟩
    rw [h2]
    show (if (i : Int) < 0 then _ else if (0 : Int) ≤ i then if (i : Int) < (l.length : Int) then some ((rd_T32 l i).f1, true) else none else none) = _
    rw [if_neg (by omega), if_pos (by omega), if_pos (by omega)]
    unfold rd_T32
    rw [Int.toNat_natCast, List.getD_eq_getElem?_getD, List.getElem?_eq_getElem hi]
    rfl

def hasOf (l : List S32) (key : ByteArray) : Bool := (getOf l key).2
def isOf (l : List S32) (key val : ByteArray) : Bool := (getOf l key).2 && ((getOf l key).1.toList == val.toList)

theorem cHas (l : List S32) (key : ByteArray) : classify_has.f l key = some (hasOf l key) := by
  unfold classify_has.f
  rw [tagsGet]
  rfl
theorem cIs (l : List S32) (key val : ByteArray) : classify_is.f l key val = some (isOf l key val) := by
  unfold classify_is.f
  rw [tagsGet, Option.bind_some]
  unfold isOf
  cases (getOf l key).2 <;> rfl
def classV (l : List S32) : Int := if hasOf l ⟨#[104, 105, 103, 104, 119, 97, 121]⟩ = true then classOf (getOf l ⟨#[104, 105, 103, 104, 119, 97, 121]⟩).1 else if isOf l ⟨#[114, 111, 117, 116, 101]⟩ ⟨#[102, 101, 114, 114, 121]⟩ = true then 6 else 0
theorem cClass (l : List S32) : classify_Class.f l = some (classV l) := by
  unfold classify_Class.f
  rw [tagsGet, Option.bind_some]
  unfold classV hasOf
  cases (getOf l ⟨#[104, 105, 103, 104, 119, 97, 121]⟩).2 with
  | true => rfl
  | false => rw [cIs]; rfl
theorem classOf_range (v : ByteArray) : 0 ≤ classOf v ∧ classOf v < 6 := by
  unfold classOf
  repeat' split
  all_goals omega
theorem classV_range (l : List S32) : 0 ≤ classV l ∧ classV l < 7 := by
  unfold classV
  have := classOf_range (getOf l ⟨#[104, 105, 103, 104, 119, 97, 121]⟩).1
  repeat' split
  all_goals omega

/-- What Theme answers. -/
def themeOf (l : List S32) : Int :=
  if isOf l ⟨#[110, 97, 116, 117, 114, 97, 108]⟩ ⟨#[119, 97, 116, 101, 114]⟩ = true then 1
  else if (hasOf l ⟨#[98, 117, 105, 108, 100, 105, 110, 103]⟩ && !isOf l ⟨#[98, 117, 105, 108, 100, 105, 110, 103]⟩ ⟨#[110, 111]⟩) = true then 3
  else if hasOf l ⟨#[108, 97, 110, 100, 117, 115, 101]⟩ = true then 2
  else if classV l > 0 then 4
  else if hasOf l ⟨#[98, 111, 117, 110, 100, 97, 114, 121]⟩ = true then 5
  else if hasOf l ⟨#[112, 108, 97, 99, 101]⟩ = true then 6 else 0
theorem some_ite {α : Type} (c : Prop) [Decidable c] (a b : α) : (if c then some a else some b) = some (if c then a else b) := by split <;> rfl
theorem cTheme (l : List S32) (k : Nat) : classify_Theme.f (k + 1) l = some (themeOf l) := by
  unfold classify_Theme.f
  simp only [classify_Theme.j0, cIs, cHas, cClass, Option.bind_some]
  unfold themeOf
  cases hasOf l ⟨#[98, 117, 105, 108, 100, 105, 110, 103]⟩ <;> cases isOf l ⟨#[98, 117, 105, 108, 100, 105, 110, 103]⟩ ⟨#[110, 111]⟩ <;> simp [some_ite]
theorem themeOf_range (l : List S32) : 0 ≤ themeOf l ∧ themeOf l ≤ 6 := by
  unfold themeOf
  repeat' split
  all_goals omega
theorem theme6 (l : List S32) (h : themeOf l = 6) : hasOf l ⟨#[112, 108, 97, 99, 101]⟩ = true := by
  revert h
  unfold themeOf
  repeat' split
  all_goals first | (intro h; omega) | (intro _; assumption)
theorem theme4 (l : List S32) (h : themeOf l = 4) : classV l > 0 := by
  revert h
  unfold themeOf
  repeat' split
  all_goals first | (intro h; omega) | (intro _; assumption)
theorem rdC (c : Int) (h0 : 0 < c) (h1 : c < 7) : rd [0, 0, 2, 4, 5, 5, 5] c = if c = 1 then 0 else if c = 2 then 2 else if c = 3 then 4 else 5 := by
  have : c = 1 ∨ c = 2 ∨ c = 3 ∨ c = 4 ∨ c = 5 ∨ c = 6 := by omega
  rcases this with rfl | rfl | rfl | rfl | rfl | rfl <;> rfl
theorem lives60 : mapmakerlaw18_lives.f 60 = some true := by decide +kernel
theorem lives (k : Nat) (hk : 60 ≤ k) : mapmakerlaw18_lives.f k = some true := by
  obtain ⟨d, rfl⟩ : ∃ d, k = 60 + d := ⟨k - 60, by omega⟩
  clear hk
  induction d with
  | zero => exact lives60
  | succ d ih => exact mapmakerlaw18_lives.mono _ _ ih

theorem rd_at (l : List S32) (i : Nat) (h : i < l.length) : rd_T32 l (i : Int) = l[i] := by
  unfold rd_T32
  rw [Int.toNat_natCast, List.getD_eq_getElem?_getD, List.getElem?_eq_getElem h]
  rfl
theorem wrap_succ (i : Nat) (h : (i : Int) < 9223372036854775807) : wrap64 ((i : Int) + 1) = ((i + 1 : Nat) : Int) := by unfold wrap64; omega

theorem small0 (l : List S32) (hl : l.length ≤ maxLen) (d : Nat) : ∀ (k : Nat) (i : Nat), i ≤ l.length → l.length - i = d → 2 * d + 1 < k → ∃ b, mapmakerlaw06_Small.l0 k l (i : Int) = some b ∧ (b = true → l.length ≤ 40) := by
  unfold maxLen at hl
  induction d with
  | zero =>
    intro k i hi hd hk
    obtain ⟨k, rfl⟩ : ∃ m, k = m + 2 := ⟨k - 2, by omega⟩
    simp only [mapmakerlaw06_Small.l0]
    rw [if_neg (by omega)]
    simp only [mapmakerlaw06_Small.j1]
    exact ⟨_, rfl, fun h => by have := of_decide_eq_true h; omega⟩
  | succ d ih =>
    intro k i hi hd hk
    obtain ⟨k, rfl⟩ : ∃ m, k = m + 2 := ⟨k - 2, by omega⟩
    simp only [mapmakerlaw06_Small.l0]
    rw [if_pos (by omega)]
    simp only [mapmakerlaw06_Small.j1]
    by_cases h : (i : Int) < 41
    · rw [if_pos (decide_eq_true h), if_pos (by omega), if_pos (by omega)]
      by_cases h1 : (((rd_T32 l i).f0).size : Int) > 200
      · rw [if_pos h1]; exact ⟨_, rfl, fun h => by cases h⟩
      rw [if_neg h1]
      by_cases h2 : (((rd_T32 l i).f1).size : Int) > 200
      · rw [if_pos h2]; exact ⟨_, rfl, fun h => by cases h⟩
      rw [if_neg h2, wrap_succ i (by omega)]
      exact ih k (i + 1) (by omega) (by omega) (by omega)
    · rw [if_neg (by simp [h])]
      exact ⟨_, rfl, fun h => by have := of_decide_eq_true h; omega⟩
theorem small (l : List S32) (hl : l.length ≤ maxLen) (k : Nat) (hk : 2 * l.length + 1 < k) : ∃ b, mapmakerlaw06_Small.f k l = some b ∧ (b = true → l.length ≤ 40) := by
  unfold mapmakerlaw06_Small.f
  exact small0 l hl l.length k 0 (by omega) (by omega) hk
def keyL (x : S32) : List UInt8 := x.f0.toList
def setRest (key val : ByteArray) (has : Bool) : Bool → List S32 → List S32
  | done, [] => if done = true then [] else [⟨key, val⟩]
  | done, t :: r =>
    if has = true then (if t.f0.toList = key.toList then (if done = true then setRest key val has true r else ⟨key, val⟩ :: setRest key val has true r) else t :: setRest key val has done r)
    else if done = true then t :: setRest key val has true r
    else if Op.bytesLess key.toList t.f0.toList = true then ⟨key, val⟩ :: t :: setRest key val has true r
    else t :: setRest key val has false r
theorem has_iff (l : List S32) (key : ByteArray) : (getOf l key).2 = true ↔ ∃ x ∈ l, keyL x = key.toList := by
  induction l with
  | nil => simp [getOf]
  | cons t l ih =>
    rw [getOf_cons]
    by_cases h : t.f0.toList = key.toList
    · rw [if_pos h]
      exact ⟨fun _ => ⟨t, List.mem_cons_self, h⟩, fun _ => rfl⟩
    · rw [if_neg h, ih]
      constructor
      · rintro ⟨x, hx, e⟩
        exact ⟨x, List.mem_cons_of_mem _ hx, e⟩
      · rintro ⟨x, hx, e⟩
        rcases List.mem_cons.1 hx with rfl | hx
        · exact absurd e h
        · exact ⟨x, hx, e⟩
theorem setRest_done (key val : ByteArray) : ∀ l : List S32, setRest key val false true l = l
  | [] => rfl
  | t :: l => by simp [setRest, setRest_done key val l]
theorem keyIs_iff (a : ByteArray) (t : S32) : keyIs a t = true ↔ t.f0.toList = a.toList := by unfold keyIs; exact beq_iff_eq
theorem keyIs_not (a : ByteArray) (t : S32) : keyIs a t = false ↔ t.f0.toList ≠ a.toList := by unfold keyIs; exact beq_eq_false_iff_ne
theorem setGo_done (a1 a2 : ByteArray) (p : Int) : ∀ (l : List S32) (i : Nat), p < i → setGo a1 a2 p i l = setRest a1 a2 true true l
  | [], i, h => by simp [setGo, setRest]
  | t :: l, i, h => by
    rw [setGo, if_neg (by omega), setGo_done a1 a2 p l (i + 1) (by omega)]
    simp only [setRest, if_true]
    by_cases hk : t.f0.toList = a1.toList
    · rw [if_pos ((keyIs_iff a1 t).2 hk), if_pos hk]
    · rw [if_neg (fun h => hk ((keyIs_iff a1 t).1 h)), if_neg hk]
theorem setGo_has (a1 a2 : ByteArray) : ∀ (l : List S32) (i d : Nat), l.findIdx? (keyIs a1) = some d → setGo a1 a2 ((i + d : Nat) : Int) i l = setRest a1 a2 true false l
  | [], i, d, h => by simp at h
  | t :: l, i, d, h => by
    rw [List.findIdx?_cons] at h
    simp only [setRest, if_true]
    by_cases hk : keyIs a1 t = true
    · rw [if_pos hk] at h
      have hd : d = 0 := by injection h with h; omega
      subst hd
      rw [setGo, if_pos (by omega), if_pos ((keyIs_iff a1 t).1 hk), if_neg Bool.false_ne_true, setGo_done a1 a2 _ l (i + 1) (by omega)]
    · rw [if_neg hk] at h
      obtain ⟨d', hd', rfl⟩ := Option.map_eq_some_iff.1 h
      have := setGo_has a1 a2 l (i + 1) d' hd'
      rw [setGo, if_neg (by omega), if_neg hk, if_neg (fun h => hk ((keyIs_iff a1 t).2 h)), ← this, show i + 1 + d' = i + (d' + 1) by omega]
theorem setTo_nil (a1 : ByteArray) : setTo a1 ([] : List S32) = 0 := rfl
theorem setTo_cons (a1 : ByteArray) (t : S32) (l : List S32) : setTo a1 (t :: l) = if keyGt a1 t = true then 0 else setTo a1 l + 1 := by
  unfold setTo ixOf
  rw [List.findIdx?_cons]
  by_cases h : keyGt a1 t = true
  · rw [if_pos h, if_pos h]; rfl
  · rw [if_neg h, if_neg h]
    cases hf : l.findIdx? (keyGt a1) with
    | none => simp
    | some d =>
      simp only [Option.map_some]
      rw [if_neg (by omega), if_neg (by omega)]
      omega
theorem setTo_not (a1 a2 : ByteArray) : ∀ (l : List S32), l.take (setTo a1 l) ++ ⟨a1, a2⟩ :: l.drop (setTo a1 l) = setRest a1 a2 false false l
  | [] => by simp [setTo_nil, setRest]
  | t :: l => by
    rw [setTo_cons]
    simp only [setRest, Bool.false_eq_true, if_false]
    by_cases h : keyGt a1 t = true
    · rw [if_pos h, if_pos (show Op.bytesLess a1.toList t.f0.toList = true from h), setRest_done]
      rfl
    · rw [if_neg h, if_neg (show ¬ Op.bytesLess a1.toList t.f0.toList = true from h), ← setTo_not a1 a2 l, List.take_succ_cons, List.drop_succ_cons]
      rfl
theorem tagsSet (l : List S32) (a1 a2 : ByteArray) (hl : l.length < 4398046511104) : tags_Set.f l a1 a2 = some (setRest a1 a2 (getOf l a1).2 false l) := by
  unfold tags_Set.f
  rw [if_pos hl]
  congr 1
  cases hf : l.findIdx? (keyIs a1) with
  | none =>
    have hg : (getOf l a1).2 = false := by
      cases h : (getOf l a1).2 with
      | false => rfl
      | true =>
        obtain ⟨x, hx, e⟩ := (has_iff l a1).1 h
        rw [List.findIdx?_eq_none_iff] at hf
        have h2 := hf x hx
        rw [(keyIs_iff a1 x).2 e] at h2
        cases h2
    rw [hg]
    have hi : ixOf (keyIs a1) l = -1 := by unfold ixOf; rw [hf]
    rw [hi, if_pos (by omega)]
    exact setTo_not a1 a2 l
  | some d =>
    have hf' := hf
    rw [List.findIdx?_eq_some_iff_getElem] at hf'
    obtain ⟨hd, hp, _⟩ := hf'
    have hg : (getOf l a1).2 = true := (has_iff l a1).2 ⟨l[d], List.getElem_mem hd, (keyIs_iff a1 _).1 hp⟩
    rw [hg]
    have hi : ixOf (keyIs a1) l = (d : Int) := by unfold ixOf; rw [hf]
    rw [hi, if_neg (by omega)]
    have := setGo_has a1 a2 l 0 d hf
    rwa [Nat.zero_add] at this
theorem getOf_hit (t : S32) (l : List S32) (key : ByteArray) (h : t.f0.toList = key.toList) : getOf (t :: l) key = (t.f1, true) := by rw [getOf_cons, if_pos h]
theorem getOf_skip (t : S32) (l : List S32) (key : ByteArray) (h : t.f0.toList ≠ key.toList) : getOf (t :: l) key = getOf l key := by rw [getOf_cons, if_neg h]
theorem filter_none (a1 : ByteArray) (l : List S32) (h : ∀ x ∈ l, keyL x ≠ a1.toList) : l.filter (fun x => !keyIs a1 x) = l := by
  rw [List.filter_eq_self]
  intro x hx
  rw [(keyIs_not a1 x).2 (h x hx)]
  rfl
theorem set_new (a1 a2 : ByteArray) : ∀ l : List S32, (∀ x ∈ l, keyL x ≠ a1.toList) →
    getOf (setRest a1 a2 false false l) a1 = (a2, true) ∧ (∀ o : ByteArray, o.toList ≠ a1.toList → getOf (setRest a1 a2 false false l) o = getOf l o) ∧ (setRest a1 a2 false false l).filter (fun x => !keyIs a1 x) = l
  | [], _ => by
    simp only [setRest, Bool.false_eq_true, if_false]
    refine ⟨getOf_hit _ _ _ rfl, fun o ho => getOf_skip _ _ _ (fun e => ho e.symm), ?_⟩
    rw [List.filter_cons, (keyIs_iff a1 ⟨a1, a2⟩).2 rfl]
    rfl
  | t :: l, h => by
    simp only [setRest, Bool.false_eq_true, if_false]
    have ht : t.f0.toList ≠ a1.toList := h t List.mem_cons_self
    by_cases hb : Op.bytesLess a1.toList t.f0.toList = true
    · rw [if_pos hb, setRest_done]
      refine ⟨getOf_hit _ _ _ rfl, fun o ho => getOf_skip _ _ _ (fun e => ho e.symm), ?_⟩
      rw [List.filter_cons, (keyIs_iff a1 ⟨a1, a2⟩).2 rfl, Bool.not_true, if_neg Bool.false_ne_true, filter_none a1 _ h]
    · rw [if_neg hb]
      obtain ⟨g1, g2, g3⟩ := set_new a1 a2 l (fun x hx => h x (List.mem_cons_of_mem _ hx))
      refine ⟨by rw [getOf_skip _ _ _ ht]; exact g1, fun o ho => by rw [getOf_cons, getOf_cons, g2 o ho], ?_⟩
      rw [List.filter_cons, (keyIs_not a1 t).2 ht, Bool.not_false, if_pos rfl, g3]

theorem set_oth (a1 a2 : ByteArray) (has : Bool) (o : ByteArray) (ho : o.toList ≠ a1.toList) : ∀ (l : List S32) (done : Bool), getOf (setRest a1 a2 has done l) o = getOf l o
  | [], done => by
    simp only [setRest]
    split
    · rfl
    · exact getOf_skip _ _ _ (fun e => ho e.symm)
  | t :: l, done => by
    have ih := set_oth a1 a2 has o ho l
    simp only [setRest]
    by_cases hk : t.f0.toList = a1.toList
    · have hs : t.f0.toList ≠ o.toList := fun e => ho (by rw [← e]; exact hk)
      have hn : (⟨a1, a2⟩ : S32).f0.toList ≠ o.toList := fun e => ho e.symm
      rw [getOf_skip t l o hs]
      (repeat' split)
      all_goals first
        | exact ih _
        | (rw [getOf_skip _ _ _ hn]; exact ih _)
        | (rw [getOf_skip _ _ _ hs]; exact ih _)
        | (rw [getOf_skip _ _ _ hn, getOf_skip _ _ _ hs]; exact ih _)
        | (exfalso; simp_all; done)
    · have hn : (⟨a1, a2⟩ : S32).f0.toList ≠ o.toList := fun e => ho e.symm
      (repeat' split)
      all_goals first
        | (exfalso; exact hk (by assumption))
        | (rw [getOf_cons, getOf_cons, ih]; done)
        | (rw [getOf_skip _ _ _ hn, getOf_cons, getOf_cons, ih]; done)
theorem set_hit (a1 a2 : ByteArray) : ∀ l : List S32, (∃ x ∈ l, keyL x = a1.toList) → getOf (setRest a1 a2 true false l) a1 = (a2, true)
  | [], h => by obtain ⟨x, hx, _⟩ := h; cases hx
  | t :: l, h => by
    simp only [setRest, if_true]
    by_cases hk : t.f0.toList = a1.toList
    · rw [if_pos hk, if_neg Bool.false_ne_true]
      exact getOf_hit _ _ _ rfl
    · rw [if_neg hk, getOf_skip _ _ _ hk]
      obtain ⟨x, hx, e⟩ := h
      rcases List.mem_cons.1 hx with rfl | hx
      · exact absurd e hk
      · exact set_hit a1 a2 l ⟨x, hx, e⟩
theorem set_got (l : List S32) (a1 a2 : ByteArray) : getOf (setRest a1 a2 (getOf l a1).2 false l) a1 = (a2, true) := by
  cases hh : (getOf l a1).2 with
  | true => exact set_hit a1 a2 l ((has_iff l a1).1 hh)
  | false =>
    refine (set_new a1 a2 l (fun x hx e => ?_)).1
    have := (has_iff l a1).2 ⟨x, hx, e⟩
    rw [hh] at this
    cases this

/-! what the other functions answer -/
def areaOf (l : List S32) : Bool :=
  if themeOf l = 1 then !isOf l ⟨#[97, 114, 101, 97]⟩ ⟨#[110, 111]⟩ else if themeOf l = 3 then !isOf l ⟨#[97, 114, 101, 97]⟩ ⟨#[110, 111]⟩ else if themeOf l = 2 then !isOf l ⟨#[97, 114, 101, 97]⟩ ⟨#[110, 111]⟩
  else if themeOf l = 5 then isOf l ⟨#[97, 114, 101, 97]⟩ ⟨#[121, 101, 115]⟩ else false
theorem cArea (l : List S32) (k : Nat) : classify_IsArea.f (k + 1) l = some (areaOf l) := by
  unfold classify_IsArea.f
  rw [cTheme, Option.bind_some]
  unfold areaOf
  simp only [cIs, Option.bind_some, some_ite]
def settleOf (l : List S32) : Int := if (getOf l ⟨#[112, 108, 97, 99, 101]⟩).1.toList = ([99, 105, 116, 121] : List UInt8) then 0 else if (getOf l ⟨#[112, 108, 97, 99, 101]⟩).1.toList = ([116, 111, 119, 110] : List UInt8) then 3 else if (getOf l ⟨#[112, 108, 97, 99, 101]⟩).1.toList = ([118, 105, 108, 108, 97, 103, 101] : List UInt8) then 5 else 6
theorem cSettle (l : List S32) : classify_settle.f l = some (settleOf l) := by
  unfold classify_settle.f settleOf
  rw [tagsGet, Option.bind_some]
  simp only [some_ite]
def zoomOf (l : List S32) : Int := if themeOf l = 1 then 0 else if themeOf l = 5 then 0 else if themeOf l = 3 then 6 else if themeOf l = 2 then 2 else if themeOf l = 4 then rd [0, 0, 2, 4, 5, 5, 5] (classV l) else if themeOf l = 6 then settleOf l else 8
theorem cZoom (l : List S32) (k : Nat) : classify_MinZoom.f (k + 1) l = some (zoomOf l) := by
  have hr := classV_range l
  unfold classify_MinZoom.f zoomOf
  rw [cTheme, Option.bind_some, cClass, Option.bind_some, cSettle, if_pos hr.1, if_pos hr.2]
  simp only [some_ite]
theorem zoom_range (l : List S32) : 0 ≤ zoomOf l ∧ (zoomOf l > 7 ↔ themeOf l = 0) := by
  have h1 := themeOf_range l
  have h2 := classV_range l
  have h3 : 0 ≤ settleOf l ∧ settleOf l ≤ 6 := by unfold settleOf; (repeat' split) <;> omega
  unfold zoomOf
  by_cases h4 : themeOf l = 4
  · have h5 := theme4 l h4
    rw [rdC (classV l) (by omega) (by omega), h4]
    (repeat' split) <;> omega
  · rw [if_neg h4]
    (repeat' split) <;> omega
def onewayOf (l : List S32) : Int :=
  if (!hasOf l ⟨#[111, 110, 101, 119, 97, 121]⟩ && isOf l ⟨#[104, 105, 103, 104, 119, 97, 121]⟩ ⟨#[109, 111, 116, 111, 114, 119, 97, 121]⟩) = true then 1
  else if hasOf l ⟨#[111, 110, 101, 119, 97, 121]⟩ = true then (if (getOf l ⟨#[111, 110, 101, 119, 97, 121]⟩).1.toList = ([121, 101, 115] : List UInt8) then 1 else if (getOf l ⟨#[111, 110, 101, 119, 97, 121]⟩).1.toList = ([45, 49] : List UInt8) then -1 else 0) else 0
theorem cOneway (l : List S32) (k : Nat) : classify_Oneway.f (k + 2) l = some (onewayOf l) := by
  unfold classify_Oneway.f onewayOf hasOf
  rw [tagsGet, Option.bind_some, cIs, Option.bind_some]
  simp only [classify_Oneway.j0, classify_Oneway.j1]
  cases (getOf l ⟨#[111, 110, 101, 119, 97, 121]⟩).2 <;> cases isOf l ⟨#[104, 105, 103, 104, 119, 97, 121]⟩ ⟨#[109, 111, 116, 111, 114, 119, 97, 121]⟩ <;> simp [some_ite]
theorem cName (l : List S32) : classify_Name.f l = some (getOf l ⟨#[110, 97, 109, 101]⟩).1 := by
  unfold classify_Name.f
  rw [tagsGet]
  rfl
/-- Two lists that a key that classify does not look at tells apart. -/
structure Same7 (l m : List S32) : Prop where
  h0 : getOf m ⟨#[110, 97, 116, 117, 114, 97, 108]⟩ = getOf l ⟨#[110, 97, 116, 117, 114, 97, 108]⟩
  h1 : getOf m ⟨#[98, 117, 105, 108, 100, 105, 110, 103]⟩ = getOf l ⟨#[98, 117, 105, 108, 100, 105, 110, 103]⟩
  h2 : getOf m ⟨#[108, 97, 110, 100, 117, 115, 101]⟩ = getOf l ⟨#[108, 97, 110, 100, 117, 115, 101]⟩
  h3 : getOf m ⟨#[104, 105, 103, 104, 119, 97, 121]⟩ = getOf l ⟨#[104, 105, 103, 104, 119, 97, 121]⟩
  h4 : getOf m ⟨#[114, 111, 117, 116, 101]⟩ = getOf l ⟨#[114, 111, 117, 116, 101]⟩
  h5 : getOf m ⟨#[98, 111, 117, 110, 100, 97, 114, 121]⟩ = getOf l ⟨#[98, 111, 117, 110, 100, 97, 114, 121]⟩
  h6 : getOf m ⟨#[112, 108, 97, 99, 101]⟩ = getOf l ⟨#[112, 108, 97, 99, 101]⟩
theorem Same7.klass {l m : List S32} (h : Same7 l m) : classV m = classV l := by unfold classV hasOf isOf; rw [h.h3, h.h4]
theorem Same7.theme {l m : List S32} (h : Same7 l m) : themeOf m = themeOf l := by unfold themeOf; rw [h.klass]; unfold hasOf isOf; rw [h.h0, h.h1, h.h2, h.h5, h.h6]
theorem Same7.zoom {l m : List S32} (h : Same7 l m) : zoomOf m = zoomOf l := by unfold zoomOf settleOf; rw [h.theme, h.klass, h.h6]
theorem same7 (l : List S32) (a1 a2 : ByteArray) (has : Bool) (n0 : (⟨#[110, 97, 116, 117, 114, 97, 108]⟩ : ByteArray).toList ≠ a1.toList) (n1 : (⟨#[98, 117, 105, 108, 100, 105, 110, 103]⟩ : ByteArray).toList ≠ a1.toList) (n2 : (⟨#[108, 97, 110, 100, 117, 115, 101]⟩ : ByteArray).toList ≠ a1.toList)
    (n3 : (⟨#[104, 105, 103, 104, 119, 97, 121]⟩ : ByteArray).toList ≠ a1.toList) (n4 : (⟨#[114, 111, 117, 116, 101]⟩ : ByteArray).toList ≠ a1.toList) (n5 : (⟨#[98, 111, 117, 110, 100, 97, 114, 121]⟩ : ByteArray).toList ≠ a1.toList) (n6 : (⟨#[112, 108, 97, 99, 101]⟩ : ByteArray).toList ≠ a1.toList) :
    Same7 l (setRest a1 a2 has false l) := ⟨set_oth a1 a2 has _ n0 l false, set_oth a1 a2 has _ n1 l false, set_oth a1 a2 has _ n2 l false, set_oth a1 a2 has _ n3 l false, set_oth a1 a2 has _ n4 l false, set_oth a1 a2 has _ n5 l false, set_oth a1 a2 has _ n6 l false⟩
end Go.Proofs.Ytolhkhaglopioaa.Pure
