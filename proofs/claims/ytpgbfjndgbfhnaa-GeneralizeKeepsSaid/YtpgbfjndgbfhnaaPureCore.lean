/- c26, plain: equality of lines, few, Has and Contains, the turn. -/
import Derived.Test.YtpgbfjndgbfhnaaPAllx16
namespace Go.Proofs.Ytpgbfjndgbfhnaa.Pure
open Go.RowKit Go.Proofs.Ytpgbfjndgbfhnaa.PAll Go.Proofs.YtpgbfjndgbfhnaaW.PrintWords Go.Proofs.YtpgbfjndgbfhnaaW.PrintLast
set_option linter.unusedVariables false
set_option linter.unusedSimpArgs false
theorem s40_ext {x y : S40} (h0 : x.f0 = y.f0) (h1 : x.f1 = y.f1) : x = y := by cases x; cases y; cases h0; cases h1; rfl
theorem rd40 (l : List S40) (i : Nat) (h : i < l.length) : rd_T40 l (i : Int) = l[i] := by
  unfold rd_T40; rw [Int.toNat_natCast, List.getD_eq_getElem?_getD, List.getElem?_eq_getElem h]; rfl
theorem rd31 (l : List S31) (i : Nat) (h : i < l.length) : rd_T31 l (i : Int) = l[i] := by
  unfold rd_T31; rw [Int.toNat_natCast, List.getD_eq_getElem?_getD, List.getElem?_eq_getElem h]; rfl
theorem wrap_succ (i : Nat) (h : (i : Int) < 9223372036854775807) : wrap64 ((i : Int) + 1) = ((i + 1 : Nat) : Int) := by unfold wrap64; omega
theorem wrapI {n : Int} (h : -9223372036854775808 ≤ n ∧ n ≤ 9223372036854775807) : wrap64 n = n := by unfold wrap64; omega
theorem ne40 (x y : S40) : ((!(x.f0 == y.f0) || (!(x.f1 == y.f1))) = true) ↔ x ≠ y := by
  constructor
  · intro h e; subst e; simp at h
  · intro h
    by_cases h0 : x.f0 = y.f0 <;> by_cases h1 : x.f1 = y.f1 <;> simp [h0, h1]
    exact h (s40_ext h0 h1)
theorem eqs40_iff (x y : S40) : eqs40 x y = true ↔ x = y := by
  unfold eqs40
  constructor
  · intro h; simp at h; exact s40_ext h.1 h.2
  · intro e; subst e; simp
theorem same08 (a : List S40) (hl : a.length ≤ 1000000) : Ev (fun k => mapmakerref08_Same.f k a a) true := by
  have go : ∀ (d i : Nat), i ≤ a.length → a.length - i = d → Ev (fun k => mapmakerref08_Same.l0 k a a (i : Int)) true := by
    intro d
    induction d with
    | zero =>
      intro i hi hd
      refine ⟨1, fun k hk => ?_⟩
      obtain ⟨k, rfl⟩ : ∃ m, k = m + 1 := ⟨k - 1, by omega⟩
      simp only [mapmakerref08_Same.l0]
      rw [if_neg (by omega)]
    | succ d ih =>
      intro i hi hd
      obtain ⟨K, ih⟩ := ih (i + 1) (by omega) (by omega)
      refine ⟨K + 1, fun k hk => ?_⟩
      obtain ⟨k, rfl⟩ : ∃ m, k = m + 1 := ⟨k - 1, by omega⟩
      have hih := ih k (by omega)
      dsimp only at hih
      simp only [mapmakerref08_Same.l0]
      rw [if_pos (by omega), if_pos (by omega), if_pos (by omega), if_neg (by rw [ne40]; simp), wrap_succ i (by omega), hih]
  obtain ⟨K, h⟩ := go a.length 0 (by omega) (by omega)
  refine ⟨K, fun k hk => ?_⟩
  have := h k hk
  unfold mapmakerref08_Same.f
  dsimp only
  rw [if_pos rfl]
  exact this
theorem sameTags (a : List S80) (hl : a.length ≤ 1000000) : Ev (fun k => mapmakerref14_SameTags.f k a a) true := by
  have go : ∀ (d i : Nat), i ≤ a.length → a.length - i = d → Ev (fun k => mapmakerref14_SameTags.l0 k a a (i : Int)) true := by
    intro d
    induction d with
    | zero =>
      intro i hi hd
      refine ⟨1, fun k hk => ?_⟩
      obtain ⟨k, rfl⟩ : ∃ m, k = m + 1 := ⟨k - 1, by omega⟩
      simp only [mapmakerref14_SameTags.l0]
      rw [if_neg (by omega)]
    | succ d ih =>
      intro i hi hd
      obtain ⟨K, ih⟩ := ih (i + 1) (by omega) (by omega)
      refine ⟨K + 1, fun k hk => ?_⟩
      obtain ⟨k, rfl⟩ : ∃ m, k = m + 1 := ⟨k - 1, by omega⟩
      have hih := ih k (by omega)
      dsimp only at hih
      simp only [mapmakerref14_SameTags.l0]
      rw [if_pos (by omega), if_pos (by omega), if_pos (by omega), if_neg (by simp), wrap_succ i (by omega), hih]
  obtain ⟨K, h⟩ := go a.length 0 (by omega) (by omega)
  refine ⟨K, fun k hk => ?_⟩
  have := h k hk
  unfold mapmakerref14_SameTags.f
  dsimp only
  rw [if_pos rfl]
  exact this
theorem sameWay (n : Int) (a : List Int) (t : List S80) (ha : a.length ≤ 1000000) (ht : t.length ≤ 1000000) : Ev (fun k => mapmakerref14_SameWay.f k n a t n a t) true := by
  have go : ∀ (d i : Nat), i ≤ a.length → a.length - i = d → Ev (fun k => mapmakerref14_SameWay.l0 k (i : Int) n a t n a t) true := by
    intro d
    induction d with
    | zero =>
      intro i hi hd
      refine ⟨1, fun k hk => ?_⟩
      obtain ⟨k, rfl⟩ : ∃ m, k = m + 1 := ⟨k - 1, by omega⟩
      simp only [mapmakerref14_SameWay.l0]
      rw [if_neg (by omega)]
    | succ d ih =>
      intro i hi hd
      obtain ⟨K, ih⟩ := ih (i + 1) (by omega) (by omega)
      refine ⟨K + 1, fun k hk => ?_⟩
      obtain ⟨k, rfl⟩ : ∃ m, k = m + 1 := ⟨k - 1, by omega⟩
      have hih := ih k (by omega)
      dsimp only at hih
      simp only [mapmakerref14_SameWay.l0]
      rw [if_pos (by omega), if_pos (by omega), if_pos (by omega), if_pos trivial, wrap_succ i (by omega), hih]
  obtain ⟨K, h⟩ := go a.length 0 (by omega) (by omega)
  obtain ⟨K2, h2⟩ := sameTags t ht
  refine ⟨K + K2 + 1, fun k hk => ?_⟩
  obtain ⟨k, rfl⟩ : ∃ m, k = m + 1 := ⟨k - 1, by omega⟩
  have h1 := h k (by omega)
  have h3 := h2 (k + 1) (by omega)
  dsimp only at h1 h3
  dsimp only
  unfold mapmakerref14_SameWay.f
  rw [if_pos rfl, if_pos rfl, h3, Option.bind_some]
  simp only [mapmakerref14_SameWay.j0]
  rw [if_neg (by simp)]
  exact h1
def Sh (x : S31) : Prop := x.f1.length ≤ 1000 ∧ x.f2.length ≤ 1000 ∧ x.f3.length ≤ 1000
theorem same26 (x : S31) (h : Sh x) : Ev (fun k => mapmakerlaw26_same.f k x.f0 x.f1 x.f2 x.f3 x.f0 x.f1 x.f2 x.f3) true := by
  obtain ⟨K, h1⟩ := same08 x.f1 (by have := h.1; omega)
  obtain ⟨K2, h2⟩ := sameWay x.f0 x.f2 x.f3 (by have := h.2.1; omega) (by have := h.2.2; omega)
  refine ⟨K + K2, fun k hk => ?_⟩
  have h3 := h1 k (by omega)
  have h4 := h2 k (by omega)
  dsimp only at h3 h4
  dsimp only
  unfold mapmakerlaw26_same.f
  rw [h3, Option.bind_some, if_pos rfl, h4]
  rfl
theorem all26 (a : List S31) (hl : a.length ≤ 1000000) (hs : ∀ x ∈ a, Sh x) : Ev (fun k => mapmakerlaw26_all.f k a a) true := by
  have go : ∀ (d i : Nat), i ≤ a.length → a.length - i = d → Ev (fun k => mapmakerlaw26_all.l0 k a a (i : Int)) true := by
    intro d
    induction d with
    | zero =>
      intro i hi hd
      refine ⟨1, fun k hk => ?_⟩
      obtain ⟨k, rfl⟩ : ∃ m, k = m + 1 := ⟨k - 1, by omega⟩
      simp only [mapmakerlaw26_all.l0]
      rw [if_neg (by omega)]
    | succ d ih =>
      intro i hi hd
      obtain ⟨K, ih⟩ := ih (i + 1) (by omega) (by omega)
      obtain ⟨K2, h2⟩ := same26 a[i] (hs _ (List.getElem_mem _))
      refine ⟨K + K2 + 1, fun k hk => ?_⟩
      obtain ⟨k, rfl⟩ : ∃ m, k = m + 1 := ⟨k - 1, by omega⟩
      have hih := ih k (by omega)
      have h3 := h2 k (by omega)
      dsimp only at hih h3
      simp only [mapmakerlaw26_all.l0]
      rw [if_pos (by omega), if_pos (by omega), if_pos (by omega), rd31 a i (by omega), h3, Option.bind_some, if_pos rfl, wrap_succ i (by omega), hih]
  obtain ⟨K, h⟩ := go a.length 0 (by omega) (by omega)
  refine ⟨K, fun k hk => ?_⟩
  have := h k hk
  unfold mapmakerlaw26_all.f
  dsimp only
  rw [if_pos rfl]
  exact this
def tot : List S31 → Nat
  | [] => 0
  | x :: l => x.f1.length + x.f2.length + x.f3.length + tot l
theorem tot_append : ∀ a b : List S31, tot (a ++ b) = tot a + tot b
  | [], b => by simp [tot]
  | x :: a, b => by simp [tot, tot_append a b]; omega
theorem tot_take (l : List S31) (i : Nat) (h : i < l.length) : tot (l.take (i + 1)) = tot (l.take i) + (l[i].f1.length + l[i].f2.length + l[i].f3.length) := by
  rw [List.take_succ_eq_append_getElem h, tot_append]; simp [tot]
theorem tot_mem : ∀ (l : List S31) (x : S31), x ∈ l → x.f1.length + x.f2.length + x.f3.length ≤ tot l
  | y :: l, x, h => by
    rcases List.mem_cons.1 h with rfl | h
    · simp [tot]
    · have := tot_mem l x h; simp [tot]; omega
theorem few (l : List S31) (hl : l.length ≤ 140737488355328) (hw : ∀ y ∈ l, y.f1.length ≤ 140737488355328 ∧ y.f2.length ≤ 140737488355328 ∧ y.f3.length ≤ 140737488355328) : ∃ b, Ev (fun k => mapmakerlaw26_few.f k l) b ∧ (b = true → l.length + tot l ≤ 80) := by
  have go : ∀ (d i n : Nat), n = l.length + tot (l.take i) → n ≤ 600000000000000 → i ≤ l.length → l.length - i = d → ∃ b, Ev (fun k => mapmakerlaw26_few.l0 k l (n : Int) (i : Int)) b ∧ (b = true → l.length + tot l ≤ 80) := by
    intro d
    induction d with
    | zero =>
      intro i n hn hb hi hd
      refine ⟨decide ((n : Int) ≤ 80), ⟨1, fun k hk => ?_⟩, fun h => ?_⟩
      · obtain ⟨k, rfl⟩ : ∃ m, k = m + 1 := ⟨k - 1, by omega⟩
        simp only [mapmakerlaw26_few.l0]
        rw [if_neg (by omega)]
      · have := of_decide_eq_true h
        rw [List.take_of_length_le (by omega)] at hn
        omega
    | succ d ih =>
      intro i n hn hb hi hd
      by_cases h80 : (n : Int) ≤ 80
      · have hx := hw l[i] (List.getElem_mem _)
        have ht := tot_take l i (by omega)
        obtain ⟨b, ⟨K, ih⟩, hbb⟩ := ih (i + 1) (n + (l[i].f1.length + l[i].f2.length + l[i].f3.length)) (by omega) (by omega) (by omega) (by omega)
        refine ⟨b, ⟨K + 1, fun k hk => ?_⟩, hbb⟩
        obtain ⟨k, rfl⟩ : ∃ m, k = m + 1 := ⟨k - 1, by omega⟩
        have hih := ih k (by omega)
        dsimp only at hih
        simp only [mapmakerlaw26_few.l0]
        rw [if_pos (by omega), if_pos h80, if_pos (by omega), rd31 l i (by omega), wrap_succ i (by omega), wrapI (n := (n : Int) + (l[i].f1.length : Int)) (by omega), wrapI (n := (n : Int) + (l[i].f1.length : Int) + (l[i].f2.length : Int)) (by omega), wrapI (n := (n : Int) + (l[i].f1.length : Int) + (l[i].f2.length : Int) + (l[i].f3.length : Int)) (by omega)]
        rw [show (n : Int) + (l[i].f1.length : Int) + (l[i].f2.length : Int) + (l[i].f3.length : Int) = ((n + (l[i].f1.length + l[i].f2.length + l[i].f3.length) : Nat) : Int) by omega]
        exact hih
      · refine ⟨false, ⟨1, fun k hk => ?_⟩, fun h => by cases h⟩
        obtain ⟨k, rfl⟩ : ∃ m, k = m + 1 := ⟨k - 1, by omega⟩
        simp only [mapmakerlaw26_few.l0]
        rw [if_pos (by omega), if_neg h80, decide_eq_false h80]
  exact go l.length 0 l.length (by simp [tot]) (by omega) (by omega) (by omega)
theorem has (l : List S40) (p : S40) (hl : l.length ≤ 1000000) : Ev (fun k => mapmakerref26_Has.f k l p.f0 p.f1) (decide (p ∈ l)) := by
  have go : ∀ (d i : Nat), i ≤ l.length → l.length - i = d → Ev (fun k => mapmakerref26_Has.l0 k l (i : Int) p.f0 p.f1) (decide (p ∈ l.drop i)) := by
    intro d
    induction d with
    | zero =>
      intro i hi hd
      refine ⟨1, fun k hk => ?_⟩
      obtain ⟨k, rfl⟩ : ∃ m, k = m + 1 := ⟨k - 1, by omega⟩
      simp only [mapmakerref26_Has.l0]
      rw [if_neg (by omega), List.drop_eq_nil_of_le (by omega)]
      simp
    | succ d ih =>
      intro i hi hd
      obtain ⟨K, ih⟩ := ih (i + 1) (by omega) (by omega)
      refine ⟨K + 1, fun k hk => ?_⟩
      obtain ⟨k, rfl⟩ : ∃ m, k = m + 1 := ⟨k - 1, by omega⟩
      have hih := ih k (by omega)
      dsimp only at hih
      simp only [mapmakerref26_Has.l0]
      rw [if_pos (by omega), if_pos (by omega), rd40 l i (by omega), wrap_succ i (by omega), List.drop_eq_getElem_cons (show i < l.length by omega)]
      by_cases h : l[i] = p
      · rw [if_pos (by rw [h]; simp), decide_eq_true (by rw [h]; simp)]
      · rw [if_neg (by intro hc; simp at hc; exact h (s40_ext hc.1 hc.2)), hih]
        exact congrArg some (decide_eq_decide.mpr (by rw [List.mem_cons]; exact ⟨.inr, fun h' => h'.elim (fun e => absurd e.symm h) id⟩))
  obtain ⟨K, h⟩ := go l.length 0 (by omega) (by omega)
  exact ⟨K, fun k hk => by have := h k hk; unfold mapmakerref26_Has.f; exact this⟩
theorem cont (l : List S40) (p : S40) (hl : l.length ≤ 1000000) : Ev (fun k => api_Point_46.f k l p.f0 p.f1) (decide (p ∈ l)) := by
  have go : ∀ (d i : Nat), i ≤ l.length → l.length - i = d → ∃ r, Ev (fun k => api_Point_59.l0 k l (l.length : Int) (i : Int) p.f0 p.f1) r ∧ decide (r ≥ 0) = decide (p ∈ l.drop i) := by
    intro d
    induction d with
    | zero =>
      intro i hi hd
      refine ⟨-1, ⟨1, fun k hk => ?_⟩, ?_⟩
      · obtain ⟨k, rfl⟩ : ∃ m, k = m + 1 := ⟨k - 1, by omega⟩
        simp only [api_Point_59.l0]
        rw [if_neg (by omega)]
      · rw [List.drop_eq_nil_of_le (by omega)]; simp
    | succ d ih =>
      intro i hi hd
      by_cases h : l[i] = p
      · refine ⟨i, ⟨1, fun k hk => ?_⟩, ?_⟩
        · obtain ⟨k, rfl⟩ : ∃ m, k = m + 1 := ⟨k - 1, by omega⟩
          simp only [api_Point_59.l0]
          rw [if_pos (by omega), if_pos (by omega), if_pos (by omega), rd40 l i (by omega), if_pos (by rw [h]; simp)]
        · rw [List.drop_eq_getElem_cons (show i < l.length by omega), h]; simp
      · obtain ⟨r, ⟨K, ih⟩, hr⟩ := ih (i + 1) (by omega) (by omega)
        refine ⟨r, ⟨K + 1, fun k hk => ?_⟩, ?_⟩
        · obtain ⟨k, rfl⟩ : ∃ m, k = m + 1 := ⟨k - 1, by omega⟩
          have hih := ih k (by omega)
          dsimp only at hih
          simp only [api_Point_59.l0]
          rw [if_pos (by omega), if_pos (by omega), if_pos (by omega), rd40 l i (by omega), if_neg (by intro hc; simp at hc; exact h (s40_ext hc.1.symm hc.2.symm)), wrap_succ i (by omega), hih]
        · rw [hr, List.drop_eq_getElem_cons (show i < l.length by omega)]
          exact decide_eq_decide.mpr (by rw [List.mem_cons]; exact ⟨.inr, fun h' => h'.elim (fun e => absurd e.symm h) id⟩)
  obtain ⟨r, ⟨K, h⟩, hr⟩ := go l.length 0 (by omega) (by omega)
  refine ⟨K, fun k hk => ?_⟩
  have := h k hk
  dsimp only at this
  dsimp only
  unfold api_Point_46.f api_Point_59.f
  have h2 : api_Point_59.l0 k l (l.length : Int) 0 p.f0 p.f1 = some r := this
  rw [h2, Option.bind_some, hr]
  rfl
def T (a b c : S40) : Int := wrap64 ((wrap64 ((wrap64 (b.f0 - a.f0)) * (wrap64 (c.f1 - a.f1)))) - (wrap64 ((wrap64 (b.f1 - a.f1)) * (wrap64 (c.f0 - a.f0)))))
theorem turn (a b c : S40) (ha : vld a = true) (hb : vld b = true) (hc : vld c = true) (k : Nat) (hk : 4 ≤ k) : seg_Turn.f k a.f0 a.f1 b.f0 b.f1 c.f0 c.f1 = some (T a b c) := by
  obtain ⟨k, rfl⟩ : ∃ m, k = m + 4 := ⟨k - 4, by omega⟩
  have h : seg_valid.f (k + 4) ([(⟨a.f0, a.f1⟩ : S40), (⟨b.f0, b.f1⟩ : S40), (⟨c.f0, c.f1⟩ : S40)] : List S40) = some true := by
    simp [seg_valid.f, seg_valid.l0, rd_T40, wrap64, valid_vld, ha, hb, hc]
  unfold seg_Turn.f
  rw [h, Option.bind_some, if_pos rfl]
  rfl
theorem valid08 (p : S40) : mapmakerref08_Valid.f p.f0 p.f1 = some (vld p) := by
  unfold mapmakerref08_Valid.f vld
  by_cases h1 : 0 ≤ p.f0 <;> by_cases h2 : p.f0 < 32768 <;> by_cases h3 : 0 ≤ p.f1 <;> simp [h1, h2, h3]
theorem turn09 (a b c : S40) (ha : vld a = true) (hb : vld b = true) (hc : vld c = true) : mapmakerref09_Turn.f a.f0 a.f1 b.f0 b.f1 c.f0 c.f1 = some (T a b c) := by
  unfold mapmakerref09_Turn.f mapmakerref09_three.f
  rw [valid08, valid08, valid08, ha, hb, hc]
  rfl
end Go.Proofs.Ytpgbfjndgbfhnaa.Pure
