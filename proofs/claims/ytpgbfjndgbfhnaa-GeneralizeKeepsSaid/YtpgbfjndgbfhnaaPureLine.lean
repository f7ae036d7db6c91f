/- c26, plain: what Line and Lines answer, the program's and the reference's. -/
import Derived.Test.YtpgbfjndgbfhnaaPureFix
namespace Go.Proofs.Ytpgbfjndgbfhnaa.Pure
open Go.RowKit Go.Proofs.Ytpgbfjndgbfhnaa.PAll Go.Proofs.YtpgbfjndgbfhnaaW.PrintWords Go.Proofs.YtpgbfjndgbfhnaaW.PrintLast
set_option linter.unusedVariables false
set_option linter.unusedSimpArgs false
def sz (p : List S40) (i : Nat) : Int := mx (T (p.getD (i - 1) z40) (p.getD i z40) (p.getD (i + 1) z40)) (wrap64 (-(T (p.getD (i - 1) z40) (p.getD i z40) (p.getD (i + 1) z40))))
def Bt (p fx : List S40) (lim : Int) (i : Nat) (at_ : Int) : Prop := sz p i ≤ lim ∧ (at_ < 0 ∨ sz p i < sz p at_.toNat) ∧ p.getD i z40 ∉ fx
instance (p fx : List S40) (lim : Int) (i : Nat) (at_ : Int) : Decidable (Bt p fx lim i at_) := by unfold Bt; exact inferInstance
def wkGo (p fx : List S40) (lim : Int) : Nat → Nat → Int → Int
  | 0, _, at_ => at_
  | d + 1, i, at_ => wkGo p fx lim d (i + 1) (if Bt p fx lim i at_ then (i : Int) else at_)
def wk (p fx : List S40) (lim : Int) : Int := wkGo p fx lim (p.length - 2) 1 (-1)
theorem getD_eq (p : List S40) (i : Nat) (h : i < p.length) : p.getD i z40 = p[i] := by
  rw [List.getD_eq_getElem?_getD, List.getElem?_eq_getElem h]; rfl
theorem wkGo_ok (p fx : List S40) (lim : Int) : ∀ (d i : Nat) (at_ : Int), 1 ≤ i → i + d + 1 ≤ p.length ∨ d = 0 → (at_ = -1 ∨ (1 ≤ at_ ∧ at_ + 1 < p.length ∧ p.getD at_.toNat z40 ∉ fx)) → (wkGo p fx lim d i at_ = -1 ∨ (1 ≤ wkGo p fx lim d i at_ ∧ wkGo p fx lim d i at_ + 1 < p.length ∧ p.getD (wkGo p fx lim d i at_).toNat z40 ∉ fx))
  | 0, i, at_, _, _, h => h
  | d + 1, i, at_, hi, hd, h => by
    unfold wkGo
    refine wkGo_ok p fx lim d (i + 1) _ (by omega) (by omega) ?_
    split
    · rename_i hb
      exact .inr ⟨by omega, by omega, by rw [Int.toNat_natCast]; exact hb.2.2⟩
    · exact h
theorem wk_ok (p fx : List S40) (lim : Int) : wk p fx lim = -1 ∨ (1 ≤ wk p fx lim ∧ wk p fx lim + 1 < p.length ∧ p.getD (wk p fx lim).toNat z40 ∉ fx) :=
  wkGo_ok p fx lim _ 1 (-1) (by omega) (by omega) (.inl rfl)
def AllV (p : List S40) : Prop := ∀ q ∈ p, vld q = true
theorem vget {p : List S40} (hv : AllV p) {i : Nat} (h : i < p.length) : vld p[i] = true := hv _ (List.getElem_mem h)
theorem weakest (p fx : List S40) (lim : Int) (hv : AllV p) (hp : p.length ≤ 1000000) (hf : fx.length ≤ 1000000) : Ev (fun k => generalize_weakest.f k p fx lim) (wk p fx lim) := by
  have go : ∀ (d i : Nat) (at_ ls : Int), 1 ≤ i → (i + d + 1 = p.length ∨ (d = 0 ∧ p.length ≤ i + 1)) → (at_ < 0 ∨ ls = sz p at_.toNat) → Ev (fun k => generalize_weakest.l0 k p fx lim at_ ls (i : Int)) (wkGo p fx lim d i at_) := by
    intro d
    induction d with
    | zero =>
      intro i at_ ls hi hd hl
      refine ⟨1, fun k hk => ?_⟩
      obtain ⟨k, rfl⟩ : ∃ m, k = m + 1 := ⟨k - 1, by omega⟩
      simp only [generalize_weakest.l0]
      rw [wrapI (n := (p.length : Int) - 1) (by omega), if_neg (by omega)]
      rfl
    | succ d ih =>
      intro i at_ ls hi hd hl
      have hi1 : i + 1 < p.length := by omega
      have hs : ∀ k, 4 ≤ k → seg_Turn.f k p[i - 1].f0 p[i - 1].f1 p[i].f0 p[i].f1 p[i + 1].f0 p[i + 1].f1 = some (T (p.getD (i - 1) z40) (p.getD i z40) (p.getD (i + 1) z40)) := by
        intro k hk
        rw [getD_eq p (i - 1) (by omega), getD_eq p i (by omega), getD_eq p (i + 1) (by omega)]
        exact turn _ _ _ (vget hv _) (vget hv _) (vget hv _) k hk
      obtain ⟨K1, ih1⟩ := ih (i + 1) at_ ls (by omega) (by omega) hl
      obtain ⟨K2, ih2⟩ := ih (i + 1) i (sz p i) (by omega) (by omega) (.inr (by rw [Int.toNat_natCast]))
      obtain ⟨K3, h3⟩ := cont fx p[i] hf
      refine ⟨K1 + K2 + K3 + 5, fun k hk => ?_⟩
      obtain ⟨k, rfl⟩ : ∃ m, k = m + 1 := ⟨k - 1, by omega⟩
      have i1 := ih1 k (by omega)
      have i2 := ih2 k (by omega)
      have i3 := h3 k (by omega)
      have i4 := hs k (by omega)
      dsimp only at i1 i2 i3
      simp only [generalize_weakest.l0]
      have e1 : wrap64 ((i : Int) - 1) = ((i - 1 : Nat) : Int) := by unfold wrap64; omega
      rw [wrapI (n := (p.length : Int) - 1) (by omega), e1, wrap_succ i (by omega), if_pos (by omega), if_pos (by omega), if_pos (by omega), if_pos (by omega), if_pos (by omega), if_pos (by omega), if_pos (by omega), rd40 p (i - 1) (by omega), rd40 p i (by omega), rd40 p (i + 1) (by omega), i4, Option.bind_some]
      have hsz : mx (T (p.getD (i - 1) z40) (p.getD i z40) (p.getD (i + 1) z40)) (wrap64 (-(T (p.getD (i - 1) z40) (p.getD i z40) (p.getD (i + 1) z40)))) = sz p i := rfl
      rw [hsz, i3]
      have hgi : p.getD i z40 = p[i] := getD_eq p i (by omega)
      have hW : wkGo p fx lim (d + 1) i at_ = wkGo p fx lim d (i + 1) (if Bt p fx lim i at_ then (i : Int) else at_) := rfl
      rw [hW]
      by_cases c1 : sz p i ≤ lim
      · rw [if_pos c1]
        by_cases c2 : at_ < 0
        · rw [if_pos c2, Option.bind_some]
          by_cases c3 : p[i] ∈ fx
          · rw [decide_eq_true c3, if_pos rfl, if_neg (fun hb : Bt p fx lim i at_ => hb.2.2 (by rw [hgi]; exact c3)), i1]
          · rw [decide_eq_false c3, if_neg (by simp), if_pos (show Bt p fx lim i at_ from ⟨c1, .inl c2, by rw [hgi]; exact c3⟩), i2]
        · rw [if_neg c2]
          have hls : ls = sz p at_.toNat := hl.resolve_left c2
          by_cases c4 : sz p i < ls
          · rw [if_pos c4, Option.bind_some]
            by_cases c3 : p[i] ∈ fx
            · rw [decide_eq_true c3, if_pos rfl, if_neg (fun hb : Bt p fx lim i at_ => hb.2.2 (by rw [hgi]; exact c3)), i1]
            · rw [decide_eq_false c3, if_neg (by simp), if_pos (show Bt p fx lim i at_ from ⟨c1, .inr (by rw [← hls]; exact c4), by rw [hgi]; exact c3⟩), i2]
          · rw [if_neg c4, if_neg (fun hb : Bt p fx lim i at_ => hb.2.1.elim c2 (fun h => c4 (by rw [hls]; exact h))), i1]
      · rw [if_neg c1, if_neg (fun hb : Bt p fx lim i at_ => c1 hb.1), i1]
  obtain ⟨K, h⟩ := go (p.length - 2) 1 (-1) 0 (by omega) (by omega) (.inl (by decide))
  exact ⟨K, fun k hk => by have := h k hk; unfold generalize_weakest.f; exact this⟩
theorem size (p : List S40) (hv : AllV p) (hp : p.length ≤ 1000000) (i : Nat) (h1 : 1 ≤ i) (h2 : i + 1 < p.length) : mapmakerref26_size.f p (i : Int) = some (sz p i) := by
  have e1 : wrap64 ((i : Int) - 1) = ((i - 1 : Nat) : Int) := by unfold wrap64; omega
  unfold mapmakerref26_size.f
  rw [e1, wrap_succ i (by omega), if_pos (by omega), if_pos (by omega), if_pos (by omega), if_pos (by omega), if_pos (by omega), if_pos (by omega), rd40 p (i - 1) (by omega), rd40 p i (by omega), rd40 p (i + 1) (by omega), turn09 _ _ _ (vget hv _) (vget hv _) (vget hv _), Option.bind_some]
  unfold sz
  rw [getD_eq p (i - 1) (by omega), getD_eq p i (by omega), getD_eq p (i + 1) (by omega)]
def lineGo (fx : List S40) (lim : Int) : Nat → List S40 → List Int → List S40 × List Int
  | 0, p, ns => (p, ns)
  | n + 1, p, ns => if wk p fx lim < 0 then (p, ns) else lineGo fx lim n (p.take (wk p fx lim).toNat ++ p.drop ((wk p fx lim).toNat + 1)) (ns.take (wk p fx lim).toNat ++ ns.drop ((wk p fx lim).toNat + 1))
def good (x : S31) : Bool := decide (x.f1.length = x.f2.length) && x.f1.all vld
def L (fx : List S40) (lim : Int) (x : S31) : S31 := if good x = true then ⟨x.f0, (lineGo fx lim x.f1.length x.f1 x.f2).1, (lineGo fx lim x.f1.length x.f1 x.f2).2, x.f3⟩ else x
theorem cutV {p : List S40} (hv : AllV p) (i : Nat) : AllV (p.take i ++ p.drop (i + 1)) := by
  intro q hq
  rcases List.mem_append.1 hq with h | h
  · exact hv q (List.mem_of_mem_take h)
  · exact hv q (List.mem_of_mem_drop h)
theorem cut_len {α : Type} {p : List α} {i : Nat} (h : i < p.length) : (p.take i ++ p.drop (i + 1)).length = p.length - 1 := by
  rw [List.length_append, List.length_take, List.length_drop]; omega
theorem wk_small (p fx : List S40) (lim : Int) (h : p.length ≤ 2) : wk p fx lim = -1 := by
  unfold wk; rw [show p.length - 2 = 0 by omega]; rfl
theorem nLine0 (fx : List S40) (lim : Int) (hf : fx.length ≤ 1000000) (id : Int) (ts : List S80) : ∀ (n : Nat) (p : List S40) (ns : List Int), p.length = n → ns.length = n → AllV p → n ≤ 1000000 → Ev (fun k => generalize_Line.l0 k fx lim id p ns ts) (id, (lineGo fx lim n p ns).1, (lineGo fx lim n p ns).2, ts) := by
  intro n
  induction n with
  | zero =>
    intro p ns hp hn hv hl
    obtain ⟨K, h⟩ := weakest p fx lim hv (by omega) hf
    refine ⟨K + 1, fun k hk => ?_⟩
    obtain ⟨k, rfl⟩ : ∃ m, k = m + 1 := ⟨k - 1, by omega⟩
    have := h k (by omega)
    dsimp only at this
    simp only [generalize_Line.l0]
    rw [this, Option.bind_some, wk_small p fx lim (by omega), if_pos (by decide)]
    rfl
  | succ n ih =>
    intro p ns hp hn hv hl
    obtain ⟨K, h⟩ := weakest p fx lim hv (by omega) hf
    have hw := wk_ok p fx lim
    by_cases c : wk p fx lim < 0
    · refine ⟨K + 1, fun k hk => ?_⟩
      obtain ⟨k, rfl⟩ : ∃ m, k = m + 1 := ⟨k - 1, by omega⟩
      have := h k (by omega)
      dsimp only at this
      simp only [generalize_Line.l0, lineGo]
      rw [this, Option.bind_some, if_pos c, if_pos c]
    · obtain ⟨K2, ih⟩ := ih (p.take (wk p fx lim).toNat ++ p.drop ((wk p fx lim).toNat + 1)) (ns.take (wk p fx lim).toNat ++ ns.drop ((wk p fx lim).toNat + 1)) (by rw [cut_len (by omega)]; omega) (by rw [cut_len (by omega)]; omega) (cutV hv _) (by omega)
      refine ⟨K + K2 + 1, fun k hk => ?_⟩
      obtain ⟨k, rfl⟩ : ∃ m, k = m + 1 := ⟨k - 1, by omega⟩
      have := h k (by omega)
      have h2 := ih k (by omega)
      dsimp only at this h2
      simp only [generalize_Line.l0, lineGo]
      rw [this, Option.bind_some, if_neg c, if_neg c]
      unfold api_Point_33.f generalize_without_int.f
      rw [if_pos (by omega), if_pos (by omega), if_pos (by omega), Option.bind_some, if_pos (by omega), if_pos (by omega), if_pos (by omega), Option.bind_some]
      exact h2
theorem nGood (x : S31) : generalize_valid.f x.f0 x.f1 x.f2 x.f3 = some (good x) := by
  unfold generalize_valid.f good api_Point_by_generalize_valid_1.f
  by_cases h : x.f1.length = x.f2.length
  · rw [if_pos (by omega), Option.bind_some, decide_eq_true h, Bool.true_and]
    congr 1
    induction x.f1 with
    | nil => rfl
    | cons a l ih => simp only [List.any_cons, List.all_cons, Bool.not_or, Bool.not_not]; rw [ih]
  · rw [if_neg (by omega), decide_eq_false h]; rfl
theorem good_iff (x : S31) : good x = true ↔ x.f1.length = x.f2.length ∧ AllV x.f1 := by
  unfold good AllV; simp
theorem nLine (fx : List S40) (lim : Int) (hf : fx.length ≤ 1000000) (x : S31) (hx : x.f1.length ≤ 1000000) : Ev (fun k => generalize_Line.f k x.f0 x.f1 x.f2 x.f3 fx lim) ((L fx lim x).f0, (L fx lim x).f1, (L fx lim x).f2, (L fx lim x).f3) := by
  by_cases g : good x = true
  · have g' := (good_iff x).1 g
    obtain ⟨K, h⟩ := nLine0 fx lim hf x.f0 x.f3 x.f1.length x.f1 x.f2 rfl g'.1.symm g'.2 hx
    refine ⟨K, fun k hk => ?_⟩
    have := h k hk
    dsimp only at this
    dsimp only
    unfold generalize_Line.f
    rw [nGood, Option.bind_some, if_pos g, this]
    unfold L
    rw [if_pos g]
  · refine ⟨0, fun k hk => ?_⟩
    dsimp only
    unfold generalize_Line.f
    rw [nGood, Option.bind_some, if_neg g]
    unfold L
    rw [if_neg g]
theorem rAll (p : List S40) (hp : p.length ≤ 1000000) : Ev (fun k => mapmakerref08_All.f k p) (p.all vld) := by
  have go : ∀ (d i : Nat), i ≤ p.length → p.length - i = d → Ev (fun k => mapmakerref08_All.l0 k p (i : Int)) ((p.drop i).all vld) := by
    intro d
    induction d with
    | zero =>
      intro i hi hd
      refine ⟨1, fun k hk => ?_⟩
      obtain ⟨k, rfl⟩ : ∃ m, k = m + 1 := ⟨k - 1, by omega⟩
      simp only [mapmakerref08_All.l0]
      rw [if_neg (by omega), List.drop_eq_nil_of_le (by omega)]
      rfl
    | succ d ih =>
      intro i hi hd
      obtain ⟨K, ih⟩ := ih (i + 1) (by omega) (by omega)
      refine ⟨K + 1, fun k hk => ?_⟩
      obtain ⟨k, rfl⟩ : ∃ m, k = m + 1 := ⟨k - 1, by omega⟩
      have hih := ih k (by omega)
      dsimp only at hih
      simp only [mapmakerref08_All.l0]
      rw [if_pos (by omega), if_pos (by omega), rd40 p i (by omega), valid08, Option.bind_some, wrap_succ i (by omega), List.drop_eq_getElem_cons (show i < p.length by omega), List.all_cons]
      cases h : vld p[i] with
      | true => rw [if_pos rfl, hih, Bool.true_and]
      | false => rw [if_neg (by simp), Bool.false_and]
  obtain ⟨K, h⟩ := go p.length 0 (by omega) (by omega)
  exact ⟨K, fun k hk => by have := h k hk; unfold mapmakerref08_All.f; exact this⟩
theorem rGood (x : S31) (hx : x.f1.length ≤ 1000000) : Ev (fun k => mapmakerref26_Good.f k x.f0 x.f1 x.f2 x.f3) (good x) := by
  obtain ⟨K, h⟩ := rAll x.f1 hx
  refine ⟨K, fun k hk => ?_⟩
  have := h k hk
  dsimp only at this
  dsimp only
  unfold mapmakerref26_Good.f good
  by_cases c : x.f1.length = x.f2.length
  · rw [if_pos (by omega), this, Option.bind_some, decide_eq_true c, Bool.true_and]
  · rw [if_neg (by omega), decide_eq_false c, Bool.false_and]
theorem nLines0 (lim : Int) (fx : List S40) (hf : fx.length ≤ 1000000) (l : List S31) (hl : l.length ≤ 1000000) (hx : ∀ x ∈ l, x.f1.length ≤ 1000000) : ∀ (d i : Nat) (acc : List S31), i ≤ l.length → l.length - i = d → acc.length = i → Ev (fun k => generalize_Lines.l0 k lim fx acc l (l.length : Int) (i : Int)) (acc ++ (l.drop i).map (L fx lim)) := by
  intro d
  induction d with
  | zero =>
    intro i acc hi hd ha
    refine ⟨1, fun k hk => ?_⟩
    obtain ⟨k, rfl⟩ : ∃ m, k = m + 1 := ⟨k - 1, by omega⟩
    simp only [generalize_Lines.l0]
    rw [if_neg (by omega), List.drop_eq_nil_of_le (by omega)]
    simp
  | succ d ih =>
    intro i acc hi hd ha
    have hi' : i < l.length := by omega
    obtain ⟨K, ih⟩ := ih (i + 1) (acc ++ [L fx lim l[i]]) (by omega) (by omega) (by simp; omega)
    obtain ⟨K2, h2⟩ := nLine fx lim hf l[i] (hx _ (List.getElem_mem hi'))
    refine ⟨K + K2 + 1, fun k hk => ?_⟩
    obtain ⟨k, rfl⟩ : ∃ m, k = m + 1 := ⟨k - 1, by omega⟩
    have h1 := ih k (by omega)
    have h3 := h2 k (by omega)
    dsimp only at h1 h3
    simp only [generalize_Lines.l0]
    rw [if_pos (by omega), if_pos (by omega), if_pos (by omega), rd31 l i hi', h3, Option.bind_some, if_pos (by omega), wrap_succ i (by omega)]
    refine h1.trans ?_
    rw [List.drop_eq_getElem_cons hi', List.map_cons, List.append_assoc]
    rfl
structure Ok (l : List S31) : Prop where
  inl : InL (allPts l)
  pts : (allPts l).length ≤ 1000000
  len : l.length ≤ 1000000
theorem allPts_mem {l : List S31} {x : S31} (h : x ∈ l) : x.f1.length ≤ (allPts l).length := by
  obtain ⟨a, b, rfl⟩ := List.append_of_mem h
  unfold allPts
  rw [List.flatMap_append, List.flatMap_cons, List.length_append, List.length_append]
  omega
theorem fxEx (l : List S31) (h : Ok l) : ∃ r, generalize_Fixed.f l = some r ∧ Ev (fun k => mapmakerref26_Fixed.f k l) r ∧ Srt r ∧ r.length ≤ (allPts l).length ∧ ∀ p, p ∈ r ↔ (vld p = true ∧ ((p, true) ∈ allEnds l ∨ 2 ≤ (allPts l).count p)) := fixedEq l h.inl h.pts h.len
theorem nLines (l : List S31) (lim : Int) (h : Ok l) {fx : List S40} (hfx : generalize_Fixed.f l = some fx) (hf : fx.length ≤ 1000000) : Ev (fun k => generalize_Lines.f k l lim) (l.map (L fx lim)) := by
  obtain ⟨K, h1⟩ := nLines0 lim fx hf l h.len (fun x hx => Nat.le_trans (allPts_mem hx) h.pts) l.length 0 [] (by omega) (by omega) rfl
  refine ⟨K, fun k hk => ?_⟩
  have := h1 k hk
  dsimp only
  unfold generalize_Lines.f
  rw [hfx, Option.bind_some]
  exact this
theorem lives (K0 : Nat) (h : mapmakerlaw26_lives.f K0 = some true) (k : Nat) (hk : K0 ≤ k) : mapmakerlaw26_lives.f k = some true := by
  obtain ⟨d, rfl⟩ : ∃ d, k = K0 + d := ⟨k - K0, by omega⟩
  clear hk
  induction d with
  | zero => exact h
  | succ d ih => exact mapmakerlaw26_lives.mono _ _ ih
end Go.Proofs.Ytpgbfjndgbfhnaa.Pure
