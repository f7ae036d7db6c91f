/- Two segments on the grid: the program's classification and the reference's cross or overlap alike. -/
import Derived.Test.YtmejeiddlhjjmaaPureGeoNodingClean
namespace Go.Proofs.Ytmejeiddlhjjmaa.Pure
open Go.RowKit Go.Proofs.Ytmejeiddlhjjmaa.PNodingClean Go.Proofs.YtmejeiddlhjjmaaW.PrintWords Go.Proofs.YtmejeiddlhjjmaaW.PrintLast
set_option linter.unusedVariables false
set_option linter.unusedSimpArgs false

theorem vB_on {p : S33} (h : onG p) : vB p.f0 p.f1 = true := by unfold vB onG at *; exact decide_eq_true h
theorem valid0 (l : List S33) (hl : l.length ≤ 1000) (hv : ∀ p ∈ l, onG p) (d : Nat) : ∀ (k i : Nat), i ≤ l.length → l.length - i = d → d < k → seg_valid.l0 k l (l.length : Int) (i : Int) = some true := by
  induction d with
  | zero =>
    intro k i hi hd hk
    cases k with
    | zero => omega
    | succ k => simp only [seg_valid.l0]; rw [if_neg (by omega)]
  | succ d ih =>
    intro k i hi hd hk
    cases k with
    | zero => omega
    | succ k =>
      have hlt : i < l.length := by omega
      simp only [seg_valid.l0]
      rw [if_pos (by omega), if_pos (by omega), if_pos (by omega), rd33 l i hlt, valid_some, Option.bind_some, vB_on (hv _ (List.getElem_mem hlt)), if_pos rfl, wrap_succ i (by omega)]
      exact ih k (i + 1) (by omega) (by omega) (by omega)
theorem valid_all (l : List S33) (hl : l.length ≤ 1000) (hv : ∀ p ∈ l, onG p) (k : Nat) (hk : l.length < k) : seg_valid.f k l = some true := by
  unfold seg_valid.f
  exact valid0 l hl hv l.length k 0 (by omega) (by omega) hk
theorem nTurn {a b c : S33} (ha : onG a) (hb : onG b) (hc : onG c) (k : Nat) (hk : 10 < k) : seg_Turn.f k a.f0 a.f1 b.f0 b.f1 c.f0 c.f1 = some (turn a b c) := by
  unfold seg_Turn.f
  rw [valid_all [a, b, c] (by simp) (by intro p hp; simp at hp; rcases hp with rfl | rfl | rfl <;> assumption) k (by simp; omega), Option.bind_some, if_pos rfl, turn_wrap ha hb hc]
theorem three_on {a b c : S33} (ha : onG a) (hb : onG b) (hc : onG c) : mapmakerref09_three.f a.f0 a.f1 b.f0 b.f1 c.f0 c.f1 = some true := by
  unfold mapmakerref09_three.f
  simp only [rValid_some, vB_on ha, vB_on hb, vB_on hc, Option.bind_some, if_true]
theorem rTurn {a b c : S33} (ha : onG a) (hb : onG b) (hc : onG c) : mapmakerref09_Turn.f a.f0 a.f1 b.f0 b.f1 c.f0 c.f1 = some (turn a b c) := by
  unfold mapmakerref09_Turn.f
  rw [three_on ha hb hc, Option.bind_some, if_pos rfl, turn_wrap ha hb hc]
/-- A SEGMENT OF A SORTED LIST. -/
structure Seg (s : S35) : Prop where
  a : onG s.f0
  b : onG s.f1
  lt : cd s.f0 < cd s.f1
def onP (p : S33) (s : S35) : Bool := decide (turn s.f0 s.f1 p = 0 ∧ inBox p s.f0 s.f1)
theorem Seg.of {s : S35} (h : Seg s) : ofS s = s := by
  unfold ofS
  rw [lt_cd h.b h.a, if_neg]
  have := h.lt
  simp; omega
theorem nOn {p : S33} {s : S35} (hp : onG p) (h : Seg s) (k : Nat) (hk : 10 < k) : seg_On.f k p.f0 p.f1 s.f0.f0 s.f0.f1 s.f1.f0 s.f1.f1 = some (onP p s) := by
  unfold seg_On.f
  rw [valid_all [p, s.f0, s.f1] (by simp) (by intro q hq; simp at hq; rcases hq with rfl | rfl | rfl <;> first | exact hp | exact h.a | exact h.b) k (by simp; omega), Option.bind_some, if_pos rfl, nTurn h.a h.b hp k hk, Option.bind_some]
  unfold onP
  by_cases ht : turn s.f0 s.f1 p = 0
  · rw [if_pos ht, of_some, show (⟨⟨s.f0.f0, s.f0.f1⟩, ⟨s.f1.f0, s.f1.f1⟩⟩ : S35) = s from rfl, h.of, Option.bind_some]
    congr 1
    have hx : s.f0.f0 ≤ s.f1.f0 := by have := h.lt; have := h.a; have := h.b; unfold cd onG at *; omega
    rw [Bool.eq_iff_iff]
    unfold inBox
    simp only [Bool.and_eq_true, decide_eq_true_eq, Int.min_eq_left hx, Int.max_eq_right hx, ht, true_and]
  · rw [if_neg ht]
    congr 1
    rw [Bool.eq_iff_iff]
    simp [ht]
theorem rOn {p : S33} {s : S35} (hp : onG p) (h : Seg s) : mapmakerref09_On.f p.f0 p.f1 s.f0.f0 s.f0.f1 s.f1.f0 s.f1.f1 = some (onP p s) := by
  unfold mapmakerref09_On.f
  rw [three_on hp h.a h.b, Option.bind_some, if_pos rfl, rTurn h.a h.b hp, Option.bind_some]
  have e1 : ∀ x y : Int, mn x y = min x y := fun x y => by unfold mn; rw [Int.min_def]; split <;> split <;> omega
  have e2 : ∀ x y : Int, mx x y = max x y := fun x y => by unfold mx; rw [Int.max_def]; split <;> split <;> omega
  simp only [e1, e2]
  unfold onP inBox
  by_cases ht : turn s.f0 s.f1 p = 0
  · rw [if_pos ht]
    by_cases c1 : p.f0 ≥ min s.f0.f0 s.f1.f0
    · rw [if_pos c1]
      by_cases c2 : p.f0 ≤ max s.f0.f0 s.f1.f0
      · rw [if_pos c2]
        by_cases c3 : p.f1 ≥ min s.f0.f1 s.f1.f1
        · rw [if_pos c3]; congr 1; rw [Bool.eq_iff_iff, decide_eq_true_iff, decide_eq_true_iff]
          exact ⟨fun h => ⟨ht, c1, c2, c3, h⟩, fun h => h.2.2.2.2⟩
        · rw [if_neg c3]; congr 1; exact (decide_eq_false (fun h => c3 h.2.2.2.1)).symm
      · rw [if_neg c2]; congr 1; exact (decide_eq_false (fun h => c2 h.2.2.1)).symm
    · rw [if_neg c1]; congr 1; exact (decide_eq_false (fun h => c1 h.2.1)).symm
  · rw [if_neg ht]; congr 1; exact (decide_eq_false (fun h => ht h.1)).symm
def sg (a : Int) : Int := if a < 0 then -1 else (if a > 0 then 1 else 0)
theorem rSign (a : Int) : mapmakerref09_sign.f a = some (sg a) := by
  unfold mapmakerref09_sign.f sg
  (repeat' split) <;> rfl
theorem nSign (a : Int) : seg_sign.f a = some (sg a) := by
  unfold seg_sign.f sg mn mx
  congr 1
  (repeat' split) <;> omega
theorem sg_zero (a : Int) : sg a = 0 ↔ a = 0 := by unfold sg; (repeat' split) <;> omega

def stepB (s t : S35) (both : List S33) (e : S33) : List S33 := if onP e s = true then (if onP e t = true then (if both.any (fun x => eqs33 x e) = true then both else both ++ [e]) else both) else both
def fin (both : List S33) : Int := if (both.length : Int) > 1 then 3 else if (both.length : Int) = 1 then 1 else 0
theorem rMet (E : List S33) (hE : E.length = 4) (i : Nat) (hi : i < 4) (s t : S35) (both : List S33) (hb : both.length ≤ 4) (v : List S33 → Int) (K : Nat)
    (hn : ∀ (k : Nat) (b : List S33), K ≤ k → b.length ≤ both.length + 1 → mapmakerref09_Relate.l0 k E b ((i + 1 : Nat) : Int) s.f0.f0 s.f0.f1 s.f1.f0 s.f1.f1 t.f0.f0 t.f0.f1 t.f1.f0 t.f1.f1 = some (v b)) (d : Nat) :
    ∀ (k j : Nat) (m : Bool), j ≤ both.length → both.length - j = d → K + d + 1 ≤ k → mapmakerref09_Relate.l1 k E both (i : Int) m (j : Int) s.f0.f0 s.f0.f1 s.f1.f0 s.f1.f1 t.f0.f0 t.f0.f1 t.f1.f0 t.f1.f1 = some (v (if (m || (both.drop j).any (fun x => eqs33 x (E[i]'(by omega)))) = true then both else both ++ [E[i]'(by omega)])) := by
  induction d with
  | zero =>
    intro k j m hj hd hk
    cases k with
    | zero => omega
    | succ k =>
      simp only [mapmakerref09_Relate.l1]
      rw [if_neg (by omega), List.drop_eq_nil_of_le (by omega), wrap_succ i (by omega), rd33 E i (by omega)]
      cases m with
      | true => rw [if_pos rfl, hn k both (by omega) (by omega)]; simp
      | false =>
        rw [if_neg (by simp), if_pos (by omega), if_pos (by omega), if_pos (by omega), hn k _ (by omega) (by simp)]
        simp
  | succ d ih =>
    intro k j m hj hd hk
    cases k with
    | zero => omega
    | succ k =>
      have hlt : j < both.length := by omega
      simp only [mapmakerref09_Relate.l1]
      rw [if_pos (by omega), wrap_succ j (by omega), rd33 E i (by omega), rd33 both j hlt, List.drop_eq_getElem_cons hlt]
      cases m with
      | true =>
        rw [if_pos rfl, ih k (j + 1) true (by omega) (by omega) (by omega)]
        simp
      | false =>
        rw [if_neg (by simp), if_pos (by omega), if_pos (by omega), if_pos (by omega), ih k (j + 1) _ (by omega) (by omega) (by omega)]
        rfl
theorem rEnds (s t : S35) (hs : Seg s) (ht : Seg t) (E : List S33) (hE : E.length = 4) (hv : ∀ e ∈ E, onG e) (d : Nat) : ∀ (i : Nat) (both : List S33) (k : Nat), i ≤ 4 → 4 - i = d → both.length ≤ i → 10 * d + 1 ≤ k →
    mapmakerref09_Relate.l0 k E both (i : Int) s.f0.f0 s.f0.f1 s.f1.f0 s.f1.f1 t.f0.f0 t.f0.f1 t.f1.f0 t.f1.f1 = some (fin ((E.drop i).foldl (stepB s t) both)) := by
  induction d with
  | zero =>
    intro i both k hi hd hb hk
    cases k with
    | zero => omega
    | succ k =>
      simp only [mapmakerref09_Relate.l0]
      rw [if_neg (by omega), List.drop_eq_nil_of_le (by omega)]
      rw [List.foldl_nil, show fin both = if (both.length : Int) > 1 then 3 else if (both.length : Int) = 1 then 1 else 0 from rfl]
      by_cases c1 : (both.length : Int) > 1
      · rw [if_pos c1, if_pos c1]
      · rw [if_neg c1, if_neg c1]
        by_cases c2 : (both.length : Int) = 1
        · rw [if_pos c2, if_pos c2]
        · rw [if_neg c2, if_neg c2]
  | succ d ih =>
    intro i both k hi hd hb hk
    cases k with
    | zero => omega
    | succ k =>
      have hlt : i < E.length := by omega
      have hon := hv E[i] (List.getElem_mem hlt)
      simp only [mapmakerref09_Relate.l0]
      rw [if_pos (by omega), if_pos (by omega), if_pos (by omega), rd33 E i hlt, rOn hon hs, Option.bind_some, rOn hon ht, List.drop_eq_getElem_cons hlt, List.foldl_cons]
      cases k with
      | zero => omega
      | succ k =>
        rw [show stepB s t both E[i] = if onP E[i] s = true then (if onP E[i] t = true then (if both.any (fun x => eqs33 x E[i]) = true then both else both ++ [E[i]]) else both) else both from rfl]
        by_cases c1 : onP E[i] s = true
        · rw [if_pos c1, if_pos c1, Option.bind_some]
          by_cases c2 : onP E[i] t = true
          · rw [if_pos c2, c2]
            simp only [Bool.not_true, mapmakerref09_Relate.j3]
            rw [if_neg (by simp)]
            have := rMet E hE i (by omega) s t both (by omega) (fun b => fin ((E.drop (i + 1)).foldl (stepB s t) b)) (10 * d + 1) (fun k b hk hb' => ih (i + 1) b k (by omega) (by omega) (by omega) hk) both.length k 0 false (by omega) (by omega) (by omega)
            rw [show ((0 : Int)) = ((0 : Nat) : Int) from rfl, this]
            simp only [Bool.false_or, List.drop_zero]
          · rw [if_neg c2]
            rw [Bool.not_eq_true] at c2
            rw [c2]
            simp only [Bool.not_false, mapmakerref09_Relate.j3, if_true]
            rw [wrap_succ i (by omega), ih (i + 1) both k (by omega) (by omega) (by omega) (by omega)]
        · rw [if_neg c1, if_neg c1]
          simp only [mapmakerref09_Relate.j3, if_true]
          rw [wrap_succ i (by omega), ih (i + 1) both k (by omega) (by omega) (by omega) (by omega)]
theorem eqs33_iff (x y : S33) : eqs33 x y = true ↔ x = y := by
  unfold eqs33
  constructor
  · intro h; simp at h; exact s33_ext h.1 h.2
  · intro e; subst e; simp
/-- MORE THAN ONE COMMON END. -/
theorem fin_iff {s t : S35} (hs : Seg s) (ht : Seg t) (hA : onP s.f0 s = true) (hB : onP s.f1 s = true) (hC : onP t.f0 t = true) (hD : onP t.f1 t = true) :
    fin ([s.f0, s.f1, t.f0, t.f1].foldl (stepB s t) []) ≥ 2 ↔ ∃ p q, p ≠ q ∧ onP p s = true ∧ onP p t = true ∧ onP q s = true ∧ onP q t = true ∧ (p = s.f0 ∨ p = s.f1 ∨ p = t.f0 ∨ p = t.f1) ∧ (q = s.f0 ∨ q = s.f1 ∨ q = t.f0 ∨ q = t.f1) := by
  -- what stands in the list: each common end, once
  have key : ∀ (l : List S33) (b : List S33), b.Nodup → (l.foldl (stepB s t) b).Nodup ∧ ∀ x, x ∈ l.foldl (stepB s t) b ↔ x ∈ b ∨ (x ∈ l ∧ onP x s = true ∧ onP x t = true) := by
    intro l
    induction l with
    | nil => intro b hb; exact ⟨hb, fun x => by simp⟩
    | cons e l ih =>
      intro b hb
      rw [List.foldl_cons]
      have hst : (stepB s t b e).Nodup ∧ ∀ x, x ∈ stepB s t b e ↔ x ∈ b ∨ (x = e ∧ onP e s = true ∧ onP e t = true) := by
        unfold stepB
        by_cases c1 : onP e s = true
        · rw [if_pos c1]
          by_cases c2 : onP e t = true
          · rw [if_pos c2]
            by_cases c3 : b.any (fun x => eqs33 x e) = true
            · rw [if_pos c3]
              obtain ⟨y, hy, he⟩ := List.any_eq_true.1 c3
              rw [eqs33_iff] at he
              subst he
              exact ⟨hb, fun x => ⟨Or.inl, fun h => h.elim id (fun h => h.1 ▸ hy)⟩⟩
            · rw [if_neg c3]
              have hne : e ∉ b := fun he => c3 (List.any_eq_true.2 ⟨e, he, (eqs33_iff e e).2 rfl⟩)
              refine ⟨List.nodup_append.2 ⟨hb, by simp, fun a ha c hc => by simp at hc; subst hc; exact fun e' => hne (e' ▸ ha)⟩, fun x => by simp [c1, c2]⟩
          · rw [if_neg c2]; exact ⟨hb, fun x => ⟨Or.inl, fun h => h.elim id (fun h => absurd h.2.2 c2)⟩⟩
        · rw [if_neg c1]; exact ⟨hb, fun x => ⟨Or.inl, fun h => h.elim id (fun h => absurd h.2.1 c1)⟩⟩
      obtain ⟨h1, h2⟩ := ih (stepB s t b e) hst.1
      refine ⟨h1, fun x => ?_⟩
      rw [h2, hst.2, List.mem_cons]
      constructor
      · rintro ((h | ⟨rfl, h, h'⟩) | ⟨h, h'⟩)
        · exact Or.inl h
        · exact Or.inr ⟨Or.inl rfl, h, h'⟩
        · exact Or.inr ⟨Or.inr h, h'⟩
      · rintro (h | ⟨rfl | h, h'⟩)
        · exact Or.inl (Or.inl h)
        · exact Or.inl (Or.inr ⟨rfl, h'⟩)
        · exact Or.inr ⟨h, h'⟩
  obtain ⟨hnd, hmem⟩ := key [s.f0, s.f1, t.f0, t.f1] [] List.nodup_nil
  generalize [s.f0, s.f1, t.f0, t.f1].foldl (stepB s t) [] = b at hnd hmem
  have hm : ∀ x, x ∈ b ↔ (x = s.f0 ∨ x = s.f1 ∨ x = t.f0 ∨ x = t.f1) ∧ onP x s = true ∧ onP x t = true := fun x => by rw [hmem]; simp
  have hfin : fin b ≥ 2 ↔ b.length > 1 := by unfold fin; (repeat' split) <;> omega
  rw [hfin]
  constructor
  · intro hl
    match b, hl, hnd, hm with
    | p :: q :: r, _, hnd, hm =>
      have hp := (hm p).1 (by simp)
      have hq := (hm q).1 (by simp)
      refine ⟨p, q, fun e => ?_, hp.2.1, hp.2.2, hq.2.1, hq.2.2, hp.1, hq.1⟩
      subst e
      simp at hnd
  · rintro ⟨p, q, hne, h1, h2, h3, h4, h5, h6⟩
    have hp := (hm p).2 ⟨h5, h1, h2⟩
    have hq := (hm q).2 ⟨h6, h3, h4⟩
    match b, hp, hq with
    | [], hp, _ => simp at hp
    | [x], hp, hq => simp at hp hq; exact absurd (hp.trans hq.symm) hne
    | _ :: _ :: _, _, _ => simp
theorem onP_cd {p : S33} {s : S35} (hp : onG p) (h : Seg s) : onP p s = true ↔ turn s.f0 s.f1 p = 0 ∧ cd s.f0 ≤ cd p ∧ cd p ≤ cd s.f1 := by
  unfold onP
  rw [decide_eq_true_iff]
  constructor
  · rintro ⟨h1, h2⟩; exact ⟨h1, (box_iff hp h.a h.b h.lt h1).1 h2⟩
  · rintro ⟨h1, h2⟩; exact ⟨h1, (box_iff hp h.a h.b h.lt h1).2 h2⟩
theorem Seg.ne {s : S35} (h : Seg s) : s.f0 ≠ s.f1 := fun e => by have := h.lt; rw [e] at this; omega
theorem end_a {s : S35} (h : Seg s) : onP s.f0 s = true := (onP_cd h.a h).2 ⟨turn_left _ _, by omega, by have := h.lt; omega⟩
theorem end_b {s : S35} (h : Seg s) : onP s.f1 s = true := (onP_cd h.b h).2 ⟨turn_right _ _, by have := h.lt; omega, by omega⟩
/-- THE OVERLAP, AS THE PROGRAM SEES IT AND AS THE REFERENCE DOES. -/
theorem overlap {s t : S35} (hs : Seg s) (ht : Seg t) : fin ([s.f0, s.f1, t.f0, t.f1].foldl (stepB s t) []) ≥ 2 ↔ (turn s.f0 s.f1 t.f0 = 0 ∧ turn s.f0 s.f1 t.f1 = 0) ∧ (max (cd s.f0) (cd t.f0) < min (cd s.f1) (cd t.f1)) := by
  rw [fin_iff hs ht (end_a hs) (end_b hs) (end_a ht) (end_b ht)]
  have hls := hs.lt
  have hlt := ht.lt
  constructor
  · rintro ⟨p, q, hne, h1, h2, h3, h4, h5, h6⟩
    have gA : ∀ x, (x = s.f0 ∨ x = s.f1 ∨ x = t.f0 ∨ x = t.f1) → onG x := fun x hx => by rcases hx with rfl | rfl | rfl | rfl <;> first | exact hs.a | exact hs.b | exact ht.a | exact ht.b
    have gp := gA p h5
    have gq := gA q h6
    have a1 := (onP_cd gp hs).1 h1
    have a2 := (onP_cd gp ht).1 h2
    have a3 := (onP_cd gq hs).1 h3
    have a4 := (onP_cd gq ht).1 h4
    have l1 := col3 hs.ne a1.1 a3.1 (turn_left s.f0 s.f1)
    have l2 := col3 hs.ne a1.1 a3.1 (turn_right s.f0 s.f1)
    have l3 := col3 ht.ne a2.1 a4.1 (turn_left t.f0 t.f1)
    have l4 := col3 ht.ne a2.1 a4.1 (turn_right t.f0 t.f1)
    refine ⟨⟨col3 hne l1 l2 l3, col3 hne l1 l2 l4⟩, ?_⟩
    have hcne : cd p ≠ cd q := fun e => hne (cd_inj gp gq e)
    omega
  · rintro ⟨⟨ha, hb⟩, hm⟩
    have hc : turn t.f0 t.f1 s.f0 = 0 := col3 hs.ne ha hb (turn_left _ _)
    have hd : turn t.f0 t.f1 s.f1 = 0 := col3 hs.ne ha hb (turn_right _ _)
    -- the greater of the lower ends, the smaller of the upper ones
    have lo : ∃ p, (p = s.f0 ∨ p = t.f0) ∧ cd p = max (cd s.f0) (cd t.f0) := by
      by_cases h : cd s.f0 ≤ cd t.f0
      · exact ⟨t.f0, Or.inr rfl, by omega⟩
      · exact ⟨s.f0, Or.inl rfl, by omega⟩
    have hi : ∃ p, (p = s.f1 ∨ p = t.f1) ∧ cd p = min (cd s.f1) (cd t.f1) := by
      by_cases h : cd s.f1 ≤ cd t.f1
      · exact ⟨s.f1, Or.inl rfl, by omega⟩
      · exact ⟨t.f1, Or.inr rfl, by omega⟩
    obtain ⟨p, hp, ep⟩ := lo
    obtain ⟨q, hq, eq⟩ := hi
    have gp : onG p := by rcases hp with rfl | rfl <;> first | exact hs.a | exact ht.a
    have gq : onG q := by rcases hq with rfl | rfl <;> first | exact hs.b | exact ht.b
    have tp : turn s.f0 s.f1 p = 0 ∧ turn t.f0 t.f1 p = 0 := by rcases hp with rfl | rfl <;> first | exact ⟨turn_left _ _, hc⟩ | exact ⟨ha, turn_left _ _⟩
    have tq : turn s.f0 s.f1 q = 0 ∧ turn t.f0 t.f1 q = 0 := by rcases hq with rfl | rfl <;> first | exact ⟨turn_right _ _, hd⟩ | exact ⟨hb, turn_right _ _⟩
    refine ⟨p, q, fun e => ?_, (onP_cd gp hs).2 ⟨tp.1, by omega, by omega⟩, (onP_cd gp ht).2 ⟨tp.2, by omega, by omega⟩, (onP_cd gq hs).2 ⟨tq.1, by omega, by omega⟩, (onP_cd gq ht).2 ⟨tq.2, by omega, by omega⟩, ?_, ?_⟩
    · rw [e] at ep; omega
    · rcases hp with rfl | rfl <;> simp
    · rcases hq with rfl | rfl <;> simp
/-- BOTH CROSS. -/
def X (s t : S35) : Prop := wrap64 (sg (turn s.f0 s.f1 t.f0) * sg (turn s.f0 s.f1 t.f1)) < 0 ∧ wrap64 (sg (turn t.f0 t.f1 s.f0) * sg (turn t.f0 t.f1 s.f1)) < 0
def Ov (s t : S35) : Prop := (turn s.f0 s.f1 t.f0 = 0 ∧ turn s.f0 s.f1 t.f1 = 0) ∧ (max (cd s.f0) (cd t.f0) < min (cd s.f1) (cd t.f1))
theorem sg_wrap (a b : Int) (h : sg a = 0) : ¬ wrap64 (sg a * sg b) < 0 := by rw [h, Int.zero_mul]; unfold wrap64; omega
theorem neq {s : S35} (h : Seg s) : (s.f0.f0 == s.f1.f0 && (s.f0.f1 == s.f1.f1)) = false := by
  rw [Bool.eq_false_iff]
  intro e
  exact h.ne ((eqs33_iff _ _).1 e)
theorem nFlat {s t : S35} (hs : Seg s) (ht : Seg t) (k : Nat) (hk : 10 < k) : ∃ r, seg_flat.f k s.f0.f0 s.f0.f1 s.f1.f0 s.f1.f1 t.f0.f0 t.f0.f1 t.f1.f0 t.f1.f1 = some r ∧ (r = 2 ∨ r = 3 ↔ max (cd s.f0) (cd t.f0) < min (cd s.f1) (cd t.f1)) := by
  have h1 : ∀ (k' : Nat) (p q : S33), 2 < k' → onG p → onG q → ∃ r, seg_flat.j1 k' p.f0 p.f1 q.f0 q.f1 = some r ∧ (r = 2 ∨ r = 3 ↔ cd p < cd q) := by
    intro k' p q hk' hp hq
    cases k' with
    | zero => omega
    | succ k' =>
      simp only [seg_flat.j1]
      rw [less_some, lt_cd hp hq, Option.bind_some]
      by_cases c : cd p < cd q
      · rw [decide_eq_true c, if_pos rfl]; exact ⟨3, rfl, fun _ => c, fun _ => Or.inr rfl⟩
      · rw [decide_eq_false c, if_neg (by simp)]
        split
        · exact ⟨1, rfl, fun h => by omega, fun h => absurd h c⟩
        · exact ⟨0, rfl, fun h => by omega, fun h => absurd h c⟩
  have h0 : ∀ (k' : Nat) (p : S33), 5 < k' → onG p → cd p = max (cd s.f0) (cd t.f0) → ∃ r, seg_flat.j0 k' t.f0.f0 t.f0.f1 t.f1.f0 t.f1.f1 p.f0 p.f1 s.f1.f0 s.f1.f1 = some r ∧ (r = 2 ∨ r = 3 ↔ max (cd s.f0) (cd t.f0) < min (cd s.f1) (cd t.f1)) := by
    intro k' p hk' hp he
    cases k' with
    | zero => omega
    | succ k' =>
      simp only [seg_flat.j0]
      rw [less_some, lt_cd ht.b hs.b, Option.bind_some]
      by_cases c : cd t.f1 < cd s.f1
      · rw [decide_eq_true c, if_pos rfl]
        obtain ⟨r, e1, e2⟩ := h1 k' p t.f1 (by omega) hp ht.b
        exact ⟨r, e1, e2.trans (by omega)⟩
      · rw [decide_eq_false c, if_neg (by simp)]
        obtain ⟨r, e1, e2⟩ := h1 k' p s.f1 (by omega) hp hs.b
        exact ⟨r, e1, e2.trans (by omega)⟩
  unfold seg_flat.f
  rw [less_some, lt_cd hs.a ht.a, Option.bind_some]
  by_cases c : cd s.f0 < cd t.f0
  · rw [decide_eq_true c, if_pos rfl]
    exact h0 k t.f0 (by omega) ht.a (by omega)
  · rw [decide_eq_false c, if_neg (by simp)]
    exact h0 k s.f0 (by omega) hs.a (by omega)
theorem nRel {s t : S35} (hs : Seg s) (ht : Seg t) (k : Nat) (hk : 100 < k) : ∃ r, seg_Relate.f k s.f0.f0 s.f0.f1 s.f1.f0 s.f1.f1 t.f0.f0 t.f0.f1 t.f1.f0 t.f1.f1 = some r ∧ (r = 2 ∨ r = 3 ↔ X s t ∨ Ov s t) := by
  have h2 : ∀ (k' : Nat) (x : Bool), 20 < k' → ∃ r, seg_Relate.j2 k' x s.f0.f0 s.f0.f1 s.f1.f0 s.f1.f1 t.f0.f0 t.f0.f1 t.f1.f0 t.f1.f1 = some r ∧ (r = 2 ∨ r = 3 ↔ x = true) := by
    intro k' x hk'
    cases k' with
    | zero => omega
    | succ k' =>
      simp only [seg_Relate.j2]
      cases x with
      | true => rw [if_pos rfl]; exact ⟨2, rfl, fun _ => rfl, fun _ => Or.inl rfl⟩
      | false =>
        rw [if_neg (by simp)]
        simp only [nOn ht.a hs k' (by omega), nOn ht.b hs k' (by omega), nOn hs.a ht k' (by omega), nOn hs.b ht k' (by omega), Option.bind_some]
        cases onP t.f0 s <;> cases onP t.f1 s <;> cases onP s.f0 t <;> cases onP s.f1 t <;> exact ⟨_, rfl, fun h => by omega, fun h => by cases h⟩
  cases k with
  | zero => omega
  | succ k =>
    cases k with
    | zero => omega
    | succ k =>
      unfold seg_Relate.f
      rw [valid_all [s.f0, s.f1, t.f0, t.f1] (by simp) (by intro p hp; simp at hp; rcases hp with rfl | rfl | rfl | rfl <;> first | exact hs.a | exact hs.b | exact ht.a | exact ht.b) (k + 1 + 1) (by simp; omega), Option.bind_some, if_pos rfl, neq hs, if_neg (by simp), neq ht]
      simp only [seg_Relate.j0]
      rw [if_neg (by simp)]
      simp only [of_some, Option.bind_some]
      have es : ofS ⟨⟨s.f0.f0, s.f0.f1⟩, ⟨s.f1.f0, s.f1.f1⟩⟩ = s := hs.of
      have et : ofS ⟨⟨t.f0.f0, t.f0.f1⟩, ⟨t.f1.f0, t.f1.f1⟩⟩ = t := ht.of
      simp only [es, et, nTurn hs.a hs.b ht.a (k + 1) (by omega), nTurn hs.a hs.b ht.b (k + 1) (by omega), nTurn ht.a ht.b hs.a (k + 1) (by omega), nTurn ht.a ht.b hs.b (k + 1) (by omega), nSign, Option.bind_some]
      have hj : ∀ (x : Bool), (x = true ↔ (sg (turn s.f0 s.f1 t.f0) = 0 ∧ sg (turn s.f0 s.f1 t.f1) = 0)) → ∃ r, seg_Relate.j1 (k + 1) (sg (turn s.f0 s.f1 t.f0)) (sg (turn s.f0 s.f1 t.f1)) (sg (turn t.f0 t.f1 s.f0)) (sg (turn t.f0 t.f1 s.f1)) x s.f0.f0 s.f0.f1 s.f1.f0 s.f1.f1 t.f0.f0 t.f0.f1 t.f1.f0 t.f1.f1 = some r ∧ (r = 2 ∨ r = 3 ↔ X s t ∨ Ov s t) := by
        intro x hx
        simp only [seg_Relate.j1]
        by_cases cx : x = true
        · rw [if_pos cx]
          obtain ⟨z1, z2⟩ := hx.1 cx
          obtain ⟨r, e1, e2⟩ := nFlat hs ht k (by omega)
          rw [e1, Option.bind_some]
          refine ⟨r, rfl, e2.trans ⟨fun h => Or.inr ⟨⟨(sg_zero _).1 z1, (sg_zero _).1 z2⟩, h⟩, fun h => h.elim (fun hX => absurd hX.1 (sg_wrap _ _ z1)) (fun hO => hO.2)⟩⟩
        · rw [if_neg cx]
          have hno : ¬ Ov s t := fun h => cx (hx.2 ⟨(sg_zero _).2 h.1.1, (sg_zero _).2 h.1.2⟩)
          by_cases c1 : wrap64 (sg (turn s.f0 s.f1 t.f0) * sg (turn s.f0 s.f1 t.f1)) < 0
          · rw [if_pos c1]
            obtain ⟨r, e1, e2⟩ := h2 k (decide (wrap64 (sg (turn t.f0 t.f1 s.f0) * sg (turn t.f0 t.f1 s.f1)) < 0)) (by omega)
            rw [decide_eq_true_iff] at e2
            exact ⟨r, e1, e2.trans ⟨fun h => Or.inl ⟨c1, h⟩, fun h => h.elim (fun hX => hX.2) (fun hO => absurd hO hno)⟩⟩
          · rw [if_neg c1]
            obtain ⟨r, e1, e2⟩ := h2 k false (by omega)
            exact ⟨r, e1, e2.trans ⟨fun h => by simp at h, fun h => h.elim (fun hX => absurd hX.1 c1) (fun hO => absurd hO hno)⟩⟩
      by_cases ca : sg (turn s.f0 s.f1 t.f0) = 0
      · rw [if_pos ca]
        exact hj _ ⟨fun h => ⟨ca, by simpa using h⟩, fun h => by simpa using h.2⟩
      · rw [if_neg ca]
        exact hj _ ⟨fun h => by simp at h, fun h => absurd h.1 ca⟩
end Go.Proofs.Ytmejeiddlhjjmaa.Pure
