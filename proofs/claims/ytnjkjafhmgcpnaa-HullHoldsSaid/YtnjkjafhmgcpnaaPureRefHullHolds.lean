/- The reference's hull: it walks the sides, in plain Lean. -/
import Derived.Test.YtnjkjafhmgcpnaaPureHullHullHolds
namespace Go.Proofs.Ytnjkjafhmgcpnaa.Pure
open Go.RowKit Go.Proofs.Ytnjkjafhmgcpnaa.PHullHolds Go.Proofs.YtnjkjafhmgcpnaaW.PrintWords Go.Proofs.YtnjkjafhmgcpnaaW.PrintLast
set_option linter.unusedVariables false
set_option linter.unusedSimpArgs false

theorem rValid_some (x : S28) : mapmakerref13_valid.f x.f0 x.f1 = some (vld x) := by
  unfold mapmakerref13_valid.f vld
  by_cases h1 : 0 ≤ x.f0 <;> by_cases h2 : x.f0 < 32768 <;> by_cases h3 : 0 ≤ x.f1 <;> simp [h1, h2, h3]
theorem rLess {x y : S28} (hx : onG x) (hy : onG y) : mapmakerref13_less.f x.f0 x.f1 y.f0 y.f1 = some (decide (code x < code y)) := by
  unfold mapmakerref13_less.f code ofn
  unfold onG at hx hy
  split
  · rw [decide_eq_true (by omega)]
  · split
    · exact congrArg some (decide_eq_decide.mpr (by omega))
    · rw [decide_eq_false (by omega)]
theorem rTurn {a b c : S28} (ha : onG a) (hb : onG b) (hc : onG c) : mapmakerref13_turn.f a.f0 a.f1 b.f0 b.f1 c.f0 c.f1 = some (turn a b c) := by
  unfold mapmakerref13_turn.f
  rw [turn_wrap ha hb hc]
theorem rBetw {p a b : S28} (hp : onG p) (ha : onG a) (hb : onG b) : ∃ r, mapmakerref13_between.f p.f0 p.f1 a.f0 a.f1 b.f0 b.f1 = some r ∧ (r = true ↔ betw p a b) := by
  unfold mapmakerref13_between.f
  rw [rTurn ha hb hp, Option.bind_some]
  have hx : mx a.f0 b.f0 = mxI a.f0 b.f0 := by unfold mx mxI; split <;> (try split) <;> omega
  have hn : mn a.f0 b.f0 = mnI a.f0 b.f0 := by unfold mn mnI; split <;> (try split) <;> omega
  have hx' : mx a.f1 b.f1 = mxI a.f1 b.f1 := by unfold mx mxI; split <;> (try split) <;> omega
  have hn' : mn a.f1 b.f1 = mnI a.f1 b.f1 := by unfold mn mnI; split <;> (try split) <;> omega
  rw [hx, hn, hx', hn']
  unfold betw
  by_cases h0 : turn a b p = 0
  · rw [if_pos h0]
    by_cases h1 : p.f0 ≥ mnI a.f0 b.f0
    · rw [if_pos h1]
      by_cases h2 : p.f0 ≤ mxI a.f0 b.f0
      · rw [if_pos h2]
        by_cases h3 : p.f1 ≥ mnI a.f1 b.f1
        · rw [if_pos h3]
          exact ⟨_, rfl, by rw [decide_eq_true_iff]; exact ⟨fun h => ⟨h0, h1, h2, h3, h⟩, fun h => h.2.2.2.2⟩⟩
        · rw [if_neg h3]; exact ⟨_, rfl, by simp; intro _ _ _ h; exact absurd h h3⟩
      · rw [if_neg h2]; exact ⟨_, rfl, by simp; intro _ _ h; exact absurd h h2⟩
    · rw [if_neg h1]; exact ⟨_, rfl, by simp; intro _ h; exact absurd h h1⟩
  · rw [if_neg h0]; exact ⟨_, rfl, by simp; intro h; exact absurd h h0⟩
theorem rSide0 (l : List S28) (hl : l.length ≤ 1000000) (hg : ∀ q ∈ l, onG q) {a b : S28} (ha : onG a) (hb : onG b) (d : Nat) : ∀ i : Nat, i ≤ l.length → l.length - i = d → ∃ r, Ev (fun k => mapmakerref13_side.l0 k l (i : Int) a.f0 a.f1 b.f0 b.f1) r ∧ (r = true ↔ ∀ q ∈ l.drop i, 0 ≤ turn a b q ∧ (turn a b q = 0 → betw q a b)) := by
  induction d with
  | zero =>
    intro i hi hd
    refine ⟨true, ⟨1, fun k hk => ?_⟩, by rw [List.drop_eq_nil_of_le (by omega)]; simp⟩
    obtain ⟨k, rfl⟩ : ∃ m, k = m + 1 := ⟨k - 1, by omega⟩
    simp only [mapmakerref13_side.l0]
    rw [if_neg (by omega)]
  | succ d ih =>
    intro i hi hd
    have hlt : i < l.length := by omega
    obtain ⟨r, ⟨K, hr⟩, hrt⟩ := ih (i + 1) (by omega) (by omega)
    have hq := hg _ (List.getElem_mem hlt)
    have hT := rTurn ha hb hq
    obtain ⟨rb, hB, hBt⟩ := rBetw hq ha hb
    rw [List.drop_eq_getElem_cons hlt]
    have hs : ∀ k, mapmakerref13_side.l0 (k + 1) l (i : Int) a.f0 a.f1 b.f0 b.f1 = (if turn a b l[i] < 0 then (some false) else (if turn a b l[i] = 0 then ((some rb).bind fun t166 => (if t166 = true then (mapmakerref13_side.l0 k l ((i + 1 : Nat) : Int) a.f0 a.f1 b.f0 b.f1) else (some false))) else (mapmakerref13_side.l0 k l ((i + 1 : Nat) : Int) a.f0 a.f1 b.f0 b.f1))) := by
      intro k
      simp only [mapmakerref13_side.l0]
      rw [if_pos (by omega), if_pos (by omega), rd28 l i hlt, hT, Option.bind_some, hB, wrap_succ i (by omega)]
    by_cases h0 : turn a b l[i] < 0
    · refine ⟨false, ⟨1, fun k hk => ?_⟩, ?_⟩
      · obtain ⟨k, rfl⟩ : ∃ m, k = m + 1 := ⟨k - 1, by omega⟩
        dsimp only
        rw [hs, if_pos h0]
      · simp only [List.mem_cons, forall_eq_or_imp]
        exact ⟨fun h => by simp at h, fun h => absurd h.1.1 (by omega)⟩
    · by_cases h1 : turn a b l[i] = 0
      · by_cases h2 : rb = true
        · refine ⟨r, ⟨K + 1, fun k hk => ?_⟩, ?_⟩
          · obtain ⟨k, rfl⟩ : ∃ m, k = m + 1 := ⟨k - 1, by omega⟩
            dsimp only
            rw [hs, if_neg h0, if_pos h1, Option.bind_some, if_pos h2]
            exact hr k (by omega)
          · rw [hrt]
            simp only [List.mem_cons, forall_eq_or_imp]
            exact ⟨fun h => ⟨⟨by omega, fun _ => hBt.1 h2⟩, h⟩, fun h => h.2⟩
        · refine ⟨false, ⟨1, fun k hk => ?_⟩, ?_⟩
          · obtain ⟨k, rfl⟩ : ∃ m, k = m + 1 := ⟨k - 1, by omega⟩
            dsimp only
            rw [hs, if_neg h0, if_pos h1, Option.bind_some, if_neg h2]
          · simp only [List.mem_cons, forall_eq_or_imp]
            exact ⟨fun h => by simp at h, fun h => absurd (hBt.2 (h.1.2 h1)) h2⟩
      · refine ⟨r, ⟨K + 1, fun k hk => ?_⟩, ?_⟩
        · obtain ⟨k, rfl⟩ : ∃ m, k = m + 1 := ⟨k - 1, by omega⟩
          dsimp only
          rw [hs, if_neg h0, if_neg h1]
          exact hr k (by omega)
        · rw [hrt]
          simp only [List.mem_cons, forall_eq_or_imp]
          exact ⟨fun h => ⟨⟨by omega, fun e => absurd e h1⟩, h⟩, fun h => h.2⟩
theorem rSide (l : List S28) (hl : l.length ≤ 1000000) (hg : ∀ q ∈ l, onG q) {a b : S28} (ha : onG a) (hb : onG b) : ∃ r, Ev (fun k => mapmakerref13_side.f k l a.f0 a.f1 b.f0 b.f1) r ∧ (r = true ↔ Side l a b) := by
  by_cases h : a = b
  · refine ⟨false, ⟨0, fun k _ => ?_⟩, by simp [Side, h]⟩
    unfold mapmakerref13_side.f
    dsimp only
    rw [if_pos (by rw [h]; simp)]
  · obtain ⟨r, ⟨K, hr⟩, hrt⟩ := rSide0 l hl hg ha hb l.length 0 (by omega) (by omega)
    refine ⟨r, ⟨K, fun k hk => ?_⟩, ?_⟩
    · unfold mapmakerref13_side.f
      dsimp only
      rw [if_neg (by
        intro e
        simp at e
        exact h (s28_ext e.1 e.2))]
      exact hr k hk
    · rw [hrt, List.drop_zero]
      exact ⟨fun h' => ⟨h, h'⟩, fun h' => h'.2⟩
/-! the next corner -/
theorem rNext (l : List S28) (hl : l.length ≤ 1000000) (hg : ∀ q ∈ l, onG q) {F at_ s : S28} (ha : at_ ∈ l) (hs : s ∈ l) (hss : Side l at_ s) (x8 : List S28) (n : Nat) (R : List S28)
    (hend : Ev (fun k => if (s.f0 == F.f0 && (s.f1 == F.f1)) = true then (some x8) else (if x8.length < 8796093022208 then (mapmakerref13_Of.l2 k l (x8 ++ [(⟨s.f0, s.f1⟩ : S28)]) (wrap64 ((n : Int) + 1)) F.f0 F.f1 s.f0 s.f1) else (none))) R)
    (d : Nat) : ∀ (i : Nat) (nx : S28), i ≤ l.length → l.length - i = d → (nx = s ∨ ∃ m, ∃ h : m < l.length, i ≤ m ∧ l[m] = s) → Ev (fun k => mapmakerref13_Of.l3 k l x8 (n : Int) (i : Int) F.f0 F.f1 at_.f0 at_.f1 nx.f0 nx.f1) R := by
  induction d with
  | zero =>
    intro i nx hi hd hor
    have : nx = s := by
      rcases hor with h | ⟨m, h, h1, _⟩
      · exact h
      · omega
    subst this
    obtain ⟨K, hend⟩ := hend
    refine ⟨K + 1, fun k hk => ?_⟩
    obtain ⟨k, rfl⟩ : ∃ m, k = m + 1 := ⟨k - 1, by omega⟩
    have he := hend k (by omega)
    dsimp only at he
    simp only [mapmakerref13_Of.l3]
    rw [if_neg (by omega)]
    exact he
  | succ d ih =>
    intro i nx hi hd hor
    have hlt : i < l.length := by omega
    have hq := hg _ (List.getElem_mem hlt)
    obtain ⟨r, ⟨K1, hr⟩, hrt⟩ := rSide l hl hg (hg _ ha) hq
    by_cases hb : r = true
    · have e : l[i] = s := side_unique hg ha (List.getElem_mem hlt) hs (hrt.1 hb) hss
      obtain ⟨K, ih⟩ := ih (i + 1) l[i] (by omega) (by omega) (.inl e)
      refine ⟨K + K1 + 1, fun k hk => ?_⟩
      obtain ⟨k, rfl⟩ : ∃ m, k = m + 1 := ⟨k - 1, by omega⟩
      have h1 := hr k (by omega)
      have h2 := ih k (by omega)
      dsimp only at h1 h2
      simp only [mapmakerref13_Of.l3]
      rw [if_pos (by omega), if_pos (by omega), rd28 l i hlt, h1, Option.bind_some, if_pos hb, wrap_succ i (by omega)]
      exact h2
    · have hne : l[i] ≠ s := fun e => hb (hrt.2 (by rw [e]; exact hss))
      obtain ⟨K, ih⟩ := ih (i + 1) nx (by omega) (by omega) (by
        rcases hor with h | ⟨m, h, h1, h2⟩
        · exact .inl h
        · refine .inr ⟨m, h, ?_, h2⟩
          rcases Nat.lt_or_eq_of_le h1 with h' | h'
          · exact h'
          · subst h'; exact absurd h2 hne)
      refine ⟨K + K1 + 1, fun k hk => ?_⟩
      obtain ⟨k, rfl⟩ : ∃ m, k = m + 1 := ⟨k - 1, by omega⟩
      have h1 := hr k (by omega)
      have h2 := ih k (by omega)
      dsimp only at h1 h2
      simp only [mapmakerref13_Of.l3]
      rw [if_pos (by omega), if_pos (by omega), rd28 l i hlt, h1, Option.bind_some, if_neg hb, wrap_succ i (by omega)]
      exact h2
theorem rWalk (l : List S28) (hl : l.length ≤ 1000000) (hg : ∀ q ∈ l, onG q) {F : S28} (hF : F ∈ l) : ∀ (suf : List S28) (at_ : S28) (x8 : List S28) (n : Nat), at_ ∈ l → (∀ y ∈ suf, y ∈ l) → F ∉ suf → Path (Side l) (at_ :: suf ++ [F]) → n + suf.length ≤ l.length → x8.length ≤ n + 1 → Ev (fun k => mapmakerref13_Of.l2 k l x8 (n : Int) F.f0 F.f1 at_.f0 at_.f1) (x8 ++ suf)
  | suf, at_, x8, n, ha, hm, hn, hp, hle, hx => by
    by_cases hnl : n < l.length
    · have key : ∀ R, Ev (fun k => mapmakerref13_Of.l3 k l x8 (n : Int) 0 F.f0 F.f1 at_.f0 at_.f1 F.f0 F.f1) R → Ev (fun k => mapmakerref13_Of.l2 k l x8 (n : Int) F.f0 F.f1 at_.f0 at_.f1) R := by
        rintro R ⟨K, h⟩
        refine ⟨K + 1, fun k hk => ?_⟩
        obtain ⟨k, rfl⟩ : ∃ m, k = m + 1 := ⟨k - 1, by omega⟩
        have := h k (by omega)
        dsimp only at this
        simp only [mapmakerref13_Of.l2]
        rw [if_pos (by omega)]
        exact this
      refine key _ ?_
      match suf, hm, hn, hp, hle with
      | [], hm, hn, hp, hle =>
        refine rNext l hl hg ha hF hp.1 x8 n _ ⟨0, fun k _ => ?_⟩ l.length 0 F (by omega) (by omega) (.inl rfl)
        dsimp only
        rw [if_pos (by simp), List.append_nil]
      | y :: suf, hm, hn, hp, hle =>
        have hy := hm y (by simp)
        have hyF : y ≠ F := fun e => hn (by rw [e]; simp)
        obtain ⟨m, hml, hme⟩ := List.getElem_of_mem hy
        have ih := rWalk l hl hg hF suf y (x8 ++ [y]) (n + 1) hy (fun q hq => hm q (List.mem_cons_of_mem _ hq)) (fun h => hn (List.mem_cons_of_mem _ h)) hp.2 (by simp at hle; omega) (by simp; omega)
        obtain ⟨K, ih⟩ := ih
        refine rNext l hl hg ha hy hp.1 x8 n _ ⟨K, fun k hk => ?_⟩ l.length 0 F (by omega) (by omega) (.inr ⟨m, hml, by omega, hme⟩)
        have h1 := ih k hk
        dsimp only at h1 ⊢
        rw [if_neg (by
          intro e
          simp at e
          exact hyF (s28_ext e.1 e.2)), if_pos (by omega), wrap_succ n (by omega)]
        have e1 : (⟨y.f0, y.f1⟩ : S28) = y := rfl
        rw [e1, h1, List.append_assoc]
        rfl
    · have : suf = [] := List.eq_nil_of_length_eq_zero (by omega)
      subst this
      refine ⟨1, fun k hk => ?_⟩
      obtain ⟨k, rfl⟩ : ∃ m, k = m + 1 := ⟨k - 1, by omega⟩
      simp only [mapmakerref13_Of.l2]
      rw [if_neg (by omega), List.append_nil]
/-! flat -/
theorem rFlat (l : List S28) (hl : l.length ≤ 1000000) (hg : ∀ q ∈ l, onG q) {F E : S28} (hF : onG F) (hE : onG E) (R : List S28) (d : Nat) : ∀ (i : Nat) (b : Bool), i ≤ l.length → l.length - i = d →
    ((b = true ∧ ∀ q ∈ l.drop i, turn F E q = 0) → R = [F, E]) → (¬ (b = true ∧ ∀ q ∈ l.drop i, turn F E q = 0) → Ev (fun k => mapmakerref13_Of.l2 k l [F] 0 F.f0 F.f1 F.f0 F.f1) R) → Ev (fun k => mapmakerref13_Of.l1 k l b (i : Int) F.f0 F.f1 E.f0 E.f1) R := by
  induction d with
  | zero =>
    intro i b hi hd h1 h2
    rw [List.drop_eq_nil_of_le (by omega)] at h1 h2
    by_cases hb : b = true
    · have hR := h1 ⟨hb, by simp⟩
      subst hR
      refine ⟨1, fun k hk => ?_⟩
      obtain ⟨k, rfl⟩ : ∃ m, k = m + 1 := ⟨k - 1, by omega⟩
      simp only [mapmakerref13_Of.l1]
      rw [if_neg (by omega), if_pos hb]
    · obtain ⟨K, h2⟩ := h2 (fun h => hb h.1)
      refine ⟨K + 1, fun k hk => ?_⟩
      obtain ⟨k, rfl⟩ : ∃ m, k = m + 1 := ⟨k - 1, by omega⟩
      have := h2 k (by omega)
      dsimp only at this
      simp only [mapmakerref13_Of.l1]
      rw [if_neg (by omega), if_neg hb]
      exact this
  | succ d ih =>
    intro i b hi hd h1 h2
    have hlt : i < l.length := by omega
    rw [List.drop_eq_getElem_cons hlt] at h1 h2
    by_cases hb : b = true
    · have hT := rTurn hF hE (hg _ (List.getElem_mem hlt))
      obtain ⟨K, ih⟩ := ih (i + 1) (turn F E l[i] == 0) (by omega) (by omega) (fun h => h1 ⟨hb, fun q hq => by
        rcases List.mem_cons.1 hq with rfl | hq
        · simpa using h.1
        · exact h.2 q hq⟩) (fun h => h2 (fun h' => h ⟨beq_iff_eq.2 (h'.2 l[i] List.mem_cons_self), fun q hq => h'.2 q (List.mem_cons_of_mem _ hq)⟩))
      refine ⟨K + 1, fun k hk => ?_⟩
      obtain ⟨k, rfl⟩ : ∃ m, k = m + 1 := ⟨k - 1, by omega⟩
      have := ih k (by omega)
      dsimp only at this
      simp only [mapmakerref13_Of.l1]
      rw [if_pos (by omega), if_pos hb, if_pos (by omega), rd28 l i hlt, hT, Option.bind_some, wrap_succ i (by omega)]
      exact this
    · obtain ⟨K, ih⟩ := ih (i + 1) false (by omega) (by omega) (fun h => by simp at h) (fun _ => h2 (fun h => hb h.1))
      refine ⟨K + 1, fun k hk => ?_⟩
      obtain ⟨k, rfl⟩ : ∃ m, k = m + 1 := ⟨k - 1, by omega⟩
      have := ih k (by omega)
      dsimp only at this
      simp only [mapmakerref13_Of.l1]
      rw [if_pos (by omega), if_neg hb, wrap_succ i (by omega)]
      exact this
/-! the first and the last point -/
theorem rEnds (l : List S28) (hl : l.length ≤ 1000000) (hg : ∀ q ∈ l, onG q) (R : List S28)
    (hend : ∀ F E, F ∈ l → E ∈ l → (∀ q ∈ l, code F ≤ code q) → (∀ q ∈ l, code q ≤ code E) → Ev (fun k => if (F.f0 == E.f0 && (F.f1 == E.f1)) = true then (some (([(⟨F.f0, F.f1⟩ : S28)] : List (S28)))) else (mapmakerref13_Of.l1 k l true 0 F.f0 F.f1 E.f0 E.f1)) R)
    (d : Nat) : ∀ (i : Nat) (F E : S28), i ≤ l.length → l.length - i = d → F ∈ l → E ∈ l → (∀ q ∈ l.take i, code F ≤ code q) → (∀ q ∈ l.take i, code q ≤ code E) → Ev (fun k => mapmakerref13_Of.l0 k l (i : Int) F.f0 F.f1 E.f0 E.f1) R := by
  induction d with
  | zero =>
    intro i F E hi hd hF hE h1 h2
    rw [List.take_of_length_le (by omega)] at h1 h2
    obtain ⟨K, h⟩ := hend F E hF hE h1 h2
    refine ⟨K + 1, fun k hk => ?_⟩
    obtain ⟨k, rfl⟩ : ∃ m, k = m + 1 := ⟨k - 1, by omega⟩
    have := h k (by omega)
    dsimp only at this
    simp only [mapmakerref13_Of.l0]
    rw [if_neg (by omega)]
    exact this
  | succ d ih =>
    intro i F E hi hd hF hE h1 h2
    have hlt : i < l.length := by omega
    have hx := List.getElem_mem hlt
    have hq := hg _ hx
    have hv : mapmakerref13_valid.f l[i].f0 l[i].f1 = some true := by rw [rValid_some, (vld_iff _).2 hq]
    have L1 := rLess hq (hg F hF)
    have L2 := rLess (hg E hE) hq
    have hstep : ∀ F' E', F' ∈ l → E' ∈ l → code F' ≤ code F → code F' ≤ code l[i] → code E ≤ code E' → code l[i] ≤ code E' → Ev (fun k => mapmakerref13_Of.l0 k l ((i + 1 : Nat) : Int) F'.f0 F'.f1 E'.f0 E'.f1) R := by
      intro F' E' hF' hE' c1 c2 c3 c4
      refine ih (i + 1) F' E' (by omega) (by omega) hF' hE' (fun q hq' => ?_) (fun q hq' => ?_)
      · rw [List.take_succ_eq_append_getElem hlt] at hq'
        rcases List.mem_append.1 hq' with hq' | hq'
        · have := h1 q hq'; omega
        · rw [List.mem_singleton.1 hq']; exact c2
      · rw [List.take_succ_eq_append_getElem hlt] at hq'
        rcases List.mem_append.1 hq' with hq' | hq'
        · have := h2 q hq'; omega
        · rw [List.mem_singleton.1 hq']; exact c4
    have hgo : ∀ (F' E' : S28), Ev (fun k => mapmakerref13_Of.l0 k l ((i + 1 : Nat) : Int) F'.f0 F'.f1 E'.f0 E'.f1) R → (if code l[i] < code F then F' = l[i] else F' = F) → (if code E < code l[i] then E' = l[i] else E' = E) → Ev (fun k => mapmakerref13_Of.l0 k l (i : Int) F.f0 F.f1 E.f0 E.f1) R := by
      rintro F' E' ⟨K, h⟩ e1 e2
      refine ⟨K + 1, fun k hk => ?_⟩
      obtain ⟨k, rfl⟩ : ∃ m, k = m + 1 := ⟨k - 1, by omega⟩
      have h3 := h k (by omega)
      dsimp only at h3
      simp only [mapmakerref13_Of.l0]
      rw [if_pos (by omega), if_pos (by omega), rd28 l i hlt, hv, Option.bind_some, if_pos rfl, L1, Option.bind_some, L2, Option.bind_some, Option.bind_some, wrap_succ i (by omega)]
      by_cases c1 : code l[i] < code F
      · rw [if_pos c1] at e1
        rw [if_pos (decide_eq_true c1)]
        by_cases c2 : code E < code l[i]
        · rw [if_pos c2] at e2
          rw [if_pos (decide_eq_true c2), ← h3, e1, e2]
        · rw [if_neg c2] at e2
          rw [if_neg (by rw [decide_eq_false c2]; simp), ← h3, e1, e2]
      · rw [if_neg c1] at e1
        rw [if_neg (by rw [decide_eq_false c1]; simp)]
        by_cases c2 : code E < code l[i]
        · rw [if_pos c2] at e2
          rw [if_pos (decide_eq_true c2), ← h3, e1, e2]
        · rw [if_neg c2] at e2
          rw [if_neg (by rw [decide_eq_false c2]; simp), ← h3, e1, e2]
    by_cases c1 : code l[i] < code F
    · by_cases c2 : code E < code l[i]
      · exact hgo l[i] l[i] (hstep _ _ hx hx (by omega) (by omega) (by omega) (by omega)) (by rw [if_pos c1]) (by rw [if_pos c2])
      · exact hgo l[i] E (hstep _ _ hx hE (by omega) (by omega) (by omega) (by omega)) (by rw [if_pos c1]) (by rw [if_neg c2])
    · by_cases c2 : code E < code l[i]
      · exact hgo F l[i] (hstep _ _ hF hx (by omega) (by omega) (by omega) (by omega)) (by rw [if_neg c1]) (by rw [if_pos c2])
      · exact hgo F E (hstep _ _ hF hE (by omega) (by omega) (by omega) (by omega)) (by rw [if_neg c1]) (by rw [if_neg c2])
theorem rBad (l : List S28) (hl : l.length ≤ 1000000) (d : Nat) : ∀ (i : Nat) (a b c e : Int), i ≤ l.length → l.length - i = d → (∃ m, ∃ h : m < l.length, i ≤ m ∧ ¬ onG l[m]) → Ev (fun k => mapmakerref13_Of.l0 k l (i : Int) a b c e) [] := by
  induction d with
  | zero => intro i a b c e hi hd ⟨m, hm, h1, _⟩; omega
  | succ d ih =>
    intro i a b c e hi hd ⟨m, hm, h1, h2⟩
    have hlt : i < l.length := by omega
    by_cases hq : onG l[i]
    · have hne : i ≠ m := fun e' => by subst e'; exact h2 hq
      have hv : mapmakerref13_valid.f l[i].f0 l[i].f1 = some true := by rw [rValid_some, (vld_iff _).2 hq]
      have I := fun a b c e => ih (i + 1) a b c e (by omega) (by omega) ⟨m, hm, by omega, h2⟩
      obtain ⟨b1, hb1⟩ : ∃ b1, mapmakerref13_less.f l[i].f0 l[i].f1 a b = some b1 := by unfold mapmakerref13_less.f; split; exact ⟨_, rfl⟩; split <;> exact ⟨_, rfl⟩
      obtain ⟨b2, hb2⟩ : ∃ b2, mapmakerref13_less.f c e l[i].f0 l[i].f1 = some b2 := by unfold mapmakerref13_less.f; split; exact ⟨_, rfl⟩; split <;> exact ⟨_, rfl⟩
      have hgo : ∀ a' b' c' e' : Int, (if b1 = true then a' = l[i].f0 ∧ b' = l[i].f1 else a' = a ∧ b' = b) → (if b2 = true then c' = l[i].f0 ∧ e' = l[i].f1 else c' = c ∧ e' = e) → Ev (fun k => mapmakerref13_Of.l0 k l (i : Int) a b c e) [] := by
        intro a' b' c' e' e1 e2
        obtain ⟨K, h⟩ := I a' b' c' e'
        refine ⟨K + 1, fun k hk => ?_⟩
        obtain ⟨k, rfl⟩ : ∃ m, k = m + 1 := ⟨k - 1, by omega⟩
        have h3 := h k (by omega)
        dsimp only at h3
        simp only [mapmakerref13_Of.l0]
        rw [if_pos (by omega), if_pos (by omega), rd28 l i hlt, hv, Option.bind_some, if_pos rfl, hb1, Option.bind_some, hb2, Option.bind_some, Option.bind_some, wrap_succ i (by omega)]
        cases b1 <;> cases b2 <;> simp only [Bool.false_eq_true, if_false, if_true] at e1 e2 ⊢ <;> rw [e1.1, e1.2, e2.1, e2.2] at h3 <;> exact h3
      cases b1 <;> cases b2
      · exact hgo a b c e (by simp) (by simp)
      · exact hgo a b l[i].f0 l[i].f1 (by simp) (by simp)
      · exact hgo l[i].f0 l[i].f1 c e (by simp) (by simp)
      · exact hgo l[i].f0 l[i].f1 l[i].f0 l[i].f1 (by simp) (by simp)
    · have hv : mapmakerref13_valid.f l[i].f0 l[i].f1 = some false := by
        rw [rValid_some]
        congr 1
        rw [← Bool.not_eq_true, vld_iff]; exact hq
      refine ⟨1, fun k hk => ?_⟩
      obtain ⟨k, rfl⟩ : ∃ m, k = m + 1 := ⟨k - 1, by omega⟩
      simp only [mapmakerref13_Of.l0]
      rw [if_pos (by omega), if_pos (by omega), rd28 l i hlt, hv, Option.bind_some, if_neg (by simp)]
theorem rOf_bad (l : List S28) (hl : l.length ≤ 1000000) (h : ∃ q ∈ l, ¬ onG q) : Ev (fun k => mapmakerref13_Of.f k l) [] := by
  obtain ⟨q, hq, hv⟩ := h
  obtain ⟨m, hm, rfl⟩ := List.getElem_of_mem hq
  obtain ⟨K, h⟩ := rBad l hl l.length 0 (rd_T28 l 0).f0 (rd_T28 l 0).f1 (rd_T28 l 0).f0 (rd_T28 l 0).f1 (by omega) (by omega) ⟨m, hm, by omega, hv⟩
  refine ⟨K, fun k hk => ?_⟩
  have := h k hk
  dsimp only at this ⊢
  unfold mapmakerref13_Of.f
  rw [if_neg (by omega), if_pos (by omega)]
  exact this
theorem rOf_nil : Ev (fun k => mapmakerref13_Of.f k []) [] := ⟨0, fun k _ => by show mapmakerref13_Of.f k [] = _; unfold mapmakerref13_Of.f; rw [if_pos (by simp)]⟩
theorem rOf {l h : List S28} (hl : l.length ≤ 1000000) (hne : l ≠ []) (hg : ∀ q ∈ l, onG q) (hh : HullP l h) : Ev (fun k => mapmakerref13_Of.f k l) h := by
  have h0 := List.length_pos_iff.2 hne
  have hlen := hull_len hg hh
  have key := rEnds l hl hg h (fun F E hF hE c1 c2 => by
    cases hh with
    | one p hlp hp =>
      have e1 := hp F hF
      have e2 := hp E hE
      subst e1
      refine ⟨0, fun k _ => ?_⟩
      dsimp only
      rw [if_pos (by rw [e2]; simp)]
    | more h0 t hne' hm hmin hpth hn =>
      have hFh : F = h0 := code_inj (hg F hF) (hg h0 (hm h0 (by simp))) (by have := c1 h0 (hm h0 (by simp)); have := hmin F hF; omega)
      subst hFh
      have hFE : F ≠ E := fun e => by
        obtain ⟨y, t', rfl⟩ := List.exists_cons_of_ne_nil hne'
        have hy := hm y (by simp)
        have : y = F := code_inj (hg y hy) (hg F hF) (by have := c1 y hy; have := c2 y hy; rw [← e] at this; omega)
        exact hn (by rw [← this]; simp)
      obtain ⟨K, h⟩ := rFlat l hl hg (hg F hF) (hg E hE) (F :: t) l.length 0 true (by omega) (by omega) (fun hfl => by
        have hfl := hfl.2
        rw [List.drop_zero] at hfl
        have hb : ∀ q ∈ l, betw q F E := fun q hq => betw_of_code (hg F hF) (hg E hE) (hg q hq) (hfl q hq) (c1 q hq) (c2 q hq)
        refine hull_unique hg (.more F t hne' hm hmin hpth hn) (.more F [E] (by simp) (fun x hx => ?_) c1 ⟨⟨hFE, fun q hq => ⟨by rw [hfl q hq]; exact Int.le_refl _, fun _ => hb q hq⟩⟩, ⟨fun e => hFE e.symm, fun q hq => ⟨by rw [turn_flip, hfl q hq]; exact Int.le_refl _, fun _ => betw_symm (hb q hq)⟩⟩, trivial⟩ (by simpa using hFE))
        simp at hx
        rcases hx with rfl | rfl <;> assumption) (fun _ => by
        have := rWalk l hl hg hF t F [F] 0 hF (fun y hy => hm y (List.mem_cons_of_mem _ hy)) hn hpth (by simp at hlen; omega) (by simp)
        exact this)
      refine ⟨K, fun k hk => ?_⟩
      have := h k hk
      dsimp only at this ⊢
      rw [if_neg (by
        intro e
        simp at e
        exact hFE (s28_ext e.1 e.2))]
      exact this) l.length 0 l[0] l[0] (by omega) (by omega) (List.getElem_mem h0) (List.getElem_mem h0) (by simp) (by simp)
  obtain ⟨K, key⟩ := key
  refine ⟨K, fun k hk => ?_⟩
  have := key k hk
  dsimp only at this ⊢
  unfold mapmakerref13_Of.f
  rw [if_neg (by omega), if_pos (by omega)]
  have e : rd_T28 l 0 = l[0] := rd28 l 0 h0
  rw [e]
  exact this
end Go.Proofs.Ytnjkjafhmgcpnaa.Pure
