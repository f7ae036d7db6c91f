/- Whether a hull holds a point, in plain Lean: the program's answer. -/
import Derived.Test.YtnjkjafhmgcpnaaPureHullHullHolds
namespace Go.Proofs.Ytnjkjafhmgcpnaa.Pure
open Go.RowKit Go.Proofs.Ytnjkjafhmgcpnaa.PHullHolds Go.Proofs.YtnjkjafhmgcpnaaW.PrintWords Go.Proofs.YtnjkjafhmgcpnaaW.PrintLast
set_option linter.unusedVariables false
set_option linter.unusedSimpArgs false

theorem nOn {p a b : S28} (hp : onG p) (ha : onG a) (hb : onG b) (k : Nat) (hk : 10 < k) : ∃ r, seg_On.f k p.f0 p.f1 a.f0 a.f1 b.f0 b.f1 = some r ∧ (r = true ↔ betw p a b) := by
  unfold seg_On.f
  rw [valid_all _ (by simp) (by
    intro x hx
    simp at hx
    rcases hx with rfl | rfl | rfl <;> assumption) k (by simp; omega), Option.bind_some, if_pos rfl, nTurn ha hb hp k hk, Option.bind_some]
  by_cases h0 : turn a b p = 0
  · rw [if_pos h0]
    have hof : seg_Of.f a.f0 a.f1 b.f0 b.f1 = some (if code b < code a then (b.f0, b.f1, a.f0, a.f1) else (a.f0, a.f1, b.f0, b.f1)) := by
      unfold seg_Of.f grid_Less.f code ofn
      unfold onG at ha hb
      by_cases e : b.f0 = a.f0
      · rw [if_pos e, Option.bind_some]
        by_cases e2 : b.f1 < a.f1
        · rw [if_pos (decide_eq_true e2), if_pos (by omega)]
        · rw [if_neg (by rw [decide_eq_false e2]; simp), if_neg (by omega)]
      · rw [if_neg e, Option.bind_some]
        by_cases e2 : b.f0 < a.f0
        · rw [if_pos (decide_eq_true e2), if_pos (by omega)]
        · rw [if_neg (by rw [decide_eq_false e2]; simp), if_neg (by omega)]
    rw [hof, Option.bind_some]
    refine ⟨_, rfl, ?_⟩
    unfold betw mnI mxI
    unfold code ofn
    unfold onG at ha hb
    simp only [Bool.and_eq_true, decide_eq_true_eq]
    have e1 : min a.f1 b.f1 = (if b.f1 < a.f1 then b.f1 else a.f1) := by rw [Int.min_def]; split <;> split <;> omega
    have e2 : max a.f1 b.f1 = (if a.f1 < b.f1 then b.f1 else a.f1) := by rw [Int.max_def]; split <;> split <;> omega
    rw [e1, e2]
    by_cases hc : 65536 * b.f0 + 1 * b.f1 < 65536 * a.f0 + 1 * a.f1
    · rw [if_pos hc]
      dsimp only
      constructor
      · rintro ⟨q1, q2, q3, q4⟩
        refine ⟨h0, ?_, ?_, q3, q4⟩ <;> split <;> omega
      · rintro ⟨_, q1, q2, q3, q4⟩
        refine ⟨?_, ?_, q3, q4⟩
        · split at q1 <;> omega
        · split at q2 <;> omega
    · rw [if_neg hc]
      dsimp only
      constructor
      · rintro ⟨q1, q2, q3, q4⟩
        refine ⟨h0, ?_, ?_, q3, q4⟩ <;> split <;> omega
      · rintro ⟨_, q1, q2, q3, q4⟩
        refine ⟨?_, ?_, q3, q4⟩
        · split at q1 <;> omega
        · split at q2 <;> omega
  · rw [if_neg h0]
    exact ⟨false, rfl, by simp [betw, h0]⟩
/-- The corner behind corner i. -/
def nxt (h : List S28) (i : Nat) : S28 := h.getD ((i + 1) % h.length) z28
theorem rd_nxt (h : List S28) (hl : h.length ≤ 1000000) (i : Nat) (hi : i < h.length) : Int.tmod (wrap64 ((i : Int) + 1)) (h.length : Int) = (((i + 1) % h.length : Nat) : Int) := by
  rw [wrap_succ i (by omega), Int.tmod_eq_emod_of_nonneg (by omega)]
  rfl
theorem nLoop (h : List S28) (hl : h.length ≤ 1000000) (hg : ∀ q ∈ h, onG q) {p : S28} (hp : onG p) (d : Nat) : ∀ i : Nat, i ≤ h.length → h.length - i = d → ∃ r, Ev (fun k => hull_Holds.l0 k h h (h.length : Int) (i : Int) p.f0 p.f1) r ∧ (r = true ↔ ∀ m, i ≤ m → (hm : m < h.length) → 0 ≤ turn h[m] (nxt h m) p) := by
  induction d with
  | zero =>
    intro i hi hd
    refine ⟨true, ⟨1, fun k hk => ?_⟩, by simp; intro m h1 h2; omega⟩
    obtain ⟨k, rfl⟩ : ∃ m, k = m + 1 := ⟨k - 1, by omega⟩
    simp only [hull_Holds.l0]
    rw [if_neg (by omega)]
  | succ d ih =>
    intro i hi hd
    have hlt : i < h.length := by omega
    obtain ⟨r, ⟨K, hr⟩, hrt⟩ := ih (i + 1) (by omega) (by omega)
    have hmod : (i + 1) % h.length < h.length := Nat.mod_lt _ (by omega)
    have hn : rd_T28 h (((i + 1) % h.length : Nat) : Int) = nxt h i := by unfold rd_T28 nxt; rw [Int.toNat_natCast]
    have hng : onG (nxt h i) := by unfold nxt; rw [List.getD_eq_getElem?_getD, List.getElem?_eq_getElem hmod]; exact hg _ (List.getElem_mem hmod)
    have hT := fun k hk => nTurn (hg _ (List.getElem_mem hlt)) hng hp k hk
    have hs : ∀ k, 10 < k → hull_Holds.l0 (k + 1) h h (h.length : Int) (i : Int) p.f0 p.f1 = if turn h[i] (nxt h i) p < 0 then some false else hull_Holds.l0 k h h (h.length : Int) ((i + 1 : Nat) : Int) p.f0 p.f1 := by
      intro k hk
      simp only [hull_Holds.l0]
      rw [if_pos (by omega), if_pos (by omega), if_pos (by omega), if_neg (by omega), rd_nxt h hl i hlt, if_pos (by omega), if_pos (by omega), rd28 h i hlt, hn, hT k hk, Option.bind_some, wrap_succ i (by omega)]
    by_cases h0 : turn h[i] (nxt h i) p < 0
    · refine ⟨false, ⟨12, fun k hk => ?_⟩, ?_⟩
      · obtain ⟨k, rfl⟩ : ∃ m, k = m + 1 := ⟨k - 1, by omega⟩
        dsimp only
        rw [hs k (by omega), if_pos h0]
      · exact ⟨fun h => by simp at h, fun h => absurd (h i (Nat.le_refl _) hlt) (by omega)⟩
    · refine ⟨r, ⟨K + 12, fun k hk => ?_⟩, ?_⟩
      · obtain ⟨k, rfl⟩ : ∃ m, k = m + 1 := ⟨k - 1, by omega⟩
        have := hr k (by omega)
        dsimp only at this ⊢
        rw [hs k (by omega), if_neg h0]
        exact this
      · rw [hrt]
        refine ⟨fun h' m h1 h2 => ?_, fun h' m h1 h2 => h' m (by omega) h2⟩
        rcases Nat.lt_or_eq_of_le h1 with h3 | h3
        · exact h' m h3 h2
        · subst h3; omega
theorem path_of_get {R : S28 → S28 → Prop} : ∀ {l : List S28}, (∀ (i : Nat) (h : i + 1 < l.length), R l[i] l[i + 1]) → Path R l
  | [], _ => trivial
  | [_], _ => trivial
  | a :: b :: t, hp => ⟨hp 0 (by simp), path_of_get (l := b :: t) (fun i h => hp (i + 1) (by simpa using h))⟩
theorem path_get' {R : S28 → S28 → Prop} : ∀ {l : List S28}, Path R l → ∀ (i : Nat) (h : i + 1 < l.length), R l[i] l[i + 1]
  | [], _, i, h => by simp at h
  | [_], _, i, h => by simp at h
  | a :: b :: t, hp, 0, h => hp.1
  | a :: b :: t, hp, i + 1, h => path_get' (l := b :: t) hp.2 i (by simpa using h)
theorem round_path (h0 : S28) (t : List S28) (R : S28 → S28 → Prop) : (∀ m, 0 ≤ m → (hm : m < (h0 :: t).length) → R (h0 :: t)[m] (nxt (h0 :: t) m)) ↔ Path R (h0 :: t ++ [h0]) := by
  have hnx : ∀ m, (hm : m < (h0 :: t).length) → nxt (h0 :: t) m = (h0 :: t ++ [h0])[m + 1]'(by simp at hm ⊢; omega) := by
    intro m hm
    unfold nxt
    rcases Nat.lt_or_ge (m + 1) (h0 :: t).length with h | h
    · rw [Nat.mod_eq_of_lt h, List.getD_eq_getElem?_getD, List.getElem?_eq_getElem h, List.getElem_append_left h]
      rfl
    · have e : m + 1 = (h0 :: t).length := by omega
      have e2 : (h0 :: t ++ [h0])[m + 1]'(by simp at hm ⊢; omega) = h0 := by
        rw [List.getElem_append_right (by omega)]; simp [e]
      rw [e2, e, Nat.mod_self]
      rfl
  constructor
  · intro h
    refine path_of_get (fun i hi => ?_)
    have hi' : i < (h0 :: t).length := by simp at hi ⊢; omega
    have := h i (Nat.zero_le _) hi'
    rw [hnx i hi'] at this
    rw [List.getElem_append_left hi']
    exact this
  · intro h m _ hm
    have := path_get' h m (by simp at hm ⊢; omega)
    rw [List.getElem_append_left hm] at this
    rw [hnx m hm]
    exact this
theorem nHolds (h : List S28) (hl : h.length ≤ 1000000) (p : S28) : ∃ r, Ev (fun k => hull_Holds.f k h p.f0 p.f1) r ∧ (r = true ↔ onG p ∧ (∀ q ∈ h, onG q) ∧ HullP h h ∧ Inside h p) := by
  by_cases hp : onG p
  · have hv : grid_Valid.f p.f0 p.f1 = some true := by rw [valid_vld, (vld_iff p).2 hp]
    -- the answer behind the comparison
    have hno : (∀ k, hull_Holds.j0 (k + 1) h true p.f0 p.f1 = some false) := by
      intro k
      simp only [hull_Holds.j0]
      rw [if_pos trivial]
    have hgo : ∀ h', Ev (fun k => hull_Of.f k h) h' → (r : Bool) → Ev (fun k => hull_Holds.j0 k h (!decide (h' = h)) p.f0 p.f1) r → Ev (fun k => hull_Holds.f k h p.f0 p.f1) r := by
      rintro h' ⟨K1, e1⟩ r ⟨K2, e2⟩
      have hl' : h'.length ≤ 1000000 ∨ True := .inr trivial
      by_cases hlen : h'.length = h.length
      · obtain ⟨K3, e3⟩ := equal h' h (by omega)
        refine ⟨K1 + K2 + K3, fun k hk => ?_⟩
        have a1 := e1 k (by omega)
        have a2 := e2 k (by omega)
        have a3 := e3 k (by omega)
        dsimp only at a1 a2 a3 ⊢
        unfold hull_Holds.f
        rw [hv, Option.bind_some, if_pos rfl, a1, Option.bind_some, a3, Option.bind_some]
        exact a2
      · refine ⟨K1 + K2, fun k hk => ?_⟩
        have a1 := e1 k (by omega)
        have a2 := e2 k (by omega)
        have a3 : api_Point_27.f k h' h = some (decide (h' = h)) := by
          unfold api_Point_27.f
          rw [if_neg (by omega), decide_eq_false (fun e => hlen (by rw [e]))]
        dsimp only at a1 a2 ⊢
        unfold hull_Holds.f
        rw [hv, Option.bind_some, if_pos rfl, a1, Option.bind_some, a3, Option.bind_some]
        exact a2
    by_cases hne : h = []
    · subst hne
      refine ⟨false, hgo [] ⟨0, fun k _ => nOf_nil k⟩ false ⟨1, fun k hk => ?_⟩, by simp [Inside]⟩
      obtain ⟨k, rfl⟩ : ∃ m, k = m + 1 := ⟨k - 1, by omega⟩
      simp only [hull_Holds.j0]
      rw [if_neg (by simp), if_pos (by simp)]
    · by_cases hg : ∀ q ∈ h, onG q
      · obtain ⟨h', he, hh'⟩ := nOf h hl hne hg
        by_cases heq : h' = h
        · rw [heq] at hh' he
          have hj : ∃ r, Ev (fun k => hull_Holds.j0 k h (!decide (h = h)) p.f0 p.f1) r ∧ (r = true ↔ Inside h p) := by
            match h, hne, hl, hg with
            | [a], _, hl, hg =>
              refine ⟨decide (p = a), ⟨1, fun k hk => ?_⟩, by simp [Inside]⟩
              obtain ⟨k, rfl⟩ : ∃ m, k = m + 1 := ⟨k - 1, by omega⟩
              simp only [hull_Holds.j0]
              rw [if_neg (by simp), if_neg (by simp), if_pos (by simp), if_pos (by simp)]
              have e : rd_T28 [a] 0 = a := rfl
              rw [e]
              congr 1
              rw [Bool.eq_iff_iff]
              simp
              exact ⟨fun h => s28_ext h.1 h.2, fun h => by rw [h]; exact ⟨rfl, rfl⟩⟩
            | [a, b], _, hl, hg =>
              have ha := hg a (by simp)
              have hb := hg b (by simp)
              obtain ⟨r, hr, hrt⟩ := nOn hp ha hb 11 (by omega)
              refine ⟨r, ⟨12, fun k hk => ?_⟩, hrt⟩
              obtain ⟨k, rfl⟩ : ∃ m, k = m + 1 := ⟨k - 1, by omega⟩
              obtain ⟨r', hr', hrt'⟩ := nOn hp ha hb k (by omega)
              have e3 : r' = r := by rw [Bool.eq_iff_iff, hrt, hrt']
              subst e3
              simp only [hull_Holds.j0]
              rw [if_neg (by simp), if_neg (by simp), if_neg (by simp), if_pos (by simp), if_pos (by simp), if_pos (by simp)]
              have e : rd_T28 [a, b] 0 = a := rfl
              have e' : rd_T28 [a, b] 1 = b := rfl
              rw [e, e', hr', Option.bind_some]
            | a :: b :: c :: t, _, hl, hg =>
              obtain ⟨r, ⟨K, hr⟩, hrt⟩ := nLoop (a :: b :: c :: t) hl hg hp (a :: b :: c :: t).length 0 (by omega) (by omega)
              refine ⟨r, ⟨K + 1, fun k hk => ?_⟩, ?_⟩
              · obtain ⟨k, rfl⟩ : ∃ m, k = m + 1 := ⟨k - 1, by omega⟩
                have := hr k (by omega)
                dsimp only at this
                simp only [hull_Holds.j0]
                rw [if_neg (by simp), if_neg (by simp; omega), if_neg (by simp; omega), if_neg (by simp; omega)]
                exact this
              · rw [hrt]
                exact round_path a (b :: c :: t) (fun x y => 0 ≤ turn x y p)
          obtain ⟨r, hr, hrt⟩ := hj
          exact ⟨r, hgo h he r hr, by rw [hrt]; exact ⟨fun h => ⟨hp, hg, hh', h⟩, fun h => h.2.2.2⟩⟩
        · refine ⟨false, hgo h' he false ⟨1, fun k hk => ?_⟩, ?_⟩
          · obtain ⟨k, rfl⟩ : ∃ m, k = m + 1 := ⟨k - 1, by omega⟩
            dsimp only
            rw [decide_eq_false heq]
            exact hno k
          · simp
            intro _ _ hh
            exact absurd (hull_unique hg hh' hh) heq
      · have hex : ∃ q ∈ h, ¬ onG q := by
          by_cases e : ∃ q ∈ h, ¬ onG q
          · exact e
          · exact absurd (fun q hq => Classical.byContradiction fun hn => e ⟨q, hq, hn⟩) hg
        refine ⟨false, hgo [] ⟨0, fun k _ => nOf_bad h hex k⟩ false ⟨1, fun k hk => ?_⟩, ?_⟩
        · obtain ⟨k, rfl⟩ : ∃ m, k = m + 1 := ⟨k - 1, by omega⟩
          dsimp only
          rw [decide_eq_false (fun e => hne e.symm)]
          exact hno k
        · simp
          intro _ h'
          exact absurd h' hg
  · have hv : grid_Valid.f p.f0 p.f1 = some false := by
      rw [valid_vld]; congr 1; rw [← Bool.not_eq_true, vld_iff]; exact hp
    refine ⟨false, ⟨1, fun k hk => ?_⟩, by simp [hp]⟩
    obtain ⟨k, rfl⟩ : ∃ m, k = m + 1 := ⟨k - 1, by omega⟩
    dsimp only
    unfold hull_Holds.f
    rw [hv, Option.bind_some, if_neg (by simp)]
    simp only [hull_Holds.j0]
    rw [if_pos trivial]
/-! the chapter's example -/
instance (p : S28) : Decidable (onG p) := by unfold onG; exact inferInstance
instance (p a b : S28) : Decidable (betw p a b) := by unfold betw; exact inferInstance
instance (l : List S28) (a b : S28) : Decidable (Side l a b) := by unfold Side; exact inferInstance
theorem lives_hull : HullP [⟨0, 0⟩, ⟨4, 0⟩, ⟨2, 1⟩, ⟨4, 4⟩, ⟨2, 0⟩] [⟨0, 0⟩, ⟨4, 0⟩, ⟨4, 4⟩] :=
  .more ⟨0, 0⟩ [⟨4, 0⟩, ⟨4, 4⟩] (by simp) (by decide) (by unfold code ofn; decide) ⟨by decide, by decide, by decide, trivial⟩ (by decide)
theorem livesAll : Ev (fun k => mapmakerlaw13_lives.f k) true := by
  obtain ⟨K1, e1⟩ := nOf_of (by simp) (by simp) (by decide) lives_hull
  obtain ⟨r2, ⟨K2, e2⟩, h2⟩ := nHolds [⟨0, 0⟩, ⟨4, 0⟩, ⟨4, 4⟩] (by simp) ⟨2, 2⟩
  obtain ⟨r3, ⟨K3, e3⟩, h3⟩ := nHolds [⟨0, 0⟩, ⟨4, 0⟩, ⟨4, 4⟩] (by simp) ⟨1, 2⟩
  have hr2 : r2 = true := h2.2 ⟨by decide, by decide, hull_hull lives_hull, ⟨by decide, by decide, by decide, trivial⟩⟩
  have hr3 : r3 = false := by
    rw [← Bool.not_eq_true, h3]
    rintro ⟨_, _, _, h⟩
    exact absurd h.2.2.1 (by decide)
  subst hr2
  subst hr3
  refine ⟨K1 + K2 + K3, fun k hk => ?_⟩
  have a1 := e1 k (by omega)
  have a2 := e2 k (by omega)
  have a3 := e3 k (by omega)
  dsimp only at a1 a2 a3 ⊢
  unfold mapmakerlaw13_lives.f
  rw [a1, Option.bind_some]
  have r0 : rd_T28 [⟨0, 0⟩, ⟨4, 0⟩, ⟨4, 4⟩] 0 = ⟨0, 0⟩ := rfl
  have r1 : rd_T28 [⟨0, 0⟩, ⟨4, 0⟩, ⟨4, 4⟩] 1 = ⟨4, 0⟩ := rfl
  have r2 : rd_T28 [⟨0, 0⟩, ⟨4, 0⟩, ⟨4, 4⟩] 2 = ⟨4, 4⟩ := rfl
  rw [if_pos (by simp), if_pos (by simp), r0, if_pos (by simp), if_pos (by simp), r1, if_pos (by simp), if_pos (by simp), r2, if_pos (by simp), a2, Option.bind_some, if_pos rfl, a3, Option.bind_some]
  rfl
end Go.Proofs.Ytnjkjafhmgcpnaa.Pure
