/- Holds reports whether any hull contains any point, and false for lists that are no hulls (at most 40 points). -/
import Derived.Test.YtnjkjafhmgcpnaaPureRefHullHolds
import Derived.Test.YtnjkjafhmgcpnaaPureHoldsHullHolds
namespace Go.Proofs.Ytnjkjafhmgcpnaa.Pure
open Go.RowKit Go.Proofs.Ytnjkjafhmgcpnaa.PHullHolds Go.Proofs.YtnjkjafhmgcpnaaW.PrintWords Go.Proofs.YtnjkjafhmgcpnaaW.PrintLast
set_option linter.unusedVariables false
theorem rLoop (h : List S28) (hl : h.length ≤ 1000000) (hg : ∀ q ∈ h, onG q) {p : S28} (hp : onG p) (d : Nat) : ∀ i : Nat, i ≤ h.length → h.length - i = d → ∃ r, Ev (fun k => mapmakerref13_Holds.l0 k h (i : Int) p.f0 p.f1) r ∧ (r = true ↔ ∀ m, i ≤ m → (hm : m < h.length) → 0 ≤ turn h[m] (nxt h m) p) := by
  induction d with
  | zero =>
    intro i hi hd
    refine ⟨true, ⟨1, fun k hk => ?_⟩, by simp; intro m h1 h2; omega⟩
    obtain ⟨k, rfl⟩ : ∃ m, k = m + 1 := ⟨k - 1, by omega⟩
    simp only [mapmakerref13_Holds.l0]
    rw [if_neg (by omega)]
  | succ d ih =>
    intro i hi hd
    have hlt : i < h.length := by omega
    obtain ⟨r, ⟨K, hr⟩, hrt⟩ := ih (i + 1) (by omega) (by omega)
    have hmod : (i + 1) % h.length < h.length := Nat.mod_lt _ (by omega)
    have hn : rd_T28 h (((i + 1) % h.length : Nat) : Int) = nxt h i := by unfold rd_T28 nxt; rw [Int.toNat_natCast]
    have hng : onG (nxt h i) := by unfold nxt; rw [List.getD_eq_getElem?_getD, List.getElem?_eq_getElem hmod]; exact hg _ (List.getElem_mem hmod)
    have hT := rTurn (hg _ (List.getElem_mem hlt)) hng hp
    have hs : ∀ k, mapmakerref13_Holds.l0 (k + 1) h (i : Int) p.f0 p.f1 = if turn h[i] (nxt h i) p < 0 then some false else mapmakerref13_Holds.l0 k h ((i + 1 : Nat) : Int) p.f0 p.f1 := by
      intro k
      simp only [mapmakerref13_Holds.l0]
      rw [if_pos (by omega), if_pos (by omega), if_neg (by omega), rd_nxt h hl i hlt, if_pos (by omega), if_pos (by omega), rd28 h i hlt, hn, hT, Option.bind_some, wrap_succ i (by omega)]
    by_cases h0 : turn h[i] (nxt h i) p < 0
    · refine ⟨false, ⟨1, fun k hk => ?_⟩, ?_⟩
      · obtain ⟨k, rfl⟩ : ∃ m, k = m + 1 := ⟨k - 1, by omega⟩
        dsimp only
        rw [hs k, if_pos h0]
      · exact ⟨fun h => by simp at h, fun h => absurd (h i (Nat.le_refl _) hlt) (by omega)⟩
    · refine ⟨r, ⟨K + 1, fun k hk => ?_⟩, ?_⟩
      · obtain ⟨k, rfl⟩ : ∃ m, k = m + 1 := ⟨k - 1, by omega⟩
        have := hr k (by omega)
        dsimp only at this ⊢
        rw [hs k, if_neg h0]
        exact this
      · rw [hrt]
        refine ⟨fun h' m h1 h2 => ?_, fun h' m h1 h2 => h' m (by omega) h2⟩
        rcases Nat.lt_or_eq_of_le h1 with h3 | h3
        · exact h' m h3 h2
        · subst h3; omega
theorem rHolds (h : List S28) (hl : h.length ≤ 1000000) (p : S28) : ∃ r, Ev (fun k => mapmakerref13_Holds.f k h p.f0 p.f1) r ∧ (r = true ↔ onG p ∧ (∀ q ∈ h, onG q) ∧ HullP h h ∧ Inside h p) := by
  have hno : (∀ k, mapmakerref13_Holds.j0 (k + 1) h true p.f0 p.f1 = some false) := by
    intro k
    simp only [mapmakerref13_Holds.j0]
    rw [if_pos trivial]
  by_cases hne : h = []
  · subst hne
    refine ⟨false, ⟨1, fun k hk => ?_⟩, by simp [Inside]⟩
    obtain ⟨k, rfl⟩ : ∃ m, k = m + 1 := ⟨k - 1, by omega⟩
    dsimp only
    unfold mapmakerref13_Holds.f
    rw [if_pos (by simp)]
    exact hno k
  have hlen : ¬ (h.length : Int) = 0 := by have := List.length_pos_iff.2 hne; omega
  by_cases hp : onG p
  · have hv : mapmakerref13_valid.f p.f0 p.f1 = some true := by rw [rValid_some, (vld_iff p).2 hp]
    have hgo : ∀ h', Ev (fun k => mapmakerref13_Of.f k h) h' → (r : Bool) → Ev (fun k => mapmakerref13_Holds.j0 k h (!decide (h' = h)) p.f0 p.f1) r → Ev (fun k => mapmakerref13_Holds.f k h p.f0 p.f1) r := by
      rintro h' ⟨K1, e1⟩ r ⟨K2, e2⟩
      have h3 : Ev (fun k => mapmakerref13_Same.f k h' h) (decide (h' = h)) := by
        by_cases hlen : h'.length = h.length
        · exact rSame h' h (by omega)
        · refine ⟨0, fun k _ => ?_⟩
          dsimp only
          unfold mapmakerref13_Same.f
          rw [if_neg (by omega), decide_eq_false (fun e => hlen (by rw [e]))]
      obtain ⟨K3, e3⟩ := h3
      refine ⟨K1 + K2 + K3, fun k hk => ?_⟩
      have a1 := e1 k (by omega)
      have a2 := e2 k (by omega)
      have a3 := e3 k (by omega)
      dsimp only at a1 a2 a3 ⊢
      unfold mapmakerref13_Holds.f
      rw [if_neg hlen, hv, Option.bind_some, if_pos rfl, a1, Option.bind_some, a3, Option.bind_some]
      exact a2
    by_cases hg : ∀ q ∈ h, onG q
    · obtain ⟨h', he0, hh'⟩ := nOf h hl hne hg
      have he := rOf hl hne hg hh'
      by_cases heq : h' = h
      · rw [heq] at hh' he
        have hj : ∃ r, Ev (fun k => mapmakerref13_Holds.j0 k h (!decide (h = h)) p.f0 p.f1) r ∧ (r = true ↔ Inside h p) := by
          match h, hne, hl, hg with
          | [a], _, hl, hg =>
            refine ⟨decide (p = a), ⟨1, fun k hk => ?_⟩, by simp [Inside]⟩
            obtain ⟨k, rfl⟩ : ∃ m, k = m + 1 := ⟨k - 1, by omega⟩
            simp only [mapmakerref13_Holds.j0]
            rw [if_neg (by simp), if_pos (by simp), if_pos (by simp)]
            have e : rd_T28 [a] 0 = a := rfl
            rw [e]
            congr 1
            rw [Bool.eq_iff_iff]
            simp
            exact ⟨fun h => s28_ext h.1.symm h.2.symm, fun h => by rw [h]; exact ⟨rfl, rfl⟩⟩
          | [a, b], _, hl, hg =>
            obtain ⟨r, hr, hrt⟩ := rBetw hp (hg a (by simp)) (hg b (by simp))
            refine ⟨r, ⟨1, fun k hk => ?_⟩, hrt⟩
            obtain ⟨k, rfl⟩ : ∃ m, k = m + 1 := ⟨k - 1, by omega⟩
            simp only [mapmakerref13_Holds.j0]
            rw [if_neg (by simp), if_neg (by simp), if_pos (by simp), if_pos (by simp), if_pos (by simp)]
            have e : rd_T28 [a, b] 0 = a := rfl
            have e' : rd_T28 [a, b] 1 = b := rfl
            rw [e, e', hr, Option.bind_some]
          | a :: b :: c :: t, _, hl, hg =>
            obtain ⟨r, ⟨K, hr⟩, hrt⟩ := rLoop (a :: b :: c :: t) hl hg hp (a :: b :: c :: t).length 0 (by omega) (by omega)
            refine ⟨r, ⟨K + 1, fun k hk => ?_⟩, ?_⟩
            · obtain ⟨k, rfl⟩ : ∃ m, k = m + 1 := ⟨k - 1, by omega⟩
              have := hr k (by omega)
              dsimp only at this
              simp only [mapmakerref13_Holds.j0]
              rw [if_neg (by simp), if_neg (by simp; omega), if_neg (by simp; omega)]
              exact this
            · rw [hrt]
              exact round_path a (b :: c :: t) (fun x y => 0 ≤ turn x y p)
        obtain ⟨r, hr, hrt⟩ := hj
        exact ⟨r, hgo h he r hr, by rw [hrt]; exact ⟨fun h => ⟨hp, hg, hh', h⟩, fun h => h.2.2.2⟩⟩
      · refine ⟨false, hgo h' he false ⟨1, fun k hk => ?_⟩, ?_⟩
        · obtain ⟨k, rfl⟩ : ∃ m, k = m + 1 := ⟨k - 1, by omega⟩
          dsimp only
          rw [decide_eq_false heq]
          exact hno k
        · simp
          intro _ _ hh
          exact absurd (hull_unique hg hh' hh) heq
    · have hex : ∃ q ∈ h, ¬ onG q := by
        by_cases e : ∃ q ∈ h, ¬ onG q
        · exact e
        · exact absurd (fun q hq => Classical.byContradiction fun hn => e ⟨q, hq, hn⟩) hg
      refine ⟨false, hgo [] (rOf_bad h hl hex) false ⟨1, fun k hk => ?_⟩, ?_⟩
      · obtain ⟨k, rfl⟩ : ∃ m, k = m + 1 := ⟨k - 1, by omega⟩
        dsimp only
        rw [decide_eq_false (fun e => hne e.symm)]
        exact hno k
      · simp
        intro _ h'
        exact absurd h' hg
  · have hv : mapmakerref13_valid.f p.f0 p.f1 = some false := by
      rw [rValid_some]; congr 1; rw [← Bool.not_eq_true, vld_iff]; exact hp
    refine ⟨false, ⟨1, fun k hk => ?_⟩, by simp [hp]⟩
    obtain ⟨k, rfl⟩ : ∃ m, k = m + 1 := ⟨k - 1, by omega⟩
    dsimp only
    unfold mapmakerref13_Holds.f
    rw [if_neg hlen, hv, Option.bind_some, if_neg (by simp)]
    exact hno k
theorem HullHolds : mapmakerlaw13_HullHolds.Pure := by
  intro l p _ _
  obtain ⟨K0, e0⟩ := livesAll
  by_cases hl : (l.length : Int) > 40
  · refine ⟨K0, ?_⟩
    have := e0 K0 (Nat.le_refl _)
    dsimp only at this
    unfold mapmakerlaw13_HullHolds.f
    rw [if_pos hl, this]; rfl
  · obtain ⟨r1, ⟨K1, e1⟩, h1⟩ := nHolds l (by omega) p
    obtain ⟨r2, ⟨K2, e2⟩, h2⟩ := rHolds l (by omega) p
    have e : r1 = r2 := by rw [Bool.eq_iff_iff, h1, h2]
    refine ⟨K0 + K1 + K2, ?_⟩
    have a0 := e0 (K0 + K1 + K2) (by omega)
    have a1 := e1 (K0 + K1 + K2) (by omega)
    have a2 := e2 (K0 + K1 + K2) (by omega)
    dsimp only at a0 a1 a2
    unfold mapmakerlaw13_HullHolds.f
    rw [if_neg hl, a1, Option.bind_some, a2, Option.bind_some, if_pos (by rw [e]; simp), a0]; rfl
end Go.Proofs.Ytnjkjafhmgcpnaa.Pure
