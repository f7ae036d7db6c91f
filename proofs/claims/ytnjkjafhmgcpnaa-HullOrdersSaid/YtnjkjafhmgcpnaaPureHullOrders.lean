/- The order and repetitions of the points do not matter, and a point that the hull contains changes nothing (at most 40 points). -/
import Derived.Test.YtnjkjafhmgcpnaaPureHoldsHullOrders
namespace Go.Proofs.Ytnjkjafhmgcpnaa.Pure
open Go.RowKit Go.Proofs.Ytnjkjafhmgcpnaa.PHullOrders Go.Proofs.YtnjkjafhmgcpnaaW.PrintWords Go.Proofs.YtnjkjafhmgcpnaaW.PrintLast
set_option linter.unusedVariables false
/-- Each point twice, from the last one on. -/
def twice : List S28 → List S28
  | [] => []
  | x :: l => twice l ++ [x, x]
theorem twice_mem : ∀ (l : List S28) (x : S28), x ∈ twice l ↔ x ∈ l
  | [], x => by simp [twice]
  | y :: l, x => by simp [twice, twice_mem l]; exact Or.comm
theorem twice_len : ∀ l : List S28, (twice l).length = 2 * l.length
  | [] => rfl
  | x :: l => by simp [twice, twice_len l]; omega
section
variable {l h : List S28} {p : S28} (hl : l.length ≤ 40) (hhl : h.length ≤ 40)
  (hof : Ev (fun k => hull_Of.f k (twice l)) h) (hmore : onG p ∧ (∀ q ∈ h, onG q) ∧ HullP h h ∧ Inside h p → Ev (fun k => hull_Of.f k (twice l ++ [p])) h)
include hl hhl hof hmore
theorem oEnd : Ev (fun k => mapmakerlaw13_HullOrders.l0 k l h (twice l) (-1) p.f0 p.f1) true := by
  obtain ⟨K0, e0⟩ := livesAll
  obtain ⟨K1, e1⟩ := hof
  obtain ⟨K2, e2⟩ := rSame h h (by omega)
  obtain ⟨r, ⟨K3, e3⟩, hr⟩ := nHolds h (by omega) p
  have htl := twice_len l
  by_cases hb : r = true
  · obtain ⟨K4, e4⟩ := hmore (hr.1 hb)
    refine ⟨K0 + K1 + K2 + K3 + K4 + 1, fun k hk => ?_⟩
    obtain ⟨k, rfl⟩ : ∃ m, k = m + 1 := ⟨k - 1, by omega⟩
    have a0 := e0 k (by omega)
    have a1 := e1 k (by omega)
    have a2 := e2 k (by omega)
    have a3 := e3 k (by omega)
    have a4 := e4 k (by omega)
    dsimp only at a0 a1 a2 a3 a4
    simp only [mapmakerlaw13_HullOrders.l0]
    have e : (⟨p.f0, p.f1⟩ : S28) = p := rfl
    rw [if_neg (by omega), a1, Option.bind_some, a2, Option.bind_some, if_pos (by simp), a3, Option.bind_some, if_pos hb, if_pos (by omega), e, a4, Option.bind_some, a2, Option.bind_some, if_pos (by simp), a0]; rfl
  · refine ⟨K0 + K1 + K2 + K3 + 1, fun k hk => ?_⟩
    obtain ⟨k, rfl⟩ : ∃ m, k = m + 1 := ⟨k - 1, by omega⟩
    have a0 := e0 k (by omega)
    have a1 := e1 k (by omega)
    have a2 := e2 k (by omega)
    have a3 := e3 k (by omega)
    dsimp only at a0 a1 a2 a3
    simp only [mapmakerlaw13_HullOrders.l0]
    rw [if_neg (by omega), a1, Option.bind_some, a2, Option.bind_some, if_pos (by simp), a3, Option.bind_some, if_neg hb, a0]; rfl
theorem oLoop : ∀ (i : Nat), i ≤ l.length → Ev (fun k => mapmakerlaw13_HullOrders.l0 k l h (twice (l.drop i)) ((i : Int) - 1) p.f0 p.f1) true
  | 0, _ => by
    have := oEnd hl hhl hof hmore
    rw [List.drop_zero]
    exact this
  | i + 1, hi => by
    have hlt : i < l.length := by omega
    obtain ⟨K, e⟩ := oLoop i (by omega)
    refine ⟨K + 1, fun k hk => ?_⟩
    obtain ⟨k, rfl⟩ : ∃ m, k = m + 1 := ⟨k - 1, by omega⟩
    have a := e k (by omega)
    dsimp only at a
    have htl := twice_len (l.drop (i + 1))
    rw [List.length_drop] at htl
    have hidx : ((i + 1 : Nat) : Int) - 1 = (i : Int) := by omega
    rw [List.drop_eq_getElem_cons hlt] at a
    simp only [mapmakerlaw13_HullOrders.l0]
    have e1 : (⟨l[i].f0, l[i].f1⟩ : S28) = l[i] := rfl
    rw [hidx, if_pos (by omega), if_pos (by omega), if_pos (by omega), if_pos (by omega), Option.bind_some, if_pos (by simp; omega), rd28 l i hlt, e1, wrapI (by omega), List.append_assoc]
    exact a
end
theorem HullOrders : mapmakerlaw13_HullOrders.Pure := by
  intro l p _ _
  obtain ⟨K0, e0⟩ := livesAll
  by_cases hl : (l.length : Int) > 40
  · refine ⟨K0, ?_⟩
    have := e0 K0 (Nat.le_refl _)
    dsimp only at this
    unfold mapmakerlaw13_HullOrders.f
    rw [if_pos hl, this]; rfl
  · have htl := twice_len l
    have hgo : ∀ h : List S28, h.length ≤ 40 → Ev (fun k => hull_Of.f k l) h → Ev (fun k => hull_Of.f k (twice l)) h → (onG p ∧ (∀ q ∈ h, onG q) ∧ HullP h h ∧ Inside h p → Ev (fun k => hull_Of.f k (twice l ++ [p])) h) → ∃ k, mapmakerlaw13_HullOrders.f k l p.f0 p.f1 = some true := by
      rintro h hhl ⟨K1, e1⟩ h2 h3
      obtain ⟨K2, e2⟩ := oLoop (by omega) hhl h2 h3 l.length (Nat.le_refl _)
      refine ⟨K1 + K2, ?_⟩
      have a1 := e1 (K1 + K2) (by omega)
      have a2 := e2 (K1 + K2) (by omega)
      dsimp only at a1 a2
      rw [List.drop_eq_nil_of_le (by omega)] at a2
      unfold mapmakerlaw13_HullOrders.f
      rw [if_neg hl, a1, Option.bind_some, wrapI (by omega)]
      exact a2
    by_cases hne : l = []
    · subst hne
      exact hgo [] (by simp) ⟨0, fun k _ => nOf_nil k⟩ ⟨0, fun k _ => nOf_nil k⟩ (fun h => h.2.2.2.elim)
    · by_cases hg : ∀ q ∈ l, onG q
      · obtain ⟨h, he, hh⟩ := nOf l (by omega) hne hg
        have hlen := hull_len hg hh
        have hs : ∀ x, x ∈ l ↔ x ∈ twice l := fun x => (twice_mem l x).symm
        have hg2 : ∀ q ∈ twice l, onG q := fun q hq => hg q ((hs q).2 hq)
        have hne2 : twice l ≠ [] := fun e => by rw [e] at htl; have := List.length_pos_iff.2 hne; simp at htl; omega
        refine hgo h (by omega) he (nOf_of (by omega) hne2 hg2 (hull_same hs hh)) (fun hi => ?_)
        have h3 := hull_add hg2 (hull_same hs hh) hi.1 hi.2.2.2
        have h4 : HullP (twice l ++ [p]) h := hull_same (fun x => by simp; exact Or.comm) h3
        exact nOf_of (by simp; omega) (by simp) (fun q hq => by
          rcases List.mem_append.1 hq with hq | hq
          · exact hg2 q hq
          · rw [List.mem_singleton.1 hq]; exact hi.1) h4
      · have hex : ∃ q ∈ l, ¬ onG q := by
          by_cases e : ∃ q ∈ l, ¬ onG q
          · exact e
          · exact absurd (fun q hq => Classical.byContradiction fun hn => e ⟨q, hq, hn⟩) hg
        obtain ⟨q, hq, hv⟩ := hex
        exact hgo [] (by simp) ⟨0, fun k _ => nOf_bad l ⟨q, hq, hv⟩ k⟩ ⟨0, fun k _ => nOf_bad _ ⟨q, (twice_mem l q).2 hq, hv⟩ k⟩ (fun h => h.2.2.2.elim)
end Go.Proofs.Ytnjkjafhmgcpnaa.Pure
