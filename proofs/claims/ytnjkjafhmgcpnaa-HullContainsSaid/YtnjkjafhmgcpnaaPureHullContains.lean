/- A hull contains all points, its corners are among them, and the hull of the hull is the hull (at most 40 points). -/
import Derived.Test.YtnjkjafhmgcpnaaPureHoldsHullContains
namespace Go.Proofs.Ytnjkjafhmgcpnaa.Pure
open Go.RowKit Go.Proofs.Ytnjkjafhmgcpnaa.PHullContains Go.Proofs.YtnjkjafhmgcpnaaW.PrintWords Go.Proofs.YtnjkjafhmgcpnaaW.PrintLast
set_option linter.unusedVariables false
section
variable {l h : List S28} (hl : l.length ≤ 1000000) (hhl : h.length ≤ 1000000) (hg : ∀ q ∈ l, onG q) (hh : HullP l h)
include hl hhl hg hh
theorem cl1 (d : Nat) : ∀ i : Nat, i ≤ h.length → h.length - i = d → Ev (fun k => mapmakerlaw13_HullContains.l1 k l h (i : Int)) true := by
  induction d with
  | zero =>
    intro i hi hd
    obtain ⟨K0, e0⟩ := livesAll
    obtain ⟨K1, e1⟩ := nOf_of hhl (hull_ne hh) (fun q hq => hg q (hull_mem hh q hq)) (hull_hull hh)
    obtain ⟨K2, e2⟩ := rSame h h hhl
    refine ⟨K0 + K1 + K2 + 1, fun k hk => ?_⟩
    obtain ⟨k, rfl⟩ : ∃ m, k = m + 1 := ⟨k - 1, by omega⟩
    have a0 := e0 k (by omega)
    have a1 := e1 k (by omega)
    have a2 := e2 k (by omega)
    dsimp only at a0 a1 a2
    simp only [mapmakerlaw13_HullContains.l1]
    rw [if_neg (by omega), a1, Option.bind_some, a2, Option.bind_some, if_pos (by simp), a0]; rfl
  | succ d ih =>
    intro i hi hd
    have hlt : i < h.length := by omega
    obtain ⟨m, hm, hme⟩ := List.getElem_of_mem (hull_mem hh _ (List.getElem_mem hlt))
    have h2 : ∀ (e : Nat) (b : Bool) (j : Nat), j ≤ l.length → l.length - j = e → (b = true ∨ j ≤ m) → Ev (fun k => mapmakerlaw13_HullContains.l2 k l h (i : Int) b (j : Int)) true := by
      intro e
      induction e with
      | zero =>
        intro b j hj he hor
        have hb : b = true := by rcases hor with h | h; exact h; omega
        obtain ⟨K, ih⟩ := ih (i + 1) (by omega) (by omega)
        refine ⟨K + 1, fun k hk => ?_⟩
        obtain ⟨k, rfl⟩ : ∃ m, k = m + 1 := ⟨k - 1, by omega⟩
        have := ih k (by omega)
        dsimp only at this
        simp only [mapmakerlaw13_HullContains.l2]
        rw [if_neg (by omega), if_pos hb, wrap_succ i (by omega)]
        exact this
      | succ e ihe =>
        intro b j hj he hor
        have hjl : j < l.length := by omega
        by_cases hb : b = true
        · obtain ⟨K, ihe⟩ := ihe true (j + 1) (by omega) (by omega) (.inl rfl)
          refine ⟨K + 1, fun k hk => ?_⟩
          obtain ⟨k, rfl⟩ : ∃ m, k = m + 1 := ⟨k - 1, by omega⟩
          have := ihe k (by omega)
          dsimp only at this
          simp only [mapmakerlaw13_HullContains.l2]
          rw [if_pos (by omega), if_pos hb, wrap_succ j (by omega)]
          exact this
        · obtain ⟨K, ihe⟩ := ihe (l[j].f0 == h[i].f0 && (l[j].f1 == h[i].f1)) (j + 1) (by omega) (by omega) (by
            rcases hor with h' | h'
            · exact absurd h' hb
            · by_cases e' : j = m
              · subst e'; left; rw [hme]; simp
              · right; omega)
          refine ⟨K + 1, fun k hk => ?_⟩
          obtain ⟨k, rfl⟩ : ∃ m, k = m + 1 := ⟨k - 1, by omega⟩
          have := ihe k (by omega)
          dsimp only at this
          simp only [mapmakerlaw13_HullContains.l2]
          rw [if_pos (by omega), if_neg hb, if_pos (by omega), if_pos (by omega), if_pos (by omega), rd28 l j hjl, rd28 h i hlt, wrap_succ j (by omega)]
          exact this
    obtain ⟨K, h2⟩ := h2 l.length false 0 (by omega) (by omega) (.inr (by omega))
    refine ⟨K + 1, fun k hk => ?_⟩
    obtain ⟨k, rfl⟩ : ∃ m, k = m + 1 := ⟨k - 1, by omega⟩
    have := h2 k (by omega)
    dsimp only at this
    simp only [mapmakerlaw13_HullContains.l1]
    rw [if_pos (by omega)]
    exact this
theorem cl0 (d : Nat) : ∀ i : Nat, i ≤ l.length → l.length - i = d → Ev (fun k => mapmakerlaw13_HullContains.l0 k l h (i : Int)) true := by
  induction d with
  | zero =>
    intro i hi hd
    obtain ⟨K, e⟩ := cl1 hl hhl hg hh h.length 0 (by omega) (by omega)
    refine ⟨K + 1, fun k hk => ?_⟩
    obtain ⟨k, rfl⟩ : ∃ m, k = m + 1 := ⟨k - 1, by omega⟩
    have := e k (by omega)
    dsimp only at this
    simp only [mapmakerlaw13_HullContains.l0]
    rw [if_neg (by omega)]
    exact this
  | succ d ih =>
    intro i hi hd
    have hlt : i < l.length := by omega
    have hq := List.getElem_mem hlt
    obtain ⟨r, ⟨K1, e1⟩, hr⟩ := nHolds h hhl l[i]
    have hrt : r = true := hr.2 ⟨hg _ hq, fun q hq' => hg q (hull_mem hh q hq'), hull_hull hh, hull_inside hh hq⟩
    obtain ⟨K, ih⟩ := ih (i + 1) (by omega) (by omega)
    refine ⟨K + K1 + 1, fun k hk => ?_⟩
    obtain ⟨k, rfl⟩ : ∃ m, k = m + 1 := ⟨k - 1, by omega⟩
    have a1 := e1 k (by omega)
    have a2 := ih k (by omega)
    dsimp only at a1 a2
    simp only [mapmakerlaw13_HullContains.l0]
    rw [if_pos (by omega), if_pos (by omega), rd28 l i hlt, a1, Option.bind_some, if_pos hrt, wrap_succ i (by omega)]
    exact a2
end
theorem HullContains : mapmakerlaw13_HullContains.Pure := by
  intro l _
  obtain ⟨K0, e0⟩ := livesAll
  by_cases hl : (l.length : Int) > 40
  · refine ⟨K0, ?_⟩
    have := e0 K0 (Nat.le_refl _)
    dsimp only at this
    unfold mapmakerlaw13_HullContains.f
    rw [if_pos hl, this]; rfl
  · have hnil : Ev (fun k => hull_Of.f k l) [] → ∃ k, mapmakerlaw13_HullContains.f k l = some true := by
      rintro ⟨K1, e1⟩
      refine ⟨K0 + K1, ?_⟩
      have a0 := e0 (K0 + K1) (by omega)
      have a1 := e1 (K0 + K1) (by omega)
      dsimp only at a0 a1
      unfold mapmakerlaw13_HullContains.f
      rw [if_neg hl, a1, Option.bind_some, if_pos (by simp), a0]; rfl
    by_cases hne : l = []
    · subst hne
      exact hnil ⟨0, fun k _ => nOf_nil k⟩
    · by_cases hg : ∀ q ∈ l, onG q
      · obtain ⟨h, ⟨K1, e1⟩, hh⟩ := nOf l (by omega) hne hg
        have hlen := hull_len hg hh
        obtain ⟨K2, e2⟩ := cl0 (by omega) (by omega) hg hh l.length 0 (by omega) (by omega)
        refine ⟨K1 + K2, ?_⟩
        have a1 := e1 (K1 + K2) (by omega)
        have a2 := e2 (K1 + K2) (by omega)
        dsimp only at a1 a2
        unfold mapmakerlaw13_HullContains.f
        rw [if_neg hl, a1, Option.bind_some, if_neg (by have := List.length_pos_iff.2 (hull_ne hh); omega)]
        exact a2
      · have hex : ∃ q ∈ l, ¬ onG q := by
          by_cases e : ∃ q ∈ l, ¬ onG q
          · exact e
          · exact absurd (fun q hq => Classical.byContradiction fun hn => e ⟨q, hq, hn⟩) hg
        exact hnil ⟨0, fun k _ => nOf_bad l hex k⟩
end Go.Proofs.Ytnjkjafhmgcpnaa.Pure
