/- The pairs that cross or overlap: the program's list is the reference's. -/
import Derived.Test.YtmejeiddlhjjmaaPureRelNodingClean
namespace Go.Proofs.Ytmejeiddlhjjmaa.Pure
open Go.RowKit Go.Proofs.Ytmejeiddlhjjmaa.PNodingClean Go.Proofs.YtmejeiddlhjjmaaW.PrintWords Go.Proofs.YtmejeiddlhjjmaaW.PrintLast
set_option linter.unusedVariables false
set_option linter.unusedSimpArgs false

noncomputable def hit (s t : S35) : Bool := @decide (X s t ∨ Ov s t) (Classical.propDecidable _)
theorem hit_iff (s t : S35) : hit s t = true ↔ X s t ∨ Ov s t := @decide_eq_true_iff _ (Classical.propDecidable _)
noncomputable def crossP : List S35 → List S36
  | [] => []
  | s :: ss => (ss.filter (hit s)).map (fun t => ⟨s, t⟩) ++ crossP ss
theorem nCross1 {s : S35} (hs : Seg s) (k : Nat) (hk : 100 < k) : ∀ (ts : List S35) (acc : List S36), (∀ t ∈ ts, Seg t) → acc.length + ts.length ≤ 100000 → noding_Crossings.l1 k s ts acc = some (acc ++ (ts.filter (hit s)).map (fun t => ⟨s, t⟩))
  | [], acc, _, _ => by simp [noding_Crossings.l1]
  | t :: ts, acc, hv, hl => by
    obtain ⟨r, h1, h2⟩ := nRel hs (hv t List.mem_cons_self) k hk
    unfold noding_Crossings.l1
    rw [h1, Option.bind_some, List.filter_cons]
    simp at hl
    by_cases c : hit s t = true
    · rw [if_pos (h2.2 ((hit_iff s t).1 c)), if_pos (by omega), if_pos c, nCross1 hs k hk ts _ (fun t ht => hv t (List.mem_cons_of_mem _ ht)) (by simp; omega)]
      simp
    · rw [if_neg (fun h => c ((hit_iff s t).2 (h2.1 h))), if_neg c, nCross1 hs k hk ts _ (fun t ht => hv t (List.mem_cons_of_mem _ ht)) (by omega)]
theorem nCross0 (k : Nat) (hk : 100 < k) : ∀ (u : List S35) (acc : List S36), (∀ t ∈ u, Seg t) → u.length ≤ 100 → acc.length + u.length * 100 ≤ 50000 → noding_Crossings.l0 k u acc = some (acc ++ crossP u)
  | [], acc, _, _, _ => by simp [noding_Crossings.l0, crossP]
  | s :: ss, acc, hv, hn, hl => by
    unfold noding_Crossings.l0 crossP
    simp at hn hl
    have hf := List.length_filter_le (hit s) ss
    rw [nCross1 (hv s List.mem_cons_self) k hk ss acc (fun t ht => hv t (List.mem_cons_of_mem _ ht)) (by omega), Option.bind_some, nCross0 k hk ss _ (fun t ht => hv t (List.mem_cons_of_mem _ ht)) (by omega) (by simp; omega)]
    simp
theorem seg_of {y : S35} (hg : goodS y = true) : Seg (ofS y) := by
  unfold goodS vB at hg
  simp at hg
  obtain ⟨hne, ⟨a1, a2, a3, a4⟩, b1, b2, b3, b4⟩ := hg
  have ha : onG y.f0 := ⟨a1, a2, a3, a4⟩
  have hb : onG y.f1 := ⟨b1, b2, b3, b4⟩
  have hcd : cd y.f0 ≠ cd y.f1 := fun e => by
    have := cd_inj ha hb e
    rcases hne with h | h <;> exact h (by rw [this])
  unfold ofS
  rw [lt_cd hb ha]
  by_cases c : cd y.f1 < cd y.f0
  · rw [decide_eq_true c, if_pos rfl]; exact ⟨hb, ha, c⟩
  · rw [decide_eq_false c, if_neg (by simp)]; exact ⟨ha, hb, by omega⟩
theorem canon_seg (l : List S35) : ∀ s ∈ canonP l, Seg s := by
  intro s hs
  unfold canonP at hs
  obtain ⟨y, hy, rfl⟩ := List.mem_map.1 hs
  exact seg_of (List.mem_filter.1 hy).2
theorem ddGo_sub : ∀ (l : List S35) (p : S35), ∀ x ∈ ddGo35 eqs35 p l, x ∈ l
  | [], p, x, h => h
  | y :: l, p, x, h => by
    rw [ddGo_cons] at h
    split at h
    · exact List.mem_cons_of_mem _ (ddGo_sub l y x h)
    · rcases List.mem_cons.1 h with rfl | h
      · exact List.mem_cons_self
      · exact List.mem_cons_of_mem _ (ddGo_sub l y x h)
theorem dd_sub (l : List S35) : ∀ x ∈ dd35 eqs35 l, x ∈ l := by
  cases l with
  | nil => intro x h; exact h
  | cons y l =>
    intro x h
    rcases List.mem_cons.1 (show x ∈ y :: ddGo35 eqs35 y l from h) with rfl | h
    · exact List.mem_cons_self
    · exact List.mem_cons_of_mem _ (ddGo_sub l y x h)
theorem ddGo_length : ∀ (l : List S35) (p : S35), (ddGo35 eqs35 p l).length ≤ l.length
  | [], p => Nat.le_refl _
  | y :: l, p => by
    rw [ddGo_cons]
    have := ddGo_length l y
    split <;> simp <;> omega
theorem dd_length (l : List S35) : (dd35 eqs35 l).length ≤ l.length := by
  cases l with
  | nil => exact Nat.le_refl _
  | cons y l => have := ddGo_length l y; show (y :: ddGo35 eqs35 y l).length ≤ _; simp; omega
theorem ddGo_mem : ∀ (l : List S35) (p : S35), ∀ x ∈ l, x ∈ p :: ddGo35 eqs35 p l
  | y :: l, p, x, h => by
    rw [ddGo_cons]
    by_cases e : eqs35 y p = true
    · rw [if_pos e]
      have e' := (eqs35_iff _ _).1 e
      subst e'
      rcases List.mem_cons.1 h with rfl | h
      · exact List.mem_cons_self
      · exact ddGo_mem l y x h
    · rw [if_neg e]
      rcases List.mem_cons.1 h with rfl | h
      · exact List.mem_cons_of_mem _ List.mem_cons_self
      · exact List.mem_cons_of_mem _ (ddGo_mem l y x h)
theorem dd_mem (l : List S35) : ∀ x ∈ l, x ∈ dd35 eqs35 l := by
  cases l with
  | nil => intro x h; exact h
  | cons y l =>
    intro x h
    rcases List.mem_cons.1 h with rfl | h
    · exact List.mem_cons_self
    · exact ddGo_mem l y x h
theorem unique_seg (l : List S35) : ∀ s ∈ dd35 eqs35 (sortS (canonP l)), Seg s := fun s hs => canon_seg l s ((sortS_perm _).mem_iff.1 (dd_sub _ s hs))
theorem unique_length (l : List S35) : (dd35 eqs35 (sortS (canonP l))).length ≤ l.length := by
  have := dd_length (sortS (canonP l)); rw [sortS_length] at this; have := canonP_length l; omega
theorem nCrossings (l : List S35) (hl : l.length ≤ 100) (k : Nat) (hk : 40000 < k) : noding_Crossings.f k l = some (crossP (dd35 eqs35 (sortS (canonP l)))) := by
  unfold noding_Crossings.f
  have := unique_length l
  rw [nUnique l (by omega) k (by omega), Option.bind_some, nCross0 k (by omega) _ [] (unique_seg l) (by omega) (by simp; omega)]
  simp
theorem livesAll : mapmakerlaw20_lives.f 100 = some true := by decide +kernel
theorem few_some (l : List S35) : mapmakerlaw20_few.f l = some (decide ((l.length : Int) ≤ 24)) := rfl
end Go.Proofs.Ytmejeiddlhjjmaa.Pure
