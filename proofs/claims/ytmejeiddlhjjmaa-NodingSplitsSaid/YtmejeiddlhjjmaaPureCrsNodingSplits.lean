/- The pairs that cross or overlap: the program's list is the reference's. -/
import Derived.Test.YtmejeiddlhjjmaaPureRelNodingSplits
namespace Go.Proofs.Ytmejeiddlhjjmaa.Pure
open Go.RowKit Go.Proofs.Ytmejeiddlhjjmaa.PNodingSplits Go.Proofs.YtmejeiddlhjjmaaW.PrintWords Go.Proofs.YtmejeiddlhjjmaaW.PrintLast
set_option linter.unusedVariables false
set_option linter.unusedSimpArgs false
noncomputable def hit (s t : S35) : Bool := @decide (X s t ∨ Ov s t) (Classical.propDecidable _)
theorem hit_iff (s t : S35) : hit s t = true ↔ X s t ∨ Ov s t := @decide_eq_true_iff _ (Classical.propDecidable _)
noncomputable def crossP : List S35 → List S36
 | [] => []
 | s :: ss => (ss.filter (hit s)).map (fun t => ⟨s, t⟩) ++ crossP ss
theorem nCross1 {s : S35} (hs : Seg s) (k : Nat) (hk : 100 < k) : ∀ (ts : List S35) (acc : List S36), (∀ t ∈ ts, Seg t) → acc.length + ts.length ≤ 100000 → noding_Crossings.l1 k s ts acc = some (acc ++ (ts.filter (hit s)).map (fun t => ⟨s, t⟩))
 | [], acc, _, _ => by simp [noding_Crossings.l1]
 | t :: ts, acc, hv, hl => by
  obtain ⟨r, h1, h2⟩ := nRel hs (hv t List.mem_cons_self) k hk
  unfold noding_Crossings.l1
  rw [h1, Option.bind_some, List.filter_cons]
  simp at hl
  by_cases c : hit s t = true
  ·rw [if_pos (h2.2 ((hit_iff s t).1 c)), if_pos (by omega), if_pos c, nCross1 hs k hk ts _ (fun t ht => hv t (List.mem_cons_of_mem _ ht)) (by simp; omega)]
   simp
  ·rw [if_neg (fun h => c ((hit_iff s t).2 (h2.1 h))), if_neg c, nCross1 hs k hk ts _ (fun t ht => hv t (List.mem_cons_of_mem _ ht)) (by omega)]
theorem nCross0 (k : Nat) (hk : 100 < k) : ∀ (u : List S35) (acc : List S36), (∀ t ∈ u, Seg t) → u.length ≤ 100 → acc.length + u.length * 100 ≤ 50000 → noding_Crossings.l0 k u acc = some (acc ++ crossP u)
 | [], acc, _, _, _ => by simp [noding_Crossings.l0, crossP]
 | s :: ss, acc, hv, hn, hl => by
  unfold noding_Crossings.l0 crossP
  simp at hn hl
  have hf := List.length_filter_le (hit s) ss
  rw [nCross1 (hv s List.mem_cons_self) k hk ss acc (fun t ht => hv t (List.mem_cons_of_mem _ ht)) (by omega), Option.bind_some, nCross0 k hk ss _ (fun t ht => hv t (List.mem_cons_of_mem _ ht)) (by omega) (by simp; omega)]
  simp
theorem rCross1 (u : List S35) (hv : ∀ t ∈ u, Seg t) (hn : u.length ≤ 100) (i : Nat) (hi : i < u.length) (B K : Nat) (hB : B ≤ 100000)
  (hnext : ∀ (k : Nat) (acc : List S36), K ≤ k → acc.length ≤ B → mapmakerref20_Crossings.l0 k u acc ((i + 1 : Nat) : Int) = some (acc ++ crossP (u.drop (i + 1)))) (d : Nat) :
  ∀ (k j : Nat) (acc : List S36), j ≤ u.length → u.length - j = d → K + d + 1 ≤ k → 102 + d ≤ k → acc.length + d ≤ B → mapmakerref20_Crossings.l1 k u acc (i : Int) (j : Int) = some (acc ++ ((u.drop j).filter (hit u[i])).map (fun t => ⟨u[i], t⟩) ++ crossP (u.drop (i + 1))) := by
 induction d with
 | zero =>
  intro k j acc hj hd hk hk2 hb
  cases k with
  | zero => omega
  | succ k =>
   simp only [mapmakerref20_Crossings.l1]
   rw [if_neg (by omega), wrap_succ i (by omega), hnext k acc (by omega) (by omega), List.drop_eq_nil_of_le (show u.length ≤ j by omega)]
   simp
 | succ d ih =>
  intro k j acc hj hd hk hk2 hb
  cases k with
  | zero => omega
  | succ k =>
   have hlt : j < u.length := by omega
   obtain ⟨r, h1, h2⟩ := rRel (hv u[i] (List.getElem_mem hi)) (hv u[j] (List.getElem_mem hlt)) k (by omega)
   simp only [mapmakerref20_Crossings.l1]
   rw [if_pos (by omega), if_pos (by omega), if_pos (by omega), if_pos (by omega), rd35 u i hi, rd35 u j hlt, h1, Option.bind_some, wrap_succ j (by omega), List.drop_eq_getElem_cons hlt, List.filter_cons]
   by_cases c : hit u[i] u[j] = true
   ·rw [if_pos (h2.2 ((hit_iff _ _).1 c)), if_pos (show acc.length < 2199023255552 by omega), if_pos c, ih k (j + 1) _ (by omega) (by omega) (by omega) (by omega) (by simp; omega)]
    simp only [List.map_cons, List.append_assoc, List.cons_append, List.nil_append]
   ·rw [if_neg (fun h => c ((hit_iff _ _).2 (h2.1 h))), if_neg c, ih k (j + 1) _ (by omega) (by omega) (by omega) (by omega) (by omega)]
theorem rCross0 (u : List S35) (hv : ∀ t ∈ u, Seg t) (hn : u.length ≤ 100) (d : Nat) : ∀ (k i : Nat) (acc : List S36), i ≤ u.length → u.length - i = d → 300 * d + 300 ≤ k → acc.length + d * 100 ≤ 50000 → mapmakerref20_Crossings.l0 k u acc (i : Int) = some (acc ++ crossP (u.drop i)) := by
 induction d with
 | zero =>
  intro k i acc hi hd hk hb
  cases k with
  | zero => omega
  | succ k =>
   simp only [mapmakerref20_Crossings.l0]
   rw [if_neg (by omega), List.drop_eq_nil_of_le (by omega)]
   simp [crossP]
 | succ d ih =>
  intro k i acc hi hd hk hb
  cases k with
  | zero => omega
  | succ k =>
   have hlt : i < u.length := by omega
   simp only [mapmakerref20_Crossings.l0]
   rw [if_pos (by omega), wrap_succ i (by omega)]
   have := rCross1 u hv hn i hlt (50000 - d * 100) (300 * d + 300) (by omega) (fun k acc hk hb => ih k (i + 1) acc (by omega) (by omega) hk (by omega)) (u.length - (i + 1)) k (i + 1) acc (by omega) rfl (by omega) (by omega) (by omega)
   rw [this, List.drop_eq_getElem_cons hlt]
   simp [crossP]
theorem seg_of {y : S35} (hg : goodS y = true) : Seg (ofS y) := by
 unfold goodS vB at hg
 simp at hg
 obtain ⟨hne, ⟨a1, a2, a3, a4⟩, b1, b2, b3, b4⟩ := hg
 have ha : onG y.f0 := ⟨a1, a2, a3, a4⟩
 have hb : onG y.f1 := ⟨b1, b2, b3, b4⟩
 have hcd : cd y.f0 ≠ cd y.f1 := fun e => by
  have := cd_inj ha hb e
  rcases hne with h | h <;> exact h (by rw [this])
 unfold ofS
 rw [lt_cd hb ha]
 by_cases c : cd y.f1 < cd y.f0
 ·rw [decide_eq_true c, if_pos rfl]; exact ⟨hb, ha, c⟩
 ·rw [decide_eq_false c, if_neg (by simp)]; exact ⟨ha, hb, by omega⟩
theorem canon_seg (l : List S35) : ∀ s ∈ canonP l, Seg s := by
 intro s hs
 unfold canonP at hs
 obtain ⟨y, hy, rfl⟩ := List.mem_map.1 hs
 exact seg_of (List.mem_filter.1 hy).2
theorem ddGo_sub : ∀ (l : List S35) (p : S35), ∀ x ∈ ddGo35 eqs35 p l, x ∈ l
 | [], p, x, h => h
 | y :: l, p, x, h => by
  rw [ddGo_cons] at h
  split at h
  ·exact List.mem_cons_of_mem _ (ddGo_sub l y x h)
  ·rcases List.mem_cons.1 h with rfl | h
   ·exact List.mem_cons_self
   ·exact List.mem_cons_of_mem _ (ddGo_sub l y x h)
theorem dd_sub (l : List S35) : ∀ x ∈ dd35 eqs35 l, x ∈ l := by
 cases l with
 | nil => intro x h; exact h
 | cons y l =>
  intro x h
  rcases List.mem_cons.1 (show x ∈ y :: ddGo35 eqs35 y l from h) with rfl | h
  ·exact List.mem_cons_self
  ·exact List.mem_cons_of_mem _ (ddGo_sub l y x h)
theorem ddGo_length : ∀ (l : List S35) (p : S35), (ddGo35 eqs35 p l).length ≤ l.length
 | [], p => Nat.le_refl _
 | y :: l, p => by
  rw [ddGo_cons]
  have := ddGo_length l y
  split <;> simp <;> omega
theorem dd_length (l : List S35) : (dd35 eqs35 l).length ≤ l.length := by
 cases l with
 | nil => exact Nat.le_refl _
 | cons y l => have := ddGo_length l y; show (y :: ddGo35 eqs35 y l).length ≤ _; simp; omega
theorem ddGo_mem : ∀ (l : List S35) (p : S35), ∀ x ∈ l, x ∈ p :: ddGo35 eqs35 p l
 | y :: l, p, x, h => by
  rw [ddGo_cons]
  by_cases e : eqs35 y p = true
  ·rw [if_pos e]
   have e' := (eqs35_iff _ _).1 e
   subst e'
   rcases List.mem_cons.1 h with rfl | h
   ·exact List.mem_cons_self
   ·exact ddGo_mem l y x h
  ·rw [if_neg e]
   rcases List.mem_cons.1 h with rfl | h
   ·exact List.mem_cons_of_mem _ List.mem_cons_self
   ·exact List.mem_cons_of_mem _ (ddGo_mem l y x h)
theorem dd_mem (l : List S35) : ∀ x ∈ l, x ∈ dd35 eqs35 l := by
 cases l with
 | nil => intro x h; exact h
 | cons y l =>
  intro x h
  rcases List.mem_cons.1 h with rfl | h
  ·exact List.mem_cons_self
  ·exact ddGo_mem l y x h
theorem unique_seg (l : List S35) : ∀ s ∈ dd35 eqs35 (sortS (canonP l)), Seg s := fun s hs => canon_seg l s ((sortS_perm _).mem_iff.1 (dd_sub _ s hs))
theorem unique_length (l : List S35) : (dd35 eqs35 (sortS (canonP l))).length ≤ l.length := by
 have := dd_length (sortS (canonP l)); rw [sortS_length] at this; have := canonP_length l; omega
theorem nCrossings (l : List S35) (hl : l.length ≤ 100) (k : Nat) (hk : 40000 < k) : noding_Crossings.f k l = some (crossP (dd35 eqs35 (sortS (canonP l)))) := by
 unfold noding_Crossings.f
 have := unique_length l
 rw [nUnique l (by omega) k (by omega), Option.bind_some, nCross0 k (by omega) _ [] (unique_seg l) (by omega) (by simp; omega)]
 simp
theorem rCrossings (l : List S35) (hl : l.length ≤ 100) (k : Nat) (hk : 40000 < k) : mapmakerref20_Crossings.f k l = some (crossP (dd35 eqs35 (sortS (canonP l)))) := by
 unfold mapmakerref20_Crossings.f
 have := unique_length l
 have h := rCross0 _ (unique_seg l) (by omega) (dd35 eqs35 (sortS (canonP l))).length k 0 [] (by omega) rfl (by omega) (by simp; omega)
 rw [rUnique l (by omega) k (by omega), Option.bind_some, show ((0 : Int)) = ((0 : Nat) : Int) from rfl, h]
 simp
theorem crossP_length : ∀ u : List S35, u.length ≤ 100 → (crossP u).length ≤ u.length * 100
 | [], _ => by simp [crossP]
 | s :: ss, h => by
  have := crossP_length ss (by simp at h; omega)
  have hf := List.length_filter_le (hit s) ss
  unfold crossP
  simp at h ⊢
  omega
theorem livesAll : mapmakerlaw20_lives.f 100 = some true := by decide +kernel
theorem few_some (l : List S35) : mapmakerlaw20_few.f l = some (decide ((l.length : Int) ≤ 24)) := rfl
end Go.Proofs.Ytmejeiddlhjjmaa.Pure
