/- NodingSorts: Of, Sort, Unique and Odd return what the reference returns. -/
import Derived.Test.YtmejeiddlhjjmaaPureCoreNodingSorts
namespace Go.Proofs.Ytmejeiddlhjjmaa.Pure
open Go.RowKit Go.Proofs.Ytmejeiddlhjjmaa.PNodingSorts Go.Proofs.YtmejeiddlhjjmaaW.PrintWords Go.Proofs.YtmejeiddlhjjmaaW.PrintLast
set_option linter.unusedVariables false
set_option linter.unusedSimpArgs false

/-! Odd -/
theorem eqP (x y : S35) : ((((x.f0.f0) == y.f0.f0 && ((x.f0.f1) == y.f0.f1)) && (((x.f1.f0) == y.f1.f0 && ((x.f1.f1) == y.f1.f1)))) = true) ↔ x = y := by
  rw [← eqs35_iff]; rfl
theorem rTimes0 (l : List S35) (y : S35) (hl : l.length ≤ 1000000) (d : Nat) : ∀ (k : Nat) (i : Nat) (n : Nat), i ≤ l.length → l.length - i = d → d < k → n ≤ i → mapmakerref20_times.l0 k l (n : Int) (i : Int) y.f0.f0 y.f0.f1 y.f1.f0 y.f1.f1 = some ((n + (l.drop i).count y : Nat) : Int) := by
  induction d with
  | zero =>
    intro k i n hi hd hk ho
    cases k with
    | zero => omega
    | succ k =>
      simp only [mapmakerref20_times.l0]
      rw [if_neg (by omega), List.drop_eq_nil_of_le (by omega)]
      simp
  | succ d ih =>
    intro k i n hi hd hk ho
    cases k with
    | zero => omega
    | succ k =>
      have hlt : i < l.length := by omega
      simp only [mapmakerref20_times.l0]
      rw [if_pos (by omega), if_pos (by omega), rd35 l i hlt, wrap_succ i (by omega), wrap_succ n (by omega), List.drop_eq_getElem_cons hlt, List.count_cons]
      by_cases hc : l[i] = y
      · rw [if_pos (by rw [eqP]; exact hc), ih k (i + 1) (n + 1) (by omega) (by omega) (by omega) (by omega), if_pos (by rw [beq_iff_eq]; exact hc)]
        congr 2; omega
      · rw [if_neg (by rw [eqP]; exact hc), ih k (i + 1) n (by omega) (by omega) (by omega) (by omega), if_neg (by rw [beq_iff_eq]; exact hc)]
        rfl
theorem rTimes (l : List S35) (y : S35) (hl : l.length ≤ 1000000) (k : Nat) (hk : l.length < k) : mapmakerref20_times.f k l y.f0.f0 y.f0.f1 y.f1.f0 y.f1.f1 = some ((ctS l y : Nat) : Int) := by
  unfold mapmakerref20_times.f
  have := rTimes0 l y hl l.length k 0 0 (by omega) (by omega) hk (by omega)
  rw [show ((0 : Int)) = ((0 : Nat) : Int) from rfl, this]
  simp [ctS]
def oddP (t : List S35) (x : S35) : Bool := !decide (ctS t x % 2 = 0)
theorem rOdd0 (s u : List S35) (hs : s.length ≤ 1000) (hl : u.length ≤ 1000) (d : Nat) : ∀ (k : Nat) (i : Nat) (out : List S35), i ≤ u.length → u.length - i = d → d + 1000 < k → out.length ≤ i → mapmakerref20_Odd.l0 k s u out (i : Int) = some (out ++ (u.drop i).filter (oddP s)) := by
  induction d with
  | zero =>
    intro k i out hi hd hk ho
    cases k with
    | zero => omega
    | succ k =>
      simp only [mapmakerref20_Odd.l0]
      rw [if_neg (by omega), List.drop_eq_nil_of_le (by omega)]
      simp
  | succ d ih =>
    intro k i out hi hd hk ho
    cases k with
    | zero => omega
    | succ k =>
      have hlt : i < u.length := by omega
      simp only [mapmakerref20_Odd.l0]
      rw [if_pos (by omega), if_pos (by omega), rd35 u i hlt, wrap_succ i (by omega), rTimes s u[i] (by omega) k (by omega), Option.bind_some, List.drop_eq_getElem_cons hlt, List.filter_cons]
      have et : Int.tmod ((ctS s u[i] : Nat) : Int) 2 = ((ctS s u[i] % 2 : Nat) : Int) := by
        rw [Int.tmod_eq_emod_of_nonneg (by omega)]; omega
      rw [et]
      have e2 : (⟨⟨u[i].f0.f0, u[i].f0.f1⟩, ⟨u[i].f1.f0, u[i].f1.f1⟩⟩ : S35) = u[i] := rfl
      rw [e2]
      by_cases hc : ctS s u[i] % 2 = 0
      · rw [if_neg (by omega), ih k (i + 1) _ (by omega) (by omega) (by omega) (by omega), if_neg (by unfold oddP; simp [hc])]
      · rw [if_pos (by omega), if_pos (show out.length < 4398046511104 by omega), ih k (i + 1) _ (by omega) (by omega) (by omega) (by simp; omega), if_pos (by unfold oddP; simp [hc]), List.append_assoc]
        rfl
theorem ddGo_sub : ∀ (l : List S35) (p : S35), ∀ x ∈ ddGo35 eqs35 p l, x ∈ l
  | [], p, x, h => h
  | y :: l, p, x, h => by
    rw [ddGo_cons] at h
    split at h
    · exact List.mem_cons_of_mem _ (ddGo_sub l y x h)
    · rcases List.mem_cons.1 h with rfl | h
      · exact List.mem_cons_self
      · exact List.mem_cons_of_mem _ (ddGo_sub l y x h)
theorem dd_sub (l : List S35) : ∀ x ∈ dd35 eqs35 l, x ∈ l := by
  cases l with
  | nil => intro x h; exact h
  | cons y l =>
    intro x h
    rcases List.mem_cons.1 (show x ∈ y :: ddGo35 eqs35 y l from h) with rfl | h
    · exact List.mem_cons_self
    · exact List.mem_cons_of_mem _ (ddGo_sub l y x h)
theorem ddGo_length : ∀ (l : List S35) (p : S35), (ddGo35 eqs35 p l).length ≤ l.length
  | [], p => Nat.le_refl _
  | y :: l, p => by
    rw [ddGo_cons]
    have := ddGo_length l y
    split <;> simp <;> omega
theorem dd_length (l : List S35) : (dd35 eqs35 l).length ≤ l.length := by
  cases l with
  | nil => exact Nat.le_refl _
  | cons y l => have := ddGo_length l y; show (y :: ddGo35 eqs35 y l).length ≤ _; simp; omega
theorem wf_small {n : Int} (h : 0 ≤ n ∧ n < 32768) : (Lit.int .i64 n).wf = true := by
  have := wf_nat (n := n.toNat) (by omega)
  rwa [Int.toNat_of_nonneg h.1] at this
theorem canon_in (l : List S35) : InL (canonP l) := by
  intro s hs
  unfold canonP at hs
  obtain ⟨y, hy, rfl⟩ := List.mem_map.1 hs
  have hg := (List.mem_filter.1 hy).2
  unfold goodS vB at hg
  simp at hg
  obtain ⟨_, h1, h2⟩ := hg
  unfold InS ofS
  split <;> exact ⟨wf_small (by first | omega | (dsimp only; omega)), wf_small (by first | omega | (dsimp only; omega)), wf_small (by first | omega | (dsimp only; omega)), wf_small (by first | omega | (dsimp only; omega))⟩
theorem nOdd (l : List S35) (hl : l.length ≤ 1000) (k : Nat) (hk : l.length < k) : noding_Odd.f k l = some ((dd35 eqs35 (sortS (canonP l))).filter (oddP (canonP l))) := by
  unfold noding_Odd.f
  rw [canon l (by omega) k hk, Option.bind_some, nUnique l (by omega) k hk, Option.bind_some, if_pos]
  · rfl
  · refine ⟨canon_in l, fun s hs => canon_in l s ((sortS_perm _).mem_iff.1 (dd_sub _ s hs)), ?_⟩
    have := canonP_length l
    omega
theorem rOdd (l : List S35) (hl : l.length ≤ 1000) (k : Nat) (hk : 5000 < k) : mapmakerref20_Odd.f k l = some ((dd35 eqs35 (sortS (canonP l))).filter (oddP (canonP l))) := by
  unfold mapmakerref20_Odd.f
  have h1 : (sortS (canonP l)).length ≤ 1000 := by rw [sortS_length]; have := canonP_length l; omega
  have h2 := dd_length (sortS (canonP l))
  rw [rSort l hl k (by omega), Option.bind_some, rUnique l hl k (by omega), Option.bind_some, show ((0 : Int)) = ((0 : Nat) : Int) from rfl, rOdd0 _ _ h1 (by omega) _ k 0 [] (by omega) rfl (by omega) (by simp)]
  simp only [List.drop_zero, List.nil_append]
  congr 2
  funext x
  unfold oddP ctS
  rw [(sortS_perm (canonP l)).count_eq]

/-! Of -/
def pairsP : List S33 → List S35
  | a :: b :: r => ⟨a, b⟩ :: pairsP (b :: r)
  | _ => []
theorem pairs_at (l : List S33) (i : Nat) (h : i + 1 < l.length) : pairsP (l.drop i) = ⟨l[i], l[i + 1]⟩ :: pairsP (l.drop (i + 1)) := by
  rw [List.drop_eq_getElem_cons (show i < l.length by omega), List.drop_eq_getElem_cons h]
  rfl
theorem pairs_end (l : List S33) (i : Nat) (h : l.length ≤ i + 1) : pairsP (l.drop i) = [] := by
  by_cases hi : i < l.length
  · rw [List.drop_eq_getElem_cons hi, List.drop_eq_nil_of_le h]; rfl
  · rw [List.drop_eq_nil_of_le (by omega)]; rfl
theorem nOf0 (l : List S33) (hl : l.length ≤ 1000) (d : Nat) : ∀ (k : Nat) (i : Nat) (out : List S35), 0 < i → l.length - i = d → d + 2000 < k → out.length ≤ i → i ≤ l.length + 1 → noding_Of.l0 k l out (i : Int) = some (canonP (out ++ pairsP (l.drop (i - 1)))) := by
  induction d with
  | zero =>
    intro k i out h0 hd hk ho hi
    cases k with
    | zero => omega
    | succ k =>
      simp only [noding_Of.l0]
      rw [if_neg (by omega), canon out (by omega) k (by omega), Option.bind_some, pairs_end l (i - 1) (by omega)]
      simp
  | succ d ih =>
    intro k i out h0 hd hk ho hi
    cases k with
    | zero => omega
    | succ k =>
      have hlt : i < l.length := by omega
      have hp := pairs_at l (i - 1) (by omega)
      simp only [noding_Of.l0]
      rw [if_pos (by omega), wrap_pred i h0 (by omega), if_pos (by omega), if_pos (by omega), if_pos (by omega), if_pos (show out.length < 4398046511104 by omega), rd33 l (i - 1) (by omega), rd33 l i hlt, wrap_succ i (by omega), ih k (i + 1) _ (by omega) (by omega) (by omega) (by simp; omega) (by omega), hp]
      simp only [show i - 1 + 1 = i by omega, Nat.add_sub_cancel, List.append_assoc]
      rfl
theorem nOf (l : List S33) (hl : l.length ≤ 1000) (k : Nat) (hk : 4000 < k) : noding_Of.f k l = some (canonP (pairsP l)) := by
  unfold noding_Of.f
  have := nOf0 l hl (l.length - 1) k 1 [] (by omega) rfl (by omega) (by simp) (by omega)
  rw [show ((1 : Int)) = ((1 : Nat) : Int) from rfl, this]
  simp
theorem rOf0 (l : List S33) (hl : l.length ≤ 1000) (d : Nat) : ∀ (k : Nat) (i : Nat) (out : List S35), l.length - i = d → d < k → out.length ≤ i → i ≤ l.length → mapmakerref20_Of.l0 k l out (i : Int) = some (out ++ canonP (pairsP (l.drop i))) := by
  induction d with
  | zero =>
    intro k i out hd hk ho hi
    cases k with
    | zero => omega
    | succ k =>
      simp only [mapmakerref20_Of.l0]
      rw [wrap_succ i (by omega), if_neg (by omega), pairs_end l i (by omega)]
      simp [canonP]
  | succ d ih =>
    intro k i out hd hk ho hi
    cases k with
    | zero => omega
    | succ k =>
      simp only [mapmakerref20_Of.l0]
      rw [wrap_succ i (by omega)]
      by_cases hlt : i + 1 < l.length
      · have hp := pairs_at l i hlt
        rw [if_pos (by omega), if_pos (by omega), if_pos (by omega), if_pos (by omega), rd33 l i (by omega), rd33 l (i + 1) hlt, rGood_some, rOf_some]
        simp only [Option.bind_some]
        have e2 : (⟨⟨l[i].f0, l[i].f1⟩, ⟨l[i + 1].f0, l[i + 1].f1⟩⟩ : S35) = ⟨l[i], l[i + 1]⟩ := rfl
        have h1 := ih k (i + 1) out (by omega) (by omega) (by omega) (by omega)
        have h2 := ih k (i + 1) (out ++ [ofS ⟨l[i], l[i + 1]⟩]) (by omega) (by omega) (by simp; omega) (by omega)
        rw [e2, hp, canonP_cons]
        have e : (⟨⟨(ofS ⟨l[i], l[i + 1]⟩).f0.f0, (ofS ⟨l[i], l[i + 1]⟩).f0.f1⟩, ⟨(ofS ⟨l[i], l[i + 1]⟩).f1.f0, (ofS ⟨l[i], l[i + 1]⟩).f1.f1⟩⟩ : S35) = ofS ⟨l[i], l[i + 1]⟩ := rfl
        rw [e, h1, h2, if_pos (show out.length < 4398046511104 by omega)]
        by_cases hg : goodS ⟨l[i], l[i + 1]⟩ = true
        · rw [if_pos hg, if_pos hg, List.append_assoc]; rfl
        · rw [if_neg hg, if_neg hg]
      · rw [if_neg (by omega), pairs_end l i (by omega)]
        simp [canonP]
theorem rOf (l : List S33) (hl : l.length ≤ 1000) (k : Nat) (hk : 4000 < k) : mapmakerref20_Of.f k l = some (canonP (pairsP l)) := by
  unfold mapmakerref20_Of.f
  rw [show ((0 : Int)) = ((0 : Nat) : Int) from rfl, rOf0 l hl l.length k 0 [] (by omega) (by omega) (by simp) (by omega)]
  simp
theorem pairs_length : ∀ l : List S33, (pairsP l).length ≤ l.length
  | [] => Nat.le_refl _
  | [_] => Nat.zero_le _
  | a :: b :: r => by
    have := pairs_length (b :: r)
    show (⟨a, b⟩ :: pairsP (b :: r)).length ≤ _
    simp at *; omega
theorem livesAll : mapmakerlaw20_lives.f 100 = some true := by decide +kernel
theorem few_some (l : List S35) : mapmakerlaw20_few.f l = some (decide ((l.length : Int) ≤ 24)) := rfl
theorem NodingSorts : mapmakerlaw20_NodingSorts.Pure := by
  intro l0 l1 h0 h1
  refine ⟨6001, ?_⟩
  unfold mapmakerlaw20_NodingSorts.f
  have hlv : ∀ k, 100 ≤ k → mapmakerlaw20_lives.f k = some true := lives 100 livesAll
  have hj : mapmakerlaw20_NodingSorts.j0 6001 l0 l1 true = some true := by
    simp only [mapmakerlaw20_NodingSorts.j0, if_true, hlv 6000 (by omega), Option.bind_some]
  split
  · exact hj
  · rename_i hgt
    rw [few_some, Option.bind_some]
    by_cases hf : (l1.length : Int) ≤ 24
    · have hl0 : l0.length ≤ 1000 := by omega
      have hl1 : l1.length ≤ 1000 := by omega
      have hp := pairs_length l0
      have hq := canonP_length (pairsP l0)
      have hq1 := canonP_length l1
      have hs1 := sortS_length (canonP l1)
      have hd1 := dd_length (sortS (canonP l1))
      have ho1 := List.length_filter_le (oddP (canonP l1)) (dd35 eqs35 (sortS (canonP l1)))
      rw [decide_eq_true hf]
      simp only [Bool.not_true, mapmakerlaw20_NodingSorts.j0]
      rw [if_neg (by simp), nOf l0 hl0 6000 (by omega), Option.bind_some, rOf l0 hl0 6000 (by omega), Option.bind_some, same _ (by omega) 6000 (by omega), Option.bind_some, if_pos rfl,
        nSort l1 (by omega) 6000 (by omega), Option.bind_some, rSort l1 hl1 6000 (by omega), Option.bind_some, same _ (by omega) 6000 (by omega), Option.bind_some, if_pos rfl,
        nUnique l1 (by omega) 6000 (by omega), Option.bind_some, rUnique l1 hl1 6000 (by omega), Option.bind_some, same _ (by omega) 6000 (by omega), Option.bind_some, if_pos rfl,
        nOdd l1 hl1 6000 (by omega), Option.bind_some, rOdd l1 hl1 6000 (by omega), Option.bind_some, same _ (by omega) 6000 (by omega), Option.bind_some, if_pos rfl, hlv 6000 (by omega)]
      rfl
    · rw [decide_eq_false hf]
      exact hj
end Go.Proofs.Ytmejeiddlhjjmaa.Pure
