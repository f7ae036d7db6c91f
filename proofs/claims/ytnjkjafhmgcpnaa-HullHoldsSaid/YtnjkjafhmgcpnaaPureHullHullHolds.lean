/- What hull.Of answers: the hull by its sides, in plain Lean. -/
import Derived.Test.YtnjkjafhmgcpnaaPureGeoHullHolds
namespace Go.Proofs.Ytnjkjafhmgcpnaa.Pure
open Go.RowKit Go.Proofs.Ytnjkjafhmgcpnaa.PHullHolds Go.Proofs.YtnjkjafhmgcpnaaW.PrintWords Go.Proofs.YtnjkjafhmgcpnaaW.PrintLast
set_option linter.unusedVariables false
set_option linter.unusedSimpArgs false

theorem rd28 (l : List S28) (i : Nat) (h : i < l.length) : rd_T28 l (i : Int) = l[i] := by
  unfold rd_T28; rw [Int.toNat_natCast, List.getD_eq_getElem?_getD, List.getElem?_eq_getElem h]; rfl
theorem wrap_succ (i : Nat) (h : (i : Int) < 9223372036854775807) : wrap64 ((i : Int) + 1) = ((i + 1 : Nat) : Int) := by unfold wrap64; omega
theorem wrapI {n : Int} (h : -9223372036854775808 ≤ n ∧ n ≤ 9223372036854775807) : wrap64 n = n := by unfold wrap64; omega
theorem ne28 (x y : S28) : ((!(x.f0 == y.f0) || (!(x.f1 == y.f1))) = true) ↔ x ≠ y := by
  constructor
  · intro h e; subst e; simp at h
  · intro h
    by_cases h0 : x.f0 = y.f0 <;> by_cases h1 : x.f1 = y.f1 <;> simp [h0, h1]
    exact h (s28_ext h0 h1)
theorem eqs28_iff (x y : S28) : eqs28 x y = true ↔ x = y := by
  unfold eqs28
  constructor
  · intro h; simp at h; exact s28_ext h.1 h.2
  · intro e; subst e; simp
/-! the lists are equal -/
theorem equal0 (a b : List S28) (hab : a.length = b.length) (hl : a.length ≤ 1000000) (d : Nat) : ∀ i : Nat, i ≤ a.length → a.length - i = d → Ev (fun k => api_Point_27.l0 k a b (a.length : Int) (i : Int)) (decide (a.drop i = b.drop i)) := by
  induction d with
  | zero =>
    intro i hi hd
    refine ⟨1, fun k hk => ?_⟩
    obtain ⟨k, rfl⟩ : ∃ m, k = m + 1 := ⟨k - 1, by omega⟩
    simp only [api_Point_27.l0]
    rw [if_neg (by omega), List.drop_eq_nil_of_le (by omega), List.drop_eq_nil_of_le (by omega)]
    rfl
  | succ d ih =>
    intro i hi hd
    obtain ⟨K, ih⟩ := ih (i + 1) (by omega) (by omega)
    refine ⟨K + 1, fun k hk => ?_⟩
    obtain ⟨k, rfl⟩ : ∃ m, k = m + 1 := ⟨k - 1, by omega⟩
    have hih := ih k (by omega)
    dsimp only at hih
    simp only [api_Point_27.l0]
    rw [if_pos (by omega), if_pos (by omega), if_pos (by omega), if_pos (by omega), rd28 a i (by omega), rd28 b i (by omega), wrap_succ i (by omega), hih, List.drop_eq_getElem_cons (show i < a.length by omega), List.drop_eq_getElem_cons (show i < b.length by omega)]
    by_cases h : a[i] = b[i]
    · rw [if_neg (by rw [ne28]; simp [h])]
      exact congrArg some (decide_eq_decide.mpr (by rw [h]; simp only [List.cons.injEq, true_and]))
    · rw [if_pos (by rw [ne28]; exact h), decide_eq_false (fun e => h (List.cons.inj e).1)]
theorem equal (a b : List S28) (hl : a.length ≤ 1000000) : Ev (fun k => api_Point_27.f k a b) (decide (a = b)) := by
  unfold api_Point_27.f
  by_cases h : a.length = b.length
  · obtain ⟨K, h1⟩ := equal0 a b h hl a.length 0 (by omega) (by omega)
    refine ⟨K, fun k hk => ?_⟩
    have := h1 k hk
    dsimp only
    rw [if_pos (by omega)]
    exact this
  · refine ⟨0, fun k _ => ?_⟩
    have : a ≠ b := fun e => h (by rw [e])
    dsimp only
    rw [if_neg (by omega), decide_eq_false this]
theorem rSame0 (a b : List S28) (hab : a.length = b.length) (hl : a.length ≤ 1000000) (d : Nat) : ∀ i : Nat, i ≤ a.length → a.length - i = d → Ev (fun k => mapmakerref13_Same.l0 k a b (i : Int)) (decide (a.drop i = b.drop i)) := by
  induction d with
  | zero =>
    intro i hi hd
    refine ⟨1, fun k hk => ?_⟩
    obtain ⟨k, rfl⟩ : ∃ m, k = m + 1 := ⟨k - 1, by omega⟩
    simp only [mapmakerref13_Same.l0]
    rw [if_neg (by omega), List.drop_eq_nil_of_le (by omega), List.drop_eq_nil_of_le (by omega)]
    rfl
  | succ d ih =>
    intro i hi hd
    obtain ⟨K, ih⟩ := ih (i + 1) (by omega) (by omega)
    refine ⟨K + 1, fun k hk => ?_⟩
    obtain ⟨k, rfl⟩ : ∃ m, k = m + 1 := ⟨k - 1, by omega⟩
    have hih := ih k (by omega)
    dsimp only at hih
    simp only [mapmakerref13_Same.l0]
    rw [if_pos (by omega), if_pos (by omega), if_pos (by omega), rd28 a i (by omega), rd28 b i (by omega), wrap_succ i (by omega), hih, List.drop_eq_getElem_cons (show i < a.length by omega), List.drop_eq_getElem_cons (show i < b.length by omega)]
    by_cases h : a[i] = b[i]
    · rw [if_neg (by rw [ne28]; simp [h])]
      exact congrArg some (decide_eq_decide.mpr (by rw [h]; simp only [List.cons.injEq, true_and]))
    · rw [if_pos (by rw [ne28]; exact h), decide_eq_false (fun e => h (List.cons.inj e).1)]
theorem rSame (a b : List S28) (hl : a.length ≤ 1000000) : Ev (fun k => mapmakerref13_Same.f k a b) (decide (a = b)) := by
  unfold mapmakerref13_Same.f
  by_cases h : a.length = b.length
  · obtain ⟨K, h1⟩ := rSame0 a b h hl a.length 0 (by omega) (by omega)
    refine ⟨K, fun k hk => ?_⟩
    have := h1 k hk
    dsimp only
    rw [if_pos (by omega)]
    exact this
  · refine ⟨0, fun k _ => ?_⟩
    have : a ≠ b := fun e => h (by rw [e])
    dsimp only
    rw [if_neg (by omega), decide_eq_false this]
/-! sorted, each once -/
theorem dd_go : ∀ (l : List S28) (p : S28), (∀ q ∈ p :: l, onG q) → (p :: l).Pairwise (fun a b => code a ≤ code b) → (p :: ddGo28 eqs28 p l).Pairwise (fun a b => code a < code b) ∧ ∀ x, x ∈ p :: ddGo28 eqs28 p l ↔ x ∈ p :: l
  | [], p, _, _ => by simp [ddGo28]
  | y :: l, p, hg, hs => by
    have hs' := List.pairwise_cons.1 hs
    obtain ⟨h1, h2⟩ := dd_go l y (fun q hq => hg q (List.mem_cons_of_mem _ hq)) hs'.2
    simp only [ddGo28]
    by_cases h : eqs28 y p = true
    · rw [if_pos h]
      rw [eqs28_iff] at h
      subst h
      refine ⟨h1, fun x => ?_⟩
      rw [h2]
      simp
    · rw [if_neg h]
      rw [eqs28_iff] at h
      have hlt : code p < code y := by
        have := hs'.1 y (by simp)
        rcases Int.lt_or_eq_of_le this with h' | h'
        · exact h'
        · exact absurd (code_inj (hg p (by simp)) (hg y (by simp)) h').symm h
      refine ⟨List.pairwise_cons.2 ⟨fun x hx => ?_, h1⟩, fun x => ?_⟩
      · rcases List.mem_cons.1 hx with rfl | hx
        · exact hlt
        · have := (List.pairwise_cons.1 h1).1 x hx; omega
      · rw [List.mem_cons, h2, ← List.mem_cons]
theorem dd_ok {s : List S28} (hg : ∀ q ∈ s, onG q) (hs : s.Pairwise (fun a b => code a ≤ code b)) : (dd28 eqs28 s).Pairwise (fun a b => code a < code b) ∧ ∀ x, x ∈ dd28 eqs28 s ↔ x ∈ s := by
  cases s with
  | nil => simp [dd28]
  | cons p l => exact dd_go l p hg hs
theorem dd_len (s : List S28) : (dd28 eqs28 s).length ≤ s.length := by
  cases s with
  | nil => simp [dd28]
  | cons p l =>
    have : ∀ (l : List S28) (p : S28), (ddGo28 eqs28 p l).length ≤ l.length := by
      intro l
      induction l with
      | nil => intro p; simp [ddGo28]
      | cons y l ih =>
        intro p
        simp only [ddGo28]
        split
        · have := ih y; simp; omega
        · have := ih y; simp; omega
    have := this l p
    simp [dd28]; omega
theorem sort_ok (l : List S28) (hg : ∀ q ∈ l, onG q) (hl : l.length ≤ 1000000) : ∃ s, api_Point_by_hull_compare.f l = some s ∧ s.length = l.length ∧ (∀ x, x ∈ s ↔ x ∈ l) ∧ s.Pairwise (fun a b => code a ≤ code b) := by
  have hex : ∃ r, api_Point_by_hull_compare.f l = some r := by unfold api_Point_by_hull_compare.f; rw [if_pos (by omega)]; exact ⟨_, rfl⟩
  obtain ⟨r, hr⟩ := hex
  obtain ⟨hp, hs⟩ := api_Point_by_hull_compare.spec l r hr
  refine ⟨r, hr, hp.length_eq, fun x => hp.mem_iff, ?_⟩
  rw [List.pairwise_iff_getElem]
  intro i j hi hj hij
  have := hs i j hij hj
  rw [List.getD_eq_getElem?_getD, List.getD_eq_getElem?_getD, List.getElem?_eq_getElem hi, List.getElem?_eq_getElem hj, ← Bool.not_eq_true] at this
  have h := mt (ltBy18 _ _).2 this
  simp only [Option.getD_some] at h
  have g1 := hg r[i] (hp.mem_iff.1 (List.getElem_mem hi))
  have g2 := hg r[j] (hp.mem_iff.1 (List.getElem_mem hj))
  unfold onG at g1 g2
  unfold code ofn
  omega
/-! the chain -/
theorem chain1 (l : List S28) (hl : l.length ≤ 1000000) (p : S28) (hp : onG p) (i : Nat) (n : Int) (R : List S28) : ∀ (m : Nat) (s : List S28), s.length = m → s.length ≤ 1000000 → (∀ x ∈ s, onG x) → Ev (fun k => hull_Of_2.l0 k (push p s).reverse l n (wrap64 ((i : Int) + 1))) R →
    Ev (fun k => hull_Of_2.l1 k s.reverse (s.length : Int) l n (i : Int) p.f0 p.f1) R := by
  intro m
  induction m with
  | zero =>
    intro s hm hs hg h
    obtain rfl := List.eq_nil_of_length_eq_zero hm
    obtain ⟨K, h⟩ := h
    refine ⟨K + 1, fun k hk => ?_⟩
    obtain ⟨k, rfl⟩ : ∃ m, k = m + 1 := ⟨k - 1, by omega⟩
    simp only [hull_Of_2.l1]
    rw [if_neg (by simp), if_pos (by simp)]
    exact h k (by omega)
  | succ m ih =>
    intro s hm hs hg h
    match s, hm with
    | [a], hm =>
      obtain ⟨K, h⟩ := h
      refine ⟨K + 1, fun k hk => ?_⟩
      obtain ⟨k, rfl⟩ : ∃ m, k = m + 1 := ⟨k - 1, by omega⟩
      simp only [hull_Of_2.l1]
      rw [if_neg (by simp), if_pos (by simp)]
      exact h k (by omega)
    | b :: a :: s', hm =>
      have hT := fun k hk => nTurn (hg a (by simp)) (hg b (by simp)) hp k hk
      have hrev : (b :: a :: s').reverse = s'.reverse ++ [a, b] := by simp
      have hln : (s'.reverse ++ [a, b]).length = s'.length + 2 := by simp
      have hs2 : s'.length + 2 ≤ 1000000 := by simpa using hs
      have hra : rd_T28 (s'.reverse ++ [a, b]) (s'.length : Int) = a := by rw [rd28 _ _ (by omega), List.getElem_append_right (by simp)]; simp
      have hrb : rd_T28 (s'.reverse ++ [a, b]) ((s'.length + 1 : Nat) : Int) = b := by rw [rd28 _ _ (by omega), List.getElem_append_right (by simp)]; simp
      have w1 : wrap64 (((b :: a :: s').length : Int) - 2) = (s'.length : Int) := by rw [wrapI] <;> simp <;> omega
      have w2 : wrap64 (((b :: a :: s').length : Int) - 1) = ((s'.length + 1 : Nat) : Int) := by rw [wrapI] <;> simp <;> omega
      have htk : (s'.reverse ++ [a, b]).take (s'.length + 1) = (a :: s').reverse := by
        rw [List.take_append, List.take_of_length_le (by simp)]; simp
      have hlt : ((b :: a :: s').length : Int) > 1 := by simp; omega
      by_cases ht : turn a b p ≤ 0
      · have h' : Ev (fun k => hull_Of_2.l0 k (push p (a :: s')).reverse l n (wrap64 ((i : Int) + 1))) R := by
          have e : push p (b :: a :: s') = push p (a :: s') := by rw [push, if_pos ht]
          rwa [e] at h
        obtain ⟨K, h'⟩ := ih (a :: s') (by simpa using hm) (by simp; omega) (fun x hx => hg x (List.mem_cons_of_mem _ hx)) h'
        refine ⟨K + 12, fun k hk => ?_⟩
        obtain ⟨k, rfl⟩ : ∃ m, k = m + 1 := ⟨k - 1, by omega⟩
        simp only [hull_Of_2.l1]
        rw [if_pos hlt, w1, w2, hrev, hln, if_pos (by omega), if_pos (by omega), if_pos (by omega), if_pos (by omega), hra, hrb, hT k (by omega), Option.bind_some, if_pos ht, if_pos (by omega), Int.toNat_natCast, htk]
        exact h' k (by omega)
      · have e : push p (b :: a :: s') = p :: b :: a :: s' := by rw [push, if_neg ht]
        rw [e] at h
        obtain ⟨K, h⟩ := h
        refine ⟨K + 12, fun k hk => ?_⟩
        obtain ⟨k, rfl⟩ : ∃ m, k = m + 1 := ⟨k - 1, by omega⟩
        simp only [hull_Of_2.l1]
        rw [if_pos hlt, w1, w2, hrev, hln, if_pos (by omega), if_pos (by omega), if_pos (by omega), if_pos (by omega), hra, hrb, hT k (by omega), Option.bind_some, if_neg ht, if_pos (by omega)]
        have := h k (by omega)
        rw [List.reverse_cons, hrev] at this
        exact this
theorem chain0 (l : List S28) (hl : l.length ≤ 1000000) (hg : ∀ q ∈ l, onG q) (h0 : 0 < l.length) (d : Nat) : ∀ i : Nat, i ≤ l.length → l.length - i = d → Ev (fun k => hull_Of_2.l0 k (stk (l.take i)).reverse l (l.length : Int) (i : Int)) ((stk l).tail.reverse) := by
  induction d with
  | zero =>
    intro i hi hd
    refine ⟨1, fun k hk => ?_⟩
    obtain ⟨k, rfl⟩ : ∃ m, k = m + 1 := ⟨k - 1, by omega⟩
    have hne : stk l ≠ [] := by
      obtain ⟨x, l', rfl⟩ := List.exists_cons_of_ne_nil (List.ne_nil_of_length_pos h0)
      rcases List.eq_nil_or_concat (x :: l') with h | ⟨m, e, h⟩
      · cases h
      · rw [List.concat_eq_append] at h
        rw [h, stk_snoc]
        intro e'
        generalize stk m = s at e'
        match s with
        | [] => cases e'
        | [a] => cases e'
        | b :: a :: s => 
          have : ∀ (s : List S28), push e s ≠ [] := by
            intro s
            induction s with
            | nil => simp [push]
            | cons b s ih =>
              cases s with
              | nil => simp [push]
              | cons a s => rw [push]; split; exact ih; simp
          exact this _ e'
    have hsl := stk_len l []
    simp only [hull_Of_2.l0]
    rw [if_neg (by omega), List.take_of_length_le (by omega)]
    obtain ⟨b, st, hst⟩ := List.exists_cons_of_ne_nil hne
    have hsl' : (stk l).length ≤ 1000000 := by unfold stk; simp at hsl; omega
    rw [hst] at hsl' ⊢
    have hlen : ((b :: st).reverse.length : Int) = (st.length : Int) + 1 := by simp
    rw [hlen, wrapI (by simp at hsl'; omega), if_pos (by omega), if_pos (by omega)]
    have e : (st.length : Int) + 1 - 1 = (st.length : Int) := by omega
    rw [e, Int.toNat_natCast, List.reverse_cons, List.take_append_of_le_length (by simp), List.take_of_length_le (by simp)]
    rfl
  | succ d ih =>
    intro i hi hd
    have hlt : i < l.length := by omega
    have h1 := ih (i + 1) (by omega) (by omega)
    rw [List.take_succ_eq_append_getElem hlt, stk_snoc] at h1
    have hsl := stk_len (l.take i) []
    have hsm := stk_mem (l.take i) []
    rw [List.length_take] at hsl
    have h2 := chain1 l hl l[i] (hg _ (List.getElem_mem hlt)) i (l.length : Int) _ _ (stk (l.take i)) rfl (by unfold stk; simp at hsl; omega) (fun x hx => by
      rcases hsm x hx with h | h
      · simp at h
      · exact hg x (List.mem_of_mem_take h)) (by rw [wrap_succ i (by omega)]; exact h1)
    obtain ⟨K, h2⟩ := h2
    refine ⟨K + 1, fun k hk => ?_⟩
    obtain ⟨k, rfl⟩ : ∃ m, k = m + 1 := ⟨k - 1, by omega⟩
    simp only [hull_Of_2.l0]
    rw [if_pos (by omega), if_pos (by omega), if_pos (by omega), rd28 l i hlt, List.length_reverse]
    exact h2 k (by omega)
theorem nChain (l : List S28) (hl : l.length ≤ 1000000) (hg : ∀ q ∈ l, onG q) (h0 : 0 < l.length) : Ev (fun k => hull_Of_2.f k l) ((stk l).tail.reverse) := by
  unfold hull_Of_2.f
  exact chain0 l hl hg h0 l.length 0 (by omega) (by omega)
/-! the reverse -/
theorem rev0 (l : List S28) (hl : l.length ≤ 1000000) : ∀ (d i : Nat) (cur : List S28) (hc : cur.length = l.length), l.length - 2 * i = d → 2 * i ≤ l.length + 1 → (∀ (m : Nat) (hm : m < l.length), cur[m]'(by omega) = if m < i ∨ l.length - i ≤ m then l[l.length - 1 - m]'(by omega) else l[m]) → Ev (fun k => api_Point_22.l0 k cur (i : Int) ((l.length : Int) - 1 - i)) l.reverse := by
  intro d
  induction d using Nat.strongRecOn with
  | _ d ih =>
  intro i cur hc hd h2 hcur
  by_cases hlt : (i : Int) < (l.length : Int) - 1 - i
  · have hj : (l.length : Int) - 1 - i = ((l.length - 1 - i : Nat) : Int) := by omega
    have hi : i < cur.length := by omega
    have hjl : l.length - 1 - i < cur.length := by omega
    have := ih (l.length - 2 * (i + 1)) (by omega) (i + 1) ((cur.set i cur[l.length - 1 - i]).set (l.length - 1 - i) cur[i]) (by simp [hc]) rfl (by omega) (fun m hm => by
      rw [List.getElem_set, List.getElem_set]
      by_cases e1 : l.length - 1 - i = m
      · rw [if_pos e1, if_pos (by omega), hcur i (by omega), if_neg (by omega)]
        congr 1; omega
      · rw [if_neg e1]
        by_cases e2 : i = m
        · rw [if_pos e2, if_pos (by omega), hcur _ (by omega), if_neg (by omega)]
          congr 1; omega
        · rw [if_neg e2, hcur m hm]
          by_cases e3 : m < i ∨ l.length - i ≤ m
          · rw [if_pos e3, if_pos (by omega)]
          · rw [if_neg e3, if_neg (by omega)])
    obtain ⟨K, this⟩ := this
    refine ⟨K + 1, fun k hk => ?_⟩
    obtain ⟨k, rfl⟩ : ∃ m, k = m + 1 := ⟨k - 1, by omega⟩
    simp only [api_Point_22.l0]
    rw [if_pos hlt, if_pos (by omega), if_pos (by omega), if_pos (by omega), if_pos (by omega), hj, rd28 cur i hi, rd28 cur _ hjl, Int.toNat_natCast, Int.toNat_natCast, wrap_succ i (by omega), wrapI (by omega)]
    have h3 := this k (by omega)
    have e : (l.length : Int) - 1 - ((i + 1 : Nat) : Int) = ((l.length - 1 - i : Nat) : Int) - 1 := by omega
    rw [e] at h3
    exact h3
  · refine ⟨1, fun k hk => ?_⟩
    obtain ⟨k, rfl⟩ : ∃ m, k = m + 1 := ⟨k - 1, by omega⟩
    simp only [api_Point_22.l0]
    rw [if_neg hlt]
    congr 1
    refine List.ext_getElem (by simp [hc]) (fun m h1 h2' => ?_)
    rw [hcur m (by omega), List.getElem_reverse]
    by_cases e : m < i ∨ l.length - i ≤ m
    · rw [if_pos e]
    · rw [if_neg e]; congr 1; omega
theorem nRev (l : List S28) (hl : l.length ≤ 1000000) : Ev (fun k => api_Point_22.f k l) l.reverse := by
  unfold api_Point_22.f
  have := rev0 l hl l.length 0 l rfl (by omega) (by omega) (fun m hm => by rw [if_neg (by omega)])
  rw [wrapI (by omega)]
  simpa using this
/-! the whole -/
theorem nOf_bad (l : List S28) (h : ∃ q ∈ l, ¬ onG q) (k : Nat) : hull_Of.f k l = some [] := by
  obtain ⟨q, hq, hv⟩ := h
  unfold hull_Of.f
  rw [if_pos (List.any_eq_true.2 ⟨q, hq, by
    have : vld q ≠ true := fun e => hv ((vld_iff q).1 e)
    simpa using this⟩)]
theorem nOf_nil (k : Nat) : hull_Of.f k [] = some [] := by
  unfold hull_Of.f
  rw [if_neg (by simp), if_pos (by simp)]
  obtain ⟨s, hs, hl, _, _⟩ := sort_ok [] (by simp) (by simp)
  obtain rfl := List.eq_nil_of_length_eq_zero hl
  rw [hs]
  rfl
theorem nOf (l : List S28) (hl : l.length ≤ 1000000) (hne : l ≠ []) (hg : ∀ q ∈ l, onG q) : ∃ h, Ev (fun k => hull_Of.f k l) h ∧ HullP l h := by
  obtain ⟨s, hs, hsl, hsm, hso⟩ := sort_ok l hg hl
  have hgs : ∀ q ∈ s, onG q := fun q hq => hg q ((hsm q).1 hq)
  obtain ⟨hd1, hd2⟩ := dd_ok hgs hso
  have hdl := dd_len s
  have hany : ¬ (l.any (fun x => !vld x)) = true := by
    rw [List.any_eq_true]
    rintro ⟨q, hq, hv⟩
    have := (vld_iff q).2 (hg q hq)
    rw [this] at hv; simp at hv
  have hcp : api_Point_19.f s = some (dd28 eqs28 s) := rfl
  have hmem : ∀ x, x ∈ l ↔ x ∈ dd28 eqs28 s := fun x => by rw [hd2, hsm]
  generalize hu : dd28 eqs28 s = u at *
  by_cases h3 : u.length < 3
  · refine ⟨u, ⟨0, fun k _ => ?_⟩, ?_⟩
    · show hull_Of.f k l = some u
      unfold hull_Of.f
      rw [if_neg hany, if_pos (by omega), hs, Option.bind_some, hcp, Option.bind_some, if_pos h3]
    · match u, h3, hd1, hmem with
      | [], _, _, hmem =>
        obtain ⟨x, l', rfl⟩ := List.exists_cons_of_ne_nil hne
        exact absurd ((hmem x).1 (by simp)) (by simp)
      | [p], _, _, hmem => exact .one p ((hmem p).2 (by simp)) (fun q hq => by simpa using (hmem q).1 hq)
      | [p, q], _, hd1, hmem =>
        have hlt : code p < code q := (List.pairwise_cons.1 hd1).1 q (by simp)
        have hp := (hmem p).2 (by simp)
        have hq := (hmem q).2 (by simp)
        have hne' : p ≠ q := fun e => by rw [e] at hlt; omega
        have hb : ∀ x ∈ l, turn p q x = 0 ∧ betw x p q := fun x hx => by
          have := (hmem x).1 hx
          simp at this
          rcases this with rfl | rfl
          · exact ⟨turn_aba _ _, betw_of_code (hg x hp) (hg q hq) (hg x hp) (turn_aba _ _) (Int.le_refl _) (by omega)⟩
          · exact ⟨turn_abb _ _, betw_of_code (hg p hp) (hg x hq) (hg x hq) (turn_abb _ _) (by omega) (Int.le_refl _)⟩
        refine .more p [q] (by simp) (fun x hx => (hmem x).2 hx) (fun x hx => ?_) ⟨⟨hne', fun x hx => ⟨by rw [(hb x hx).1]; exact Int.le_refl _, fun _ => (hb x hx).2⟩⟩, ⟨fun e => hne' e.symm, fun x hx => ⟨by rw [turn_flip, (hb x hx).1]; exact Int.le_refl _, fun _ => betw_symm (hb x hx).2⟩⟩, trivial⟩ (by simp; exact hne')
        have := (hmem x).1 hx
        simp at this
        rcases this with rfl | rfl
        · exact Int.le_refl _
        · omega
  · have hgu : ∀ q ∈ u, onG q := fun q hq => hg q ((hmem q).2 hq)
    obtain ⟨K1, c1⟩ := nChain u (by omega) hgu (by omega)
    obtain ⟨K2, c2⟩ := nRev u (by omega)
    obtain ⟨K3, c3⟩ := nChain u.reverse (by simp; omega) (fun q hq => hgu q (by simpa using hq)) (by simp; omega)
    have hh := chains_hull hg hmem hd1 (by omega)
    refine ⟨_, ⟨K1 + K2 + K3, fun k hk => ?_⟩, hh⟩
    have l1 := stk_len u []
    have l2 := stk_len u.reverse []
    have l3 : (stk u).tail.reverse.length ≤ 1000000 := by rw [List.length_reverse, List.length_tail]; unfold stk; simp at l1; omega
    have l4 : (stk u.reverse).tail.reverse.length ≤ 1000000 := by rw [List.length_reverse, List.length_tail]; unfold stk; simp at l2; simp; omega
    have c1' := c1 k (by omega)
    have c2' := c2 k (by omega)
    have c3' := c3 k (by omega)
    dsimp only at c1' c2' c3'
    show hull_Of.f k l = _
    unfold hull_Of.f
    rw [if_neg hany, if_pos (by omega), hs, Option.bind_some, hcp, Option.bind_some, if_neg h3, c1', Option.bind_some, c2', Option.bind_some, c3', Option.bind_some, if_pos (by omega)]
theorem nOf_of {l h : List S28} (hl : l.length ≤ 1000000) (hne : l ≠ []) (hg : ∀ q ∈ l, onG q) (hh : HullP l h) : Ev (fun k => hull_Of.f k l) h := by
  obtain ⟨h', e, hh'⟩ := nOf l hl hne hg
  rw [hull_unique hg hh hh']
  exact e
/-! no corner twice -/
theorem path_get {R : S28 → S28 → Prop} : ∀ {l : List S28}, Path R l → ∀ (i : Nat) (h : i + 1 < l.length), R l[i] l[i + 1]
  | [], _, i, h => by simp at h
  | [_], _, i, h => by simp at h
  | a :: b :: t, hp, 0, h => hp.1
  | a :: b :: t, hp, i + 1, h => path_get (l := b :: t) hp.2 i (by simpa using h)
theorem path_init {R : S28 → S28 → Prop} {z : S28} : ∀ {l : List S28}, Path R (l ++ [z]) → Path R l
  | [], _ => trivial
  | [_], _ => trivial
  | a :: b :: t, hp => ⟨hp.1, path_init (l := b :: t) hp.2⟩
theorem hull_nodup {l : List S28} (hg : ∀ q ∈ l, onG q) {h0 : S28} {t : List S28} (hm : ∀ x ∈ h0 :: t, x ∈ l) (hp : Path (Side l) (h0 :: t)) (hn : h0 ∉ t) : ∀ (i j : Nat) (hi : i < (h0 :: t).length) (hj : j < (h0 :: t).length), i < j → (h0 :: t)[i] ≠ (h0 :: t)[j]
  | 0, j, hi, hj, hij => by
    obtain ⟨j, rfl⟩ : ∃ m, j = m + 1 := ⟨j - 1, by omega⟩
    intro e
    have : (h0 :: t)[j + 1] ∈ t := List.getElem_mem (l := t) (n := j) (by simpa using hj)
    rw [← e] at this
    exact hn this
  | i + 1, j, hi, hj, hij => by
    obtain ⟨j, rfl⟩ : ∃ m, j = m + 1 := ⟨j - 1, by omega⟩
    intro e
    have p1 := path_get hp i hi
    have p2 := path_get hp j hj
    rw [e] at p1
    exact hull_nodup hg hm hp hn i j (by omega) (by omega) (by omega) (side_unique' hg (hm _ (List.getElem_mem hj)) (hm _ (List.getElem_mem (by omega))) (hm _ (List.getElem_mem (by omega))) p1 p2)
theorem nodup_le {α : Type} [DecidableEq α] : ∀ (a l : List α), a.Nodup → (∀ x ∈ a, x ∈ l) → a.length ≤ l.length
  | [], _, _, _ => Nat.zero_le _
  | x :: a, l, hn, hs => by
    have hx := hs x (by simp)
    have hn' := List.nodup_cons.1 hn
    have := nodup_le a (l.erase x) hn'.2 (fun y hy => (List.mem_erase_of_ne (fun e => hn'.1 (by rw [← e]; exact hy))).2 (hs y (List.mem_cons_of_mem _ hy)))
    rw [List.length_erase_of_mem hx] at this
    have := List.length_pos_of_mem hx
    simp; omega
theorem hull_len {l h : List S28} (hg : ∀ q ∈ l, onG q) (hh : HullP l h) : h.length ≤ l.length := by
  cases hh with
  | one p hl hp => have := List.length_pos_of_mem hl; simp; omega
  | more h0 t hne hm hmin hpth hn =>
    refine nodup_le _ _ ?_ hm
    rw [List.nodup_iff_pairwise_ne, List.pairwise_iff_getElem]
    intro i j hi hj hij
    exact hull_nodup hg hm (path_init hpth) hn i j hi hj hij
end Go.Proofs.Ytnjkjafhmgcpnaa.Pure
