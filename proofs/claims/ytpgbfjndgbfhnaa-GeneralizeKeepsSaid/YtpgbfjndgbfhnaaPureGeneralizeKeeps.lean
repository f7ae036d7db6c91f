/- GeneralizeKeeps. -/
import Derived.Test.YtpgbfjndgbfhnaaPureKeep
import Derived.Test.YtpgbfjndgbfhnaaPAllx17
namespace Go.Proofs.Ytpgbfjndgbfhnaa.Pure
open Go.RowKit Go.Proofs.Ytpgbfjndgbfhnaa.PAll Go.Proofs.YtpgbfjndgbfhnaaW.PrintWords Go.Proofs.YtpgbfjndgbfhnaaW.PrintLast
set_option linter.unusedVariables false
set_option linter.unusedSimpArgs false
theorem rdI (ns : List Int) (i : Nat) (h : i < ns.length) : rd ns (i : Int) = ns[i] := by
  unfold rd; rw [Int.toNat_natCast, List.getD_eq_getElem?_getD, List.getElem?_eq_getElem h]; rfl
theorem pts_ge (l : List S31) (x : S31) (hx : x ∈ l) (q : S40) : x.f1.count q ≤ (allPts l).count q := by
  obtain ⟨a, b, rfl⟩ := List.append_of_mem hx
  unfold allPts
  rw [List.flatMap_append, List.flatMap_cons, List.count_append, List.count_append]
  omega
theorem keepsLoop (l : List S31) (lim : Int) (h : Ok l) (hsh : ∀ x ∈ l, Sh x) {fx : List S40} (hf : fx.length ≤ 1000000) (hm : ∀ p, p ∈ fx ↔ (vld p = true ∧ ((p, true) ∈ allEnds l ∨ 2 ≤ (allPts l).count p))) :
    ∀ (d i : Nat), i ≤ l.length → l.length - i = d → Ev (fun k => mapmakerlaw26_GeneralizeKeeps.l0 k l (l.map (L fx lim)) fx (i : Int)) true := by
  have hll := h.len
  intro d
  induction d with
  | zero =>
    intro i hi hd
    refine ⟨101, fun k hk => ?_⟩
    obtain ⟨k, rfl⟩ : ∃ m, k = m + 1 := ⟨k - 1, by omega⟩
    simp only [mapmakerlaw26_GeneralizeKeeps.l0]
    rw [if_neg (by omega), lives 100 livesAll k (by omega)]
    rfl
  | succ d ih =>
    intro i hi hd
    have hi' : i < l.length := by omega
    have hx : l[i] ∈ l := List.getElem_mem hi'
    have hsx := hsh _ hx
    have hl1 : l[i].f1.length ≤ 1000 := hsx.1
    have hl2 : l[i].f2.length ≤ 1000 := hsx.2.1
    obtain ⟨KL, ihL⟩ := ih (i + 1) (by omega) (by omega)
    obtain ⟨KG, hG⟩ := rGood l[i] (by omega)
    have hout : rd_T31 (l.map (L fx lim)) (i : Int) = L fx lim l[i] := by
      rw [rd31 _ i (by rw [List.length_map]; exact hi'), List.getElem_map]
    have holen : ((l.map (L fx lim)).length : Int) = (l.length : Int) := by rw [List.length_map]
    have hid : (L fx lim l[i]).f0 = l[i].f0 := by unfold L; split <;> rfl
    by_cases g : good l[i] = true
    · -- a line that is simplified
      have gg := (good_iff l[i]).1 g
      have hsub := L_sub (fx := fx) (lim := lim) g
      have hsl := sub_len hsub
      have inner : ∀ (e at_ j : Nat), j ≤ l[i].f1.length → l[i].f1.length - j = e → at_ ≤ (L fx lim l[i]).f1.length → Sub fx (l[i].f1.drop j) (l[i].f2.drop j) ((L fx lim l[i]).f1.drop at_) ((L fx lim l[i]).f2.drop at_) → Ev (fun k => mapmakerlaw26_GeneralizeKeeps.l1 k l (l.map (L fx lim)) fx (i : Int) (at_ : Int) (j : Int)) true := by
        intro e
        induction e with
        | zero =>
          intro at_ j hj he ha hS
          have h0 := (sub_len hS).2
          rw [List.length_drop, List.length_drop] at h0
          refine ⟨KL + KG + 3, fun k hk => ?_⟩
          obtain ⟨k, rfl⟩ : ∃ m, k = m + 2 := ⟨k - 2, by omega⟩
          have h1 := ihL k (by omega)
          have h2 := hG k (by omega)
          dsimp only at h1 h2
          simp only [mapmakerlaw26_GeneralizeKeeps.l1]
          rw [if_pos (by omega), if_pos (by omega), rd31 l i hi', if_neg (by omega)]
          simp only [mapmakerlaw26_GeneralizeKeeps.j3]
          rw [if_neg (by simp), if_pos (by omega), if_pos (by omega), rd31 l i hi', h2, Option.bind_some, if_pos g, if_pos (by omega), hout, if_pos (by omega), Option.bind_some, if_pos g, if_pos hid, wrap_succ i (by omega)]
          exact h1
        | succ e ihe =>
          intro at_ j hj he ha hS
          have hj' : j < l[i].f1.length := by omega
          have hj2 : j < l[i].f2.length := by omega
          rw [List.drop_eq_getElem_cons hj', List.drop_eq_getElem_cons hj2] at hS
          have hvj : vld l[i].f1[j] = true := vget gg.2 hj'
          -- what the walk does with what is told of the two places
          have stay : ∀ (b : Bool), (b = true → ∃ K, ∀ k, K ≤ k → mapmakerlaw26_GeneralizeKeeps.l1 k l (l.map (L fx lim)) fx (i : Int) ((at_ + 1 : Nat) : Int) ((j + 1 : Nat) : Int) = some true) →
              (b = false → l[i].f1[j] ∉ fx ∧ ∃ K, ∀ k, K ≤ k → mapmakerlaw26_GeneralizeKeeps.l1 k l (l.map (L fx lim)) fx (i : Int) (at_ : Int) ((j + 1 : Nat) : Int) = some true) →
              ∃ K, ∀ k, K ≤ k → mapmakerlaw26_GeneralizeKeeps.j4 k l (l.map (L fx lim)) fx (i : Int) (at_ : Int) (j : Int) b l[i].f1[j].f0 l[i].f1[j].f1 = some true := by
            intro b ht hf'
            cases b with
            | true =>
              obtain ⟨K, hK⟩ := ht rfl
              refine ⟨K + 1, fun k hk => ?_⟩
              obtain ⟨k, rfl⟩ : ∃ m, k = m + 1 := ⟨k - 1, by omega⟩
              simp only [mapmakerlaw26_GeneralizeKeeps.j4]
              rw [if_pos trivial, wrap_succ at_ (by omega), wrap_succ j (by omega)]
              exact hK k (by omega)
            | false =>
              obtain ⟨hn, K, hK⟩ := hf' rfl
              obtain ⟨K2, h2⟩ := has fx l[i].f1[j] hf
              refine ⟨K + K2 + 1, fun k hk => ?_⟩
              obtain ⟨k, rfl⟩ : ∃ m, k = m + 1 := ⟨k - 1, by omega⟩
              have h3 := h2 k (by omega)
              dsimp only at h3
              simp only [mapmakerlaw26_GeneralizeKeeps.j4]
              rw [if_neg (by simp), h3, Option.bind_some, decide_eq_false hn, if_neg (by simp), wrap_succ j (by omega)]
              exact hK k (by omega)
          -- the two lists from here on
          have two : (∃ (h1 : at_ < (L fx lim l[i]).f1.length) (h2 : at_ < (L fx lim l[i]).f2.length), (L fx lim l[i]).f1[at_] = l[i].f1[j] ∧ (L fx lim l[i]).f2[at_] = l[i].f2[j] ∧ Sub fx (l[i].f1.drop (j + 1)) (l[i].f2.drop (j + 1)) ((L fx lim l[i]).f1.drop (at_ + 1)) ((L fx lim l[i]).f2.drop (at_ + 1))) ∨
              (l[i].f1[j] ∉ fx ∧ Sub fx (l[i].f1.drop (j + 1)) (l[i].f2.drop (j + 1)) ((L fx lim l[i]).f1.drop at_) ((L fx lim l[i]).f2.drop at_)) := by
            generalize hR : (L fx lim l[i]).f1.drop at_ = R at hS ⊢
            generalize hN : (L fx lim l[i]).f2.drop at_ = RN at hS ⊢
            cases hS with
            | keep _ _ hS2 =>
              left
              have h1 : at_ < (L fx lim l[i]).f1.length := by
                rcases Nat.lt_or_ge at_ (L fx lim l[i]).f1.length with h | h
                · exact h
                · rw [List.drop_eq_nil_of_le h] at hR; cases hR
              have h2 : at_ < (L fx lim l[i]).f2.length := by omega
              rw [List.drop_eq_getElem_cons h1] at hR
              rw [List.drop_eq_getElem_cons h2] at hN
              have e1 := List.cons.inj hR
              have e2 := List.cons.inj hN
              refine ⟨h1, h2, e1.1, e2.1, ?_⟩
              rw [e1.2, e2.2]
              exact hS2
            | drop _ _ ha hS2 => exact .inr ⟨ha, hS2⟩
          have fin : ∀ b : Bool, (∃ K, ∀ k, K ≤ k → mapmakerlaw26_GeneralizeKeeps.j4 k l (l.map (L fx lim)) fx (i : Int) (at_ : Int) (j : Int) b l[i].f1[j].f0 l[i].f1[j].f1 = some true) →
              (b = (if hh : at_ < (L fx lim l[i]).f1.length ∧ at_ < (L fx lim l[i]).f2.length then (decide ((L fx lim l[i]).f1[at_] = l[i].f1[j]) && decide ((L fx lim l[i]).f2[at_] = l[i].f2[j])) else false)) →
              Ev (fun k => mapmakerlaw26_GeneralizeKeeps.l1 k l (l.map (L fx lim)) fx (i : Int) (at_ : Int) (j : Int)) true := by
            rintro b ⟨K, hK⟩ hb
            refine ⟨K + KG + 3, fun k hk => ?_⟩
            obtain ⟨k, rfl⟩ : ∃ m, k = m + 2 := ⟨k - 2, by omega⟩
            have h2 := hG (k + 1) (by omega)
            dsimp only at h2
            simp only [mapmakerlaw26_GeneralizeKeeps.l1]
            rw [if_pos (by omega), if_pos (by omega), rd31 l i hi', if_pos (by omega), h2, Option.bind_some, g]
            simp only [mapmakerlaw26_GeneralizeKeeps.j3]
            rw [if_pos trivial, if_pos (by omega), if_pos (by omega), if_pos (by omega), rd31 l i hi', if_pos (by omega), if_pos (by omega), hout, rd40 _ j hj']
            by_cases c1 : at_ < (L fx lim l[i]).f1.length
            · have c2 : at_ < (L fx lim l[i]).f2.length := by omega
              rw [dif_pos ⟨c1, c2⟩] at hb
              rw [if_pos (by omega), if_pos (by omega), if_pos (by omega), rd40 _ at_ c1]
              by_cases c3 : (L fx lim l[i]).f1[at_] = l[i].f1[j]
              · rw [if_pos (by rw [c3]; simp), if_pos (by omega), rdI _ at_ c2, rdI _ j hj2]
                have : b = ((L fx lim l[i]).f2[at_] == l[i].f2[j]) := by
                  rw [hb, decide_eq_true c3, Bool.true_and]; rfl
                rw [← this]
                exact hK k (by omega)
              · rw [if_neg (by intro hc; simp at hc; exact c3 (s40_ext hc.1 hc.2))]
                have : b = false := by rw [hb, decide_eq_false c3, Bool.false_and]
                rw [← this]
                exact hK k (by omega)
            · rw [if_neg (by omega)]
              have : b = false := by rw [hb, dif_neg (fun h => c1 h.1)]
              rw [← this]
              exact hK k (by omega)
          rcases two with ⟨h1, h2, e1, e2, hS2⟩ | ⟨hn, hS2⟩
          · refine fin true (stay true (fun _ => ihe (at_ + 1) (j + 1) (by omega) (by omega) (by omega) hS2) (fun h => by cases h)) ?_
            rw [dif_pos ⟨h1, h2⟩, decide_eq_true e1, decide_eq_true e2]
            rfl
          · refine fin false (stay false (fun h => by cases h) (fun _ => ⟨hn, ihe at_ (j + 1) (by omega) (by omega) ha hS2⟩)) ?_
            by_cases hh : at_ < (L fx lim l[i]).f1.length ∧ at_ < (L fx lim l[i]).f2.length
            · rw [dif_pos hh]
              have hne : (L fx lim l[i]).f1[at_]'hh.1 ≠ l[i].f1[j] := by
                intro e1
                apply hn
                have hc := (sub_count hS2 l[i].f1[j]).1
                have c1 : 1 ≤ ((L fx lim l[i]).f1.drop at_).count l[i].f1[j] := by
                  rw [List.drop_eq_getElem_cons hh.1, e1, List.count_cons_self]; omega
                have c2 : (l[i].f1.drop j).count l[i].f1[j] ≤ l[i].f1.count l[i].f1[j] := List.Sublist.count_le _ (List.drop_sublist _ _)
                rw [List.drop_eq_getElem_cons hj', List.count_cons_self] at c2
                have c3 := pts_ge l _ hx l[i].f1[j]
                exact (hm _).2 ⟨hvj, .inr (by omega)⟩
              rw [decide_eq_false hne, Bool.false_and]
            · rw [dif_neg hh]
      obtain ⟨K, h1⟩ := inner l[i].f1.length 0 0 (by omega) (by omega) (by omega) (by simpa using hsub)
      refine ⟨K + 1, fun k hk => ?_⟩
      obtain ⟨k, rfl⟩ : ∃ m, k = m + 1 := ⟨k - 1, by omega⟩
      have h2 := h1 k (by omega)
      dsimp only at h2
      simp only [mapmakerlaw26_GeneralizeKeeps.l0]
      rw [if_pos (by omega)]
      exact h2
    · -- one that isn't
      have hLe : L fx lim l[i] = l[i] := L_bad g
      have gf : good l[i] = false := by simpa using g
      obtain ⟨KS, hS⟩ := same26 l[i] hsx
      have inner : Ev (fun k => mapmakerlaw26_GeneralizeKeeps.l1 k l (l.map (L fx lim)) fx (i : Int) ((0 : Nat) : Int) ((0 : Nat) : Int)) true := by
        refine ⟨KL + KG + KS + 3, fun k hk => ?_⟩
        obtain ⟨k, rfl⟩ : ∃ m, k = m + 2 := ⟨k - 2, by omega⟩
        have h1 := ihL k (by omega)
        have h2 := hG k (by omega)
        have h3 := hG (k + 1) (by omega)
        have h4 := hS k (by omega)
        dsimp only at h1 h2 h3 h4
        have hj : mapmakerlaw26_GeneralizeKeeps.j3 (k + 1) l (l.map (L fx lim)) fx (i : Int) ((0 : Nat) : Int) ((0 : Nat) : Int) false = some true := by
          simp only [mapmakerlaw26_GeneralizeKeeps.j3]
          rw [if_neg (by simp), if_pos (by omega), if_pos (by omega), rd31 l i hi', h2, Option.bind_some, gf, if_neg (by simp), Option.bind_some, if_neg (by simp), if_pos (by omega), hout, hLe, h4, Option.bind_some, if_pos rfl, if_pos rfl, wrap_succ i (by omega)]
          exact h1
        simp only [mapmakerlaw26_GeneralizeKeeps.l1]
        rw [if_pos (by omega), if_pos (by omega), rd31 l i hi']
        by_cases c : (((0 : Nat) : Int)) < (l[i].f1.length : Int)
        · rw [if_pos c, h3, Option.bind_some, gf]; exact hj
        · rw [if_neg c]; exact hj
      obtain ⟨K, h1⟩ := inner
      refine ⟨K + 1, fun k hk => ?_⟩
      obtain ⟨k, rfl⟩ : ∃ m, k = m + 1 := ⟨k - 1, by omega⟩
      have h2 := h1 k (by omega)
      dsimp only at h2
      simp only [mapmakerlaw26_GeneralizeKeeps.l0]
      rw [if_pos (by omega)]
      exact h2
theorem GeneralizeKeeps : mapmakerlaw26_GeneralizeKeeps.Pure := by
  intro l lim hl hlim
  obtain ⟨b, ⟨K, hb⟩, hbb⟩ := fewW l hl.1 hl.2
  cases b with
  | false =>
    refine ⟨K + 100, ?_⟩
    have h1 := hb (K + 100) (by omega)
    dsimp only at h1
    have h2 := lives 100 livesAll (K + 100) (by omega)
    unfold mapmakerlaw26_GeneralizeKeeps.f
    simp only [h1, h2, Option.bind_some, Bool.false_eq_true, if_false]
  | true =>
    have hok := ok_of l hl.2 (hbb rfl)
    have hsh := sh_of l (hbb rfl)
    obtain ⟨r, e1, _, e2, e3, e4⟩ := fxEx l hok
    have hp := hok.pts
    have hn := hok.len
    obtain ⟨K1, n1⟩ := nLines l lim hok e1 (by omega)
    obtain ⟨K2, n2⟩ := lines_again hok lim e2 (by omega) e4
    obtain ⟨K3, n3⟩ := all26 (l.map (L r lim)) (by rw [List.length_map]; omega) (fun x hx => by
      obtain ⟨y, hy, rfl⟩ := List.mem_map.1 hx
      exact L_sh r lim y (hsh y hy))
    obtain ⟨K4, n4⟩ := keepsLoop l lim hok hsh (fx := r) (by omega) e4 l.length 0 (by omega) (by omega)
    refine ⟨K + K1 + K2 + K3 + K4 + 101, ?_⟩
    have h1 := hb (K + K1 + K2 + K3 + K4 + 101) (by omega)
    have h3 := n1 (K + K1 + K2 + K3 + K4 + 101) (by omega)
    have h4 := n2 (K + K1 + K2 + K3 + K4 + 101) (by omega)
    have h5 := n3 (K + K1 + K2 + K3 + K4 + 101) (by omega)
    have h6 := n4 (K + K1 + K2 + K3 + K4 + 100) (by omega)
    dsimp only at h1 h3 h4 h5 h6
    unfold mapmakerlaw26_GeneralizeKeeps.f
    rw [h1, Option.bind_some, if_pos rfl, h3, Option.bind_some, e1, Option.bind_some, if_pos (by rw [List.length_map]), h4, Option.bind_some, h5, Option.bind_some]
    simp only [mapmakerlaw26_GeneralizeKeeps.j0]
    rw [if_neg (by simp)]
    exact h6
end Go.Proofs.Ytpgbfjndgbfhnaa.Pure
