/- DataRemoves: a valid dataset of at most 600 parts remains valid without an object exactly if the object has no users. -/
import Derived.Test.YtgenbepicnbecaaPureValid
import Derived.Test.YtgenbepicnbecaaPAllx32
namespace Go.Proofs.Ytgenbepicnbecaa.Pure
open Go.RowKit Go.Proofs.Ytgenbepicnbecaa.PAll Go.Proofs.YtgenbepicnbecaaW.PrintWords Go.Proofs.YtgenbepicnbecaaW.PrintLast
set_option linter.unusedVariables false
set_option linter.unusedSimpArgs false
def w39 (a b : Int) (x : S39) : Bool := !(a == 1 && x.f0 == b)
def w45 (a b : Int) (x : S45) : Bool := !(a == 2 && x.f0 == b)
def w51 (a b : Int) (x : S51) : Bool := !(a == 3 && x.f0 == b)
theorem wo2 (l0 : List S39) (l1 : List S45) (l2 : List S51) (a b : Int) (o0 : List S39) (o1 : List S45) (hl : l2.length ≤ 1000000) : ∀ d i (acc : List S51), i ≤ l2.length → l2.length - i = d → acc.length ≤ i → Ev (fun k => mapmakerlaw14_without.l2 k (i : Int) l0 l1 l2 a b o0 o1 acc) (o0, o1, acc ++ (l2.drop i).filter (w51 a b)) := by
  intro d
  induction d with
  | zero =>
    intro i acc hi hd hB
    obtain rfl : i = l2.length := by omega
    rw [List.drop_length, List.filter_nil, List.append_nil]
    exact Ev.step (f := fun _ => some (o0, o1, acc)) (fun k => by simp only [mapmakerlaw14_without.l2]; rw [if_neg (by omega)]) (Ev.now _)
  | succ d ih =>
    intro i acc hi hd hB
    have hlt : i < l2.length := by omega
    rw [List.drop_eq_getElem_cons hlt, List.filter_cons]
    by_cases hk : w51 a b l2[i] = true
    · rw [if_pos hk]
      have h := ih (i + 1) (acc ++ [l2[i]]) (by omega) (by omega) (by simp; omega)
      rw [List.append_assoc] at h
      refine Ev.step (fun k => ?_) h
      simp only [mapmakerlaw14_without.l2]
      unfold w51 at hk
      rw [if_pos (by omega)]
      by_cases ha : a = 3
      · have hb : ¬ (l2[i].f0 = b) := fun e => by rw [ha, e] at hk; simp at hk
        rw [if_pos ha, if_pos (by omega), rd51 l2 i hlt, if_neg hb, if_pos (by omega), wrap_succ i (by omega)]
      · rw [if_neg ha, if_pos (by omega), if_pos (by omega), rd51 l2 i hlt, wrap_succ i (by omega)]
    · rw [if_neg hk]
      refine Ev.step (fun k => ?_) (ih (i + 1) acc (by omega) (by omega) (by omega))
      have hk' : a = 3 ∧ l2[i].f0 = b := by unfold w51 at hk; simpa using hk
      simp only [mapmakerlaw14_without.l2]
      rw [if_pos (by omega), if_pos hk'.1, if_pos (by omega), rd51 l2 i hlt, if_pos hk'.2, wrap_succ i (by omega)]
theorem wo1 (l0 : List S39) (l1 : List S45) (l2 : List S51) (a b : Int) (o0 : List S39) (hl1 : l1.length ≤ 1000000) (hl : l2.length ≤ 1000000) : ∀ d i (acc : List S45), i ≤ l1.length → l1.length - i = d → acc.length ≤ i → Ev (fun k => mapmakerlaw14_without.l1 k (i : Int) l0 l1 l2 a b o0 acc) (o0, acc ++ (l1.drop i).filter (w45 a b), l2.filter (w51 a b)) := by
  intro d
  induction d with
  | zero =>
    intro i acc hi hd hB
    obtain rfl : i = l1.length := by omega
    rw [List.drop_length, List.filter_nil, List.append_nil]
    have h := wo2 l0 l1 l2 a b o0 acc hl l2.length 0 [] (by omega) (by omega) (by simp)
    rw [List.drop_zero, List.nil_append] at h
    exact Ev.step (fun k => by simp only [mapmakerlaw14_without.l1]; rw [if_neg (by omega)]; rfl) h
  | succ d ih =>
    intro i acc hi hd hB
    have hlt : i < l1.length := by omega
    rw [List.drop_eq_getElem_cons hlt, List.filter_cons]
    by_cases hk : w45 a b l1[i] = true
    · rw [if_pos hk]
      have h := ih (i + 1) (acc ++ [l1[i]]) (by omega) (by omega) (by simp; omega)
      rw [List.append_assoc] at h
      refine Ev.step (fun k => ?_) h
      simp only [mapmakerlaw14_without.l1]
      unfold w45 at hk
      rw [if_pos (by omega)]
      by_cases ha : a = 2
      · have hb : ¬ (l1[i].f0 = b) := fun e => by rw [ha, e] at hk; simp at hk
        rw [if_pos ha, if_pos (by omega), rd45 l1 i hlt, if_neg hb, if_pos (by omega), wrap_succ i (by omega)]
      · rw [if_neg ha, if_pos (by omega), if_pos (by omega), rd45 l1 i hlt, wrap_succ i (by omega)]
    · rw [if_neg hk]
      refine Ev.step (fun k => ?_) (ih (i + 1) acc (by omega) (by omega) (by omega))
      have hk' : a = 2 ∧ l1[i].f0 = b := by unfold w45 at hk; simpa using hk
      simp only [mapmakerlaw14_without.l1]
      rw [if_pos (by omega), if_pos hk'.1, if_pos (by omega), rd45 l1 i hlt, if_pos hk'.2, wrap_succ i (by omega)]
theorem wo0 (l0 : List S39) (l1 : List S45) (l2 : List S51) (a b : Int) (hl0 : l0.length ≤ 1000000) (hl1 : l1.length ≤ 1000000) (hl : l2.length ≤ 1000000) : ∀ d i (acc : List S39), i ≤ l0.length → l0.length - i = d → acc.length ≤ i → Ev (fun k => mapmakerlaw14_without.l0 k (i : Int) l0 l1 l2 a b acc) (acc ++ (l0.drop i).filter (w39 a b), l1.filter (w45 a b), l2.filter (w51 a b)) := by
  intro d
  induction d with
  | zero =>
    intro i acc hi hd hB
    obtain rfl : i = l0.length := by omega
    rw [List.drop_length, List.filter_nil, List.append_nil]
    have h := wo1 l0 l1 l2 a b acc hl1 hl l1.length 0 [] (by omega) (by omega) (by simp)
    rw [List.drop_zero, List.nil_append] at h
    exact Ev.step (fun k => by simp only [mapmakerlaw14_without.l0]; rw [if_neg (by omega)]; rfl) h
  | succ d ih =>
    intro i acc hi hd hB
    have hlt : i < l0.length := by omega
    rw [List.drop_eq_getElem_cons hlt, List.filter_cons]
    by_cases hk : w39 a b l0[i] = true
    · rw [if_pos hk]
      have h := ih (i + 1) (acc ++ [l0[i]]) (by omega) (by omega) (by simp; omega)
      rw [List.append_assoc] at h
      refine Ev.step (fun k => ?_) h
      simp only [mapmakerlaw14_without.l0]
      unfold w39 at hk
      rw [if_pos (by omega)]
      by_cases ha : a = 1
      · have hb : ¬ (l0[i].f0 = b) := fun e => by rw [ha, e] at hk; simp at hk
        rw [if_pos ha, if_pos (by omega), rd39 l0 i hlt, if_neg hb, if_pos (by omega), wrap_succ i (by omega)]
      · rw [if_neg ha, if_pos (by omega), if_pos (by omega), rd39 l0 i hlt, wrap_succ i (by omega)]
    · rw [if_neg hk]
      refine Ev.step (fun k => ?_) (ih (i + 1) acc (by omega) (by omega) (by omega))
      have hk' : a = 1 ∧ l0[i].f0 = b := by unfold w39 at hk; simpa using hk
      simp only [mapmakerlaw14_without.l0]
      rw [if_pos (by omega), if_pos hk'.1, if_pos (by omega), rd39 l0 i hlt, if_pos hk'.2, wrap_succ i (by omega)]
theorem without_ev (l0 : List S39) (l1 : List S45) (l2 : List S51) (a b : Int) (hl0 : l0.length ≤ 1000000) (hl1 : l1.length ≤ 1000000) (hl : l2.length ≤ 1000000) : Ev (fun k => mapmakerlaw14_without.f k l0 l1 l2 a b) (l0.filter (w39 a b), l1.filter (w45 a b), l2.filter (w51 a b)) := by
  have h := wo0 l0 l1 l2 a b hl0 hl1 hl l0.length 0 [] (by omega) (by omega) (by simp)
  rw [List.drop_zero, List.nil_append] at h
  exact h
theorem mem39 (a b n : Int) (l : List S39) : n ∈ i39 (l.filter (w39 a b)) ↔ n ∈ i39 l ∧ ¬ (a = 1 ∧ n = b) := by
  unfold i39 w39
  simp only [List.mem_map, List.mem_filter, Bool.not_eq_true', Bool.and_eq_false_imp, beq_iff_eq, beq_eq_false_iff_ne, ne_eq]
  constructor
  · rintro ⟨x, ⟨hx, h⟩, rfl⟩; exact ⟨⟨x, hx, rfl⟩, fun ⟨h1, h2⟩ => h h1 h2⟩
  · rintro ⟨⟨x, hx, rfl⟩, h⟩; exact ⟨x, ⟨hx, fun h1 h2 => h ⟨h1, h2⟩⟩, rfl⟩
theorem mem45 (a b n : Int) (l : List S45) : n ∈ i45 (l.filter (w45 a b)) ↔ n ∈ i45 l ∧ ¬ (a = 2 ∧ n = b) := by
  unfold i45 w45
  simp only [List.mem_map, List.mem_filter, Bool.not_eq_true', Bool.and_eq_false_imp, beq_iff_eq, beq_eq_false_iff_ne, ne_eq]
  constructor
  · rintro ⟨x, ⟨hx, h⟩, rfl⟩; exact ⟨⟨x, hx, rfl⟩, fun ⟨h1, h2⟩ => h h1 h2⟩
  · rintro ⟨⟨x, hx, rfl⟩, h⟩; exact ⟨x, ⟨hx, fun h1 h2 => h ⟨h1, h2⟩⟩, rfl⟩
theorem chk_without (l0 : List S39) (l1 : List S45) (l2 : List S51) (a b : Int) (hv : chk l0 l1 l2 = 0) : chk (l0.filter (w39 a b)) (l1.filter (w45 a b)) (l2.filter (w51 a b)) = if usersV l1 l2 a b = [] then 0 else 9 := by
  obtain ⟨⟨c0, c1, c2⟩, v0, v1, v2⟩ := (chk_iff _ _ _).1 hv
  obtain ⟨n1, n2⟩ := (ngo_iff _ _).1 v0
  obtain ⟨w1, w2⟩ := (wgo_iff _ _ _).1 v1
  obtain ⟨r1, r2⟩ := (rgo_iff _ _ _ _).1 v2
  obtain ⟨g1, g2⟩ := valid_of l0 l1 l2 hv
  have f0 := List.length_filter_le (w39 a b) l0
  have f1 := List.length_filter_le (w45 a b) l1
  have f2 := List.length_filter_le (w51 a b) l2
  have k0 : ngo 0 (l0.filter (w39 a b)) = 0 := (ngo_iff _ _).2 ⟨okIds_filter _ _ _ _ _ (Int.le_refl _) n1, fun x hx => n2 x (List.mem_filter.1 hx).1⟩
  have o1 : okIds 0 (i45 (l1.filter (w45 a b))) := okIds_filter _ _ _ _ _ (Int.le_refl _) w1
  have o2 : okIds 0 (i51 (l2.filter (w51 a b))) := okIds_filter _ _ _ _ _ (Int.le_refl _) r1
  have e : chk (l0.filter (w39 a b)) (l1.filter (w45 a b)) (l2.filter (w51 a b)) = if wgo (i39 (l0.filter (w39 a b))) 0 (l1.filter (w45 a b)) = 0 then rgo (i39 (l0.filter (w39 a b))) (i45 (l1.filter (w45 a b))) 0 (l2.filter (w51 a b)) else wgo (i39 (l0.filter (w39 a b))) 0 (l1.filter (w45 a b)) := by
    unfold chk
    rw [if_neg (by omega), if_pos k0]
  rw [e]
  clear e
  have hmm : ∀ x ∈ l2, ∀ m ∈ x.f1, missF (i39 (l0.filter (w39 a b))) (i45 (l1.filter (w45 a b))) m = false ↔ ¬ (m.f0.f0 = a ∧ m.f0.f1 = b) := by
    intro x hx m hm
    rw [missF_iff, mem39, mem45]
    rcases g2 x hx m hm with ⟨h, h'⟩ | ⟨h, h'⟩
    · constructor
      · rintro (⟨_, _, q⟩ | ⟨q, _⟩)
        · rintro ⟨q1, q2⟩; exact q ⟨by omega, q2⟩
        · omega
      · intro q; exact .inl ⟨h, h', fun ⟨q1, q2⟩ => q ⟨by omega, q2⟩⟩
    · constructor
      · rintro (⟨q, _⟩ | ⟨_, _, q⟩)
        · omega
        · rintro ⟨q1, q2⟩; exact q ⟨by omega, q2⟩
      · intro q; exact .inr ⟨h, h', fun ⟨q1, q2⟩ => q ⟨by omega, q2⟩⟩
  by_cases hw : ∃ w ∈ l1.filter (w45 a b), wayE (i39 (l0.filter (w39 a b))) w = 9
  · -- a way has lost a node
    have k1 := wgo_nine (i39 (l0.filter (w39 a b))) (l1.filter (w45 a b)) 0 o1 (fun x hx => by
      rcases wayE_less _ (i39 (l0.filter (w39 a b))) x (w2 x (List.mem_filter.1 hx).1) with h | h
      · exact .inl h.1
      · exact .inr h.1) hw
    rw [k1, if_neg (by decide)]
    obtain ⟨w, hwm, h9⟩ := hw
    have hwl := (List.mem_filter.1 hwm).1
    rcases wayE_less _ (i39 (l0.filter (w39 a b))) w (w2 w hwl) with h | ⟨_, n, hn, hno⟩
    · rw [h.1] at h9; cases h9
    · have hn0 := (g1 w hwl).2 n hn
      have hab : a = 1 ∧ n = b := Classical.byContradiction fun hc => hno ((mem39 _ _ _ _).2 ⟨hn0, hc⟩)
      have hu : (⟨2, w.f0⟩ : S34) ∈ usersV l1 l2 a b := (mem_users _ _ _ _ _).2 (.inl ⟨hab.1, w, hwl, hab.2 ▸ hn, rfl⟩)
      rw [if_neg (fun he => by rw [he] at hu; exact absurd hu (by simp))]
  · have k1 : wgo (i39 (l0.filter (w39 a b))) 0 (l1.filter (w45 a b)) = 0 := (wgo_iff _ _ _).2 ⟨o1, fun x hx => by
      rcases wayE_less _ (i39 (l0.filter (w39 a b))) x (w2 x (List.mem_filter.1 hx).1) with h | h
      · exact h.1
      · exact absurd ⟨x, hx, h.1⟩ hw⟩
    rw [if_pos k1]
    by_cases hr : ∃ x ∈ l2.filter (w51 a b), relE (i39 (l0.filter (w39 a b))) (i45 (l1.filter (w45 a b))) x = 9
    · have k2 := rgo_nine (i39 (l0.filter (w39 a b))) (i45 (l1.filter (w45 a b))) (l2.filter (w51 a b)) 0 o2 (fun x hx => by
        rcases relE_less _ _ (i39 (l0.filter (w39 a b))) (i45 (l1.filter (w45 a b))) x (r2 x (List.mem_filter.1 hx).1) with h | h
        · exact .inl h.1
        · exact .inr h.1) hr
      rw [k2]
      obtain ⟨x, hxm, h9⟩ := hr
      have hxl := (List.mem_filter.1 hxm).1
      rcases relE_less _ _ (i39 (l0.filter (w39 a b))) (i45 (l1.filter (w45 a b))) x (r2 x hxl) with h | ⟨_, m, hm, hmi⟩
      · rw [h.1] at h9; cases h9
      · have hab : m.f0.f0 = a ∧ m.f0.f1 = b := Classical.byContradiction fun hc => by rw [(hmm x hxl m hm).2 hc] at hmi; cases hmi
        have hu : (⟨3, x.f0⟩ : S34) ∈ usersV l1 l2 a b := (mem_users _ _ _ _ _).2 (.inr ⟨x, hxl, ⟨m, hm, hab⟩, rfl⟩)
        rw [if_neg (fun he => by rw [he] at hu; exact absurd hu (by simp))]
    · have k2 : rgo (i39 (l0.filter (w39 a b))) (i45 (l1.filter (w45 a b))) 0 (l2.filter (w51 a b)) = 0 := (rgo_iff _ _ _ _).2 ⟨o2, fun x hx => by
        rcases relE_less _ _ (i39 (l0.filter (w39 a b))) (i45 (l1.filter (w45 a b))) x (r2 x (List.mem_filter.1 hx).1) with h | h
        · exact h.1
        · exact absurd ⟨x, hx, h.1⟩ hr⟩
      rw [k2]
      -- nobody uses it
      have hno : usersV l1 l2 a b = [] := by
        apply List.eq_nil_iff_forall_not_mem.2
        intro y hy
        rcases (mem_users _ _ _ _ _).1 hy with ⟨ha, w, hwl, hb, rfl⟩ | ⟨x, hxl, ⟨m, hm, hab⟩, rfl⟩
        · have hwf : w ∈ l1.filter (w45 a b) := List.mem_filter.2 ⟨hwl, by unfold w45; rw [ha]; rfl⟩
          have h0 := ((wayE_iff _ _).1 (((wgo_iff _ _ _).1 k1).2 w hwf)).2.2.1 b hb
          exact ((mem39 _ _ _ _).1 h0).2 ⟨ha, rfl⟩
        · have hxf : x ∈ l2.filter (w51 a b) := by
            refine List.mem_filter.2 ⟨hxl, ?_⟩
            have ha : a ≠ 3 := by
              intro ha
              rcases g2 x hxl m hm with ⟨h, _⟩ | ⟨h, _⟩ <;> omega
            unfold w51
            rw [beq_eq_false_iff_ne.mpr ha]; rfl
          have h0 := ((relE_iff _ _ _).1 (((rgo_iff _ _ _ _).1 k2).2 x hxf)).2.2.1 m hm
          exact (hmm x hxl m hm).1 h0 hab
      rw [if_pos hno]
theorem DataRemoves : mapmakerlaw14_DataRemoves.Pure := by
  intro x a1 w wa
  refine Ev.rounds (g := fun k => mapmakerlaw14_DataRemoves.f k x.f0 x.f1 x.f2 a1) ?_
  have hw := wfD_of x w
  have ha : 0 ≤ a1 ∧ a1 < 256 := by
    simp [Lit.wf] at wa
    have e1 : IntKind.u8.min = 0 := rfl
    have e2 : IntKind.u8.max = 255 := rfl
    rw [e1, e2] at wa
    omega
  have hL : Ev (fun k => (mapmakerlaw14_lives.f k).bind fun t => some t) true := Ev.bind lives_ev (Ev.now true)
  have hj : Ev (fun k => mapmakerlaw14_DataRemoves.j0 k a1 true x.f0 x.f1 x.f2) true := Ev.step (f := fun k => (mapmakerlaw14_lives.f k).bind fun t => some t) (fun k => by simp only [mapmakerlaw14_DataRemoves.j0, if_true]) hL
  unfold mapmakerlaw14_DataRemoves.f
  refine Ev.bind (few_ev x w) ?_
  by_cases hf : total x.f0 x.f1 x.f2 ≤ 600
  · simp only [decide_eq_true hf, if_true]
    refine Ev.bind (prog_check _ _ _ hw) ?_
    by_cases hv : chk x.f0 x.f1 x.f2 = 0
    · rw [hv]
      have hs : x.f0.length + x.f1.length + x.f2.length ≤ 600 := by unfold total at hf; omega
      generalize hA : x.f0 = l0 at *
      generalize hB : x.f1 = l1 at *
      generalize hC : x.f2 = l2 at *
      have hlen : (refsL l0 l1 l2).length = l0.length + l1.length + l2.length := by unfold refsL r39 r45 r51; simp; omega
      refine Ev.step (fun k => by simp only [mapmakerlaw14_DataRemoves.j0]; rfl) (Ev.bind (prog_refs l0 l1 l2 (by omega)) ?_)
      rw [wrapI (n := (l0.length : Int) + _) (by omega), wrapI (by omega)]
      generalize refsL l0 l1 l2 = R at *
      simp only [if_pos (show (R.length : Int) = (l0.length : Int) + (l1.length : Int) + (l2.length : Int) by omega)]
      by_cases h0 : (R.length : Int) = 0
      · simp only [if_pos h0]; exact hL
      · simp only [if_neg h0]
        have e1 : wrap64 a1 = a1 := wrapI (by omega)
        have e2 : Int.tmod a1 (R.length : Int) = a1 % (R.length : Int) := Int.tmod_eq_emod_of_nonneg ha.1
        rw [e1, e2]
        have hp : 0 < (R.length : Int) := by omega
        have m1 := Int.emod_nonneg a1 h0
        have m2 := Int.emod_lt_of_pos a1 hp
        simp only [if_pos m1, if_pos m2]
        generalize rd_T34 R (a1 % (R.length : Int)) = y
        refine Ev.bind (without_ev l0 l1 l2 y.f0 y.f1 (by omega) (by omega) (by omega)) ?_
        have f0 := List.length_filter_le (w39 y.f0 y.f1) l0
        have f1 := List.length_filter_le (w45 y.f0 y.f1) l1
        have f2 := List.length_filter_le (w51 y.f0 y.f1) l2
        have hw' : WfD (l0.filter (w39 y.f0 y.f1)) (l1.filter (w45 y.f0 y.f1)) (l2.filter (w51 y.f0 y.f1)) :=
          ⟨⟨by omega, by omega, by omega⟩, fun z hz => hw.2.1 z (List.mem_filter.1 hz).1, fun z hz => hw.2.2.1 z (List.mem_filter.1 hz).1, fun z hz => hw.2.2.2 z (List.mem_filter.1 hz).1⟩
        refine Ev.bind (prog_check _ _ _ hw') (Ev.bind (prog_users l0 l1 l2 y.f0 y.f1 (by omega) (fun z hz => (hw.2.2.1 z hz).2.1) (by omega)) ?_)
        rw [chk_without l0 l1 l2 y.f0 y.f1 hv]
        by_cases hu : usersV l1 l2 y.f0 y.f1 = []
        · rw [hu, if_pos rfl]
          simp only [List.length_nil]
          simp only [if_neg (show ¬ (((0 : Nat) : Int) > 0) by decide), if_true]
          exact hL
        · have hlp := List.length_pos_iff.2 hu
          simp only [if_neg hu, if_pos (show ((usersV l1 l2 y.f0 y.f1).length : Int) > 0 by omega)]
          exact hL
    · have hb : (chk x.f0 x.f1 x.f2 != 0) = true := bne_iff_ne.mpr hv
      rw [hb]
      exact hj
  · simp only [decide_eq_false hf, Bool.false_eq_true, if_false]
    exact hj
end Go.Proofs.Ytgenbepicnbecaa.Pure
