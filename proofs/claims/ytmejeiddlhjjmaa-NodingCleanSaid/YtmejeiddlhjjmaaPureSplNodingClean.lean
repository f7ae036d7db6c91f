/- NodingSplits: Split and Clean return what the reference returns. -/
import Derived.Test.YtmejeiddlhjjmaaPureCrsNodingClean
namespace Go.Proofs.Ytmejeiddlhjjmaa.Pure
open Go.RowKit Go.Proofs.Ytmejeiddlhjjmaa.PNodingClean Go.Proofs.YtmejeiddlhjjmaaW.PrintWords Go.Proofs.YtmejeiddlhjjmaaW.PrintLast
set_option linter.unusedVariables false
set_option linter.unusedSimpArgs false

def Inc (l : List S33) : Prop := l.Pairwise (fun x y => cd x < cd y)
theorem inc_ext : ∀ {a b : List S33}, Inc a → Inc b → (∀ x, x ∈ a ↔ x ∈ b) → a = b
  | [], [], _, _, _ => rfl
  | [], y :: b, _, _, h => absurd ((h y).2 List.mem_cons_self) (by simp)
  | x :: a, [], _, _, h => absurd ((h x).1 List.mem_cons_self) (by simp)
  | x :: a, y :: b, ha, hb, h => by
    have ha' := List.pairwise_cons.1 ha
    have hb' := List.pairwise_cons.1 hb
    have hxy : x = y := by
      rcases List.mem_cons.1 ((h x).1 List.mem_cons_self) with e | h1
      · exact e
      · rcases List.mem_cons.1 ((h y).2 List.mem_cons_self) with e | h2
        · exact e.symm
        · have := ha'.1 y h2; have := hb'.1 x h1; omega
    subst hxy
    rw [inc_ext ha'.2 hb'.2 (fun z => ⟨fun hz => by
      rcases List.mem_cons.1 ((h z).1 (List.mem_cons_of_mem _ hz)) with e | h1
      · subst e; have := ha'.1 z hz; omega
      · exact h1, fun hz => by
      rcases List.mem_cons.1 ((h z).2 (List.mem_cons_of_mem _ hz)) with e | h1
      · subst e; have := hb'.1 z hz; omega
      · exact h1⟩)]
theorem ddGo33_cons (p y : S33) (l : List S33) : ddGo33 eqs33 p (y :: l) = if eqs33 y p = true then ddGo33 eqs33 y l else y :: ddGo33 eqs33 y l := rfl
theorem ddGo33_spec : ∀ (l : List S33) (p : S33), onG p → (∀ x ∈ l, onG x) → (p :: l).Pairwise (fun x y => cd x ≤ cd y) → Inc (p :: ddGo33 eqs33 p l) ∧ ∀ x, x ∈ p :: ddGo33 eqs33 p l ↔ x ∈ p :: l
  | [], p, _, _, _ => ⟨List.pairwise_singleton _ _, fun x => Iff.rfl⟩
  | y :: l, p, hp, hl, h => by
    have h' := List.pairwise_cons.1 h
    obtain ⟨i1, i2⟩ := ddGo33_spec l y (hl y List.mem_cons_self) (fun x hx => hl x (List.mem_cons_of_mem _ hx)) h'.2
    rw [ddGo33_cons]
    by_cases e : y = p
    · subst e
      rw [if_pos ((eqs33_iff _ _).2 rfl)]
      exact ⟨i1, fun x => by rw [i2]; simp⟩
    · rw [if_neg (fun h => e ((eqs33_iff _ _).1 h))]
      have hlt : cd p < cd y := by
        have h1 := h'.1 y List.mem_cons_self
        have : cd p ≠ cd y := fun h2 => e (cd_inj hp (hl y List.mem_cons_self) h2).symm
        omega
      refine ⟨List.pairwise_cons.2 ⟨fun z hz => ?_, i1⟩, fun x => by rw [List.mem_cons, i2]; simp⟩
      rcases List.mem_cons.1 hz with rfl | hz
      · exact hlt
      · have := (List.pairwise_cons.1 i1).1 z hz; omega
theorem dd33_spec (l : List S33) (hl : ∀ x ∈ l, onG x) (h : l.Pairwise (fun x y => cd x ≤ cd y)) : Inc (dd33 eqs33 l) ∧ ∀ x, x ∈ dd33 eqs33 l ↔ x ∈ l := by
  cases l with
  | nil => exact ⟨List.Pairwise.nil, fun x => Iff.rfl⟩
  | cons p l => exact ddGo33_spec l p (hl p List.mem_cons_self) (fun x hx => hl x (List.mem_cons_of_mem _ hx)) h
theorem pts_by (l : List S33) (hl : ∀ x ∈ l, onG x) (hn : l.length < 4611686018427387904) : ∃ e es, api_Point_by_noding_Split_1.f l = some e ∧ api_Point_42.f e = some es ∧ Inc es ∧ es.length ≤ l.length ∧ ∀ x, x ∈ es ↔ x ∈ l := by
  have hex : ∃ r, api_Point_by_noding_Split_1.f l = some r := by unfold api_Point_by_noding_Split_1.f; rw [if_pos hn]; exact ⟨_, rfl⟩
  obtain ⟨e, he⟩ := hex
  obtain ⟨hp, hs⟩ := api_Point_by_noding_Split_1.spec l e he
  have hg : ∀ x ∈ e, onG x := fun x hx => hl x (hp.mem_iff.1 hx)
  have hpw : e.Pairwise (fun x y => cd x ≤ cd y) := by
    rw [List.pairwise_iff_getElem]
    intro i j hi hj hij
    have h1 := hs i j hij hj
    rw [List.getD_eq_getElem?_getD, List.getD_eq_getElem?_getD, List.getElem?_eq_getElem hi, List.getElem?_eq_getElem hj, ← Bool.not_eq_true] at h1
    have h2 : ¬ (e[j].f0 < e[i].f0 ∨ e[j].f0 = e[i].f0 ∧ e[j].f1 < e[i].f1) := fun h => h1 ((ltBy40 _ _).2 h)
    have g1 := hg e[i] (List.getElem_mem hi)
    have g2 := hg e[j] (List.getElem_mem hj)
    unfold cd onG at *
    omega
  obtain ⟨d1, d2⟩ := dd33_spec e hg hpw
  have hlen : ∀ (l : List S33) (p : S33), (ddGo33 eqs33 p l).length ≤ l.length := by
    intro l
    induction l with
    | nil => intro p; exact Nat.le_refl _
    | cons y l ih => intro p; rw [ddGo33_cons]; have := ih y; split <;> simp <;> omega
  refine ⟨e, _, he, rfl, d1, ?_, fun x => (d2 x).trans hp.mem_iff⟩
  rw [← hp.length_eq]
  cases e with
  | nil => exact Nat.le_refl _
  | cons y l => have := hlen l y; show (y :: ddGo33 eqs33 y l).length ≤ _; simp; omega

theorem mem_ends : ∀ (l : List S35) (p : S33), p ∈ noding_Split.ends l ↔ ∃ s ∈ l, p = s.f0 ∨ p = s.f1
  | [], p => by simp [noding_Split.ends]
  | s :: l, p => by
    show p ∈ s.f0 :: s.f1 :: noding_Split.ends l ↔ _
    rw [List.mem_cons, List.mem_cons, mem_ends l p]
    simp [or_assoc]
def wB (p : S33) (s : S35) : Bool := onP p s && ((!eqs33 p s.f0) && (!eqs33 p s.f1))
theorem ne33 (p q : S33) : (!(p.f0 == q.f0) || (!(p.f1 == q.f1))) = !eqs33 p q := by unfold eqs33; rw [Bool.not_and]
theorem nWithin {p : S33} {s : S35} (hp : onG p) (h : Seg s) (k : Nat) (hk : 10 < k) : seg_Within.f k p.f0 p.f1 s.f0.f0 s.f0.f1 s.f1.f0 s.f1.f1 = some (wB p s) := by
  unfold seg_Within.f wB
  rw [nOn hp h k hk, Option.bind_some, ne33, ne33]
  cases onP p s <;> cases eqs33 p s.f0 <;> simp
theorem wB_cd {p : S33} {s : S35} (hp : onG p) (h : Seg s) (hw : wB p s = true) : cd s.f0 < cd p ∧ cd p < cd s.f1 := by
  unfold wB at hw
  simp only [Bool.and_eq_true, Bool.not_eq_true'] at hw
  obtain ⟨h1, h2, h3⟩ := hw
  have := (onP_cd hp h).1 h1
  have n1 : cd p ≠ cd s.f0 := fun e => by rw [cd_inj hp h.a e, (eqs33_iff _ _).2 rfl] at h2; cases h2
  have n2 : cd p ≠ cd s.f1 := fun e => by rw [cd_inj hp h.b e, (eqs33_iff _ _).2 rfl] at h3; cases h3
  omega
def chn (p : S33) : List S33 → List S35
  | [] => []
  | q :: r => ⟨p, q⟩ :: chn q r
def lst (p : S33) : List S33 → S33
  | [] => p
  | q :: r => lst q r
theorem chn_last : ∀ (l : List S33) (p b : S33), chn p (l ++ [b]) = chn p l ++ [⟨lst p l, b⟩]
  | [], p, b => rfl
  | q :: l, p, b => by show ⟨p, q⟩ :: chn q (l ++ [b]) = ⟨p, q⟩ :: (chn q l ++ [⟨lst q l, b⟩]); rw [chn_last l q b]
theorem chn_length : ∀ (l : List S33) (p : S33), (chn p l).length = l.length
  | [], _ => rfl
  | q :: l, p => by show (chn q l).length + 1 = l.length + 1; rw [chn_length l q]
theorem chn_seg : ∀ (l : List S33) (p : S33), onG p → (∀ x ∈ l, onG x) → Inc (p :: l) → ∀ s ∈ chn p l, Seg s
  | [], _, _, _, _, s, hs => absurd hs (by simp [chn])
  | q :: l, p, hp, hl, h, s, hs => by
    have h' := List.pairwise_cons.1 h
    rcases List.mem_cons.1 (show s ∈ ⟨p, q⟩ :: chn q l from hs) with rfl | hs
    · exact ⟨hp, hl q List.mem_cons_self, h'.1 q List.mem_cons_self⟩
    · exact chn_seg l q (hl q List.mem_cons_self) (fun x hx => hl x (List.mem_cons_of_mem _ hx)) h'.2 s hs
def pcs (es : List S33) (s : S35) : List S35 := chn s.f0 (es.filter (fun p => wB p s) ++ [s.f1])
theorem inc_pcs {es : List S33} {s : S35} (hs : Seg s) (he : Inc es) (hg : ∀ x ∈ es, onG x) : Inc (s.f0 :: (es.filter (fun p => wB p s) ++ [s.f1])) := by
  refine List.pairwise_cons.2 ⟨fun z hz => ?_, List.pairwise_append.2 ⟨he.filter _, List.pairwise_singleton _ _, fun x hx y hy => ?_⟩⟩
  · rcases List.mem_append.1 hz with hz | hz
    · obtain ⟨h1, h2⟩ := List.mem_filter.1 hz
      exact (wB_cd (hg z h1) hs h2).1
    · simp at hz; subst hz; exact hs.lt
  · simp at hy
    subst hy
    obtain ⟨h1, h2⟩ := List.mem_filter.1 hx
    exact (wB_cd (hg x h1) hs h2).2
theorem pcs_seg {es : List S33} {s : S35} (hs : Seg s) (he : Inc es) (hg : ∀ x ∈ es, onG x) : ∀ x ∈ pcs es s, Seg x :=
  chn_seg _ _ hs.a (fun x hx => by
    rcases List.mem_append.1 hx with hx | hx
    · exact hg x (List.mem_filter.1 hx).1
    · simp at hx; subst hx; exact hs.b) (inc_pcs hs he hg)
theorem pcs_length (es : List S33) (s : S35) : (pcs es s).length ≤ es.length + 1 := by
  unfold pcs
  rw [chn_length, List.length_append]
  have := List.length_filter_le (fun p => wB p s) es
  simp; omega
theorem nCut {s : S35} (hs : Seg s) (k : Nat) (hk : 10 < k) : ∀ (qs : List S33) (p : S33) (out : List S35), (∀ x ∈ qs, onG x) → out.length + qs.length ≤ 1000000 → noding_Split.cut k s p qs out = some (lst p (qs.filter (fun p => wB p s)), out ++ chn p (qs.filter (fun p => wB p s)))
  | [], p, out, _, _ => by simp [noding_Split.cut, lst, chn]
  | q :: qs, p, out, hg, hl => by
    simp at hl
    unfold noding_Split.cut
    rw [nWithin (hg q List.mem_cons_self) hs k hk, Option.bind_some, List.filter_cons]
    by_cases c : wB q s = true
    · rw [if_pos c, if_pos (by omega), if_pos c, nCut hs k hk qs q _ (fun x hx => hg x (List.mem_cons_of_mem _ hx)) (by simp; omega)]
      simp [lst, chn]
    · rw [if_neg c, if_neg c, nCut hs k hk qs p out (fun x hx => hg x (List.mem_cons_of_mem _ hx)) (by omega)]
theorem canonP_id : ∀ (l : List S35), (∀ s ∈ l, Seg s) → canonP l = l
  | [], _ => rfl
  | s :: l, h => by
    have hs := h s List.mem_cons_self
    have hg : goodS s = true := by
      unfold goodS
      rw [ne33, vB_on hs.a, vB_on hs.b]
      have : eqs33 s.f0 s.f1 = false := by rw [Bool.eq_false_iff]; exact fun e => hs.ne ((eqs33_iff _ _).1 e)
      rw [this]; rfl
    rw [canonP_cons, if_pos hg, hs.of, canonP_id l (fun t ht => h t (List.mem_cons_of_mem _ ht))]
theorem eq_same0 (a b : List S35) : ∀ (k : Nat) (i : Int), api_Seg_45.l0 k a b (a.length : Int) i = mapmakerref20_Same.l0 k a b i
  | 0, i => rfl
  | k + 1, i => by
    simp only [api_Seg_45.l0, mapmakerref20_Same.l0]
    by_cases c1 : i < (a.length : Int)
    · rw [if_pos c1, if_pos c1]
      by_cases c2 : 0 ≤ i
      · rw [if_pos c2, if_pos c2, if_pos c1, eq_same0 a b k]
      · simp only [if_pos c1, if_neg c2]
    · rw [if_neg c1, if_neg c1]
theorem same_some0 (a b : List S35) (hab : a.length = b.length) (hl : a.length ≤ 1000000) (d : Nat) : ∀ (k : Nat) (i : Nat), i ≤ a.length → a.length - i = d → d < k → ∃ r, mapmakerref20_Same.l0 k a b (i : Int) = some r := by
  induction d with
  | zero =>
    intro k i hi hd hk
    cases k with
    | zero => omega
    | succ k => simp only [mapmakerref20_Same.l0]; rw [if_neg (by omega)]; exact ⟨_, rfl⟩
  | succ d ih =>
    intro k i hi hd hk
    cases k with
    | zero => omega
    | succ k =>
      simp only [mapmakerref20_Same.l0]
      rw [if_pos (by omega), if_pos (by omega), if_pos (by omega), wrap_succ i (by omega)]
      split
      · exact ⟨_, rfl⟩
      · exact ih k (i + 1) (by omega) (by omega) (by omega)
theorem same_some (a b : List S35) (hl : a.length ≤ 1000000) (k : Nat) (hk : a.length < k) : ∃ r, mapmakerref20_Same.f k a b = some r ∧ api_Seg_45.f k a b = some r := by
  unfold mapmakerref20_Same.f api_Seg_45.f
  by_cases c : (a.length : Int) = (b.length : Int)
  · rw [if_pos c, if_pos c, eq_same0]
    obtain ⟨r, h⟩ := same_some0 a b (by omega) hl a.length k 0 (by omega) (by omega) hk
    exact ⟨r, h, h⟩
  · rw [if_neg c, if_neg c]; exact ⟨_, rfl, rfl⟩
end Go.Proofs.Ytmejeiddlhjjmaa.Pure
