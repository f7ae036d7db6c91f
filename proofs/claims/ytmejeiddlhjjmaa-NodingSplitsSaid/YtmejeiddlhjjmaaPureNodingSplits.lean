/- NodingSplits: Split and Clean return what the reference returns. -/
import Derived.Test.YtmejeiddlhjjmaaPureCrsNodingSplits
namespace Go.Proofs.Ytmejeiddlhjjmaa.Pure
open Go.RowKit Go.Proofs.Ytmejeiddlhjjmaa.PNodingSplits Go.Proofs.YtmejeiddlhjjmaaW.PrintWords Go.Proofs.YtmejeiddlhjjmaaW.PrintLast
set_option linter.unusedVariables false
set_option linter.unusedSimpArgs false
def Inc (l : List S33) : Prop := l.Pairwise (fun x y => cd x < cd y)
theorem inc_ext : ∀ {a b : List S33}, Inc a → Inc b → (∀ x, x ∈ a ↔ x ∈ b) → a = b
 | [], [], _, _, _ => rfl
 | [], y :: b, _, _, h => absurd ((h y).2 List.mem_cons_self) (by simp)
 | x :: a, [], _, _, h => absurd ((h x).1 List.mem_cons_self) (by simp)
 | x :: a, y :: b, ha, hb, h => by
  have ha' := List.pairwise_cons.1 ha
  have hb' := List.pairwise_cons.1 hb
  have hxy : x = y := by
   rcases List.mem_cons.1 ((h x).1 List.mem_cons_self) with e | h1
   ·exact e
   ·rcases List.mem_cons.1 ((h y).2 List.mem_cons_self) with e | h2
    ·exact e.symm
    ·have := ha'.1 y h2; have := hb'.1 x h1; omega
  subst hxy
  rw [inc_ext ha'.2 hb'.2 (fun z => ⟨fun hz => by
   rcases List.mem_cons.1 ((h z).1 (List.mem_cons_of_mem _ hz)) with e | h1
   ·subst e; have := ha'.1 z hz; omega
   ·exact h1, fun hz => by
   rcases List.mem_cons.1 ((h z).2 (List.mem_cons_of_mem _ hz)) with e | h1
   ·subst e; have := hb'.1 z hz; omega
   ·exact h1⟩)]
theorem ddGo33_cons (p y : S33) (l : List S33) : ddGo33 eqs33 p (y :: l) = if eqs33 y p = true then ddGo33 eqs33 y l else y :: ddGo33 eqs33 y l := rfl
theorem ddGo33_spec : ∀ (l : List S33) (p : S33), onG p → (∀ x ∈ l, onG x) → (p :: l).Pairwise (fun x y => cd x ≤ cd y) → Inc (p :: ddGo33 eqs33 p l) ∧ ∀ x, x ∈ p :: ddGo33 eqs33 p l ↔ x ∈ p :: l
 | [], p, _, _, _ => ⟨List.pairwise_singleton _ _, fun x => Iff.rfl⟩
 | y :: l, p, hp, hl, h => by
  have h' := List.pairwise_cons.1 h
  obtain ⟨i1, i2⟩ := ddGo33_spec l y (hl y List.mem_cons_self) (fun x hx => hl x (List.mem_cons_of_mem _ hx)) h'.2
  rw [ddGo33_cons]
  by_cases e : y = p
  ·subst e
   rw [if_pos ((eqs33_iff _ _).2 rfl)]
   exact ⟨i1, fun x => by rw [i2]; simp⟩
  ·rw [if_neg (fun h => e ((eqs33_iff _ _).1 h))]
   have hlt : cd p < cd y := by
    have h1 := h'.1 y List.mem_cons_self
    have : cd p ≠ cd y := fun h2 => e (cd_inj hp (hl y List.mem_cons_self) h2).symm
    omega
   refine ⟨List.pairwise_cons.2 ⟨fun z hz => ?_, i1⟩, fun x => by rw [List.mem_cons, i2]; simp⟩
   rcases List.mem_cons.1 hz with rfl | hz
   ·exact hlt
   ·have := (List.pairwise_cons.1 i1).1 z hz; omega
theorem dd33_spec (l : List S33) (hl : ∀ x ∈ l, onG x) (h : l.Pairwise (fun x y => cd x ≤ cd y)) : Inc (dd33 eqs33 l) ∧ ∀ x, x ∈ dd33 eqs33 l ↔ x ∈ l := by
 cases l with
 | nil => exact ⟨List.Pairwise.nil, fun x => Iff.rfl⟩
 | cons p l => exact ddGo33_spec l p (hl p List.mem_cons_self) (fun x hx => hl x (List.mem_cons_of_mem _ hx)) h
theorem pts_by (l : List S33) (hl : ∀ x ∈ l, onG x) (hn : l.length < 4611686018427387904) : ∃ e es, api_Point_by_noding_Split_1.f l = some e ∧ api_Point_42.f e = some es ∧ Inc es ∧ es.length ≤ l.length ∧ ∀ x, x ∈ es ↔ x ∈ l := by
 have hex : ∃ r, api_Point_by_noding_Split_1.f l = some r := by unfold api_Point_by_noding_Split_1.f; rw [if_pos hn]; exact ⟨_, rfl⟩
 obtain ⟨e, he⟩ := hex
 obtain ⟨hp, hs⟩ := api_Point_by_noding_Split_1.spec l e he
 have hg : ∀ x ∈ e, onG x := fun x hx => hl x (hp.mem_iff.1 hx)
 have hpw : e.Pairwise (fun x y => cd x ≤ cd y) := by
  rw [List.pairwise_iff_getElem]
  intro i j hi hj hij
  have h1 := hs i j hij hj
  rw [List.getD_eq_getElem?_getD, List.getD_eq_getElem?_getD, List.getElem?_eq_getElem hi, List.getElem?_eq_getElem hj, ← Bool.not_eq_true] at h1
  have h2 : ¬ (e[j].f0 < e[i].f0 ∨ e[j].f0 = e[i].f0 ∧ e[j].f1 < e[i].f1) := fun h => h1 ((ltBy40 _ _).2 h)
  have g1 := hg e[i] (List.getElem_mem hi)
  have g2 := hg e[j] (List.getElem_mem hj)
  unfold cd onG at *
  omega
 obtain ⟨d1, d2⟩ := dd33_spec e hg hpw
 have hlen : ∀ (l : List S33) (p : S33), (ddGo33 eqs33 p l).length ≤ l.length := by
  intro l
  induction l with
  | nil => intro p; exact Nat.le_refl _
  | cons y l ih => intro p; rw [ddGo33_cons]; have := ih y; split <;> simp <;> omega
 refine ⟨e, _, he, rfl, d1, ?_, fun x => (d2 x).trans hp.mem_iff⟩
 rw [← hp.length_eq]
 cases e with
 | nil => exact Nat.le_refl _
 | cons y l => have := hlen l y; show (y :: ddGo33 eqs33 y l).length ≤ _; simp; omega
theorem mem_ends : ∀ (l : List S35) (p : S33), p ∈ noding_Split.ends l ↔ ∃ s ∈ l, p = s.f0 ∨ p = s.f1
 | [], p => by simp [noding_Split.ends]
 | s :: l, p => by
  show p ∈ s.f0 :: s.f1 :: noding_Split.ends l ↔ _
  rw [List.mem_cons, List.mem_cons, mem_ends l p]
  simp [or_assoc]
def wB (p : S33) (s : S35) : Bool := onP p s && ((!eqs33 p s.f0) && (!eqs33 p s.f1))
theorem ne33 (p q : S33) : (!(p.f0 == q.f0) || (!(p.f1 == q.f1))) = !eqs33 p q := by unfold eqs33; rw [Bool.not_and]
theorem nWithin {p : S33} {s : S35} (hp : onG p) (h : Seg s) (k : Nat) (hk : 10 < k) : seg_Within.f k p.f0 p.f1 s.f0.f0 s.f0.f1 s.f1.f0 s.f1.f1 = some (wB p s) := by
 unfold seg_Within.f wB
 rw [nOn hp h k hk, Option.bind_some, ne33, ne33]
 cases onP p s <;> cases eqs33 p s.f0 <;> simp
theorem rWithin {p : S33} {s : S35} (hp : onG p) (h : Seg s) : mapmakerref09_Within.f p.f0 p.f1 s.f0.f0 s.f0.f1 s.f1.f0 s.f1.f1 = some (wB p s) := by
 unfold mapmakerref09_Within.f wB
 rw [rOn hp h, Option.bind_some, ne33, ne33]
 cases onP p s <;> cases eqs33 p s.f0 <;> simp
theorem wB_cd {p : S33} {s : S35} (hp : onG p) (h : Seg s) (hw : wB p s = true) : cd s.f0 < cd p ∧ cd p < cd s.f1 := by
 unfold wB at hw
 simp only [Bool.and_eq_true, Bool.not_eq_true'] at hw
 obtain ⟨h1, h2, h3⟩ := hw
 have := (onP_cd hp h).1 h1
 have n1 : cd p ≠ cd s.f0 := fun e => by rw [cd_inj hp h.a e, (eqs33_iff _ _).2 rfl] at h2; cases h2
 have n2 : cd p ≠ cd s.f1 := fun e => by rw [cd_inj hp h.b e, (eqs33_iff _ _).2 rfl] at h3; cases h3
 omega
def chn (p : S33) : List S33 → List S35
 | [] => []
 | q :: r => ⟨p, q⟩ :: chn q r
def lst (p : S33) : List S33 → S33
 | [] => p
 | q :: r => lst q r
theorem chn_last : ∀ (l : List S33) (p b : S33), chn p (l ++ [b]) = chn p l ++ [⟨lst p l, b⟩]
 | [], p, b => rfl
 | q :: l, p, b => by show ⟨p, q⟩ :: chn q (l ++ [b]) = ⟨p, q⟩ :: (chn q l ++ [⟨lst q l, b⟩]); rw [chn_last l q b]
theorem chn_length : ∀ (l : List S33) (p : S33), (chn p l).length = l.length
 | [], _ => rfl
 | q :: l, p => by show (chn q l).length + 1 = l.length + 1; rw [chn_length l q]
theorem chn_seg : ∀ (l : List S33) (p : S33), onG p → (∀ x ∈ l, onG x) → Inc (p :: l) → ∀ s ∈ chn p l, Seg s
 | [], _, _, _, _, s, hs => absurd hs (by simp [chn])
 | q :: l, p, hp, hl, h, s, hs => by
  have h' := List.pairwise_cons.1 h
  rcases List.mem_cons.1 (show s ∈ ⟨p, q⟩ :: chn q l from hs) with rfl | hs
  ·exact ⟨hp, hl q List.mem_cons_self, h'.1 q List.mem_cons_self⟩
  ·exact chn_seg l q (hl q List.mem_cons_self) (fun x hx => hl x (List.mem_cons_of_mem _ hx)) h'.2 s hs
def pcs (es : List S33) (s : S35) : List S35 := chn s.f0 (es.filter (fun p => wB p s) ++ [s.f1])
theorem inc_pcs {es : List S33} {s : S35} (hs : Seg s) (he : Inc es) (hg : ∀ x ∈ es, onG x) : Inc (s.f0 :: (es.filter (fun p => wB p s) ++ [s.f1])) := by
 refine List.pairwise_cons.2 ⟨fun z hz => ?_, List.pairwise_append.2 ⟨he.filter _, List.pairwise_singleton _ _, fun x hx y hy => ?_⟩⟩
 ·rcases List.mem_append.1 hz with hz | hz
  ·obtain ⟨h1, h2⟩ := List.mem_filter.1 hz
   exact (wB_cd (hg z h1) hs h2).1
  ·simp at hz; subst hz; exact hs.lt
 ·simp at hy
  subst hy
  obtain ⟨h1, h2⟩ := List.mem_filter.1 hx
  exact (wB_cd (hg x h1) hs h2).2
theorem pcs_seg {es : List S33} {s : S35} (hs : Seg s) (he : Inc es) (hg : ∀ x ∈ es, onG x) : ∀ x ∈ pcs es s, Seg x :=
 chn_seg _ _ hs.a (fun x hx => by
  rcases List.mem_append.1 hx with hx | hx
  ·exact hg x (List.mem_filter.1 hx).1
  ·simp at hx; subst hx; exact hs.b) (inc_pcs hs he hg)
theorem pcs_length (es : List S33) (s : S35) : (pcs es s).length ≤ es.length + 1 := by
 unfold pcs
 rw [chn_length, List.length_append]
 have := List.length_filter_le (fun p => wB p s) es
 simp; omega
theorem nCut {s : S35} (hs : Seg s) (k : Nat) (hk : 10 < k) : ∀ (qs : List S33) (p : S33) (out : List S35), (∀ x ∈ qs, onG x) → out.length + qs.length ≤ 1000000 → noding_Split.cut k s p qs out = some (lst p (qs.filter (fun p => wB p s)), out ++ chn p (qs.filter (fun p => wB p s)))
 | [], p, out, _, _ => by simp [noding_Split.cut, lst, chn]
 | q :: qs, p, out, hg, hl => by
  simp at hl
  unfold noding_Split.cut
  rw [nWithin (hg q List.mem_cons_self) hs k hk, Option.bind_some, List.filter_cons]
  by_cases c : wB q s = true
  ·rw [if_pos c, if_pos (by omega), if_pos c, nCut hs k hk qs q _ (fun x hx => hg x (List.mem_cons_of_mem _ hx)) (by simp; omega)]
   simp [lst, chn]
  ·rw [if_neg c, if_neg c, nCut hs k hk qs p out (fun x hx => hg x (List.mem_cons_of_mem _ hx)) (by omega)]
theorem nAll (es : List S33) (hg : ∀ x ∈ es, onG x) (hes : es.length ≤ 1000) (k : Nat) (hk : 10 < k) : ∀ (ss : List S35) (out : List S35), (∀ s ∈ ss, Seg s) → out.length + ss.length * 1001 ≤ 900000 → noding_Split.all k es ss out = some (out ++ ss.flatMap (pcs es))
 | [], out, _, _ => by simp [noding_Split.all]
 | s :: ss, out, hv, hl => by
  simp at hl
  unfold noding_Split.all
  have hc := List.length_filter_le (fun p => wB p s) es
  rw [nCut (hv s List.mem_cons_self) k hk es s.f0 out hg (by omega), Option.bind_some]
  dsimp only
  rw [if_pos (by rw [List.length_append, chn_length]; omega), nAll es hg hes k hk ss _ (fun t ht => hv t (List.mem_cons_of_mem _ ht)) (by rw [List.length_append, List.length_append, chn_length]; simp; omega)]
  rw [List.flatMap_cons, show pcs es s = chn s.f0 (es.filter (fun p => wB p s) ++ [s.f1]) from rfl, chn_last]
  simp only [List.append_assoc]
theorem canonP_id : ∀ (l : List S35), (∀ s ∈ l, Seg s) → canonP l = l
 | [], _ => rfl
 | s :: l, h => by
  have hs := h s List.mem_cons_self
  have hg : goodS s = true := by
   unfold goodS
   rw [ne33, vB_on hs.a, vB_on hs.b]
   have : eqs33 s.f0 s.f1 = false := by rw [Bool.eq_false_iff]; exact fun e => hs.ne ((eqs33_iff _ _).1 e)
   rw [this]; rfl
  rw [canonP_cons, if_pos hg, hs.of, canonP_id l (fun t ht => h t (List.mem_cons_of_mem _ ht))]
theorem less8_cd {q p : S33} (hq : onG q) (hp : onG p) : less8 q p = true ↔ cd q < cd p := by
 unfold less8 cd onG at *
 (repeat' split) <;> simp <;> omega
theorem put_true (p : S33) : ∀ l : List S33, mapmakerref20_cuts.put p true l = l.filter (fun q => !eqs33 q p)
 | [] => rfl
 | q :: l => by
  show ([] : List S33) ++ ((if eqs33 q p = true then [] else [q]) ++ mapmakerref20_cuts.put p (true || !less8 q p) l) = _
  rw [Bool.true_or, put_true p l, List.filter_cons]
  cases eqs33 q p <;> simp
theorem put_false {p : S33} (hp : onG p) : ∀ l : List S33, (∀ x ∈ l, onG x) → Inc l → Inc (mapmakerref20_cuts.put p false l) ∧ (∀ x, x ∈ mapmakerref20_cuts.put p false l ↔ x = p ∨ x ∈ l) ∧ (mapmakerref20_cuts.put p false l).length ≤ l.length + 1
 | [], _, _ => ⟨List.pairwise_singleton _ _, fun x => by simp [mapmakerref20_cuts.put], by simp [mapmakerref20_cuts.put]⟩
 | q :: l, hg, h => by
  have h' := List.pairwise_cons.1 h
  have hq := hg q List.mem_cons_self
  have hl := fun x hx => hg x (List.mem_cons_of_mem _ hx)
  have hput : mapmakerref20_cuts.put p false (q :: l) = (if less8 q p = true then [] else [p]) ++ ((if eqs33 q p = true then [] else [q]) ++ mapmakerref20_cuts.put p (!less8 q p) l) := rfl
  rw [hput]
  by_cases c : less8 q p = true
  ·have hc := (less8_cd hq hp).1 c
   have hne : eqs33 q p = false := by rw [Bool.eq_false_iff]; intro e; rw [(eqs33_iff _ _).1 e] at hc; omega
   obtain ⟨i1, i2, i3⟩ := put_false hp l hl h'.2
   rw [c, hne]
   simp only [if_true, Bool.not_true, List.nil_append, Bool.false_eq_true, if_false, List.cons_append]
   refine ⟨List.pairwise_cons.2 ⟨fun z hz => ?_, i1⟩, fun x => ?_, by simp; omega⟩
   ·rcases (i2 z).1 hz with rfl | hz
    ·exact hc
    ·exact h'.1 z hz
   ·rw [List.mem_cons, i2, List.mem_cons]
    exact ⟨fun h => h.elim (fun e => Or.inr (Or.inl e)) (fun h => h.elim Or.inl (fun h => Or.inr (Or.inr h))), fun h => h.elim (fun e => Or.inr (Or.inl e)) (fun h => h.elim Or.inl (fun h => Or.inr (Or.inr h)))⟩
  ·have hc : ¬ cd q < cd p := fun h => c ((less8_cd hq hp).2 h)
   rw [Bool.not_eq_true] at c
   rw [c]
   simp only [Bool.false_eq_true, if_false, Bool.not_false, put_true, List.cons_append, List.nil_append]
   have hfl : l.filter (fun x => !eqs33 x p) = l := by
    rw [List.filter_eq_self]
    intro x hx
    have hx1 := h'.1 x hx
    cases hx2 : eqs33 x p
    ·rfl
    ·rw [(eqs33_iff _ _).1 hx2] at hx1; omega
   rw [hfl]
   by_cases e : q = p
   ·subst e
    rw [(eqs33_iff _ _).2 rfl]
    simp only [if_true, List.nil_append]
    exact ⟨h, fun x => by simp, by simp⟩
   ·have hne : eqs33 q p = false := by rw [Bool.eq_false_iff]; exact fun h => e ((eqs33_iff _ _).1 h)
    rw [hne]
    simp only [Bool.false_eq_true, if_false, List.cons_append, List.nil_append]
    have hlt : cd p < cd q := by
     have : cd p ≠ cd q := fun h2 => e (cd_inj hp hq h2).symm
     omega
    refine ⟨List.pairwise_cons.2 ⟨fun z hz => ?_, h⟩, fun x => by rw [List.mem_cons], by simp⟩
    rcases List.mem_cons.1 hz with rfl | hz
    ·exact hlt
    ·have := h'.1 z hz; omega
theorem rGo {s : S35} (hs : Seg s) : ∀ (ps out : List S33), (∀ x ∈ ps, onG x) → (∀ x ∈ out, onG x) → Inc out → out.length + ps.length ≤ 1000000 → ∃ r, mapmakerref20_cuts.go s ps out = some r ∧ Inc r ∧ (∀ x, x ∈ r ↔ x ∈ out ∨ (x ∈ ps ∧ wB x s = true)) ∧ r.length ≤ out.length + ps.length
 | [], out, _, _, h, _ => ⟨out, rfl, h, fun x => by simp, by simp⟩
 | p :: ps, out, hp, ho, h, hl => by
  simp at hl
  have hpg := hp p List.mem_cons_self
  have hps := fun x hx => hp x (List.mem_cons_of_mem _ hx)
  have hgo : mapmakerref20_cuts.go s (p :: ps) out = (mapmakerref09_Within.f p.f0 p.f1 s.f0.f0 s.f0.f1 s.f1.f0 s.f1.f1).bind fun b => if b = true then (if out.length < 100000000 then mapmakerref20_cuts.go s ps (mapmakerref20_cuts.put p false out) else none) else mapmakerref20_cuts.go s ps out := rfl
  rw [hgo, rWithin hpg hs, Option.bind_some]
  by_cases c : wB p s = true
  ·obtain ⟨i1, i2, i3⟩ := put_false hpg out ho h
   obtain ⟨r, e1, e2, e3, e4⟩ := rGo hs ps (mapmakerref20_cuts.put p false out) hps (fun x hx => ((i2 x).1 hx).elim (fun e => e ▸ hpg) (ho x)) i1 (by omega)
   rw [if_pos c, if_pos (by omega)]
   refine ⟨r, e1, e2, fun x => ?_, by simp; omega⟩
   rw [e3, i2, List.mem_cons]
   constructor
   ·rintro ((rfl | h) | ⟨h, h'⟩)
    ·exact Or.inr ⟨Or.inl rfl, c⟩
    ·exact Or.inl h
    ·exact Or.inr ⟨Or.inr h, h'⟩
   ·rintro (h | ⟨rfl | h, h'⟩)
    ·exact Or.inl (Or.inr h)
    ·exact Or.inl (Or.inl rfl)
    ·exact Or.inr ⟨h, h'⟩
  ·obtain ⟨r, e1, e2, e3, e4⟩ := rGo hs ps out hps ho h (by omega)
   rw [if_neg c]
   refine ⟨r, e1, e2, fun x => ?_, by simp; omega⟩
   rw [e3, List.mem_cons]
   constructor
   ·rintro (h | ⟨h, h'⟩)
    ·exact Or.inl h
    ·exact Or.inr ⟨Or.inr h, h'⟩
   ·rintro (h | ⟨rfl | h, h'⟩)
    ·exact Or.inl h
    ·exact absurd h' c
    ·exact Or.inr ⟨h, h'⟩
theorem rCuts {s : S35} (hs : Seg s) (l : List S35) (hl : ∀ t ∈ l, Seg t) (hn : l.length ≤ 1000) (es : List S33) (he : Inc es) (hm : ∀ x, x ∈ es ↔ x ∈ noding_Split.ends l) : mapmakerref20_cuts.f l s.f0.f0 s.f0.f1 s.f1.f0 s.f1.f1 = some (es.filter (fun p => wB p s)) := by
 have hge : ∀ x ∈ noding_Split.ends l, onG x := fun x hx => by
  obtain ⟨t, ht, e | e⟩ := (mem_ends l x).1 hx
  ·rw [e]; exact (hl t ht).a
  ·rw [e]; exact (hl t ht).b
 unfold mapmakerref20_cuts.f
 rw [if_pos (by omega)]
 obtain ⟨r, e1, e2, e3, _⟩ := rGo hs (noding_Split.ends l) [] hge (by simp) List.Pairwise.nil (by rw [noding_Split.ends_length]; simp; omega)
 rw [show (⟨⟨s.f0.f0, s.f0.f1⟩, ⟨s.f1.f0, s.f1.f1⟩⟩ : S35) = s from rfl, e1]
 congr 1
 refine inc_ext e2 (he.filter _) (fun x => ?_)
 rw [e3, List.mem_filter, hm]
 simp
theorem rSplit1 (S : List S35) (v : List S35 → List S35) (i K : Nat) (L : Nat) (hi : i < 1000000) (c : List S33) (hc : c.length ≤ 2000) (hL : L ≤ 900000)
  (hnext : ∀ (k : Nat) (out : List S35), K ≤ k → out.length ≤ L → mapmakerref20_Split.l0 k S out ((i + 1 : Nat) : Int) = some (v out)) (d : Nat) :
  ∀ (k j : Nat) (out : List S35) (p : S33), j ≤ c.length → c.length - j = d → K + d + 1 ≤ k → 2 * L + 10 + d ≤ k → out.length + d ≤ L → mapmakerref20_Split.l1 k S out (i : Int) c (j : Int) p.f0 p.f1 = some (v (sortOn out (chn p (c.drop j)))) := by
 induction d with
 | zero =>
  intro k j out p hj hd hk hk2 hl
  cases k with
  | zero => omega
  | succ k =>
   simp only [mapmakerref20_Split.l1]
   rw [if_neg (by omega), wrap_succ i (by omega), hnext k out (by omega) (by omega), List.drop_eq_nil_of_le (by omega)]
   rfl
 | succ d ih =>
  intro k j out p hj hd hk hk2 hl
  cases k with
  | zero => omega
  | succ k =>
   have hlt : j < c.length := by omega
   simp only [mapmakerref20_Split.l1]
   have hins := rIns (⟨p, c[j]⟩ : S35) out (by omega) k (by omega)
   rw [if_pos (by omega), if_pos (by omega), rd33 c j hlt, hins, Option.bind_some, wrap_succ j (by omega), ih k (j + 1) (ins ⟨p, c[j]⟩ out) c[j] (by omega) (by omega) (by omega) (by omega) (by rw [ins_length]; omega), List.drop_eq_getElem_cons hlt]
   rfl
theorem rSplit0 (S : List S35) (hS : ∀ t ∈ S, Seg t) (hn : S.length ≤ 30) (es : List S33) (hes : es.length ≤ 60) (he : Inc es) (hm : ∀ x, x ∈ es ↔ x ∈ noding_Split.ends S) (d : Nat) :
  ∀ (k i : Nat) (out : List S35), i ≤ S.length → S.length - i = d → 10000 + 100 * d ≤ k → out.length + 61 * d ≤ 2000 → mapmakerref20_Split.l0 k S out (i : Int) = some (sortOn out ((S.drop i).flatMap (pcs es))) := by
 induction d with
 | zero =>
  intro k i out hi hd hk hl
  cases k with
  | zero => omega
  | succ k =>
   simp only [mapmakerref20_Split.l0]
   rw [if_neg (by omega), List.drop_eq_nil_of_le (by omega)]
   rfl
 | succ d ih =>
  intro k i out hi hd hk hl
  cases k with
  | zero => omega
  | succ k =>
   have hlt : i < S.length := by omega
   have hs := hS S[i] (List.getElem_mem hlt)
   have hc := List.length_filter_le (fun p => wB p S[i]) es
   simp only [mapmakerref20_Split.l0]
   rw [if_pos (by omega), if_pos (by omega), rd35 S i hlt, rCuts hs S hS (by omega) es he hm, Option.bind_some, if_pos (by omega)]
   have h1 := rSplit1 S (fun o => sortOn o ((S.drop (i + 1)).flatMap (pcs es))) i (10000 + 100 * d) (2000 - 61 * d) (by omega) (es.filter (fun p => wB p S[i]) ++ [S[i].f1]) (by simp; omega) (by omega) (fun k o hk ho => ih k (i + 1) o (by omega) (by omega) hk (by omega)) (es.filter (fun p => wB p S[i]) ++ [S[i].f1]).length k 0 out S[i].f0 (by omega) rfl (by simp; omega) (by simp; omega) (by simp; omega)
   rw [show ((0 : Int)) = ((0 : Nat) : Int) from rfl]
   rw [show (⟨S[i].f1.f0, S[i].f1.f1⟩ : S33) = S[i].f1 from rfl, h1, List.drop_eq_getElem_cons hlt, List.flatMap_cons]
   show some (sortOn (sortOn out (pcs es S[i])) ((S.drop (i + 1)).flatMap (pcs es))) = some (sortOn out (pcs es S[i] ++ (S.drop (i + 1)).flatMap (pcs es)))
   unfold sortOn
   rw [List.foldl_append]
theorem splits (l : List S35) (hl : l.length ≤ 24) (k : Nat) (hk : 40000 < k) : ∃ o, o.length ≤ 2000 ∧ noding_Split.f k l = some o ∧ mapmakerref20_Split.f k l = some o := by
 have hcl := canonP_length l
 have hul := unique_length l
 have hsl := sortS_length (canonP l)
 have hge : ∀ x ∈ noding_Split.ends (dd35 eqs35 (sortS (canonP l))), onG x := fun x hx => by
  obtain ⟨t, ht, e | e⟩ := (mem_ends _ x).1 hx
  ·rw [e]; exact (unique_seg l t ht).a
  ·rw [e]; exact (unique_seg l t ht).b
 obtain ⟨e, es, h1, h2, h3, h4, h5⟩ := pts_by (noding_Split.ends (dd35 eqs35 (sortS (canonP l)))) hge (by rw [noding_Split.ends_length]; omega)
 rw [noding_Split.ends_length] at h4
 have hg : ∀ x ∈ es, onG x := fun x hx => hge x ((h5 x).1 hx)
 have hflen : ∀ L : List S35, (L.flatMap (pcs es)).length ≤ L.length * 61 := by
  intro L
  induction L with
  | nil => simp
  | cons s L ih => rw [List.flatMap_cons, List.length_append, List.length_cons]; have := pcs_length es s; omega
 have hfl := hflen (canonP l)
 have hfs : ∀ x ∈ (canonP l).flatMap (pcs es), Seg x := fun x hx => by
  obtain ⟨s, hs, hx⟩ := List.mem_flatMap.1 hx
  exact pcs_seg (canon_seg l s hs) h3 hg x hx
 refine ⟨sortS ((canonP l).flatMap (pcs es)), by rw [sortS_length]; omega, ?_, ?_⟩
 ·unfold noding_Split.f
  rw [nUnique l (by omega) k (by omega), Option.bind_some, if_pos (by omega), h1, Option.bind_some, h2, Option.bind_some, canon l (by omega) k (by omega), Option.bind_some, nAll es hg (by omega) k (by omega) (canonP l) [] (canon_seg l) (by simp; omega), Option.bind_some, List.nil_append, nSort _ (by omega) k (by omega), canonP_id _ hfs]
 ·unfold mapmakerref20_Split.f
  have hS : ∀ t ∈ sortS (canonP l), Seg t := fun t ht => canon_seg l t ((sortS_perm _).mem_iff.1 ht)
  have hmem : ∀ x, x ∈ es ↔ x ∈ noding_Split.ends (sortS (canonP l)) := fun x => by
   rw [h5, mem_ends, mem_ends]
   constructor
   ·rintro ⟨s, hs, h⟩; exact ⟨s, dd_sub _ s hs, h⟩
   ·rintro ⟨s, hs, h⟩; exact ⟨s, dd_mem _ s hs, h⟩
  have h0 := rSplit0 (sortS (canonP l)) hS (by omega) es (by omega) h3 hmem (sortS (canonP l)).length k 0 [] (by omega) rfl (by omega) (by simp; omega)
  rw [rSort l (by omega) k (by omega), Option.bind_some, show ((0 : Int)) = ((0 : Nat) : Int) from rfl, h0, List.drop_zero]
  congr 1
  refine sorted_unique ?_ (sortOn_sorted _ List.Pairwise.nil) (sortS_sorted _)
  refine (sortOn_perm _ []).trans ?_
  rw [List.nil_append]
  exact ((sortS_perm (canonP l)).flatMap_right _).trans (sortS_perm _).symm
theorem eq_same0 (a b : List S35) : ∀ (k : Nat) (i : Int), api_Seg_45.l0 k a b (a.length : Int) i = mapmakerref20_Same.l0 k a b i
 | 0, i => rfl
 | k + 1, i => by
  simp only [api_Seg_45.l0, mapmakerref20_Same.l0]
  by_cases c1 : i < (a.length : Int)
  ·rw [if_pos c1, if_pos c1]
   by_cases c2 : 0 ≤ i
   ·rw [if_pos c2, if_pos c2, if_pos c1, eq_same0 a b k]
   ·simp only [if_pos c1, if_neg c2]
  ·rw [if_neg c1, if_neg c1]
theorem same_some0 (a b : List S35) (hab : a.length = b.length) (hl : a.length ≤ 1000000) (d : Nat) : ∀ (k : Nat) (i : Nat), i ≤ a.length → a.length - i = d → d < k → ∃ r, mapmakerref20_Same.l0 k a b (i : Int) = some r := by
 induction d with
 | zero =>
  intro k i hi hd hk
  cases k with
  | zero => omega
  | succ k => simp only [mapmakerref20_Same.l0]; rw [if_neg (by omega)]; exact ⟨_, rfl⟩
 | succ d ih =>
  intro k i hi hd hk
  cases k with
  | zero => omega
  | succ k =>
   simp only [mapmakerref20_Same.l0]
   rw [if_pos (by omega), if_pos (by omega), if_pos (by omega), wrap_succ i (by omega)]
   split
   ·exact ⟨_, rfl⟩
   ·exact ih k (i + 1) (by omega) (by omega) (by omega)
theorem same_some (a b : List S35) (hl : a.length ≤ 1000000) (k : Nat) (hk : a.length < k) : ∃ r, mapmakerref20_Same.f k a b = some r ∧ api_Seg_45.f k a b = some r := by
 unfold mapmakerref20_Same.f api_Seg_45.f
 by_cases c : (a.length : Int) = (b.length : Int)
 ·rw [if_pos c, if_pos c, eq_same0]
  obtain ⟨r, h⟩ := same_some0 a b (by omega) hl a.length k 0 (by omega) (by omega) hk
  exact ⟨r, h, h⟩
 ·rw [if_neg c, if_neg c]; exact ⟨_, rfl, rfl⟩
theorem cleans (l : List S35) (hl : l.length ≤ 24) (k : Nat) (hk : 40000 < k) : ∃ b, noding_Clean.f k l = some b ∧ mapmakerref20_Clean.f k l = some b := by
 obtain ⟨o, ho, h1, h2⟩ := splits l hl k hk
 obtain ⟨r, h3, h4⟩ := same_some o (sortS (canonP l)) (by omega) k (by omega)
 unfold noding_Clean.f mapmakerref20_Clean.f
 rw [h1, h2, Option.bind_some, Option.bind_some, nSort l (by omega) k (by omega), rSort l (by omega) k (by omega), Option.bind_some, Option.bind_some, h3, h4, Option.bind_some, Option.bind_some]
 cases r with
 | false => exact ⟨false, rfl, rfl⟩
 | true =>
  rw [if_pos rfl, if_pos rfl, nCrossings l (by omega) k (by omega), rCrossings l (by omega) k (by omega)]
  exact ⟨_, rfl, rfl⟩
theorem NodingSplits : mapmakerlaw20_NodingSplits.Pure := by
 intro l h
 refine ⟨50000, ?_⟩
 unfold mapmakerlaw20_NodingSplits.f
 rw [few_some, Option.bind_some]
 by_cases hf : (l.length : Int) ≤ 24
 ·obtain ⟨o, ho, h1, h2⟩ := splits l (by omega) 50000 (by omega)
  obtain ⟨b, h3, h4⟩ := cleans l (by omega) 50000 (by omega)
  rw [decide_eq_true hf, if_pos rfl, h1, Option.bind_some, h2, Option.bind_some, same o (by omega) 50000 (by omega), Option.bind_some, if_pos rfl, h3, Option.bind_some, h4, Option.bind_some, if_pos (by simp), lives 100 livesAll 50000 (by omega)]
  rfl
 ·rw [decide_eq_false hf, if_neg (by simp), lives 100 livesAll 50000 (by omega)]
  rfl
end Go.Proofs.Ytmejeiddlhjjmaa.Pure
