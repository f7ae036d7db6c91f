/- c26, plain: what Fixed answers, the program's and the reference's. -/
import Derived.Test.YtpgbfjndgbfhnaaPureCore
namespace Go.Proofs.Ytpgbfjndgbfhnaa.Pure
open Go.RowKit Go.Proofs.Ytpgbfjndgbfhnaa.PAll Go.Proofs.YtpgbfjndgbfhnaaW.PrintWords Go.Proofs.YtpgbfjndgbfhnaaW.PrintLast
set_option linter.unusedVariables false
set_option linter.unusedSimpArgs false
def code (p : S40) : Int := p.f0 * 32768 + p.f1
theorem vld_iff (p : S40) : vld p = true ↔ 0 ≤ p.f0 ∧ p.f0 < 32768 ∧ 0 ≤ p.f1 ∧ p.f1 < 32768 := by
 unfold vld; simp [and_assoc]
theorem code_inj {p q : S40} (hp : vld p = true) (hq : vld q = true) (h : code p = code q) : p = q := by
 rw [vld_iff] at hp hq; unfold code at h; exact s40_ext (by omega) (by omega)
def Srt (l : List S40) : Prop := l.Pairwise (fun a b => code a < code b)
theorem srt_ext : ∀ (a b : List S40), Srt a → Srt b → (∀ x, x ∈ a ↔ x ∈ b) → a = b
 | [], [], _, _, _ => rfl
 | [], y :: b, _, _, h => absurd ((h y).2 (by simp)) (by simp)
 | x :: a, [], _, _, h => absurd ((h x).1 (by simp)) (by simp)
 | x :: a, y :: b, ha, hb, h => by
  have ha' := List.pairwise_cons.1 ha
  have hb' := List.pairwise_cons.1 hb
  have hxy : x = y := by
   have h1 := (h x).1 (by simp)
   have h2 := (h y).2 (by simp)
   rcases List.mem_cons.1 h1 with e | h1
   ·exact e
   ·rcases List.mem_cons.1 h2 with e | h2
    ·exact e.symm
    ·have := ha'.1 y h2; have := hb'.1 x h1; omega
  subst hxy
  rw [srt_ext a b ha'.2 hb'.2 (fun z => ?_)]
  constructor
  ·intro hz
   rcases List.mem_cons.1 ((h z).1 (List.mem_cons_of_mem _ hz)) with e | h1
   ·subst e; have := ha'.1 z hz; omega
   ·exact h1
  ·intro hz
   rcases List.mem_cons.1 ((h z).2 (List.mem_cons_of_mem _ hz)) with e | h1
   ·subst e; have := hb'.1 z hz; omega
   ·exact h1
theorem dd_go : ∀ (l : List S40) (p : S40), (∀ q ∈ p :: l, vld q = true) → (p :: l).Pairwise (fun a b => code a ≤ code b) → (p :: ddGo40 eqs40 p l).Pairwise (fun a b => code a < code b) ∧ ∀ x, x ∈ p :: ddGo40 eqs40 p l ↔ x ∈ p :: l
 | [], p, _, _ => by simp [ddGo40]
 | y :: l, p, hg, hs => by
  have hs' := List.pairwise_cons.1 hs
  obtain ⟨h1, h2⟩ := dd_go l y (fun q hq => hg q (List.mem_cons_of_mem _ hq)) hs'.2
  simp only [ddGo40]
  by_cases h : eqs40 y p = true
  ·rw [if_pos h]
   rw [eqs40_iff] at h
   subst h
   refine ⟨h1, fun x => ?_⟩
   rw [h2]
   simp
  ·rw [if_neg h]
   rw [eqs40_iff] at h
   have hlt : code p < code y := by
    have := hs'.1 y (by simp)
    rcases Int.lt_or_eq_of_le this with h' | h'
    ·exact h'
    ·exact absurd (code_inj (hg p (by simp)) (hg y (by simp)) h').symm h
   refine ⟨List.pairwise_cons.2 ⟨fun x hx => ?_, h1⟩, fun x => ?_⟩
   ·rcases List.mem_cons.1 hx with rfl | hx
    ·exact hlt
    ·have := (List.pairwise_cons.1 h1).1 x hx; omega
   ·rw [List.mem_cons, h2, ← List.mem_cons]
theorem dd_ok {s : List S40} (hg : ∀ q ∈ s, vld q = true) (hs : s.Pairwise (fun a b => code a ≤ code b)) : Srt (dd40 eqs40 s) ∧ ∀ x, x ∈ dd40 eqs40 s ↔ x ∈ s := by
 cases s with
 | nil => simp [dd40, Srt]
 | cons p l => exact dd_go l p hg hs
theorem dd_len (s : List S40) : (dd40 eqs40 s).length ≤ s.length := by
 cases s with
 | nil => simp [dd40]
 | cons p l =>
  have : ∀ (l : List S40) (p : S40), (ddGo40 eqs40 p l).length ≤ l.length := by
   intro l
   induction l with
   | nil => intro p; simp [ddGo40]
   | cons y l ih =>
    intro p
    simp only [ddGo40]
    split
    ·have := ih y; simp; omega
    ·have := ih y; simp; omega
  have := this l p
  simp [dd40]; omega
theorem sort_ok (l : List S40) (hg : ∀ q ∈ l, vld q = true) (hl : l.length ≤ 1000000) : ∃ s, api_Point_by_generalize_order.f l = some s ∧ s.length = l.length ∧ (∀ x, x ∈ s ↔ x ∈ l) ∧ s.Pairwise (fun a b => code a ≤ code b) := by
 have hex : ∃ r, api_Point_by_generalize_order.f l = some r := by unfold api_Point_by_generalize_order.f; rw [if_pos (by omega)]; exact ⟨_, rfl⟩
 obtain ⟨r, hr⟩ := hex
 obtain ⟨hp, hs⟩ := api_Point_by_generalize_order.spec l r hr
 refine ⟨r, hr, hp.length_eq, fun x => hp.mem_iff, ?_⟩
 rw [List.pairwise_iff_getElem]
 intro i j hi hj hij
 have := hs i j hij hj
 rw [List.getD_eq_getElem?_getD, List.getD_eq_getElem?_getD, List.getElem?_eq_getElem hi, List.getElem?_eq_getElem hj, ← Bool.not_eq_true] at this
 have h := mt (ltBy25 _ _).2 this
 simp only [Option.getD_some] at h
 have g1 := hg r[i] (hp.mem_iff.1 (List.getElem_mem hi))
 have g2 := hg r[j] (hp.mem_iff.1 (List.getElem_mem hj))
 rw [vld_iff] at g1 g2
 unfold code
 omega
theorem keep_mem (p : S40) : ∀ (E : List (S40 × Bool)) (t acc : List S40), p ∈ (keepGo t acc E).2 ↔ p ∈ acc ∨ (p, true) ∈ E ∨ (p ∈ E.map (·.1) ∧ 2 ≤ (t ++ E.map (·.1)).count p)
 | [], t, acc => by simp [keepGo]
 | (q, e) :: E, t, acc => by
  have hX : p ∈ (if (e || decide (1 < ctS (t ++ [q]) q)) = true then acc ++ [q] else acc) ↔ p ∈ acc ∨ (p = q ∧ (e = true ∨ 1 < (t ++ [q]).count q)) := by
   by_cases hc : (e || decide (1 < ctS (t ++ [q]) q)) = true
   ·rw [if_pos hc]
    have hc' : e = true ∨ 1 < (t ++ [q]).count q := by rw [Bool.or_eq_true, decide_eq_true_eq] at hc; exact hc
    rw [List.mem_append, List.mem_singleton]
    exact ⟨fun h => h.imp id (fun h => ⟨h, hc'⟩), fun h => h.imp id (fun h => h.1)⟩
   ·rw [if_neg hc]
    have hc' : ¬ (e = true ∨ 1 < (t ++ [q]).count q) := fun h => hc (by rw [Bool.or_eq_true, decide_eq_true_eq]; exact h)
    exact ⟨.inl, fun h => h.elim id (fun h => absurd h.2 hc')⟩
  have hk : (keepGo t acc ((q, e) :: E)).2 = (keepGo (t ++ [q]) (if (e || decide (1 < ctS (t ++ [q]) q)) = true then acc ++ [q] else acc) E).2 := rfl
  rw [hk, keep_mem p E, hX]
  have hc : (t ++ [q] ++ E.map (·.1)).count p = (t ++ q :: E.map (·.1)).count p := by rw [List.append_assoc]; rfl
  rw [hc]
  by_cases hq : p = q
  ·subst hq
   have h1 : (t ++ [p]).count p = t.count p + 1 := by simp
   have h2 : (t ++ p :: E.map (·.1)).count p = t.count p + 1 + (E.map (·.1)).count p := by simp [List.count_append]; omega
   have h3 : p ∈ E.map (·.1) ↔ 0 < (E.map (·.1)).count p := List.count_pos_iff.symm
   rw [h1, List.map_cons, h2, h3, List.mem_cons, List.mem_cons, Prod.mk.injEq]
   generalize t.count p = c1
   generalize (E.map (·.1)).count p = c2
   generalize (p ∈ acc) = A
   generalize ((p, true) ∈ E) = B
   cases e <;> simp <;> grind
  ·rw [List.map_cons, List.mem_cons, List.mem_cons, Prod.mk.injEq]
   simp [hq]
theorem nFixed (l : List S31) (hI : InL (allPts l)) (h1 : (allPts l).length ≤ 1000000) (h2 : l.length ≤ 1000000) : ∃ r, generalize_Fixed.f l = some r ∧ Srt r ∧ r.length ≤ (allPts l).length ∧ ∀ p, p ∈ r ↔ (vld p = true ∧ ((p, true) ∈ allEnds l ∨ 2 ≤ (allPts l).count p)) := by
 have hlen : ((keepGo [] [] (allEnds l)).2.filter vld).length ≤ (allPts l).length := by
  refine Nat.le_trans (List.length_filter_le _ _) ?_
  have := keepGo_len (allEnds l) [] []
  have h3 : (allEnds l).length = (allPts l).length := by rw [← allEnds_map, List.length_map]
  simp only [List.length_nil] at this
  omega
 obtain ⟨s, e1, e2, e3, e4⟩ := sort_ok ((keepGo [] [] (allEnds l)).2.filter vld) (fun q hq => (List.mem_filter.1 hq).2) (by omega)
 obtain ⟨f1, f2⟩ := dd_ok (s := s) (fun q hq => (List.mem_filter.1 ((e3 q).1 hq)).2) e4
 refine ⟨dd40 eqs40 s, ?_, f1, ?_, fun p => ?_⟩
 ·unfold generalize_Fixed.f
  rw [if_pos ⟨hI, h1, h2⟩, e1]
  rfl
 ·have := dd_len s; omega
 ·rw [f2, e3, List.mem_filter, keep_mem, allEnds_map]
  simp only [List.not_mem_nil, false_or, List.nil_append]
  constructor
  ·rintro ⟨h | ⟨_, h⟩, hv⟩
   ·exact ⟨hv, .inl h⟩
   ·exact ⟨hv, .inr h⟩
  ·rintro ⟨hv, h | h⟩
   ·exact ⟨.inl h, hv⟩
   ·exact ⟨.inr ⟨List.count_pos_iff.1 (by omega), h⟩, hv⟩
theorem allPts_drop (l : List S31) (i : Nat) (h : i < l.length) : allPts (l.drop i) = l[i].f1 ++ allPts (l.drop (i + 1)) := by
 rw [List.drop_eq_getElem_cons h]; unfold allPts; rw [List.flatMap_cons]
theorem allEnds_snoc (l : List S31) (i : Nat) (h : i < l.length) : allEnds (l.take (i + 1)) = allEnds (l.take i) ++ ends l[i].f1 := by
 rw [List.take_succ_eq_append_getElem h]; unfold allEnds; rw [List.flatMap_append]; simp
theorem times (l : List S31) (p : S40) (hp : (allPts l).length ≤ 1000000) (hl : l.length ≤ 1000000) : Ev (fun k => mapmakerref26_times.f k l p.f0 p.f1) ((allPts l).count p : Int) := by
 have go : ∀ (d i n : Nat), i ≤ l.length → l.length - i = d → n + (allPts (l.drop i)).length ≤ 1000000 → Ev (fun k => mapmakerref26_times.l0 k l (n : Int) (i : Int) p.f0 p.f1) ((n + (allPts (l.drop i)).count p : Nat) : Int) := by
  intro d
  induction d with
  | zero =>
   intro i n hi hd hn
   refine ⟨1, fun k hk => ?_⟩
   obtain ⟨k, rfl⟩ : ∃ m, k = m + 1 := ⟨k - 1, by omega⟩
   simp only [mapmakerref26_times.l0]
   rw [if_neg (by omega), List.drop_eq_nil_of_le (by omega)]
   simp [allPts]
  | succ d ih =>
   intro i n hi hd hn
   have hi' : i < l.length := by omega
   rw [allPts_drop l i hi', List.length_append] at hn
   have inner : ∀ (e j n : Nat), j ≤ l[i].f1.length → l[i].f1.length - j = e → n + (l[i].f1.length - j) + (allPts (l.drop (i + 1))).length ≤ 1000000 → Ev (fun k => mapmakerref26_times.l1 k l (n : Int) (i : Int) (j : Int) p.f0 p.f1) ((n + (l[i].f1.drop j).count p + (allPts (l.drop (i + 1))).count p : Nat) : Int) := by
    intro e
    induction e with
    | zero =>
     intro j n hj he hn
     obtain ⟨K, ih⟩ := ih (i + 1) n (by omega) (by omega) (by omega)
     refine ⟨K + 1, fun k hk => ?_⟩
     obtain ⟨k, rfl⟩ : ∃ m, k = m + 1 := ⟨k - 1, by omega⟩
     have hih := ih k (by omega)
     dsimp only at hih
     simp only [mapmakerref26_times.l1]
     rw [if_pos (by omega), if_pos (by omega), rd31 l i hi', if_neg (by omega), wrap_succ i (by omega), hih, show l[i].f1.drop j = [] from List.drop_eq_nil_of_le (by omega)]
     simp
    | succ e ihe =>
     intro j n hj he hn
     have hj' : j < l[i].f1.length := by omega
     by_cases h : l[i].f1[j] = p
     ·obtain ⟨K, ih⟩ := ihe (j + 1) (n + 1) (by omega) (by omega) (by omega)
      refine ⟨K + 1, fun k hk => ?_⟩
      obtain ⟨k, rfl⟩ : ∃ m, k = m + 1 := ⟨k - 1, by omega⟩
      have hih := ih k (by omega)
      dsimp only at hih
      simp only [mapmakerref26_times.l1]
      rw [if_pos (by omega), if_pos (by omega), rd31 l i hi', if_pos (by omega), if_pos (by omega), rd40 _ j hj', if_pos (by rw [h]; simp), wrap_succ j (by omega), wrap_succ n (by omega), hih, List.drop_eq_getElem_cons hj', h, List.count_cons_self]
      congr 2; omega
     ·obtain ⟨K, ih⟩ := ihe (j + 1) n (by omega) (by omega) (by omega)
      refine ⟨K + 1, fun k hk => ?_⟩
      obtain ⟨k, rfl⟩ : ∃ m, k = m + 1 := ⟨k - 1, by omega⟩
      have hih := ih k (by omega)
      dsimp only at hih
      simp only [mapmakerref26_times.l1]
      rw [if_pos (by omega), if_pos (by omega), rd31 l i hi', if_pos (by omega), if_pos (by omega), rd40 _ j hj', if_neg (by intro hc; simp at hc; exact h (s40_ext hc.1 hc.2)), wrap_succ j (by omega), hih, List.drop_eq_getElem_cons hj', List.count_cons_of_ne (by simpa using h)]
   obtain ⟨K, ih2⟩ := inner l[i].f1.length 0 n (by omega) (by omega) (by omega)
   refine ⟨K + 1, fun k hk => ?_⟩
   obtain ⟨k, rfl⟩ : ∃ m, k = m + 1 := ⟨k - 1, by omega⟩
   have hih := ih2 k (by omega)
   dsimp only at hih
   simp only [mapmakerref26_times.l0]
   rw [if_pos (by omega)]
   refine hih.trans ?_
   rw [allPts_drop l i hi', List.count_append, List.drop_zero]
   congr 2; omega
 obtain ⟨K, h⟩ := go l.length 0 0 (by omega) (by omega) (by simpa using hp)
 refine ⟨K, fun k hk => ?_⟩
 have := h k hk
 dsimp only at this
 unfold mapmakerref26_times.f
 refine this.trans ?_
 simp
theorem less08 {p q : S40} (hp : vld p = true) (hq : vld q = true) : mapmakerref08_Less.f p.f0 p.f1 q.f0 q.f1 = some (decide (code p < code q)) := by
 rw [vld_iff] at hp hq
 unfold mapmakerref08_Less.f code
 by_cases h1 : p.f0 < q.f0
 ·rw [if_pos h1, decide_eq_true (by omega)]
 ·rw [if_neg h1]
  by_cases h2 : p.f0 = q.f0
  ·rw [if_pos h2]; exact congrArg some (decide_eq_decide.mpr (by omega))
  ·rw [if_neg h2, decide_eq_false (by omega)]
def ins (p : S40) : List S40 → List S40
 | [] => [p]
 | q :: r => if code p < code q then p :: q :: r else q :: ins p r
theorem ins_mem (p x : S40) : ∀ r : List S40, x ∈ ins p r ↔ x = p ∨ x ∈ r
 | [] => by simp [ins]
 | q :: r => by
  simp only [ins]
  split
  ·simp
  ·rw [List.mem_cons, ins_mem p x r, List.mem_cons]
   constructor
   ·rintro (h | h | h)
    ·exact .inr (.inl h)
    ·exact .inl h
    ·exact .inr (.inr h)
   ·rintro (h | h | h)
    ·exact .inr (.inl h)
    ·exact .inl h
    ·exact .inr (.inr h)
theorem ins_len (p : S40) : ∀ r : List S40, (ins p r).length = r.length + 1
 | [] => rfl
 | q :: r => by
  simp only [ins]
  split
  ·rfl
  ·simp [ins_len p r]
theorem ins_srt (p : S40) (hp : vld p = true) : ∀ r : List S40, Srt r → (∀ q ∈ r, vld q = true) → p ∉ r → Srt (ins p r)
 | [], _, _, _ => by simp [ins, Srt]
 | q :: r, hs, hv, hn => by
  have hs' := List.pairwise_cons.1 hs
  simp only [ins]
  split
  ·rename_i h
   refine List.pairwise_cons.2 ⟨fun x hx => ?_, hs⟩
   rcases List.mem_cons.1 hx with rfl | hx
   ·exact h
   ·have := hs'.1 x hx; omega
  ·rename_i h
   refine List.pairwise_cons.2 ⟨fun x hx => ?_, ins_srt p hp r hs'.2 (fun x hx => hv x (List.mem_cons_of_mem _ hx)) (fun h' => hn (List.mem_cons_of_mem _ h'))⟩
   rcases (ins_mem p x r).1 hx with rfl | hx
   ·rcases Int.lt_or_eq_of_le (Int.not_lt.1 h) with h' | h'
    ·exact h'
    ·exact absurd (code_inj (hv q (by simp)) hp h').symm (fun e => hn (by rw [e]; simp))
   ·exact hs'.1 x hx
theorem with_ (r : List S40) (p : S40) (hp : vld p = true) (hr : r.length ≤ 1000000) (hv : ∀ q ∈ r, vld q = true) : Ev (fun k => mapmakerref26_with.f k r p.f0 p.f1) (if p ∈ r then r else ins p r) := by
 have goT : ∀ (d i : Nat) (acc : List S40), i ≤ r.length → r.length - i = d → acc.length + (r.length - i) ≤ 3000000 → Ev (fun k => mapmakerref26_with.l0 k r acc true (i : Int) p.f0 p.f1) (acc ++ r.drop i) := by
  intro d
  induction d with
  | zero =>
   intro i acc hi hd ha
   refine ⟨1, fun k hk => ?_⟩
   obtain ⟨k, rfl⟩ : ∃ m, k = m + 1 := ⟨k - 1, by omega⟩
   simp only [mapmakerref26_with.l0]
   rw [if_neg (by omega), if_pos trivial, List.drop_eq_nil_of_le (by omega), List.append_nil]
  | succ d ih =>
   intro i acc hi hd ha
   obtain ⟨K, ih⟩ := ih (i + 1) (acc ++ [r[i]]) (by omega) (by omega) (by simp; omega)
   refine ⟨K + 1, fun k hk => ?_⟩
   obtain ⟨k, rfl⟩ : ∃ m, k = m + 1 := ⟨k - 1, by omega⟩
   have hih := ih k (by omega)
   dsimp only at hih
   simp only [mapmakerref26_with.l0]
   rw [if_pos (by omega), if_pos trivial, if_pos (by omega), if_pos (by omega), rd40 r i (by omega), wrap_succ i (by omega)]
   refine hih.trans ?_
   rw [List.drop_eq_getElem_cons (show i < r.length by omega), List.append_assoc]; rfl
 have goF : ∀ (d i : Nat) (acc : List S40), i ≤ r.length → r.length - i = d → acc.length + (r.length - i) ≤ 1000000 → Ev (fun k => mapmakerref26_with.l0 k r acc false (i : Int) p.f0 p.f1) (acc ++ ins p (r.drop i)) := by
  intro d
  induction d with
  | zero =>
   intro i acc hi hd ha
   refine ⟨1, fun k hk => ?_⟩
   obtain ⟨k, rfl⟩ : ∃ m, k = m + 1 := ⟨k - 1, by omega⟩
   simp only [mapmakerref26_with.l0]
   rw [if_neg (by omega), if_neg (by simp), if_pos (by omega), List.drop_eq_nil_of_le (by omega)]
   rfl
  | succ d ih =>
   intro i acc hi hd ha
   have hi' : i < r.length := by omega
   by_cases h : code p < code r[i]
   ·obtain ⟨K, ih⟩ := goT (r.length - (i + 1)) (i + 1) (acc ++ [p] ++ [r[i]]) (by omega) (by omega) (by simp; omega)
    refine ⟨K + 1, fun k hk => ?_⟩
    obtain ⟨k, rfl⟩ : ∃ m, k = m + 1 := ⟨k - 1, by omega⟩
    have hih := ih k (by omega)
    dsimp only at hih
    simp only [mapmakerref26_with.l0]
    rw [if_pos (by omega), if_neg (by simp), if_pos (by omega), rd40 r i hi', less08 hp (hv _ (List.getElem_mem hi')), Option.bind_some, decide_eq_true h, if_pos rfl, if_pos (by omega), Option.bind_some, if_pos (by simp; omega), wrap_succ i (by omega)]
    refine hih.trans ?_
    rw [List.drop_eq_getElem_cons hi', ins, if_pos h]; simp
   ·obtain ⟨K, ih⟩ := ih (i + 1) (acc ++ [r[i]]) (by omega) (by omega) (by simp; omega)
    refine ⟨K + 1, fun k hk => ?_⟩
    obtain ⟨k, rfl⟩ : ∃ m, k = m + 1 := ⟨k - 1, by omega⟩
    have hih := ih k (by omega)
    dsimp only at hih
    simp only [mapmakerref26_with.l0]
    rw [if_pos (by omega), if_neg (by simp), if_pos (by omega), rd40 r i hi', less08 hp (hv _ (List.getElem_mem hi')), Option.bind_some, decide_eq_false h, if_neg (by simp), if_pos (by omega), wrap_succ i (by omega)]
    refine hih.trans ?_
    rw [List.drop_eq_getElem_cons hi', ins, if_neg h]; simp
 obtain ⟨K, h⟩ := has r p hr
 by_cases hm : p ∈ r
 ·obtain ⟨K2, h2⟩ := goT r.length 0 [] (by omega) (by omega) (by simp; omega)
  refine ⟨K + K2, fun k hk => ?_⟩
  have h3 := h k (by omega)
  have h4 := h2 k (by omega)
  dsimp only at h3 h4
  dsimp only
  unfold mapmakerref26_with.f
  rw [h3, Option.bind_some, decide_eq_true hm, if_pos hm]
  exact h4
 ·obtain ⟨K2, h2⟩ := goF r.length 0 [] (by omega) (by omega) (by simp; omega)
  refine ⟨K + K2, fun k hk => ?_⟩
  have h3 := h k (by omega)
  have h4 := h2 k (by omega)
  dsimp only at h3 h4
  dsimp only
  unfold mapmakerref26_with.f
  rw [h3, Option.bind_some, decide_eq_false hm, if_neg hm]
  exact h4
def Fx (l : List S31) (E : List (S40 × Bool)) (r : List S40) : Prop := Srt r ∧ r.length ≤ E.length ∧ ∀ p, p ∈ r ↔ (vld p = true ∧ ∃ e, (p, e) ∈ E ∧ (e = true ∨ 2 ≤ (allPts l).count p))
theorem fx_skip {l : List S31} {E : List (S40 × Bool)} {r : List S40} (h : Fx l E r) {p : S40} {e : Bool} (hn : ¬ (vld p = true ∧ (e = true ∨ 2 ≤ (allPts l).count p))) : Fx l (E ++ [(p, e)]) r := by
 refine ⟨h.1, by have := h.2.1; simp; omega, fun q => ?_⟩
 rw [h.2.2]
 constructor
 ·rintro ⟨hv, e', he, hc⟩
  exact ⟨hv, e', List.mem_append_left _ he, hc⟩
 ·rintro ⟨hv, e', he, hc⟩
  rcases List.mem_append.1 he with he | he
  ·exact ⟨hv, e', he, hc⟩
  ·simp only [List.mem_singleton, Prod.mk.injEq] at he
   obtain ⟨rfl, rfl⟩ := he
   exact absurd ⟨hv, hc⟩ hn
theorem fx_with {l : List S31} {E : List (S40 × Bool)} {r : List S40} (h : Fx l E r) {p : S40} {e : Bool} (hv : vld p = true) (hc : e = true ∨ 2 ≤ (allPts l).count p) : Fx l (E ++ [(p, e)]) (if p ∈ r then r else ins p r) := by
 have hm : ∀ q, q ∈ (if p ∈ r then r else ins p r) ↔ q = p ∨ q ∈ r := by
  intro q
  split
  ·rename_i hp
   exact ⟨.inr, fun h => h.elim (fun e => by rw [e]; exact hp) id⟩
  ·exact ins_mem p q r
 refine ⟨?_, ?_, fun q => ?_⟩
 ·split
  ·exact h.1
  ·rename_i hp
   exact ins_srt p hv r h.1 (fun q hq => ((h.2.2 q).1 hq).1) hp
 ·have := h.2.1
  split
  ·simp; omega
  ·rw [ins_len]; simp; omega
 ·rw [hm, h.2.2]
  constructor
  ·rintro (rfl | ⟨hv', e', he, hc'⟩)
   ·exact ⟨hv, e, by simp, hc⟩
   ·exact ⟨hv', e', List.mem_append_left _ he, hc'⟩
  ·rintro ⟨hv', e', he, hc'⟩
   rcases List.mem_append.1 he with he | he
   ·exact .inr ⟨hv', e', he, hc'⟩
   ·simp only [List.mem_singleton, Prod.mk.injEq] at he
    exact .inl he.1
theorem ends_take (L : List S40) (j : Nat) (h : j < L.length) : (ends L).take (j + 1) = (ends L).take j ++ [(L[j], decide (j = 0) || decide (j + 1 = L.length))] := by
 have hl : (ends L).length = L.length := endsGo_len _ _ _
 have hg : ∀ (n : Nat) (M : List S40) (a b : Nat) (hb : b < M.length), (endsGo n a M)[b]? = some (M[b], decide (a + b = 0) || decide (a + b + 1 = n)) := by
  intro n M
  induction M with
  | nil => intro a b hb; simp at hb
  | cons p M ih =>
   intro a b hb
   cases b with
   | zero => simp [endsGo]
   | succ b =>
    simp only [endsGo, List.getElem?_cons_succ, List.getElem_cons_succ]
    rw [ih (a + 1) b (by simpa using hb)]
    congr 3
    ·exact decide_eq_decide.mpr (by omega)
    ·exact decide_eq_decide.mpr (by omega)
 rw [List.take_succ_eq_append_getElem (by omega)]
 congr 2
 have := hg L.length L 0 j h
 rw [Nat.zero_add] at this
 have h2 : (ends L)[j]? = some ((ends L)[j]'(by omega)) := List.getElem?_eq_getElem (by omega)
 exact Option.some.inj (h2.symm.trans this)
theorem rFixed (l : List S31) (hp : (allPts l).length ≤ 1000000) (hl : l.length ≤ 1000000) : ∃ r, Ev (fun k => mapmakerref26_Fixed.f k l) r ∧ Fx l (allEnds l) r := by
 have hlin : ∀ i (h : i < l.length), l[i].f1.length ≤ 1000000 := by
  intro i h
  have : l[i].f1.length ≤ (allPts l).length := by
   have h1 := allPts_drop l i h
   have h2 : (allPts l).length = (allPts (l.take i)).length + (allPts (l.drop i)).length := by
    rw [← List.length_append]; congr 1; unfold allPts; rw [← List.flatMap_append, List.take_append_drop]
   rw [h1, List.length_append] at h2
   omega
  omega
 have hE : ∀ i, (allEnds (l.take i)).length ≤ 1000000 := by
  intro i
  have h2 : (allEnds (l.take i)).length = (allPts (l.take i)).length := by rw [← allEnds_map, List.length_map]
  have h3 : (allPts l).length = (allPts (l.take i)).length + (allPts (l.drop i)).length := by
   rw [← List.length_append]; congr 1; unfold allPts; rw [← List.flatMap_append, List.take_append_drop]
  omega
 have go : ∀ (d i : Nat) (r : List S40), i ≤ l.length → l.length - i = d → Fx l (allEnds (l.take i)) r → ∃ r', Ev (fun k => mapmakerref26_Fixed.l0 k l r (i : Int)) r' ∧ Fx l (allEnds l) r' := by
  intro d
  induction d with
  | zero =>
   intro i r hi hd hr
   rw [List.take_of_length_le (by omega)] at hr
   refine ⟨r, ⟨1, fun k hk => ?_⟩, hr⟩
   obtain ⟨k, rfl⟩ : ∃ m, k = m + 1 := ⟨k - 1, by omega⟩
   simp only [mapmakerref26_Fixed.l0]
   rw [if_neg (by omega)]
  | succ d ih =>
   intro i r hi hd hr
   have hi' : i < l.length := by omega
   have hll := hlin i hi'
   have hEl : (ends l[i].f1).length = l[i].f1.length := endsGo_len _ _ _
   have inner : ∀ (e j : Nat) (r : List S40), j ≤ l[i].f1.length → l[i].f1.length - j = e → Fx l (allEnds (l.take i) ++ (ends l[i].f1).take j) r → ∃ r', Ev (fun k => mapmakerref26_Fixed.l1 k l r (i : Int) l[i].f1 (j : Int)) r' ∧ Fx l (allEnds l) r' := by
    intro e
    induction e with
    | zero =>
     intro j r hj he hr
     rw [show (ends l[i].f1).take j = ends l[i].f1 from List.take_of_length_le (by omega), ← allEnds_snoc l i hi'] at hr
     obtain ⟨r', ⟨K, ih⟩, hr'⟩ := ih (i + 1) r (by omega) (by omega) hr
     refine ⟨r', ⟨K + 1, fun k hk => ?_⟩, hr'⟩
     obtain ⟨k, rfl⟩ : ∃ m, k = m + 1 := ⟨k - 1, by omega⟩
     have hih := ih k (by omega)
     dsimp only at hih
     simp only [mapmakerref26_Fixed.l1]
     rw [if_neg (by omega), wrap_succ i (by omega), hih]
    | succ e ihe =>
     intro j r hj he hr
     have hj' : j < l[i].f1.length := by omega
     have hrl : r.length ≤ 1000000 + 1000000 := by
      have h1 := hr.2.1
      have h2 := hE i
      rw [List.length_append, List.length_take] at h1
      omega
     have hEt := ends_take l[i].f1 j hj'
     have hwr : wrap64 ((l[i].f1.length : Int) - 1) = (l[i].f1.length : Int) - 1 := wrapI (by omega)
     have hrl2 : r.length ≤ 1000000 := by
      have h1 := hr.2.1
      have h2 : (allEnds (l.take i) ++ (ends l[i].f1).take j).length ≤ (allEnds (l.take (i + 1))).length := by
       rw [allEnds_snoc l i hi', List.length_append, List.length_append, List.length_take]; omega
      have h3 := hE (i + 1)
      omega
     by_cases hv : vld l[i].f1[j] = true
     ·by_cases he2 : (decide (j = 0) || decide (j + 1 = l[i].f1.length)) = true ∨ 2 ≤ (allPts l).count l[i].f1[j]
      ·have hr2 := fx_with hr hv he2
       rw [List.append_assoc, ← hEt] at hr2
       obtain ⟨r', ⟨K, ih⟩, hr'⟩ := ihe (j + 1) _ (by omega) (by omega) hr2
       obtain ⟨K2, h2⟩ := with_ r l[i].f1[j] hv hrl2 (fun q hq => ((hr.2.2 q).1 hq).1)
       obtain ⟨K3, h3⟩ := times l l[i].f1[j] hp hl
       refine ⟨r', ⟨K + K2 + K3 + 1, fun k hk => ?_⟩, hr'⟩
       obtain ⟨k, rfl⟩ : ∃ m, k = m + 1 := ⟨k - 1, by omega⟩
       have hih := ih k (by omega)
       have h4 := h2 k (by omega)
       have h5 := h3 k (by omega)
       dsimp only at hih h4 h5
       simp only [mapmakerref26_Fixed.l1]
       rw [if_pos (by omega), if_pos (by omega), rd40 _ j hj', valid08, hv, Option.bind_some, if_pos rfl, wrap_succ j (by omega), hwr]
       by_cases c1 : (j : Int) = 0
       ·rw [if_pos c1, h4, Option.bind_some]; exact hih
       ·rw [if_neg c1]
        by_cases c2 : (j : Int) = (l[i].f1.length : Int) - 1
        ·rw [if_pos c2, h4, Option.bind_some]; exact hih
        ·rw [if_neg c2, h5, Option.bind_some]
         rw [if_pos (by
          rcases he2 with h | h
          ·simp only [Bool.or_eq_true, decide_eq_true_eq] at h; omega
          ·omega), h4, Option.bind_some]
         exact hih
      ·have hr2 := fx_skip (p := l[i].f1[j]) (e := (decide (j = 0) || decide (j + 1 = l[i].f1.length))) hr (fun h => he2 h.2)
       rw [List.append_assoc, ← hEt] at hr2
       obtain ⟨r', ⟨K, ih⟩, hr'⟩ := ihe (j + 1) _ (by omega) (by omega) hr2
       obtain ⟨K3, h3⟩ := times l l[i].f1[j] hp hl
       refine ⟨r', ⟨K + K3 + 1, fun k hk => ?_⟩, hr'⟩
       obtain ⟨k, rfl⟩ : ∃ m, k = m + 1 := ⟨k - 1, by omega⟩
       have hih := ih k (by omega)
       have h5 := h3 k (by omega)
       dsimp only at hih h5
       have hno : ¬ (j = 0) ∧ ¬ (j + 1 = l[i].f1.length) ∧ ¬ 2 ≤ (allPts l).count l[i].f1[j] := by
        refine ⟨fun h => he2 (.inl (by simp [h])), fun h => he2 (.inl (by simp [h])), fun h => he2 (.inr h)⟩
       simp only [mapmakerref26_Fixed.l1]
       rw [if_pos (by omega), if_pos (by omega), rd40 _ j hj', valid08, hv, Option.bind_some, if_pos rfl, wrap_succ j (by omega), hwr, if_neg (by omega), if_neg (by omega), h5, Option.bind_some, if_neg (by omega)]
       exact hih
     ·have hr2 := fx_skip (p := l[i].f1[j]) (e := (decide (j = 0) || decide (j + 1 = l[i].f1.length))) hr (fun h => hv h.1)
      rw [List.append_assoc, ← hEt] at hr2
      obtain ⟨r', ⟨K, ih⟩, hr'⟩ := ihe (j + 1) _ (by omega) (by omega) hr2
      refine ⟨r', ⟨K + 1, fun k hk => ?_⟩, hr'⟩
      obtain ⟨k, rfl⟩ : ∃ m, k = m + 1 := ⟨k - 1, by omega⟩
      have hih := ih k (by omega)
      dsimp only at hih
      simp only [mapmakerref26_Fixed.l1]
      rw [if_pos (by omega), if_pos (by omega), rd40 _ j hj', valid08, Option.bind_some, if_neg hv, wrap_succ j (by omega)]
      exact hih
   obtain ⟨r', ⟨K, ih2⟩, hr'⟩ := inner l[i].f1.length 0 r (by omega) (by omega) (by simpa using hr)
   refine ⟨r', ⟨K + 1, fun k hk => ?_⟩, hr'⟩
   obtain ⟨k, rfl⟩ : ∃ m, k = m + 1 := ⟨k - 1, by omega⟩
   have hih := ih2 k (by omega)
   dsimp only at hih
   simp only [mapmakerref26_Fixed.l0]
   rw [if_pos (by omega), if_pos (by omega), rd31 l i hi']
   exact hih
 obtain ⟨r', h, hr'⟩ := go l.length 0 [] (by omega) (by omega) ⟨by simp [Srt], by simp, fun p => by simp [allEnds]⟩
 exact ⟨r', h, hr'⟩
theorem fixedEq (l : List S31) (hI : InL (allPts l)) (hp : (allPts l).length ≤ 1000000) (hl : l.length ≤ 1000000) : ∃ r, generalize_Fixed.f l = some r ∧ Ev (fun k => mapmakerref26_Fixed.f k l) r ∧ Srt r ∧ r.length ≤ (allPts l).length ∧ ∀ p, p ∈ r ↔ (vld p = true ∧ ((p, true) ∈ allEnds l ∨ 2 ≤ (allPts l).count p)) := by
 obtain ⟨r, h1, h2, h3, h4⟩ := nFixed l hI hp hl
 obtain ⟨r', g1, g2⟩ := rFixed l hp hl
 have : r = r' := by
  refine srt_ext r r' h2 g2.1 (fun p => ?_)
  rw [h4, g2.2.2]
  constructor
  ·rintro ⟨hv, h | h⟩
   ·exact ⟨hv, true, h, .inl rfl⟩
   ·have : p ∈ allPts l := List.count_pos_iff.1 (by omega)
    rw [← allEnds_map] at this
    obtain ⟨⟨q, e⟩, he, rfl⟩ := List.mem_map.1 this
    exact ⟨hv, e, he, .inr h⟩
  ·rintro ⟨hv, e, he, h | h⟩
   ·subst h; exact ⟨hv, .inl he⟩
   ·exact ⟨hv, .inr h⟩
 subst this
 exact ⟨r, h1, g1, h2, h3, h4⟩
end Go.Proofs.Ytpgbfjndgbfhnaa.Pure
