/- Plain law of chapter 20: what the lists of segments are, in plain Lean. -/
import Derived.Test.YtmejeiddlhjjmaaPNodingCleanx13
namespace Go.Proofs.Ytmejeiddlhjjmaa.Pure
open Go.RowKit Go.Proofs.Ytmejeiddlhjjmaa.PNodingClean Go.Proofs.YtmejeiddlhjjmaaW.PrintWords Go.Proofs.YtmejeiddlhjjmaaW.PrintLast
set_option linter.unusedVariables false
set_option linter.unusedSimpArgs false

theorem rd35 (l : List S35) (i : Nat) (h : i < l.length) : rd_T35 l (i : Int) = l[i] := by
  unfold rd_T35; rw [Int.toNat_natCast, List.getD_eq_getElem?_getD, List.getElem?_eq_getElem h]; rfl
theorem rd33 (l : List S33) (i : Nat) (h : i < l.length) : rd_T33 l (i : Int) = l[i] := by
  unfold rd_T33; rw [Int.toNat_natCast, List.getD_eq_getElem?_getD, List.getElem?_eq_getElem h]; rfl
theorem wrap_succ (i : Nat) (h : (i : Int) < 9223372036854775807) : wrap64 ((i : Int) + 1) = ((i + 1 : Nat) : Int) := by unfold wrap64; omega
theorem s33_ext {x y : S33} (h0 : x.f0 = y.f0) (h1 : x.f1 = y.f1) : x = y := by cases x; cases y; simp_all
theorem s35_ext {x y : S35} (h0 : x.f0.f0 = y.f0.f0) (h1 : x.f0.f1 = y.f0.f1) (h2 : x.f1.f0 = y.f1.f0) (h3 : x.f1.f1 = y.f1.f1) : x = y := by
  have := s33_ext h0 h1; have := s33_ext h2 h3; cases x; cases y; simp_all
theorem ne35 (x y : S35) : (((!(x.f0.f0 == y.f0.f0) || (!(x.f0.f1 == y.f0.f1))) || ((!(x.f1.f0 == y.f1.f0) || (!(x.f1.f1 == y.f1.f1))))) = true) ↔ x ≠ y := by
  constructor
  · intro h e; subst e; simp at h
  · intro h
    by_cases h0 : x.f0.f0 = y.f0.f0 <;> by_cases h1 : x.f0.f1 = y.f0.f1 <;> by_cases h2 : x.f1.f0 = y.f1.f0 <;> by_cases h3 : x.f1.f1 = y.f1.f1 <;> simp [h0, h1, h2, h3]
    exact h (s35_ext h0 h1 h2 h3)
theorem eqs35_iff (x y : S35) : eqs35 x y = true ↔ x = y := by
  unfold eqs35
  constructor
  · intro h; simp at h; obtain ⟨⟨h0, h1⟩, h2, h3⟩ := h; exact s35_ext h0 h1 h2 h3
  · intro e; subst e; simp
theorem same0 (a : List S35) (hl : a.length ≤ 1000000) (d : Nat) : ∀ (k : Nat) (i : Nat), i ≤ a.length → a.length - i = d → d < k → mapmakerref20_Same.l0 k a a (i : Int) = some true := by
  induction d with
  | zero =>
    intro k i hi hd hk
    cases k with
    | zero => omega
    | succ k => simp only [mapmakerref20_Same.l0]; rw [if_neg (by omega)]
  | succ d ih =>
    intro k i hi hd hk
    cases k with
    | zero => omega
    | succ k =>
      have hlt : i < a.length := by omega
      simp only [mapmakerref20_Same.l0]
      rw [if_pos (by omega), if_pos (by omega), if_pos (by omega), if_neg (by rw [ne35]; simp), wrap_succ i (by omega)]
      exact ih k (i + 1) (by omega) (by omega) (by omega)
theorem same (a : List S35) (hl : a.length ≤ 1000000) (k : Nat) (hk : a.length < k) : mapmakerref20_Same.f k a a = some true := by
  unfold mapmakerref20_Same.f
  rw [if_pos rfl]
  exact same0 a hl a.length k 0 (by omega) (by omega) hk

def ltS (x y : S35) : Bool := decide (x.f0.f0 < y.f0.f0 ∨ x.f0.f0 = y.f0.f0 ∧ (x.f0.f1 < y.f0.f1 ∨ x.f0.f1 = y.f0.f1 ∧ (x.f1.f0 < y.f1.f0 ∨ x.f1.f0 = y.f1.f0 ∧ (x.f1.f1 < y.f1.f1))))
theorem ltS_iff (x y : S35) : ltS x y = true ↔ (x.f0.f0 < y.f0.f0 ∨ x.f0.f0 = y.f0.f0 ∧ (x.f0.f1 < y.f0.f1 ∨ x.f0.f1 = y.f0.f1 ∧ (x.f1.f0 < y.f1.f0 ∨ x.f1.f0 = y.f1.f0 ∧ (x.f1.f1 < y.f1.f1)))) := decide_eq_true_iff
theorem ltS_by (x y : S35) : ltOf cmpBy33 x y = ltS x y := by
  rw [Bool.eq_iff_iff, ltBy33, ltS_iff]
def le (x y : S35) : Prop := ltS y x = false
theorem le_iff (x y : S35) : le x y ↔ ¬ (y.f0.f0 < x.f0.f0 ∨ y.f0.f0 = x.f0.f0 ∧ (y.f0.f1 < x.f0.f1 ∨ y.f0.f1 = x.f0.f1 ∧ (y.f1.f0 < x.f1.f0 ∨ y.f1.f0 = x.f1.f0 ∧ (y.f1.f1 < x.f1.f1)))) := by
  unfold le; rw [← ltS_iff, Bool.not_eq_true]
theorem le_refl (x : S35) : le x x := by rw [le_iff]; omega
theorem le_trans {x y z : S35} (h1 : le x y) (h2 : le y z) : le x z := by rw [le_iff] at *; omega
theorem le_antisymm {x y : S35} (h1 : le x y) (h2 : le y x) : x = y := by
  rw [le_iff] at *
  exact s35_ext (by omega) (by omega) (by omega) (by omega)
theorem lt_le {x y : S35} (h : ltS x y = true) : le x y := by rw [le_iff]; rw [ltS_iff] at h; omega
theorem sorted_unique : ∀ {a b : List S35}, a.Perm b → a.Pairwise le → b.Pairwise le → a = b
  | [], b, h, _, _ => (List.Perm.eq_nil h.symm).symm
  | x :: a, [], h, _, _ => absurd h.length_eq (by simp)
  | x :: a, y :: b, h, ha, hb => by
    rw [List.pairwise_cons] at ha hb
    have hxy : x = y := by
      by_cases e : x = y
      · exact e
      · have h1 : x ∈ y :: b := h.mem_iff.1 List.mem_cons_self
        have h2 : y ∈ x :: a := h.mem_iff.2 List.mem_cons_self
        have h3 : x ∈ b := (List.mem_cons.1 h1).resolve_left e
        have h4 : y ∈ a := (List.mem_cons.1 h2).resolve_left (fun e' => e e'.symm)
        exact le_antisymm (ha.1 y h4) (hb.1 x h3)
    subst hxy
    rw [sorted_unique ((List.perm_cons x).1 h) ha.2 hb.2]
/-- INSERTION, as the reference does it. -/
def ins (s : S35) : List S35 → List S35
  | [] => [s]
  | x :: l => if ltS s x = true then s :: x :: l else x :: ins s l
theorem ins_perm (s : S35) : ∀ l, (ins s l).Perm (s :: l)
  | [] => List.Perm.refl _
  | x :: l => by
    unfold ins
    split
    · exact List.Perm.refl _
    · exact ((ins_perm s l).cons x).trans (List.Perm.swap s x l)
theorem ins_sorted (s : S35) : ∀ {l : List S35}, l.Pairwise le → (ins s l).Pairwise le
  | [], _ => List.pairwise_singleton _ _
  | x :: l, h => by
    unfold ins
    rw [List.pairwise_cons] at h
    split
    · rename_i hlt
      refine List.pairwise_cons.2 ⟨fun z hz => ?_, List.pairwise_cons.2 h⟩
      rcases List.mem_cons.1 hz with rfl | hz
      · exact lt_le hlt
      · exact le_trans (lt_le hlt) (h.1 z hz)
    · rename_i hlt
      refine List.pairwise_cons.2 ⟨fun z hz => ?_, ins_sorted s h.2⟩
      rcases List.mem_cons.1 ((ins_perm s l).mem_iff.1 hz) with rfl | hz
      · unfold le; simpa using hlt
      · exact h.1 z hz
def sortOn (out l : List S35) : List S35 := l.foldl (fun o s => ins s o) out
theorem sortOn_perm : ∀ (l out : List S35), (sortOn out l).Perm (out ++ l)
  | [], out => by unfold sortOn; simp
  | x :: l, out => by
    show (sortOn (ins x out) l).Perm _
    refine (sortOn_perm l _).trans ?_
    refine ((ins_perm x out).append_right l).trans ?_
    exact List.perm_middle.symm
theorem sortOn_sorted : ∀ (l : List S35) {out : List S35}, out.Pairwise le → (sortOn out l).Pairwise le
  | [], _, h => h
  | x :: l, out, h => by
    show (sortOn (ins x out) l).Pairwise le
    exact sortOn_sorted l (ins_sorted x h)
def sortS (l : List S35) : List S35 := sortOn [] l
theorem sortS_perm (l : List S35) : (sortS l).Perm l := sortOn_perm l []
theorem sortS_sorted (l : List S35) : (sortS l).Pairwise le := sortOn_sorted l List.Pairwise.nil
theorem sort_by (l : List S35) (hl : l.length < 4611686018427387904) : api_Seg_by_noding_order.f l = some (sortS l) := by
  have hex : ∃ r, api_Seg_by_noding_order.f l = some r := by unfold api_Seg_by_noding_order.f; rw [if_pos hl]; exact ⟨_, rfl⟩
  obtain ⟨r, hr⟩ := hex
  obtain ⟨hp, hs⟩ := api_Seg_by_noding_order.spec l r hr
  rw [hr]
  congr 1
  refine sorted_unique (hp.trans (sortS_perm l).symm) ?_ (sortS_sorted l)
  rw [List.pairwise_iff_getElem]
  intro i j hi hj hij
  have := hs i j hij hj
  rw [List.getD_eq_getElem?_getD, List.getD_eq_getElem?_getD, List.getElem?_eq_getElem hi, List.getElem?_eq_getElem hj, ltS_by] at this
  exact this

def vB (a b : Int) : Bool := decide (0 ≤ a ∧ a < 32768 ∧ 0 ≤ b ∧ b < 32768)
theorem valid_some (a b : Int) : grid_Valid.f a b = some (vB a b) := by
  unfold grid_Valid.f vB
  (repeat' split) <;> (congr 1; rw [Bool.eq_iff_iff]; simp; omega)
def ltB (a b c d : Int) : Bool := decide (a < c ∨ a = c ∧ b < d)
theorem less_some (a b c d : Int) : grid_Less.f a b c d = some (ltB a b c d) := by
  unfold grid_Less.f ltB
  split <;> (congr 1; rw [Bool.eq_iff_iff]; simp; omega)
def ofS (s : S35) : S35 := if ltB s.f1.f0 s.f1.f1 s.f0.f0 s.f0.f1 = true then ⟨s.f1, s.f0⟩ else s
def goodS (s : S35) : Bool := (!(s.f0.f0 == s.f1.f0) || (!(s.f0.f1 == s.f1.f1))) && (vB s.f0.f0 s.f0.f1 && vB s.f1.f0 s.f1.f1)
theorem of_some (a b c d : Int) : seg_Of.f a b c d = some ((ofS ⟨⟨a, b⟩, ⟨c, d⟩⟩).f0.f0, (ofS ⟨⟨a, b⟩, ⟨c, d⟩⟩).f0.f1, (ofS ⟨⟨a, b⟩, ⟨c, d⟩⟩).f1.f0, (ofS ⟨⟨a, b⟩, ⟨c, d⟩⟩).f1.f1) := by
  unfold seg_Of.f
  rw [less_some]
  simp only [Option.bind_some]
  unfold ofS
  split <;> simp_all
def canonP (l : List S35) : List S35 := (l.filter goodS).map ofS
theorem canonP_cons (x : S35) (r : List S35) : canonP (x :: r) = if goodS x = true then ofS x :: canonP r else canonP r := by
  unfold canonP
  by_cases hg : goodS x = true <;> simp [List.filter_cons, hg]
theorem canon0 (l : List S35) (hl : l.length ≤ 1000000) (d : Nat) : ∀ (k : Nat) (i : Nat) (out : List S35), i ≤ l.length → l.length - i = d → d < k → out.length ≤ i → noding_canon.l0 k out l (l.length : Int) (i : Int) = some (out ++ canonP (l.drop i)) := by
  induction d with
  | zero =>
    intro k i out hi hd hk ho
    cases k with
    | zero => omega
    | succ k =>
      simp only [noding_canon.l0]
      rw [if_neg (by omega), List.drop_eq_nil_of_le (by omega)]
      simp [canonP]
  | succ d ih =>
    intro k i out hi hd hk ho
    cases k with
    | zero => omega
    | succ k =>
      have hlt : i < l.length := by omega
      have hc : canonP (l.drop i) = if goodS l[i] = true then ofS l[i] :: canonP (l.drop (i + 1)) else canonP (l.drop (i + 1)) := by
        rw [List.drop_eq_getElem_cons hlt]
        exact canonP_cons _ _
      have h1 := ih k (i + 1) out (by omega) (by omega) (by omega) (by omega)
      have h2 := ih k (i + 1) (out ++ [ofS l[i]]) (by omega) (by omega) (by omega) (by simp; omega)
      simp only [noding_canon.l0]
      rw [if_pos (by omega), if_pos (by omega), if_pos (by omega), rd35 l i hlt, wrap_succ i (by omega)]
      simp only [valid_some, of_some, Option.bind_some]
      rw [h1, hc]
      have e : (⟨⟨(ofS l[i]).f0.f0, (ofS l[i]).f0.f1⟩, ⟨(ofS l[i]).f1.f0, (ofS l[i]).f1.f1⟩⟩ : S35) = ofS l[i] := rfl
      have hb : out.length < 4398046511104 := by omega
      have e2 : (⟨⟨l[i].f0.f0, l[i].f0.f1⟩, ⟨l[i].f1.f0, l[i].f1.f1⟩⟩ : S35) = l[i] := rfl
      rw [e2, e, if_pos hb, h2]
      unfold goodS
      cases (!(l[i].f0.f0 == l[i].f1.f0) || (!(l[i].f0.f1 == l[i].f1.f1))) <;> cases vB l[i].f0.f0 l[i].f0.f1 <;> cases vB l[i].f1.f0 l[i].f1.f1 <;> simp
theorem canon (l : List S35) (hl : l.length ≤ 1000000) (k : Nat) (hk : l.length < k) : noding_canon.f k l = some (canonP l) := by
  unfold noding_canon.f
  rw [show ((0 : Int)) = ((0 : Nat) : Int) from rfl, canon0 l hl l.length k 0 [] (by omega) (by omega) hk (by simp)]
  simp
theorem canonP_length (l : List S35) : (canonP l).length ≤ l.length := by
  unfold canonP; rw [List.length_map]; exact List.length_filter_le _ _
theorem nSort (l : List S35) (hl : l.length ≤ 1000000) (k : Nat) (hk : l.length < k) : noding_Sort.f k l = some (sortS (canonP l)) := by
  unfold noding_Sort.f
  rw [canon l hl k hk, Option.bind_some, sort_by _ (by have := canonP_length l; omega), Option.bind_some]
theorem nUnique (l : List S35) (hl : l.length ≤ 1000000) (k : Nat) (hk : l.length < k) : noding_Unique.f k l = some (dd35 eqs35 (sortS (canonP l))) := by
  unfold noding_Unique.f
  rw [nSort l hl k hk, Option.bind_some]
  rfl
theorem sortS_length (l : List S35) : (sortS l).length = l.length := (sortS_perm l).length_eq

theorem rValid_some (a b : Int) : mapmakerref08_Valid.f a b = some (vB a b) := valid_some a b
theorem ddGo_cons (p y : S35) (l : List S35) : ddGo35 eqs35 p (y :: l) = if eqs35 y p = true then ddGo35 eqs35 y l else y :: ddGo35 eqs35 y l := rfl
theorem lives (K0 : Nat) (h : mapmakerlaw20_lives.f K0 = some true) (k : Nat) (hk : K0 ≤ k) : mapmakerlaw20_lives.f k = some true := by
  obtain ⟨d, rfl⟩ : ∃ d, k = K0 + d := ⟨k - K0, by omega⟩
  clear hk
  induction d with
  | zero => exact h
  | succ d ih => exact mapmakerlaw20_lives.mono _ _ ih
end Go.Proofs.Ytmejeiddlhjjmaa.Pure
