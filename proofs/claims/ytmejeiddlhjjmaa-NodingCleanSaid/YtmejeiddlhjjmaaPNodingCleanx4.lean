-- out of a driver of this session's prover over the kit's print: Lean checks it
import Derived.Test.YtmejeiddlhjjmaaPNodingCleanx0
import Derived.Test.YtmejeiddlhjjmaaPNodingCleanx3
namespace Go.Proofs.Ytmejeiddlhjjmaa.PNodingClean
open Go.Proofs.YtmejeiddlhjjmaaG Go.Shelf Go.Lib
open Go.RowKit Go.Proofs.YtmejeiddlhjjmaaW.PrintWords Go.Proofs.YtmejeiddlhjjmaaW.PrintLast Go.Proofs.YtmejeiddlhjjmaaW.PrintMore
attribute [local go_sem] max2_int min2_int max_two min_two max_three min_three max_four min_four   -- for this text's walks alone
set_option linter.unusedVariables false
set_option linter.unusedSimpArgs false
instance inhS35 : Inhabited S35 := ⟨z35⟩
def enc35 (x : S35) : List Value := [.int .i64 x.f0.f0, .int .i64 x.f0.f1, .int .i64 x.f1.f0, .int .i64 x.f1.f1]
def cmpBy33 (x y : S35) : Int := if x.f0.f0 = y.f0.f0 then if x.f0.f1 = y.f0.f1 then if x.f1.f0 = y.f1.f0 then if x.f1.f1 = y.f1.f1 then 0 else (if x.f1.f1 < y.f1.f1 then -1 else 1) else (if x.f1.f0 < y.f1.f0 then -1 else 1) else (if x.f0.f1 < y.f0.f1 then -1 else 1) else (if x.f0.f0 < y.f0.f0 then -1 else 1)
theorem ltBy33 (x y : S35) : ltOf cmpBy33 x y = true ↔ (x.f0.f0 < y.f0.f0 ∨ x.f0.f0 = y.f0.f0 ∧ (x.f0.f1 < y.f0.f1 ∨ x.f0.f1 = y.f0.f1 ∧ (x.f1.f0 < y.f1.f0 ∨ x.f1.f0 = y.f1.f0 ∧ (x.f1.f1 < y.f1.f1)))) := by
 unfold ltOf cmpBy33
 rw [decide_eq_true_iff]
 (repeat' split) <;> omega
theorem swoBy33 : Go.Sort.SWO (ltOf cmpBy33) where
 irrefl x := by rw [Bool.eq_false_iff]; intro h; rw [ltBy33] at h; omega
 trans x y z h1 h2 := by rw [ltBy33] at *; omega
 ntrans x y z h1 h2 := by
  rw [Bool.eq_false_iff] at *
  intro h3
  rw [Ne, ltBy33] at h1 h2
  rw [ltBy33] at h3
  omega
theorem eqG33 (d : Nat) (w : World) (x0 y0 : Int) (x1 y1 : Int) :
  (Op.equalIn (d + 2) 33 (.agg #[.int .i64 x0, .int .i64 x1]) (.agg #[.int .i64 y0, .int .i64 y1])).run Try.prog w = .ok (x0 == y0 && (x1 == y1)) w := by
 refine eqA_of Try.underlying33 (by kernel_rfl) ?_
 refine eqf_cons (by rfl) (by go_simp; rfl) (by go_simp; rfl) (by go_simp) ?_
 exact eqf_last (by rfl) (by go_simp; rfl) (by go_simp; rfl) (by go_simp)
theorem eqG35 (d : Nat) (w : World) (x0 y0 : Int) (x1 y1 : Int) (x2 y2 : Int) (x3 y3 : Int) :
  (Op.equalIn (d + 3) 35 (.agg #[.int .i64 x0, .int .i64 x1, .int .i64 x2, .int .i64 x3]) (.agg #[.int .i64 y0, .int .i64 y1, .int .i64 y2, .int .i64 y3])).run Try.prog w = .ok ((x0 == y0 && (x1 == y1)) && ((x2 == y2 && (x3 == y3)))) w := by
 refine eqA_of Try.underlying35 (by kernel_rfl) ?_
 refine eqf_cons (by rfl) (by go_simp) (by go_simp) (eqG33 (d + 0) w _ _ _ _) ?_
 exact eqf_last (by rfl) (by go_simp) (by go_simp) (eqG33 (d + 0) w _ _ _ _)
attribute [local go_sem high] eqG33 eqG35
set_option maxHeartbeats 4000000 in
set_option maxRecDepth 100000 in
theorem closureBy33 (x y : S35) (W : World) : Calls Try.prog 33 (#[.agg (enc35 x).toArray, .agg (enc35 y).toArray] ++ #[]) W fun e w' => e = .returned (.int .i64 (cmpBy33 x y)) ∧ ∃ q os', w' = Go.Sort.grow (W.drewN q) os' := by
 obtain ⟨⟨a, b⟩, ⟨c, d⟩⟩ := x
 obtain ⟨⟨a', b'⟩, ⟨c', d'⟩⟩ := y
 show Calls Try.prog 33 #[.agg #[.int .i64 a, .int .i64 b, .int .i64 c, .int .i64 d], .agg #[.int .i64 a', .int .i64 b', .int .i64 c', .int .i64 d']] W _
 unfold cmpBy33
 dsimp only
 by_cases ha : a = a'
 case neg =>
  have ea : (a == a') = false := beq_eq_false_iff_ne.mpr ha
  rw [if_neg ha]
  by_cases hl : a < a'
  ·rw [if_pos hl]
   have hd : decide (a < a') = true := decide_eq_true hl
   go_enter Try.func33, Try.ntmps33
   go_wp2
   go_ret
   exact ⟨rfl, 0, _, by simp only [Go.Sort.alloc_eq_grow, Go.Sort.grow_grow]; rfl⟩
  ·rw [if_neg hl]
   have hd : decide (a < a') = false := decide_eq_false hl
   go_enter Try.func33, Try.ntmps33
   go_wp2
   go_ret
   exact ⟨rfl, 0, _, by simp only [Go.Sort.alloc_eq_grow, Go.Sort.grow_grow]; rfl⟩
 subst ha
 rw [if_pos rfl]
 by_cases hb : b = b'
 case neg =>
  have eb : (b == b') = false := beq_eq_false_iff_ne.mpr hb
  rw [if_neg hb]
  by_cases hl : b < b'
  ·rw [if_pos hl]
   have hd : decide (b < b') = true := decide_eq_true hl
   go_enter Try.func33, Try.ntmps33
   go_wp2
   go_ret
   exact ⟨rfl, 0, _, by simp only [Go.Sort.alloc_eq_grow, Go.Sort.grow_grow]; rfl⟩
  ·rw [if_neg hl]
   have hd : decide (b < b') = false := decide_eq_false hl
   go_enter Try.func33, Try.ntmps33
   go_wp2
   go_ret
   exact ⟨rfl, 0, _, by simp only [Go.Sort.alloc_eq_grow, Go.Sort.grow_grow]; rfl⟩
 subst hb
 rw [if_pos rfl]
 by_cases hc : c = c'
 case neg =>
  have ec : (c == c') = false := beq_eq_false_iff_ne.mpr hc
  rw [if_neg hc]
  by_cases hl : c < c'
  ·rw [if_pos hl]
   have hd : decide (c < c') = true := decide_eq_true hl
   go_enter Try.func33, Try.ntmps33
   go_wp2
   go_ret
   exact ⟨rfl, 0, _, by simp only [Go.Sort.alloc_eq_grow, Go.Sort.grow_grow]; rfl⟩
  ·rw [if_neg hl]
   have hd : decide (c < c') = false := decide_eq_false hl
   go_enter Try.func33, Try.ntmps33
   go_wp2
   go_ret
   exact ⟨rfl, 0, _, by simp only [Go.Sort.alloc_eq_grow, Go.Sort.grow_grow]; rfl⟩
 subst hc
 rw [if_pos rfl]
 by_cases hd : d = d'
 case neg =>
  have ed : (d == d') = false := beq_eq_false_iff_ne.mpr hd
  rw [if_neg hd]
  by_cases hl : d < d'
  ·rw [if_pos hl]
   have hd : decide (d < d') = true := decide_eq_true hl
   go_enter Try.func33, Try.ntmps33
   go_wp2
   go_ret
   exact ⟨rfl, 0, _, by simp only [Go.Sort.alloc_eq_grow, Go.Sort.grow_grow]; rfl⟩
  ·rw [if_neg hl]
   have hd : decide (d < d') = false := decide_eq_false hl
   go_enter Try.func33, Try.ntmps33
   go_wp2
   go_ret
   exact ⟨rfl, 0, _, by simp only [Go.Sort.alloc_eq_grow, Go.Sort.grow_grow]; rfl⟩
 subst hd
 rw [if_pos rfl]
 go_enter Try.func33, Try.ntmps33
 go_wp2
 go_ret
 exact ⟨rfl, 0, _, by simp only [Go.Sort.alloc_eq_grow, Go.Sort.grow_grow]; rfl⟩
def api_Seg_by_noding_order.f (l0 : List (S35)) : Option (List (S35)) := if l0.length < 4611686018427387904 then some (Go.Sort.pdq (ltOf cmpBy33) l0.toArray 0 l0.length (Lib.bitLen l0.length) true true).toList else none
theorem api_Seg_by_noding_order.spec (l0 r : List (S35)) (h : api_Seg_by_noding_order.f l0 = some r) : r.Perm l0 ∧ ∀ i j, i < j → j < r.length → ltOf cmpBy33 (r.getD j z35) (r.getD i z35) = false := by
 unfold api_Seg_by_noding_order.f at h
 split at h
 case isFalse => cases h
 obtain rfl := Option.some.inj h
 obtain ⟨⟨hs, _, hp⟩, ho⟩ := Go.Sort.pdq_sorts (ltOf cmpBy33) swoBy33 l0.toArray 0 l0.length (Lib.bitLen l0.length) true true (Nat.zero_le _) (by simp) (Or.inl rfl)
 generalize Go.Sort.pdq (ltOf cmpBy33) l0.toArray 0 l0.length (Lib.bitLen l0.length) true true = d at hs hp ho ⊢
 have hsl : d.size = l0.length := by simpa using hs
 refine ⟨?_, fun i j hij hj => ?_⟩
 ·have e1 : d.extract 0 l0.length = d := by rw [← hsl]; exact Array.extract_size
  have e2 : l0.toArray.extract 0 l0.length = l0.toArray := by
   have : l0.length = l0.toArray.size := by simp
   rw [this]; exact Array.extract_size
  rw [e1, e2] at hp
  exact hp
 ·have hj' : j < d.size := by simpa using hj
  have h1 := ho i j (Nat.zero_le _) hij (by omega)
  rw [getElem!_pos d j hj', getElem!_pos d i (by omega)] at h1
  rw [List.getD_eq_getElem?_getD, List.getD_eq_getElem?_getD, List.getElem?_eq_getElem hj, List.getElem?_eq_getElem (show i < d.toList.length by omega)]
  simpa using h1
set_option maxHeartbeats 4000000 in
set_option maxRecDepth 100000 in
theorem api_Seg_by_noding_order.calls (P0_ : Nat → Prop) (u9000_ : Value) (l0 : List (S35)) (r : List (S35)) (w0 w : World) (hB : Below w0.heap.size w0 w) (ho0 : Kd.R k35 35 w w0.heap.size P0_ u9000_ l0) (h : api_Seg_by_noding_order.f l0 = some r) :
  Calls Try.prog 32 #[u9000_, .func (.func 33) #[] #[]] w fun e w' => e = .returned (.tuple #[]) ∧ Kd.R k35 35 w' w0.heap.size (fun k_ => (P0_ k_ ∨ w.heap.size ≤ k_)) u9000_ r ∧ Below w0.heap.size w0 w' ∧ Kept w w' (fun k_ => P0_ k_) := by
 have hperm := (api_Seg_by_noding_order.spec l0 r h).1
 unfold api_Seg_by_noding_order.f at h
 split at h
 case isFalse => cases h
 rename_i hsz
 obtain ⟨A, c, rfl⟩ := Kd.R_slice ho0
 rcases Nat.eq_zero_or_pos l0.length with h0 | h0
 ·obtain rfl : l0 = [] := List.eq_nil_of_length_eq_zero h0
  obtain rfl : r = [] := List.Perm.eq_nil hperm
  refine (AnyF.slices_SortFunc_none { Try.laid32 with } A c (.func (.func 33) #[] #[]) w).mono ?_
  rintro e w' ⟨rfl, rfl⟩
  exact ⟨rfl, rM ho0 (fun _ hk => .inl hk), hB, Nat.le_refl _, fun _ _ _ => rfl⟩
 ·obtain ⟨g, rfl⟩ := R_head ho0 h0
  obtain rfl := Option.some.inj h
  obtain ⟨hH, hblk⟩ := holds_of_R enc35 (fun _ => rfl) (by decide) (fun h => k35_open h) ho0
  have eg : ∀ args w, (callFunc 33 args).run Try.prog w = .ok (.enter 33 args) w := enters_of Try.func33 (by kernel_rfl) rfl
  have hcon := AnyQ.slices_SortFunc_eq Try.laid32 4 Try.isAgg35 Try.sizeOf35 enc35 (fun _ => rfl) (fun x v hv => by simp [enc35] at hv; rcases hv with rfl | rfl | rfl | rfl <;> rfl) cmpBy33 swoBy33 33 #[] g 0 c l0.toArray w eg (fun m os dk hs x y => closureBy33 x y _) hH hblk (by simpa using hsz)
  have e1 : l0.toArray.size = l0.length := by simp
  rw [e1] at hcon
  refine hcon.mono ?_
  rintro e w' ⟨rfl, n, os, rfl⟩
  have hd : (Go.Sort.pdq (ltOf cmpBy33) l0.toArray 0 l0.length (Lib.bitLen l0.length) true true).size = l0.length := by
   have := hperm.length_eq
   simpa using this
  have hR := R_sortWorldK enc35 (fun _ => rfl) (by decide) (fun w base ok x => k35_mkM w base ok x) ho0 n (Go.Sort.pdq (ltOf cmpBy33) l0.toArray 0 l0.length (Lib.bitLen l0.length) true true) os hd
  have hg := grown_sortWorldK enc35 k35.sz w g n (Go.Sort.pdq (ltOf cmpBy33) l0.toArray 0 l0.length (Lib.bitLen l0.length) true true) os
  have hP : P0_ g := ho0.1 g rfl
  obtain ⟨inner, hown⟩ := Kd.R_own ho0
  refine ⟨rfl, rM hR (fun _ hk => .inl hk), hB.grown hg hB.size (fun k hk => own_base hown k hk), hg.size, fun i hi hne => hg.block i hi (fun he => hne ?_)⟩
  injection he with he
  rw [he]; exact hP
def noding_Sort.f (k : Nat) (l0 : List (S35)) : Option ((List (S35))) := (noding_canon.f k l0).bind fun t136 => ((api_Seg_by_noding_order.f t136).bind fun t139 => (some t139))
theorem noding_Sort.mono : ∀ a0 k, LeO (noding_Sort.f k a0) (noding_Sort.f (k + 1) a0) := by
 intro a0 k
 unfold noding_Sort.f
 repeat' first
   | (with_reducible exact noding_canon.mono _ _)
   | (with_reducible exact LeO.refl _)
   | (with_reducible exact LeO.none _)
   | (with_reducible refine LeO.ite ?_ ?_)
   | (with_reducible refine LeO.bind ?_ (fun _ => ?_))
   | exact noding_canon.mono _ _
   | exact LeO.none _
   | refine LeO.ite ?_ ?_
   | refine LeO.bind ?_ (fun _ => ?_)
set_option maxHeartbeats 8000000 in
set_option maxRecDepth 100000 in
theorem noding_Sort.calls (k : Nat) (A0 : Option Addr) (c0 : Nat) (l0 : List (S35)) (r : List (S35)) (w : World) (hr0 : Kd.C k35 w A0 l0.length l0) (hc0 : l0.length ≤ c0) (h : noding_Sort.f k l0 = some r) :
  Calls Try.prog 13 #[.slice A0 l0.length c0] w fun e w' => ∃ v0_ : Value, e = .returned (v0_) ∧ Kd.R k35 35 w' w.heap.size (fun _ => True) v0_ r ∧ Below w.heap.size w w' := by
 have HR0 := aM hr0
 have HC0 := aM hc0
 clear hr0 hc0
 have HB := aM (Below.refl w.heap.size w)
 have H : ((noding_canon.f k l0).bind fun t136 => ((api_Seg_by_noding_order.f t136).bind fun t139 => (some t139))) = some r := h
 clear h
 replace H := Option.bind_eq_some_iff.mp H
 obtain ⟨t136, A20, H⟩ := H
 try dsimp only at H
 have A2 := aM A20
 clear A20
 replace H := Option.bind_eq_some_iff.mp H
 obtain ⟨t139, A30, H⟩ := H
 try dsimp only at H
 have A3 := aM A30
 clear A30
 obtain rfl := Option.some.inj H
 go_enter Try.func13, Try.ntmps13
 go_wp2_with (first | ((with_reducible refine gate_callee (f := 29) rfl ?_); refine goesL_ (some 5) rfl rfl Try.func29 (by kernel_rfl) rfl #[.slice A0 l0.length c0] rfl (by (try simp only [List.map_toArray, List.map_cons, List.map_nil]); first | done | rfl | (simp only [List.length_drop, List.length_take]; rfl)) ?_; (with_reducible refine (noding_canon.calls k _ _ l0 t136 _ ?side1 ?side2 A2.out).mono ?_); (case side1 => repeat (first | exact HR0.out | (with_reducible refine cA ?_ _) | (with_reducible refine cN ?_ _) | (with_reducible refine cD ?_))); (case side2 => exact HC0.out); rintro e w4 ⟨v137, rfl, ho0, hb⟩; refine ⟨_, rfl, ?_⟩; have HO138 := aM (Kd.R_lower ho0 (below_size (bl))); replace HB := aM (bS (bl) hb); (try clear hb); (try clear hb2); (try clear hk); (try clear hi); (try clear ho0); obtain ⟨Ao5, co5, eo5⟩ := Kd.R_slice HO138.out; subst eo5) | ((with_reducible refine gate_callee (f := 32) rfl ?_); refine goesL_ (some 7) rfl rfl Try.func32 (by kernel_rfl) rfl #[.slice Ao5 t136.length co5, .func (.func 33) #[] #[]] rfl (by (try simp only [List.map_toArray, List.map_cons, List.map_nil]); first | done | rfl | (simp only [List.length_drop, List.length_take]; rfl)) ?_; (with_reducible refine (api_Seg_by_noding_order.calls (fun k_ => some k_ = (.slice Ao5 t136.length co5 : Value).ownBlock) (.slice Ao5 t136.length co5) t136 t139 w _ ?side1 ?side2 A3.out).mono ?_); (case side1 => repeat (first | (with_reducible first | exact HB.out | apply bA | apply bN | apply bD) | exact HB.out)); (case side2 => exact Kd.R_tight rfl HO138.out); rintro e w6 ⟨rfl, hy0, hb, hkp⟩; refine ⟨_, rfl, ?_⟩; replace HO138 := aM (Kd.R_reok rfl hy0 (fun k_ e_ => HO138.out.1 k_ e_)); replace HB := aM (hb); (try clear hb); (try clear hkp); (try clear hy0)))
 go_ret
 exact ⟨_, by first | rfl | (simp [errW_none, errW_some] <;> rfl) | (simp [*, errW_none, errW_some] <;> rfl), by (with_reducible repeat (first | apply rA | apply rN | apply rD)); exact HO138.out, bl⟩
def ddGo35 (q : S35 → S35 → Bool) : S35 → List S35 → List S35
 | _, [] => []
 | p, y :: l => if q y p = true then ddGo35 q y l else y :: ddGo35 q y l
def dd35 (q : S35 → S35 → Bool) : List S35 → List S35
 | [] => []
 | x :: l => x :: ddGo35 q x l
theorem ddGo_snoc35 (q : S35 → S35 → Bool) (z : S35) : ∀ (l : List S35) (p y : S35), ddGo35 q p (l ++ [y]) = ddGo35 q p l ++ (if q y ((p :: l).getLast (by simp)) = true then [] else [y])
 | [], p, y => by
  simp only [List.nil_append, ddGo35, List.getLast_singleton]
  first | rfl | (split <;> rfl)
 | x :: l, p, y => by
  have ih := ddGo_snoc35 q z l x y
  simp only [List.cons_append, ddGo35]
  rw [ih]
  have e : (p :: x :: l).getLast (by simp) = (x :: l).getLast (by simp) := rfl
  rw [e]
  by_cases h : q x p = true
  ·rw [if_pos h, if_pos h]
  ·rw [if_neg h, if_neg h, List.cons_append]
theorem dd_snoc35 (q : S35 → S35 → Bool) (l : List S35) (j : Nat) (h0 : 0 < j) (hj : j < l.length) : dd35 q (l.take (j + 1)) = dd35 q (l.take j) ++ (if q l[j] l[j - 1] = true then [] else [l[j]]) := by
 rw [List.take_succ_eq_append_getElem hj]
 cases l with
 | nil => simp at hj
 | cons x l =>
  obtain ⟨i, rfl⟩ : ∃ i, j = i + 1 := ⟨j - 1, by omega⟩
  simp only [List.take_succ_cons, List.cons_append, dd35]
  rw [ddGo_snoc35 q x]
  have e : (x :: l.take i).getLast (by simp) = (x :: l)[i] := by
   rw [List.getLast_eq_getElem]
   simp only [List.length_cons, List.length_take]
   have hm : min i l.length = i := by simp at hj; omega
   simp only [hm, Nat.add_sub_cancel]
   cases i with
   | zero => rfl
   | succ i => simp
  rw [e]
  rfl
structure Cmpd35 (q : S35 → S35 → Bool) (l : List S35) (jj kk : Nat) (cur : List S35) : Prop where
 len : cur.length = l.length
 le : jj ≤ l.length
 ile : kk < jj
 kept : cur.take kk = dd35 q (l.take jj)
 rest : cur.drop (jj - 1) = l.drop (jj - 1)
theorem Cmpd35.get {q : S35 → S35 → Bool} {l cur : List S35} {jj kk : Nat} (h : Cmpd35 q l jj kk cur) (i : Nat) (hi : jj - 1 ≤ i) (hl : i < l.length) (z : S35) : cur.getD i z = l[i] := by
 have h1 := congrArg (fun t => t[i - (jj - 1)]?) h.rest
 simp only [List.getElem?_drop] at h1
 rw [show jj - 1 + (i - (jj - 1)) = i by omega] at h1
 rw [List.getD_eq_getElem?_getD, h1, List.getElem?_eq_getElem hl]
 rfl
theorem Cmpd35.step_yes {q : S35 → S35 → Bool} {l cur : List S35} {jj kk : Nat} (h : Cmpd35 q l jj kk cur) (hj : jj < l.length) (hp : q l[jj] l[jj - 1] = true) : Cmpd35 q l (jj + 1) kk cur where
 len := h.len
 le := hj
 ile := by have := h.ile; omega
 kept := by rw [dd_snoc35 q l jj (by have := h.ile; omega) hj, if_pos hp, List.append_nil]; exact h.kept
 rest := by
  have h0 := h.ile
  have := congrArg (List.drop 1) h.rest
  rw [List.drop_drop, List.drop_drop, show jj - 1 + 1 = jj + 1 - 1 by omega] at this
  exact this
theorem Cmpd35.step_no {q : S35 → S35 → Bool} {l cur : List S35} {jj kk : Nat} (h : Cmpd35 q l jj kk cur) (hj : jj < l.length) (hp : q l[jj] l[jj - 1] = false) : Cmpd35 q l (jj + 1) (kk + 1) (cur.set kk l[jj]) where
 len := by rw [List.length_set]; exact h.len
 le := hj
 ile := by have := h.ile; omega
 kept := by
  have h0 := h.ile
  have hi : kk < cur.length := by rw [h.len]; omega
  rw [dd_snoc35 q l jj (by omega) hj, if_neg (by rw [hp]; exact Bool.false_ne_true), ← h.kept, List.take_succ_eq_append_getElem (by rw [List.length_set]; exact hi), List.getElem_set_self, List.take_set_of_le (Nat.le_refl _)]
 rest := by
  have h0 := h.ile
  rw [List.drop_set_of_lt (by omega)]
  have := congrArg (List.drop 1) h.rest
  rw [List.drop_drop, List.drop_drop, show jj - 1 + 1 = jj + 1 - 1 by omega] at this
  exact this
theorem Cmpd35.done {q : S35 → S35 → Bool} {l cur : List S35} {kk : Nat} (h : Cmpd35 q l l.length kk cur) : cur.take kk = dd35 q l ∧ kk = (dd35 q l).length := by
 have h1 := h.kept
 rw [List.take_length] at h1
 refine ⟨h1, ?_⟩
 rw [← h1, List.length_take, h.len]
 have := h.ile
 omega
theorem dd_pre35 (q : S35 → S35 → Bool) (l : List S35) : ∀ j, j ≤ l.length → (∀ i, 0 < i → (hi : i < j) → (hl : i < l.length) → q l[i] l[i - 1] = false) → dd35 q (l.take j) = l.take j
 | 0, _, _ => rfl
 | 1, hj, _ => by
  cases l with
  | nil => rfl
  | cons x l => rfl
 | j + 2, hj, h => by
  rw [dd_snoc35 q l (j + 1) (by omega) (by omega), if_neg (by rw [h (j + 1) (by omega) (by omega) (by omega)]; exact Bool.false_ne_true), dd_pre35 q l (j + 1) (by omega) (fun i h0 h1 h2 => h i h0 (by omega) h2), List.take_succ_eq_append_getElem (show j + 1 < l.length by omega)]
theorem Cmpd35.start {q : S35 → S35 → Bool} {l : List S35} {k : Nat} (h0 : 0 < k) (hk : k < l.length) (hp : q l[k] l[k - 1] = true) (hb : ∀ i, 0 < i → (hi : i < k) → (hl : i < l.length) → q l[i] l[i - 1] = false) : Cmpd35 q l (k + 1) k l where
 len := rfl
 le := hk
 ile := by omega
 kept := by rw [dd_snoc35 q l k h0 hk, if_pos hp, List.append_nil, dd_pre35 q l k (by omega) hb]
 rest := rfl
attribute [local go_sem high] eqG33 eqG35
theorem zv35 (w : World) : (zeroValue 35).run Try.prog w = .ok ((.agg #[(.int .i64 0), (.int .i64 0), (.int .i64 0), (.int .i64 0)])) w := by
 have h := info35
 cases hq : Try.prog.info? 35 with
 | none => rw [hq] at h; cases h
 | some i =>
  rw [hq] at h
  simp only [Option.map_some, Option.some.injEq, Prod.mk.injEq] at h
  simp [zeroValue, typeInfo, hq, h.1]
def eqs35 (x y : S35) : Bool := ((x.f0.f0 == y.f0.f0 && (x.f0.f1 == y.f0.f1)) && (x.f1.f0 == y.f1.f0 && (x.f1.f1 == y.f1.f1)))
set_option maxHeartbeats 4000000 in
set_option maxRecDepth 100000 in
theorem cp35 (base : Nat) (A : Option Addr) (c : Nat) (l : List S35) (w0 w : World) (P0_ : Nat → Prop)
  (HO : Kd.R k35 35 w base P0_ (.slice A l.length c) l) (hb0 : Below base w0 w) (hbase : base ≤ w.heap.size) :
  Calls Try.prog 35 #[.slice A l.length c] w fun e w' => ∃ v, e = .returned v ∧ Kd.R k35 35 w' base P0_ v (dd35 eqs35 l) ∧ Below base w0 w' ∧ w.grownBy w' (Value.slice A l.length c).ownBlock := by
 have hreads := rR HO
 have hbig : l.length ≤ 9223372036854775807 := hreads.2.2.2.1
 have hO := aM HO
 have HB0 := aM hb0
 clear hreads HO hb0
 by_cases hs : l.length < 2
 ·have hdd : dd35 eqs35 l = l := by
   have := dd_pre35 eqs35 l l.length (Nat.le_refl _) (fun i h0 h1 h2 => by omega)
   rwa [List.take_length] at this
  rw [hdd]
  clear hdd
  have hsI : decide ((l.length : Int) < 2) = true := decide_eq_true (by omega)
  have hsI2 : (l.length : Int) < 2 := by omega
  go_enter Try.func35, Try.ntmps35
  go_wp2
  go_ret
  exact ⟨_, rfl, hO.out, HB0.out, World.grownBy.refl w _⟩
 ·have hsI : ¬ ((l.length : Int) < 2) := by omega
  obtain ⟨ga, rfl⟩ := R_head hO.out (by omega)
  go_enter Try.func35, Try.ntmps35
  go_wp2
  have mixed : Try.prog.follows Departure.mixedOrders = true := by kernel_rfl
  go_loopg [3] l.length (fun gg v3 wr => ∃ m : Nat, m + 1 ≤ l.length ∧ l.length - (m + 1) ≤ gg ∧ v3 = .int .i64 ((m : Int) + 1) ∧ Aside0 (Below w.heap.size w wr) ∧ Aside0 (∀ i, 0 < i → (hi : i < m + 1) → (hl : i < l.length) → eqs35 l[i] l[i - 1] = false))
  case atStart => exact ⟨0, by omega, by omega, by go_num, ⟨Below.refl _ _⟩, ⟨fun i h0 h1 h2 => by omega⟩⟩
  case round =>
   obtain ⟨m, hml, hgg, rfl, HB, HP⟩ := hrel
   by_cases hlt : m + 1 < l.length
   ·have hltI : (m : Int) + 1 < (l.length : Int) := by omega
    have HC := Kd.C_below (rR hO.out).2.2 HB.out
    obtain ⟨ad, e0, hx0, hx1, hx2, hx3⟩ := at_T35 HC (m : Int) (by omega) (by omega)
    obtain ⟨ad', e0', hy0, hy1, hy2, hy3⟩ := at_T35 HC ((m + 1 : Nat) : Int) (by omega) (by omega)
    cases e0; cases e0'
    have hy : rd_T35 l ((m + 1 : Nat) : Int) = l[m + 1] := by unfold rd_T35; rw [Int.toNat_natCast, List.getD_eq_getElem?_getD, List.getElem?_eq_getElem hlt]; rfl
    have hx : rd_T35 l (m : Int) = l[m] := by unfold rd_T35; rw [Int.toNat_natCast, List.getD_eq_getElem?_getD, List.getElem?_eq_getElem (show m < l.length by omega)]; rfl
    rw [hx, Int.toNat_natCast, Addr.add_lit, Nat.zero_add] at hx0 hx1 hx2 hx3
    rw [hy, Int.toNat_natCast, Addr.add_lit, Nat.zero_add] at hy0 hy1 hy2 hy3
    clear hx hy
    have hw1 : IntKind.i64.wrap ((m : Int) + 1 - 1) = (m : Int) := by rw [IntKind.wrap_i64]; omega
    have hw2 : (m : Int) + 1 - 1 = (m : Int) := by omega
    have ht1 : ((m : Int) + 1).toNat = m + 1 := by omega
    have hb1 : (0 : Int) ≤ (m : Int) + 1 := by omega
    have hb2 : (m : Int) < (l.length : Int) := by omega
    have hb3 : (0 : Int) ≤ (m : Int) := by omega
    have HPY := aM (fun h : eqs35 l[m + 1] l[m] = true => Cmpd35.start (q := eqs35) (k := m + 1) (by omega) hlt h HP.out)
    have HPN := aM (fun (h : eqs35 l[m + 1] l[m] = false) i (h0 : 0 < i) (hi : i < m + 1 + 1) (hl : i < l.length) => (show eqs35 l[i] l[i - 1] = false from by
     by_cases e : i = m + 1
     ·subst e; exact h
     ·exact HP.out i h0 (by omega) hl))
    clear HP HC
    generalize l[m + 1] = y at hy0 hy1 hy2 hy3 HPY HPN
    generalize l[m] = x at hx0 hx1 hx2 hx3 HPY HPN
    have hQ : ∀ b, eqs35 y x = b → eqs35 y x = b := fun _ h => h
    cases hq : eqs35 y x with
    | true =>
     have HS := aM (HPY.out hq)
     clear HPY HPN hQ
     unfold eqs35 at hq
     have hcap := R_cap hO.out
     have hcm : ¬ (c = m + 1) := by omega
     have hcm2 : m + 1 ≤ l.length := by omega
     have HO1 := aM (rB hO.out HB.out)
     have HB1 := aM (HB0.out.trans (HB.out.mono hbase))
     have HG1 := aM (grown_of_below HB.out (Value.slice (some ⟨ga, 0, none⟩) l.length c).ownBlock)
     clear HB hO HB0
     go_wp2
     go_region
     go_wp2
     clear hq hx0 hx1 hx2 hx3 hy0 hy1 hy2 hy3 hw1 hw2 ht1 hb1 hb2 hb3 hltI
     have HO1' := aM (show Kd.R k35 35 wr.drew base P0_ (.slice (some ⟨ga, 0, none⟩) l.length c) l from rB HO1.out (bD (Below.refl _ _)))
     have HB1' := aM (bD HB1.out)
     have HG1' := aM (HG1.out.trans (grown_of_below (bD (Below.refl wr.heap.size wr)) _))
     clear HO1 HB1 HG1
     go_loopg [3, 5] l.length (fun gg v3 v5 wr => ∃ (n kk : Nat) (cur : List S35), m + 1 + n + 1 ≤ l.length ∧ l.length - (m + 1 + n + 1) ≤ gg ∧ v3 = .int .i64 kk ∧ v5 = .int .i64 ((n : Int) + 1) ∧ Aside0 (Cmpd35 eqs35 l (m + 1 + n + 1) kk cur) ∧ Aside0 (Kd.R k35 35 wr base P0_ (.slice (some ⟨ga, 0, none⟩) l.length c) cur) ∧ Aside0 (Below base w0 wr) ∧ Aside0 (w.grownBy wr (Value.slice (some ⟨ga, 0, none⟩) l.length c).ownBlock))
     case atStart => exact ⟨0, m + 1, l, by omega, by omega, by go_num, by go_num, HS, HO1', HB1', HG1'⟩
     case round =>
      clear HO1' HB1' HG1' HS
      obtain ⟨n, kk, cur, hnl, hgg2, rfl, rfl, HD, HO, HB, HG⟩ := hrel
      have hkk := HD.out.ile
      have hlen := HD.out.len
      by_cases hlt2 : m + 1 + n + 1 < l.length
      ·have hltJ : (n : Int) + 1 < ((l.length - (m + 1) : Nat) : Int) := by omega
       have HC := (rR HO.out).2.2
       obtain ⟨ad, e0, hx0, hx1, hx2, hx3⟩ := at_T35 HC ((m + 1 + n : Nat) : Int) (by omega) (by omega)
       obtain ⟨ad', e0', hy0, hy1, hy2, hy3⟩ := at_T35 HC ((m + 1 + n + 1 : Nat) : Int) (by omega) (by omega)
       cases e0; cases e0'
       have hx : rd_T35 cur ((m + 1 + n : Nat) : Int) = l[m + 1 + n] := by unfold rd_T35; rw [Int.toNat_natCast]; exact HD.out.get (m + 1 + n) (by omega) (by omega) z35
       have hy : rd_T35 cur ((m + 1 + n + 1 : Nat) : Int) = l[m + 1 + n + 1] := by unfold rd_T35; rw [Int.toNat_natCast]; exact HD.out.get (m + 1 + n + 1) (by omega) (by omega) z35
       rw [hx, Int.toNat_natCast, Addr.add_lit, Nat.zero_add, Nat.add_mul (m + 1) n] at hx0 hx1 hx2 hx3
       rw [hy, Int.toNat_natCast, Addr.add_lit, Nat.zero_add] at hy0 hy1 hy2 hy3
       clear hx hy HC
       have hw1 : IntKind.i64.wrap ((n : Int) + 1 - 1) = (n : Int) := by rw [IntKind.wrap_i64]; omega
       have hw2 : (n : Int) + 1 - 1 = (n : Int) := by omega
       have ht1 : ((n : Int) + 1).toNat = n + 1 := by omega
       have hb1 : (0 : Int) ≤ (n : Int) + 1 := by omega
       have hb2 : (n : Int) < ((l.length - (m + 1) : Nat) : Int) := by omega
       have hb3 : (0 : Int) ≤ (n : Int) := by omega
       have hkI : (kk : Int) < (l.length : Int) := by omega
       have HDY := aM (fun h : eqs35 l[m + 1 + n + 1] l[m + 1 + n] = true => HD.out.step_yes hlt2 h)
       have HDN := aM (fun h : eqs35 l[m + 1 + n + 1] l[m + 1 + n] = false => HD.out.step_no hlt2 h)
       clear HD
       generalize l[m + 1 + n + 1] = y at hy0 hy1 hy2 hy3 HDY HDN
       generalize l[m + 1 + n] = x at hx0 hx1 hx2 hx3 HDY HDN
       rw [Nat.add_assoc (m + 1) n 1, Nat.add_mul (m + 1) (n + 1)] at hy0 hy1 hy2 hy3
       cases hq : eqs35 y x with
       | true =>
        have HS := aM (HDY.out hq)
        clear HDY HDN
        unfold eqs35 at hq
        go_wp2
        go_region
        go_wp2
        go_roundg (l.length - (m + 1 + n + 1 + 1))
        case measure => omega
        case rel => exact ⟨n + 1, kk, cur, by omega, by omega, by go_num, by go_num, HS, ⟨rB HO.out (bD (Below.refl _ _))⟩, ⟨bD HB.out⟩, ⟨HG.out.trans (grown_of_below (bD (Below.refl wr.heap.size wr)) _)⟩⟩
       | false =>
        have HS := aM (HDN.out hq)
        clear HDY HDN
        unfold eqs35 at hq
        have HO2 := aM (show Kd.R k35 35 wr.drew base P0_ (.slice (some ⟨ga, 0, none⟩) l.length c) cur from rB HO.out (bD (Below.refl _ _)))
        have HB2 := aM (bD HB.out)
        have HG2 := aM (HG.out.trans (grown_of_below (bD (Below.refl wr.heap.size wr)) (Value.slice (some ⟨ga, 0, none⟩) l.length c).ownBlock))
        clear HO HB HG
        go_wp2
        go_region
        clear hq hx0 hx1 hx2 hx3
        go_wp2_with ((with_reducible refine gate_ (.store 35 (.tmp 51) (.tmp 50)) rfl ?_); obtain ⟨ad2, c2, he2, hc2, _, hcc2⟩ := Kd.C_get (rR HO2.out).2.2 z35 (kk : Int) (by omega) (by omega); cases he2; refine Kd.R_store k35 (w0 := w0) base rfl rfl 35 (.tmp 51) (.tmp 50) rfl 35 (o' := kk * 4) (kk : Int) 0 cur y (.agg #[.int .i64 y.f0.f0, .int .i64 y.f0.f1, .int .i64 y.f1.f0, .int .i64 y.f1.f1]) [.int .i64 y.f0.f0, .int .i64 y.f0.f1, .int .i64 y.f1.f0, .int .i64 y.f1.f1] c2 P0_ (fun _ => False) rfl rfl rfl rfl (by kernel_rfl) (by intro u hu; simp at hu; rcases hu with rfl | rfl | rfl | rfl <;> rfl) HO2.out (by omega) hkI hc2 (fun j u hu => ?cc) (Nat.le_refl 4) ?mm (fun k hk => hk.elim) HB2.out ?_; (case cc => have := hcc2 j u hu; rw [Addr.add_lit, Nat.zero_add] at this; exact this); (case mm => have hl2 : c2.length = 4 := hc2; rw [List.take_zero, List.nil_append, List.drop_eq_nil_of_le (by rw [hl2]; exact Nat.le_refl 4), List.append_nil]; exact k35_mkM _ _ _ y); intro w3 ho3 hb3 hg3; have HO3 := aM ho3; have HB3 := aM hb3; have HG3 := aM (HG2.out.trans hg3); clear ho3 hb3 hg3)
        go_roundg (l.length - (m + 1 + n + 1 + 1))
        case measure => omega
        case rel => exact ⟨n + 1, kk + 1, cur.set kk y, by omega, by omega, by go_num, by go_num, HS, HO3, HB3, HG3⟩
      ·have hend : m + 1 + n + 1 = l.length := by omega
       have hd := HD.out
       rw [hend] at hd
       obtain ⟨hd1, hd2⟩ := hd.done
       have hge : ¬ ((n : Int) + 1 < ((l.length - (m + 1) : Nat) : Int)) := by omega
       have hkc : kk < c := by omega
       have hkn : (kk : Int) ≤ (l.length : Int) := by omega
       have hkl : kk < l.length := by omega
       clear HD hd
       have HD1 := aM hd1
       have HD2 := aM hd2
       have HLN := aM hlen
       clear hd1 hd2 hlen
       go_wp2
       obtain ⟨w2, hrun, ho2, hg2⟩ := R_clear_run (P := Try.prog) k35 base 35 23 0 Try.underlying23 (.agg #[(.int .i64 0), (.int .i64 0), (.int .i64 0), (.int .i64 0)]) zv35 rfl (by decide) z35 (.slice (some ⟨ga, 0, none⟩) l.length c) cur kk (l.length - kk) ga (c - kk) P0_ (k35_mkM _ _ _ z35) HO.out (by rw [HLN.out]; omega) rfl
       have HO2 := aM ho2
       have HG2 := aM hg2
       clear ho2 hg2
       have hrun' : (Builtin.clear_ #[23] 0 #[Value.slice (some { block := ga, off := kk * 4 }) (l.length - kk) (c - kk)]).run Try.prog wr = .ok (.tuple #[]) w2 := hrun
       rw [hrun']
       simp only [Result.andThen_ok, Oper.upon_value]
       clear hrun hrun'
       go_wp2
       go_ret
       have e1 : (cur.take kk ++ (List.replicate (l.length - kk) z35 ++ cur.drop (kk + (l.length - kk)))).take kk = dd35 eqs35 l := by
        rw [List.take_append_of_le_length (by rw [List.length_take, HLN.out]; omega), List.take_take, Nat.min_self]
        exact HD1.out
       have ho3 := Kd.R_take (m := kk) HO2.out (by simp [HLN.out]; omega)
       rw [e1] at ho3
       exact ⟨_, rfl, ho3, HB.out.grown HG2.out (by have := HG.out.size; omega) (fun k hk => own_base (Kd.R_own HO.out).choose_spec k hk), HG.out.trans HG2.out⟩
    | false =>
     have HP := aM (HPN.out hq)
     clear HPY HPN hQ
     unfold eqs35 at hq
     go_wp2
     go_region
     go_wp2
     go_roundg (l.length - (m + 1 + 1))
     case measure => omega
     case rel => exact ⟨m + 1, by omega, by omega, by go_num, ⟨by repeat (first | exact HB.out | apply bN | apply bD)⟩, HP⟩
   ·have hml2 : m + 1 = l.length := by omega
    have hdd : dd35 eqs35 l = l := by
     have := dd_pre35 eqs35 l l.length (Nat.le_refl _) (fun i h0 h1 h2 => HP.out i h0 (by omega) h2)
     rwa [List.take_length] at this
    have hge : ¬ ((m : Int) + 1 < (l.length : Int)) := by omega
    have HDD := aM hdd
    clear hdd
    go_wp2
    go_ret
    rw [HDD.out]
    exact ⟨_, rfl, rB hO.out HB.out, HB0.out.trans (HB.out.mono hbase), grown_of_below HB.out _⟩
def api_Seg_35.f (l0 : List S35) : Option (List S35) := some (dd35 eqs35 l0)
theorem api_Seg_35.calls (P0_ : Nat → Prop) (u9000_ : Value) (l0 : List (S35)) (r : List (S35)) (w0 w : World) (hB : Below w0.heap.size w0 w) (ho0 : Kd.R k35 35 w w0.heap.size P0_ u9000_ l0) (h : api_Seg_35.f l0 = some r) :
  Calls Try.prog 35 #[u9000_] w fun e w' => ∃ v0_ : Value, e = .returned (v0_) ∧ Kd.R k35 35 w' w0.heap.size (fun k_ => (P0_ k_ ∨ w.heap.size ≤ k_)) v0_ r ∧ Below w0.heap.size w0 w' ∧ Kept w w' (fun k_ => P0_ k_) := by
 obtain rfl := Option.some.inj h
 obtain ⟨A, c, rfl⟩ := Kd.R_slice ho0
 have hP := ho0.1
 refine (cp35 w0.heap.size A c l0 w0 w P0_ ho0 hB hB.size).mono ?_
 rintro e w' ⟨v, rfl, h1, h2, hg⟩
 exact ⟨v, rfl, rM h1 (fun _ hk => .inl hk), h2, hg.size, fun i hi hne => hg.block i hi (fun he => hne (hP i he.symm))⟩
def noding_Unique.f (k : Nat) (l0 : List (S35)) : Option ((List (S35))) := (noding_Sort.f k l0).bind fun t140 => ((api_Seg_35.f t140).bind fun t143 => (some t143))
theorem noding_Unique.mono : ∀ a0 k, LeO (noding_Unique.f k a0) (noding_Unique.f (k + 1) a0) := by
 intro a0 k
 unfold noding_Unique.f
 repeat' first
   | (with_reducible exact noding_Sort.mono _ _)
   | (with_reducible exact LeO.refl _)
   | (with_reducible exact LeO.none _)
   | (with_reducible refine LeO.ite ?_ ?_)
   | (with_reducible refine LeO.bind ?_ (fun _ => ?_))
   | exact noding_Sort.mono _ _
   | exact LeO.none _
   | refine LeO.ite ?_ ?_
   | refine LeO.bind ?_ (fun _ => ?_)
set_option maxHeartbeats 8000000 in
set_option maxRecDepth 100000 in
theorem noding_Unique.calls (k : Nat) (A0 : Option Addr) (c0 : Nat) (l0 : List (S35)) (r : List (S35)) (w : World) (hr0 : Kd.C k35 w A0 l0.length l0) (hc0 : l0.length ≤ c0) (h : noding_Unique.f k l0 = some r) :
  Calls Try.prog 15 #[.slice A0 l0.length c0] w fun e w' => ∃ v0_ : Value, e = .returned (v0_) ∧ Kd.R k35 35 w' w.heap.size (fun _ => True) v0_ r ∧ Below w.heap.size w w' := by
 have HR0 := aM hr0
 have HC0 := aM hc0
 clear hr0 hc0
 have HB := aM (Below.refl w.heap.size w)
 have H : ((noding_Sort.f k l0).bind fun t140 => ((api_Seg_35.f t140).bind fun t143 => (some t143))) = some r := h
 clear h
 replace H := Option.bind_eq_some_iff.mp H
 obtain ⟨t140, A20, H⟩ := H
 try dsimp only at H
 have A2 := aM A20
 clear A20
 replace H := Option.bind_eq_some_iff.mp H
 obtain ⟨t143, A30, H⟩ := H
 try dsimp only at H
 have A3 := aM A30
 clear A30
 obtain rfl := Option.some.inj H
 go_enter Try.func15, Try.ntmps15
 go_wp2_with (first | ((with_reducible refine gate_callee (f := 13) rfl ?_); refine goesL_ (some 4) rfl rfl Try.func13 (by kernel_rfl) rfl #[.slice A0 l0.length c0] rfl (by (try simp only [List.map_toArray, List.map_cons, List.map_nil]); first | done | rfl | (simp only [List.length_drop, List.length_take]; rfl)) ?_; (with_reducible refine (noding_Sort.calls k _ _ l0 t140 _ ?side1 ?side2 A2.out).mono ?_); (case side1 => repeat (first | exact HR0.out | (with_reducible refine cA ?_ _) | (with_reducible refine cN ?_ _) | (with_reducible refine cD ?_))); (case side2 => exact HC0.out); rintro e w4 ⟨v141, rfl, ho0, hb⟩; refine ⟨_, rfl, ?_⟩; have HO142 := aM (Kd.R_lower ho0 (below_size (bl))); replace HB := aM (bS (bl) hb); (try clear hb); (try clear hb2); (try clear hk); (try clear hi); (try clear ho0); obtain ⟨Ao5, co5, eo5⟩ := Kd.R_slice HO142.out; subst eo5) | ((with_reducible refine gate_callee (f := 35) rfl ?_); refine goesL_ (some 5) rfl rfl Try.func35 (by kernel_rfl) rfl #[.slice Ao5 t140.length co5] rfl (by (try simp only [List.map_toArray, List.map_cons, List.map_nil]); first | done | rfl | (simp only [List.length_drop, List.length_take]; rfl)) ?_; (with_reducible refine (api_Seg_35.calls (fun k_ => some k_ = (.slice Ao5 t140.length co5 : Value).ownBlock) (.slice Ao5 t140.length co5) t140 t143 w _ ?side1 ?side2 A3.out).mono ?_); (case side1 => repeat (first | (with_reducible first | exact HB.out | apply bA | apply bN | apply bD) | exact HB.out)); (case side2 => exact Kd.R_tight rfl HO142.out); rintro e w6 ⟨v144, rfl, ho0, hb, hkp⟩; refine ⟨_, rfl, ?_⟩; have HO145 := aM (rM (ok' := fun k_ => True) ho0 (fun k_ hk_ => trivial)); replace HB := aM (hb); clear HO142; (try clear hb); (try clear hkp); (try clear ho0)))
 go_ret
 exact ⟨_, by first | rfl | (simp [errW_none, errW_some] <;> rfl) | (simp [*, errW_none, errW_some] <;> rfl), by (with_reducible repeat (first | apply rA | apply rN | apply rD)); exact HO145.out, bl⟩
end Go.Proofs.Ytmejeiddlhjjmaa.PNodingClean
