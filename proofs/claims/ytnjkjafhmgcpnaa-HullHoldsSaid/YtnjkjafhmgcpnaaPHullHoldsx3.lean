-- out of a driver of this session's prover over the kit's print: Lean checks it
import Derived.Test.YtnjkjafhmgcpnaaPHullHoldsx0
namespace Go.Proofs.Ytnjkjafhmgcpnaa.PHullHolds
open Go.Proofs.YtnjkjafhmgcpnaaG Go.Shelf Go.Lib
open Go.RowKit Go.Proofs.YtnjkjafhmgcpnaaW.PrintWords Go.Proofs.YtnjkjafhmgcpnaaW.PrintLast Go.Proofs.YtnjkjafhmgcpnaaW.PrintMore
attribute [local go_sem] max2_int min2_int max_two min_two max_three min_three max_four min_four   -- for this text's walks alone
set_option linter.unusedVariables false
set_option linter.unusedSimpArgs false


/-! ### api_Point_by_hull_compare: function 100000 -/

instance inhS28 : Inhabited S28 := ⟨z28⟩
def enc28 (x : S28) : List Value := [.int .i64 x.f0, .int .i64 x.f1]
def cmpBy18 (x y : S28) : Int := if x.f0 = y.f0 then if x.f1 = y.f1 then 0 else (if x.f1 < y.f1 then -1 else 1) else (if x.f0 < y.f0 then -1 else 1)

theorem ltBy18 (x y : S28) : ltOf cmpBy18 x y = true ↔ (x.f0 < y.f0 ∨ x.f0 = y.f0 ∧ (x.f1 < y.f1)) := by
  unfold ltOf cmpBy18
  rw [decide_eq_true_iff]
  (repeat' split) <;> omega
theorem swoBy18 : Go.Sort.SWO (ltOf cmpBy18) where
  irrefl x := by rw [Bool.eq_false_iff]; intro h; rw [ltBy18] at h; omega
  trans x y z h1 h2 := by rw [ltBy18] at *; omega
  ntrans x y z h1 h2 := by
    rw [Bool.eq_false_iff] at *
    intro h3
    rw [Ne, ltBy18] at h1 h2
    rw [ltBy18] at h3
    omega

theorem eqG28 (d : Nat) (w : World) (x0 y0 : Int) (x1 y1 : Int) :
    (Op.equalIn (d + 2) 28 (.agg #[.int .i64 x0, .int .i64 x1]) (.agg #[.int .i64 y0, .int .i64 y1])).run Try.prog w = .ok (x0 == y0 && (x1 == y1)) w := by
  refine eqA_of Try.underlying28 (by kernel_rfl) ?_
  refine eqf_cons (by rfl) (by go_simp; rfl) (by go_simp; rfl) (by go_simp) ?_
  exact eqf_last (by rfl) (by go_simp; rfl) (by go_simp; rfl) (by go_simp)
attribute [local go_sem high] eqG28
set_option maxHeartbeats 4000000 in
set_option maxRecDepth 100000 in
theorem closureBy18 (x y : S28) (W : World) : Calls Try.prog 18 (#[.agg (enc28 x).toArray, .agg (enc28 y).toArray] ++ #[]) W fun e w' => e = .returned (.int .i64 (cmpBy18 x y)) ∧ ∃ q os', w' = Go.Sort.grow (W.drewN q) os' := by
  obtain ⟨a, b⟩ := x
  obtain ⟨a', b'⟩ := y
  show Calls Try.prog 18 #[.agg #[.int .i64 a, .int .i64 b], .agg #[.int .i64 a', .int .i64 b']] W _
  unfold cmpBy18
  dsimp only
  by_cases ha : a = a'
  · subst ha
    rw [if_pos rfl]
    by_cases hb : b = b'
    · subst hb
      rw [if_pos rfl]
      go_enter Try.func18, Try.ntmps18
      go_wp2
      go_ret
      exact ⟨rfl, 0, _, by simp only [Go.Sort.alloc_eq_grow, Go.Sort.grow_grow]; rfl⟩
    · rw [if_neg hb]
      have eb : (b == b') = false := beq_eq_false_iff_ne.mpr hb
      by_cases hl : b < b'
      · rw [if_pos hl]
        have hd : decide (b < b') = true := decide_eq_true hl
        go_enter Try.func18, Try.ntmps18
        go_wp2
        go_ret
        exact ⟨rfl, 0, _, by simp only [Go.Sort.alloc_eq_grow, Go.Sort.grow_grow]; rfl⟩
      · rw [if_neg hl]
        have hd : decide (b < b') = false := decide_eq_false hl
        go_enter Try.func18, Try.ntmps18
        go_wp2
        go_ret
        exact ⟨rfl, 0, _, by simp only [Go.Sort.alloc_eq_grow, Go.Sort.grow_grow]; rfl⟩
  · rw [if_neg ha]
    have ea : (a == a') = false := beq_eq_false_iff_ne.mpr ha
    by_cases hl : a < a'
    · rw [if_pos hl]
      have hd : decide (a < a') = true := decide_eq_true hl
      go_enter Try.func18, Try.ntmps18
      go_wp2
      go_ret
      exact ⟨rfl, 0, _, by simp only [Go.Sort.alloc_eq_grow, Go.Sort.grow_grow]; rfl⟩
    · rw [if_neg hl]
      have hd : decide (a < a') = false := decide_eq_false hl
      go_enter Try.func18, Try.ntmps18
      go_wp2
      go_ret
      exact ⟨rfl, 0, _, by simp only [Go.Sort.alloc_eq_grow, Go.Sort.grow_grow]; rfl⟩

def api_Point_by_hull_compare.f (l0 : List (S28)) : Option (List (S28)) := if l0.length < 4611686018427387904 then some (Go.Sort.pdq (ltOf cmpBy18) l0.toArray 0 l0.length (Lib.bitLen l0.length) true true).toList else none
theorem api_Point_by_hull_compare.spec (l0 r : List (S28)) (h : api_Point_by_hull_compare.f l0 = some r) : r.Perm l0 ∧ ∀ i j, i < j → j < r.length → ltOf cmpBy18 (r.getD j z28) (r.getD i z28) = false := by
  unfold api_Point_by_hull_compare.f at h
  split at h
  case isFalse => cases h
  obtain rfl := Option.some.inj h
  obtain ⟨⟨hs, _, hp⟩, ho⟩ := Go.Sort.pdq_sorts (ltOf cmpBy18) swoBy18 l0.toArray 0 l0.length (Lib.bitLen l0.length) true true (Nat.zero_le _) (by simp) (Or.inl rfl)
  generalize Go.Sort.pdq (ltOf cmpBy18) l0.toArray 0 l0.length (Lib.bitLen l0.length) true true = d at hs hp ho ⊢
  have hsl : d.size = l0.length := by simpa using hs
  refine ⟨?_, fun i j hij hj => ?_⟩
  · have e1 : d.extract 0 l0.length = d := by rw [← hsl]; exact Array.extract_size
    have e2 : l0.toArray.extract 0 l0.length = l0.toArray := by
      have : l0.length = l0.toArray.size := by simp
      rw [this]; exact Array.extract_size
    rw [e1, e2] at hp
    exact hp
  · have hj' : j < d.size := by simpa using hj
    have h1 := ho i j (Nat.zero_le _) hij (by omega)
    rw [getElem!_pos d j hj', getElem!_pos d i (by omega)] at h1
    rw [List.getD_eq_getElem?_getD, List.getD_eq_getElem?_getD, List.getElem?_eq_getElem hj, List.getElem?_eq_getElem (show i < d.toList.length by omega)]
    simpa using h1
set_option maxHeartbeats 4000000 in
set_option maxRecDepth 100000 in
theorem api_Point_by_hull_compare.calls (P0_ : Nat → Prop) (u9000_ : Value) (l0 : List (S28)) (r : List (S28)) (w0 w : World) (hB : Below w0.heap.size w0 w) (ho0 : Kd.R k28 28 w w0.heap.size P0_ u9000_ l0) (h : api_Point_by_hull_compare.f l0 = some r) :
    Calls Try.prog 17 #[u9000_, .func (.func 18) #[] #[]] w fun e w' => e = .returned (.tuple #[]) ∧ Kd.R k28 28 w' w0.heap.size (fun k_ => (P0_ k_ ∨ w.heap.size ≤ k_)) u9000_ r ∧ Below w0.heap.size w0 w' ∧ Kept w w' (fun k_ => P0_ k_) := by
  have hperm := (api_Point_by_hull_compare.spec l0 r h).1
  unfold api_Point_by_hull_compare.f at h
  split at h
  case isFalse => cases h
  rename_i hsz
  obtain ⟨A, c, rfl⟩ := Kd.R_slice ho0
  rcases Nat.eq_zero_or_pos l0.length with h0 | h0
  · obtain rfl : l0 = [] := List.eq_nil_of_length_eq_zero h0
    obtain rfl : r = [] := List.Perm.eq_nil hperm
    refine (AnyF.slices_SortFunc_none { Try.laid17 with } A c (.func (.func 18) #[] #[]) w).mono ?_
    rintro e w' ⟨rfl, rfl⟩
    exact ⟨rfl, Kd.R_mono ho0 (fun _ hk => .inl hk), hB, Nat.le_refl _, fun _ _ _ => rfl⟩
  · obtain ⟨g, rfl⟩ := R_head ho0 h0
    obtain rfl := Option.some.inj h
    obtain ⟨hH, hblk⟩ := holds_of_R enc28 (fun _ => rfl) (by decide) (fun h => k28_open h) ho0
    have eg : ∀ args w, (callFunc 18 args).run Try.prog w = .ok (.enter 18 args) w := enters_of Try.func18 (by kernel_rfl) rfl
    have hcon := AnyQ.slices_SortFunc_eq Try.laid17 2 Try.isAgg28 Try.sizeOf28 enc28 (fun _ => rfl) (fun x v hv => by simp [enc28] at hv; rcases hv with rfl | rfl <;> rfl) cmpBy18 swoBy18 18 #[] g 0 c l0.toArray w eg (fun m os dk hs x y => closureBy18 x y _) hH hblk (by simpa using hsz)
    have e1 : l0.toArray.size = l0.length := by simp
    rw [e1] at hcon
    refine hcon.mono ?_
    rintro e w' ⟨rfl, n, os, rfl⟩
    have hd : (Go.Sort.pdq (ltOf cmpBy18) l0.toArray 0 l0.length (Lib.bitLen l0.length) true true).size = l0.length := by
      have := hperm.length_eq
      simpa using this
    have hR := R_sortWorldK enc28 (fun _ => rfl) (by decide) (fun w base ok x => k28_mkM w base ok x) ho0 n (Go.Sort.pdq (ltOf cmpBy18) l0.toArray 0 l0.length (Lib.bitLen l0.length) true true) os hd
    have hg := grown_sortWorldK enc28 k28.sz w g n (Go.Sort.pdq (ltOf cmpBy18) l0.toArray 0 l0.length (Lib.bitLen l0.length) true true) os
    have hP : P0_ g := ho0.1 g rfl
    obtain ⟨inner, hown⟩ := Kd.R_own ho0
    refine ⟨rfl, Kd.R_mono hR (fun _ hk => .inl hk), hB.grown hg hB.size (fun k hk => own_base hown k hk), hg.size, fun i hi hne => hg.block i hi (fun he => hne ?_)⟩
    injection he with he
    rw [he]; exact hP


end Go.Proofs.Ytnjkjafhmgcpnaa.PHullHolds
