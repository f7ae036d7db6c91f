-- out of a driver of this session's prover over the kit's print: Lean checks it
import Derived.Test.YtefambkodalomaaPAllx0
namespace Go.Proofs.Ytefambkodalomaa.PAll
open Go.Proofs.YtefambkodalomaaG Go.Shelf Go.Lib
open Go.RowKit Go.Proofs.YtefambkodalomaaW.PrintWords Go.Proofs.YtefambkodalomaaW.PrintLast Go.Proofs.YtefambkodalomaaW.PrintMore
attribute [local go_sem] max2_int min2_int max_two min_two max_three min_three max_four min_four   -- for this text's walks alone
set_option linter.unusedVariables false
set_option linter.unusedSimpArgs false
def wire_PutUint.l0 : Nat → ByteArray → Int → List Int → Option (ByteArray)
 | 0, _, _, _ => none
 | k + 1, x0, x1, x5 => if x1 ≥ 128 then (if x5.length < 140737488355328 then (wire_PutUint.l0 k x0 (x1 / 128) (x5 ++ [Go.bits .or .u8 ((x1) % 256) 128])) else (none)) else (if x5.length < 140737488355328 then ((some (x5 ++ [(x1) % 256] : List Int)).bind fun y104 => (if x0.size + (strOfNums y104).size ≤ 9223372036854775807 then (some (x0 ++ (strOfNums y104))) else (none))) else (none))
def wire_PutUint.f (k : Nat) (a0 : ByteArray) (a1 : Int) : Option (ByteArray) := wire_PutUint.l0 k a0 a1 ([] : List Int)
theorem wire_PutUint.mono_l : ∀ k, (∀ y0 y1 y2, LeO (wire_PutUint.l0 k y0 y1 y2) (wire_PutUint.l0 (k + 1) y0 y1 y2))
 | 0 => fun _ _ _ r h => by simp [wire_PutUint.l0] at h
 | k + 1 => by
  have ih0 := wire_PutUint.mono_l k
  ·intro y0 y1 y2
   unfold wire_PutUint.l0
   repeat' first
   | (with_reducible exact ih0 _ _ _)
   | (with_reducible exact LeO.refl _)
   | (with_reducible exact LeO.none _)
   | (with_reducible refine LeO.ite ?_ ?_)
   | (with_reducible refine LeO.eB ?_ (fun _ => ?_))
   | (with_reducible refine LeO.bind ?_ (fun _ => ?_))
   | exact ih0 _ _ _
   | exact LeO.none _
   | refine LeO.ite ?_ ?_
   | refine LeO.bind ?_ (fun _ => ?_)
theorem wire_PutUint.mono : ∀ a0 a1 k, LeO (wire_PutUint.f k a0 a1) (wire_PutUint.f (k + 1) a0 a1) := by
 intro a0 a1 k; have ih0 := wire_PutUint.mono_l k; unfold wire_PutUint.f
 repeat' first
   | (with_reducible exact ih0 _ _ _)
   | (with_reducible exact LeO.refl _)
   | (with_reducible exact LeO.none _)
   | (with_reducible refine LeO.ite ?_ ?_)
   | (with_reducible refine LeO.eB ?_ (fun _ => ?_))
   | (with_reducible refine LeO.bind ?_ (fun _ => ?_))
   | exact ih0 _ _ _
   | exact LeO.none _
   | refine LeO.ite ?_ ?_
   | refine LeO.bind ?_ (fun _ => ?_)
set_option maxHeartbeats 8000000 in
set_option maxRecDepth 100000 in
theorem wire_PutUint.calls (k : Nat) (a0 : ByteArray) (a1 : Int) (r : ByteArray) (w : World) (h : wire_PutUint.f k a0 a1 = some r) :
  Calls Try.prog 75 #[.string a0, .int .u64 a1] w fun e w' => e = .returned (.string r) ∧ Below w.heap.size w w' := by
 have HB := aM (Below.refl w.heap.size w); have H : (wire_PutUint.l0 k a0 a1 ([] : List Int)) = some r := h; clear h; have H' := aM H; clear H; go_enter Try.func75, Try.ntmps75
 go_wp2
 go_loopg [1, 5] k (fun kq v1 v5 w' => ∃ (x1_1 : Int) (x5_1 : List Int), v1 = .int .u64 x1_1 ∧ Aside0 (wire_PutUint.l0 kq a0 x1_1 x5_1 = some r) ∧ Aside0 (kq ≤ k) ∧ Aside0 (Kd.R (Kd.int .u8) 5 w' w.heap.size (fun _ => True) v5 x5_1) ∧ Aside0 (Below w.heap.size w w'))
 case atStart => exact ⟨(a1), (([] : List Int)), (by first | rfl | (simp; done) | (simp [*]; done)), H', ⟨Nat.le_refl _⟩, ⟨by first | exact Kd.R_nil _ _ _ _ _ | exact Kd.N_nil _ _ _ _ _ | exact Kd.V_nil _ _ _ _ _ | exact Kd.Q_nil _ _ _ _ _ | exact Kd.S_nil _ _ _ _ _⟩, ⟨bl⟩⟩
 case round =>
  clear H'; obtain ⟨x1_1, x5_1, rfl, HA, HK1, HO_5, HB⟩ := hrel
  cases gk with
  | zero => exact absurd HA.out (by simp [wire_PutUint.l0])
  | succ k1 =>
   have H := HA.out; clear HA; simp only [wire_PutUint.l0] at H
   by_cases c3 : x1_1 ≥ 128
   ·rw [if_pos c3] at H; have c3b0 : decide (128 ≤ x1_1) = true := decide_eq_true c3; clear c3
    by_cases c4 : x5_1.length < 140737488355328
    ·rw [if_pos c4] at H; have LMc4 := aM c4; clear c4; obtain ⟨y101, hy101⟩ : ∃ y_ : List Int, y_ = (x5_1 ++ [Go.bits .or .u8 ((x1_1) % 256) 128]) := ⟨_, rfl⟩; replace H : (wire_PutUint.l0 k1 a0 (x1_1 / 128) y101) = some r := by first | (rw [hy101]; with_reducible exact H) | (have H2_ := (Option.bind_some _ _).symm.trans H; rw [hy101]; with_reducible exact H2_) | (have H2_ := (Option.bind_some _ _).symm.trans H; with_reducible exact H2_) | with_reducible exact H | (rw [hy101]; exact H) | exact H
     have Ny101 := aM hy101; clear hy101; have H' := aM H; clear H
     go_wp2_with (first | ((with_reducible refine gate_builtin (b := .append) (xs := #[.tmp 8, .tmp 12]) rfl ?_); at_builtin; refine Kd.R_append (Kd.int .u8) (w0 := w) w.heap.size rfl (.tmp 8) (.tmp 12) 137 5 (.int .u8 0) 1 rfl Try.underlying137 info5 rfl (by decide) (by omega) u5 x5_1 (Go.bits .or .u8 ((x1_1) % 256) 128) [.int .u8 (Go.bits .or .u8 ((x1_1) % 256) 128)] (fun _ => True) (fun _ => False) rfl rfl ?aP (fun _ hk => hk.elim) ?aF ?aO ?aB ?aS ?aL ?_; (case aP => exact rfl); (case aB => exact (bl)); (case aF => exact (fun _ _ => trivial)); (case aO => exact (rl HO_5)); (case aS => exact (below_size (bl))); (case aL => have := LMc4.out; omega); intro v102 w5 ho hb hg hat; rw [← Ny101.out] at ho; have HO103 := aM (ho); replace HB := aM (hb); clear HO_5 ho hb hg hat))
     go_roundg k1
     case measure => have := HK1.out; omega
     case rel => exact ⟨(x1_1 / 128), (y101), (by first | rfl | (simp; done) | (simp [*]; done)), H', ⟨by have := HK1.out; omega⟩, ⟨by (with_reducible repeat (first | apply rA | apply rN | apply rD)); exact HO103.out⟩, ⟨bl⟩⟩
    ·rw [if_neg c4] at H; exact absurd H (by simp)
   ·rw [if_neg c3] at H; have c3b0 : decide (128 ≤ x1_1) = false := decide_eq_false c3; clear c3
    by_cases c6 : x5_1.length < 140737488355328
    ·rw [if_pos c6] at H; have LMc6 := aM c6; clear c6; obtain ⟨y104, hy104⟩ : ∃ y_ : List Int, y_ = (x5_1 ++ [(x1_1) % 256]) := ⟨_, rfl⟩; replace H : (if a0.size + (strOfNums y104).size ≤ 9223372036854775807 then (some (a0 ++ (strOfNums y104))) else (none)) = some r := by first | (rw [hy104]; with_reducible exact H) | (have H2_ := (Option.bind_some _ _).symm.trans H; rw [hy104]; with_reducible exact H2_) | (have H2_ := (Option.bind_some _ _).symm.trans H; with_reducible exact H2_) | with_reducible exact H | (rw [hy104]; exact H) | exact H
     have Ny104 := aM hy104; clear hy104
     by_cases c7 : a0.size + (strOfNums y104).size ≤ 9223372036854775807
     ·rw [if_pos c7] at H; have c7b0 := eq_true c7; have c7b1 : decide (a0.size + (strOfNums y104).size ≤ 9223372036854775807) = true := decide_eq_true c7
      try have c7b2 : (9223372036854775807 < a0.size + (strOfNums y104).size) = False := eq_false (Nat.not_lt.2 c7)
      obtain rfl := Option.some.inj H
      go_wp2_with (first | ((with_reducible refine gate_builtin (b := .append) (xs := #[.tmp 17, .tmp 20]) rfl ?_); at_builtin; refine Kd.R_append (Kd.int .u8) (w0 := w) w.heap.size rfl (.tmp 17) (.tmp 20) 137 5 (.int .u8 0) 1 rfl Try.underlying137 info5 rfl (by decide) (by omega) u5 x5_1 ((x1_1) % 256) [.int .u8 ((x1_1) % 256)] (fun _ => True) (fun _ => False) rfl rfl ?aP (fun _ hk => hk.elim) ?aF ?aO ?aB ?aS ?aL ?_; (case aP => exact rfl); (case aB => exact (bl)); (case aF => exact (fun _ _ => trivial)); (case aO => exact (rl HO_5)); (case aS => exact (below_size (bl))); (case aL => have := LMc6.out; omega); intro v105 w8 ho hb hg hat; rw [← Ny104.out] at ho; have HO106 := aM (ho); replace HB := aM (hb); clear HO_5 ho hb hg hat; have hcv9 := own_string (P := Try.prog) Try.underlying137 Try.underlying5 Try.underlying9 (Kd.own_of_R HO106.out)))
      go_ret; exact ⟨by first | rfl | (simp [errW_none, errW_some] <;> rfl) | (simp [*, errW_none, errW_some] <;> rfl), bl⟩
     ·rw [if_neg c7] at H; exact absurd H (by simp)
    ·rw [if_neg c6] at H; exact absurd H (by simp)
def IsS68 (w0 W : World) (g : Nat) (f0 : ByteArray) : Prop := W.heap[g]? = some (.cells #[.string f0] 68 (0, 0)) ∧ w0.heap.size ≤ g
theorem IsS68.grown {w0 W : World} {g : Nat} {f0 : ByteArray} {W1 : World} {row : Option Nat} (h : IsS68 w0 W g f0) (hw : W.grownBy W1 row) (hne : some g ≠ row) : IsS68 w0 W1 g f0 := by
 obtain ⟨hb, hg⟩ := h; exact ⟨blk_grown hb hw hne, hg⟩
theorem IsS68.own_neN {w0 W : World} {g : Nat} {f0 : ByteArray} {α : Type} {d : Kd α} {e : Nat} {base : Nat} {ok : Nat → Prop} {v : Value} {xs : List α} (h : IsS68 w0 W g f0) (ho : Kd.N d e W base ok v xs) (ht : e ≠ 68) : some g ≠ v.ownBlock := by
 obtain ⟨hb, hg⟩ := h; exact Kd.N_ne ho hb ht
theorem IsS68.fresh {w0 W : World} {g : Nat} {f0 : ByteArray} (h : IsS68 w0 W g f0) : ∀ k, W.heap.size ≤ k → k ≠ g := by
 obtain ⟨hb, hg⟩ := h; exact Kd.freshB hb
theorem IsS68.kept {w0 W : World} {g : Nat} {f0 : ByteArray} {W1 : World} {S : Nat → Prop} (h : IsS68 w0 W g f0) (hk : Kept W W1 S) (hne : ¬ S g) : IsS68 w0 W1 g f0 := by
 obtain ⟨hb, hg⟩ := h; exact ⟨blk_kept hb hk hne, hg⟩
theorem IsS68.below {w0 W : World} {g : Nat} {f0 : ByteArray} {W1 : World} (h : IsS68 w0 W g f0) (hw : Below W.heap.size W W1) : IsS68 w0 W1 g f0 := h.grown (grown_of_below hw none) (by simp)
theorem IsS68.alloc {w0 W : World} {g : Nat} {f0 : ByteArray} (h : IsS68 w0 W g f0) (o : Obj) : IsS68 w0 (W.alloc o) g f0 := h.below (bA (Below.refl _ _) o)
theorem IsS68.drewN {w0 W : World} {g : Nat} {f0 : ByteArray} (h : IsS68 w0 W g f0) (m : Nat) : IsS68 w0 (W.drewN m) g f0 := h
theorem IsS68.drew {w0 W : World} {g : Nat} {f0 : ByteArray} (h : IsS68 w0 W g f0) : IsS68 w0 W.drew g f0 := h
theorem IsS68.at_ {w0 W : World} {g : Nat} {f0 : ByteArray} {w' : World} {m : Nat} (hq : W.drewN m = w') (h : IsS68 w0 W g f0) : IsS68 w0 w' g f0 := by subst hq; exact IsS68.drewN h m
theorem IsS68.apart {w0 W : World} {g : Nat} {f0 : ByteArray} {α : Type} {d : Kd α} {e : Nat} {base : Nat} {ok : Nat → Prop} {v : Value} {xs : List α} (h : IsS68 w0 W g f0) (ho : d.R e W base ok v xs) (ht : ∀ q, q ∈ e :: d.E → q ≠ 68) : d.R e W base (fun k => ok k ∧ k ≠ g) v xs := by
 obtain ⟨hb, hg⟩ := h; exact Kd.R_types ho hb ht
theorem IsS68.own_ne {w0 W : World} {g : Nat} {f0 : ByteArray} {α : Type} {d : Kd α} {e : Nat} {base : Nat} {ok : Nat → Prop} {v : Value} {xs : List α} (h : IsS68 w0 W g f0) (ho : d.R e W base ok v xs) (ht : e ≠ 68) : some g ≠ v.ownBlock := by
 obtain ⟨hb, hg⟩ := h; exact Kd.R_ne ho hb ht
theorem IsS68.apartQ {w0 W : World} {g : Nat} {f0 : ByteArray} {α : Type} {d : Kd α} {e : Nat} {base : Nat} {ok : Nat → Prop} {v : Value} {xs : List α} (h : IsS68 w0 W g f0) (ho : d.Q e W base ok v xs) (ht : ∀ q, q ∈ e :: d.E → q ≠ 68) : d.Q e W base (fun k => ok k ∧ k ≠ g) v xs := by
 obtain ⟨hb, hg⟩ := h; exact Kd.Q_types ho hb ht
theorem IsS68.own_neQ {w0 W : World} {g : Nat} {f0 : ByteArray} {α : Type} {d : Kd α} {e : Nat} {base : Nat} {ok : Nat → Prop} {v : Value} {xs : List α} (h : IsS68 w0 W g f0) (ho : d.Q e W base ok v xs) (ht : e ≠ 68) : some g ≠ v.ownBlock := by
 obtain ⟨hb, hg⟩ := h; exact Kd.Q_ne ho hb ht
theorem IsS68.apartS {w0 W : World} {g : Nat} {f0 : ByteArray} {α : Type} {d : Kd α} {e : Nat} {base : Nat} {ok : Nat → Prop} {v : Value} {xs : List α} (h : IsS68 w0 W g f0) (ho : d.S e W base ok v xs) (ht : ∀ q, q ∈ e :: d.E → q ≠ 68) : d.S e W base (fun k => ok k ∧ k ≠ g) v xs := by
 obtain ⟨hb, hg⟩ := h; exact Kd.S_types ho hb ht
theorem IsS68.own_neS {w0 W : World} {g : Nat} {f0 : ByteArray} {α : Type} {d : Kd α} {e : Nat} {base : Nat} {ok : Nat → Prop} {v : Value} {xs : List α} (h : IsS68 w0 W g f0) (ho : d.S e W base ok v xs) (ht : e ≠ 68) : some g ≠ v.ownBlock := by
 obtain ⟨hb, hg⟩ := h; exact Kd.S_ne ho hb ht
theorem IsS68.lt {w0 W : World} {g : Nat} {f0 : ByteArray} (h : IsS68 w0 W g f0) : g < W.heap.size := by
 obtain ⟨hb, hg⟩ := h; exact blk_lt hb
theorem IsS68.ge {w0 W : World} {g : Nat} {f0 : ByteArray} (h : IsS68 w0 W g f0) : w0.heap.size ≤ g := by
 obtain ⟨hb, hg⟩ := h; exact hg
theorem IsS68.ne_blk {w0 W : World} {g : Nat} {f0 : ByteArray} {a : Nat} {cs : Array Value} {t : TypeId} {fr : Nat × Nat} (h : IsS68 w0 W g f0) (hb2 : W.heap[a]? = some (.cells cs t fr)) (ht : t ≠ 68) : g ≠ a := by
 obtain ⟨hb, hg⟩ := h; rintro rfl; rw [hb] at hb2; injection hb2 with hb2
 injection hb2 with _ ht2
 exact ht ht2.symm
theorem IsS68.far {w0 W : World} {g : Nat} {f0 : ByteArray} {p : Addr} (h : IsS68 w0 W g f0) (hne : g ≠ p.block) (u : Value) : IsS68 w0 (W.setCell p u) g f0 := by
 obtain ⟨hb, hg⟩ := h; exact ⟨blk_far hb hne u, hg⟩
theorem cellS68_0 {W : World} {g : Nat} {f0 : ByteArray} (h : W.heap[g]? = some (.cells #[.string f0] 68 (0, 0))) : W.cell? ⟨g, 0, none⟩ = some (.string f0) := (kC h 0).trans rfl
theorem IsS68.set_0 {w0 W : World} {g : Nat} {f0 : ByteArray} (h : IsS68 w0 W g f0) (x : ByteArray) : IsS68 w0 (W.setCell ⟨g, 0, none⟩ (.string x)) g x := by
 obtain ⟨hb, hg⟩ := h; exact ⟨by simpa using blk_set hb 0 (.string x), hg⟩
theorem IsS68.new (w0 W : World) (f0 : ByteArray) (hB : Below w0.heap.size w0 W) : IsS68 w0 (W.alloc (.cells #[.string f0] 68)) W.heap.size f0 := ⟨by simpa using heap_alloc_new W _, hB.size⟩
theorem iS68 {w0 W0 W : World} {g : Nat} {f0 ef0 : ByteArray} (_h0 : Aside0 (IsS68 w0 W0 g ef0)) (h : IsS68 w0 W g f0 := by repeat (first | (with_reducible first | exact Aside0.out (by assumption) | apply IsS68.alloc | apply IsS68.drewN | apply IsS68.drew | apply IsS68.set_0 | refine IsS68.far ?_ (Aside0.out (by assumption)) _))) : IsS68 w0 W g f0 := h
theorem ni68 {w0 W0 W : World} {g gb : Nat} {f0 ef0 : ByteArray} (_h0 : Aside0 (IsS68 w0 W0 g ef0)) (hg : gb = W.heap.size) (h : IsS68 w0 W g f0 := by repeat (first | (with_reducible first | exact Aside0.out (by assumption) | apply IsS68.alloc | apply IsS68.drewN | apply IsS68.drew | apply IsS68.set_0 | refine IsS68.far ?_ (Aside0.out (by assumption)) _))) : g ≠ gb := by rw [hg]; exact Nat.ne_of_lt h.lt
theorem iB68 {w0 W0 W : World} (_h0 : Aside0 (Below w0.heap.size w0 W0)) (h : Below w0.heap.size w0 W := by repeat (first | (with_reducible first | exact Aside0.out (by assumption) | apply below_alloc | apply pw_below_drewN | apply below_drew1 | refine below_set ?_ (IsS68.ge (Aside0.out (by assumption))) | refine below_set ?_ (Aside0.out (by assumption))))) : Below w0.heap.size w0 W := h
def codec_writer_count.f (k : Nat) (s0_0 : ByteArray) (a1 : Int) : Option (ByteArray) := (wire_PutUint.f k s0_0 (IntKind.u64.wrap (a1))).bind fun t107 => (some t107)
theorem codec_writer_count.mono : ∀ a0 a1 k, LeO (codec_writer_count.f k a0 a1) (codec_writer_count.f (k + 1) a0 a1) := by
 intro a0 a1 k; unfold codec_writer_count.f
 repeat' first
   | (with_reducible exact wire_PutUint.mono _ _ _)
   | (with_reducible exact LeO.refl _)
   | (with_reducible exact LeO.none _)
   | (with_reducible refine LeO.ite ?_ ?_)
   | (with_reducible refine LeO.eB ?_ (fun _ => ?_))
   | (with_reducible refine LeO.bind ?_ (fun _ => ?_))
   | exact wire_PutUint.mono _ _ _
   | exact LeO.none _
   | refine LeO.ite ?_ ?_
   | refine LeO.bind ?_ (fun _ => ?_)
set_option maxHeartbeats 8000000 in
set_option maxRecDepth 100000 in
theorem codec_writer_count.calls (k : Nat) (g : Nat) (s0_0 : ByteArray) (a1 : Int) (r : ByteArray) (w0 w : World) (hI : IsS68 w0 w g s0_0) (hB : Below w0.heap.size w0 w) (h : codec_writer_count.f k s0_0 a1 = some r) :
  Calls Try.prog 27 #[.pointer (some ⟨g, 0, none⟩), .int .i64 a1] w fun e w' => e = .returned (.tuple #[]) ∧ IsS68 w0 w' g r ∧ Below w0.heap.size w0 w' ∧ KeepBut w w' g none := by
 have HI0 := aM hI; have HK := aM (KeepBut.refl w g none); have HL := aM hB.size; clear hI; have HW0 := aM hB.size; have HB := aM hB; clear hB; have H : ((wire_PutUint.f k s0_0 (IntKind.u64.wrap (a1))).bind fun t107 => (some t107)) = some r := h; clear h; replace H := Option.bind_eq_some_iff.mp H; obtain ⟨t107, A30, H⟩ := H; (try dsimp only at H); have A3 := aM A30; clear A30; obtain rfl := Option.some.inj H; obtain ⟨HGz4, hgz4⟩ := HI0.out; have hcz4_0 := cellS68_0 HGz4; have hfz4_0 := kF HGz4 0; clear HGz4 hgz4; go_enter Try.func27, Try.ntmps27
 go_wp2_with (first | ((with_reducible refine gate_callee (f := 75) rfl ?_); refine gL (some 11) Try.func75 #[.string s0_0, .int .u64 (IntKind.u64.wrap (a1))] ?_; (with_reducible refine (wire_PutUint.calls k s0_0 (IntKind.u64.wrap (a1)) t107 _ A3.out).mono ?_); rintro e w5 ⟨rfl, hb⟩; refine ⟨_, rfl, ?_⟩; replace HI0 := aM (IsS68.below (iS68 HI0) hb); replace HK := aM (kt HK hb); replace HB := aM (bS (iB68 HB) hb); (try clear hb); obtain ⟨HGz6, hgz6⟩ := HI0.out; have hcz6_0 := cellS68_0 HGz6; have hfz6_0 := kF HGz6 0; clear HGz6 hgz6))
 first | go_end0 | ((try simp only [Exit.inBlock, Exit.then]); refine bodyPost_ret (results_none rfl _ _ _) rfl ?_)
 exact ⟨by first | rfl | (simp [errW_none, errW_some] <;> rfl) | (simp [*, errW_none, errW_some] <;> rfl), iS68 HI0, iB68 HB, kp HK⟩
def wire_PutInt.f (k : Nat) (a0 : ByteArray) (a1 : Int) : Option (ByteArray) := (wire_PutUint.f k a0 (Go.bits .xor .u64 (IntKind.u64.wrap ((IntKind.u64.wrap (a1)) * 2)) (IntKind.u64.wrap (a1 / 9223372036854775808)))).bind fun t108 => (some t108)
theorem wire_PutInt.mono : ∀ a0 a1 k, LeO (wire_PutInt.f k a0 a1) (wire_PutInt.f (k + 1) a0 a1) := by
 intro a0 a1 k; unfold wire_PutInt.f
 repeat' first
   | (with_reducible exact wire_PutUint.mono _ _ _)
   | (with_reducible exact LeO.refl _)
   | (with_reducible exact LeO.none _)
   | (with_reducible refine LeO.ite ?_ ?_)
   | (with_reducible refine LeO.eB ?_ (fun _ => ?_))
   | (with_reducible refine LeO.bind ?_ (fun _ => ?_))
   | exact wire_PutUint.mono _ _ _
   | exact LeO.none _
   | refine LeO.ite ?_ ?_
   | refine LeO.bind ?_ (fun _ => ?_)
set_option maxHeartbeats 8000000 in
set_option maxRecDepth 100000 in
theorem wire_PutInt.calls (k : Nat) (a0 : ByteArray) (a1 : Int) (r : ByteArray) (w : World) (h : wire_PutInt.f k a0 a1 = some r) :
  Calls Try.prog 95 #[.string a0, .int .i64 a1] w fun e w' => e = .returned (.string r) ∧ Below w.heap.size w w' := by
 have HB := aM (Below.refl w.heap.size w); have H : ((wire_PutUint.f k a0 (Go.bits .xor .u64 (IntKind.u64.wrap ((IntKind.u64.wrap (a1)) * 2)) (IntKind.u64.wrap (a1 / 9223372036854775808)))).bind fun t108 => (some t108)) = some r := h; clear h; replace H := Option.bind_eq_some_iff.mp H; obtain ⟨t108, A30, H⟩ := H; (try dsimp only at H); have A3 := aM A30; clear A30; obtain rfl := Option.some.inj H; go_enter Try.func95, Try.ntmps95
 go_wp2_with (first | ((with_reducible refine gate_callee (f := 75) rfl ?_); refine gL (some 13) Try.func75 #[.string a0, .int .u64 (Go.bits .xor .u64 (IntKind.u64.wrap ((IntKind.u64.wrap (a1)) * 2)) (IntKind.u64.wrap (a1 / 9223372036854775808)))] ?_; (with_reducible refine (wire_PutUint.calls k a0 (Go.bits .xor .u64 (IntKind.u64.wrap ((IntKind.u64.wrap (a1)) * 2)) (IntKind.u64.wrap (a1 / 9223372036854775808))) t108 _ A3.out).mono ?_); rintro e w4 ⟨rfl, hb⟩; refine ⟨_, rfl, ?_⟩; replace HB := aM (bS (bl) hb); (try clear hb)))
 go_ret; exact ⟨by first | rfl | (simp [errW_none, errW_some] <;> rfl) | (simp [*, errW_none, errW_some] <;> rfl), bl⟩
def codec_writer_ints.l0 : Nat → List Int → Int → Int → ByteArray → Option (ByteArray)
 | 0, _, _, _, _ => none
 | k + 1, x6, x7, x8, x1000 => if x8 < x7 then (if 0 ≤ x8 then (if x8 < (x6.length : Int) then ((wire_PutInt.f k x1000 (rd x6 x8)).bind fun t110 => (codec_writer_ints.l0 k x6 x7 (wrap64 (x8 + 1)) t110)) else (none)) else (none)) else (some x1000)
def codec_writer_ints.f (k : Nat) (s0_0 : ByteArray) (l1 : List Int) : Option (ByteArray) := codec_writer_ints.l0 k l1 (l1.length : Int) 0 s0_0
theorem codec_writer_ints.mono_l : ∀ k, (∀ y0 y1 y2 y3, LeO (codec_writer_ints.l0 k y0 y1 y2 y3) (codec_writer_ints.l0 (k + 1) y0 y1 y2 y3))
 | 0 => fun _ _ _ _ r h => by simp [codec_writer_ints.l0] at h
 | k + 1 => by
  have ih0 := codec_writer_ints.mono_l k
  ·intro y0 y1 y2 y3
   unfold codec_writer_ints.l0
   repeat' first
   | (with_reducible exact ih0 _ _ _ _)
   | (with_reducible exact wire_PutInt.mono _ _ _)
   | (with_reducible exact LeO.refl _)
   | (with_reducible exact LeO.none _)
   | (with_reducible refine LeO.ite ?_ ?_)
   | (with_reducible refine LeO.eB ?_ (fun _ => ?_))
   | (with_reducible refine LeO.bind ?_ (fun _ => ?_))
   | exact ih0 _ _ _ _
   | exact wire_PutInt.mono _ _ _
   | exact LeO.none _
   | refine LeO.ite ?_ ?_
   | refine LeO.bind ?_ (fun _ => ?_)
theorem codec_writer_ints.mono : ∀ a0 a1 k, LeO (codec_writer_ints.f k a0 a1) (codec_writer_ints.f (k + 1) a0 a1) := by
 intro a0 a1 k; have ih0 := codec_writer_ints.mono_l k; unfold codec_writer_ints.f
 repeat' first
   | (with_reducible exact ih0 _ _ _ _)
   | (with_reducible exact wire_PutInt.mono _ _ _)
   | (with_reducible exact LeO.refl _)
   | (with_reducible exact LeO.none _)
   | (with_reducible refine LeO.ite ?_ ?_)
   | (with_reducible refine LeO.eB ?_ (fun _ => ?_))
   | (with_reducible refine LeO.bind ?_ (fun _ => ?_))
   | exact ih0 _ _ _ _
   | exact wire_PutInt.mono _ _ _
   | exact LeO.none _
   | refine LeO.ite ?_ ?_
   | refine LeO.bind ?_ (fun _ => ?_)
set_option maxHeartbeats 8000000 in
set_option maxRecDepth 100000 in
theorem codec_writer_ints.calls (k : Nat) (g : Nat) (s0_0 : ByteArray) (A1 : Option Addr) (c1 : Nat) (l1 : List Int) (r : ByteArray) (w0 w : World) (hI : IsS68 w0 w g s0_0) (hB : Below w0.heap.size w0 w) (hr1 : Kd.C (Kd.int .i64) w A1 l1.length l1) (hc1 : l1.length ≤ c1) (hf1 : ∀ ad, A1 = some ad → 0 < l1.length → ad.block ≠ g) (h : codec_writer_ints.f k s0_0 l1 = some r) :
  Calls Try.prog 50 #[.pointer (some ⟨g, 0, none⟩), .slice A1 l1.length c1] w fun e w' => e = .returned (.tuple #[]) ∧ IsS68 w0 w' g r ∧ Below w0.heap.size w0 w' ∧ KeepBut w w' g none := by
 have HR1 := aM hr1; have HC1 := aM hc1; clear hr1 hc1; have HI0 := aM hI; have HK := aM (KeepBut.refl w g none); have HL := aM hB.size; clear hI; have HW0 := aM hB.size; have HB := aM hB; clear hB; have H : (codec_writer_ints.l0 k l1 (l1.length : Int) 0 s0_0) = some r := h; clear h; have H' := aM H; clear H; go_enter Try.func50, Try.ntmps50
 go_wp2
 go_loopg [8] k (fun kq v8 w' => ∃ (x8_1 : Int) (x1000_1 : ByteArray), v8 = .int .i64 x8_1 ∧ Aside0 (codec_writer_ints.l0 kq l1 (l1.length : Int) x8_1 x1000_1 = some r) ∧ Aside0 (kq ≤ k) ∧ Aside0 (IsS68 w0 w' g x1000_1) ∧ Aside0 (KeepBut w w' g none) ∧ Aside0 (Below w0.heap.size w0 w'))
 case atStart => exact ⟨(0), (s0_0), (by first | rfl | (simp; done) | (simp [*]; done)), H', ⟨Nat.le_refl _⟩, ⟨iS68 HI0⟩, ⟨kp HK⟩, ⟨iB68 HB⟩⟩
 case round =>
  clear H'; (try clear c1); obtain ⟨x8_1, x1000_1, rfl, HA, HK1, HI0, HK, HB⟩ := hrel
  cases gk with
  | zero => exact absurd HA.out (by simp [codec_writer_ints.l0])
  | succ k1 =>
   have H := HA.out; clear HA; simp only [codec_writer_ints.l0] at H
   by_cases c3 : x8_1 < (l1.length : Int)
   ·rw [if_pos c3] at H; have c3b0 : decide (x8_1 < (l1.length : Int)) = true := decide_eq_true c3; clear c3
    by_cases c4 : 0 ≤ x8_1
    ·rw [if_pos c4] at H; have c4b0 : decide (0 ≤ x8_1) = true := decide_eq_true c4; clear c4
     by_cases c5 : x8_1 < (l1.length : Int)
     ·rw [if_pos c5] at H; have c5b0 : decide (x8_1 < (l1.length : Int)) = true := decide_eq_true c5; clear c5; replace H := Option.bind_eq_some_iff.mp H; obtain ⟨t110, A60, H⟩ := H; (try dsimp only at H); have A6 := aM A60; clear A60; have H' := aM H; clear H; have p109 : 0 ≤ (x8_1 : Int) := oT; have q109 : x8_1 < (l1.length : Int) := oT; obtain ⟨ad109, e109, hx109_0⟩ := Kd.at_int HR1.out x8_1 p109 q109; cases e109
      replace hx109_0 := keep_cell HK.out hx109_0 (by first | (rw [add_block]; exact hf1 _ rfl (by omega)) | exact hf1 _ rfl (by omega) | exact hf1 ad109 rfl (by omega)); replace p109 := eq_true p109; replace q109 := eq_true q109; obtain ⟨HGz7, hgz7⟩ := HI0.out; have hcz7_0 := cellS68_0 HGz7; have hfz7_0 := kF HGz7 0; clear HGz7 hgz7
      go_wp2_with (first | ((with_reducible refine gate_callee (f := 95) rfl ?_); refine gL (some 18) Try.func95 #[.string x1000_1, .int .i64 (rd l1 x8_1)] ?_; (with_reducible refine (wire_PutInt.calls k1 x1000_1 (rd l1 x8_1) t110 _ A6.out).mono ?_); rintro e w8 ⟨rfl, hb⟩; refine ⟨_, rfl, ?_⟩; replace HI0 := aM (IsS68.below (iS68 HI0) hb); replace HK := aM (kt HK hb); replace HB := aM (bS (iB68 HB) hb); (try clear hb); obtain ⟨HGz9, hgz9⟩ := HI0.out; have hcz9_0 := cellS68_0 HGz9; have hfz9_0 := kF HGz9 0; clear HGz9 hgz9))
      go_roundg k1
      case measure => have := HK1.out; omega
      case rel => exact ⟨(wrap64 (x8_1 + 1)), (t110), (by first | rfl | (simp; done) | (simp [*]; done)), H', ⟨by have := HK1.out; omega⟩, ⟨iS68 HI0⟩, ⟨kp HK⟩, ⟨iB68 HB⟩⟩
     ·rw [if_neg c5] at H; exact absurd H (by simp)
    ·rw [if_neg c4] at H; exact absurd H (by simp)
   ·rw [if_neg c3] at H; have c3b0 : decide (x8_1 < (l1.length : Int)) = false := decide_eq_false c3; clear c3; obtain rfl := Option.some.inj H
    go_wp2
    first | go_end0 | ((try simp only [Exit.inBlock, Exit.then]); refine bodyPost_ret (results_none rfl _ _ _) rfl ?_)
    exact ⟨by first | rfl | (simp [errW_none, errW_some] <;> rfl) | (simp [*, errW_none, errW_some] <;> rfl), iS68 HI0, iB68 HB, kp HK⟩
def wire_PutText.f (k : Nat) (a0 : ByteArray) (a1 : ByteArray) : Option (ByteArray) := (wire_PutUint.f k a0 (IntKind.u64.wrap ((a1.size : Int)))).bind fun t111 => (if t111.size + a1.size ≤ 9223372036854775807 then (some (t111 ++ a1)) else (none))
theorem wire_PutText.mono : ∀ a0 a1 k, LeO (wire_PutText.f k a0 a1) (wire_PutText.f (k + 1) a0 a1) := by
 intro a0 a1 k; unfold wire_PutText.f
 repeat' first
   | (with_reducible exact wire_PutUint.mono _ _ _)
   | (with_reducible exact LeO.refl _)
   | (with_reducible exact LeO.none _)
   | (with_reducible refine LeO.ite ?_ ?_)
   | (with_reducible refine LeO.eB ?_ (fun _ => ?_))
   | (with_reducible refine LeO.bind ?_ (fun _ => ?_))
   | exact wire_PutUint.mono _ _ _
   | exact LeO.none _
   | refine LeO.ite ?_ ?_
   | refine LeO.bind ?_ (fun _ => ?_)
set_option maxHeartbeats 8000000 in
set_option maxRecDepth 100000 in
theorem wire_PutText.calls (k : Nat) (a0 : ByteArray) (a1 : ByteArray) (r : ByteArray) (w : World) (h : wire_PutText.f k a0 a1 = some r) :
  Calls Try.prog 77 #[.string a0, .string a1] w fun e w' => e = .returned (.string r) ∧ Below w.heap.size w w' := by
 have HB := aM (Below.refl w.heap.size w); have H : ((wire_PutUint.f k a0 (IntKind.u64.wrap ((a1.size : Int)))).bind fun t111 => (if t111.size + a1.size ≤ 9223372036854775807 then (some (t111 ++ a1)) else (none))) = some r := h; clear h; replace H := Option.bind_eq_some_iff.mp H; obtain ⟨t111, A30, H⟩ := H; (try dsimp only at H); have A3 := aM A30; clear A30
 by_cases c4 : t111.size + a1.size ≤ 9223372036854775807
 ·rw [if_pos c4] at H; have c4b0 := eq_true c4; have c4b1 : decide (t111.size + a1.size ≤ 9223372036854775807) = true := decide_eq_true c4
  try have c4b2 : (9223372036854775807 < t111.size + a1.size) = False := eq_false (Nat.not_lt.2 c4)
  obtain rfl := Option.some.inj H; have hw_ : IntKind.u64.wrap (a1.size : Int) = (a1.size : Int) := by simp only [IntKind.wrap_u64]; exact Int.emod_eq_of_lt (by omega) (by omega)
  rw [hw_] at A3; go_enter Try.func77, Try.ntmps77
  go_wp2_with (first | ((with_reducible refine gate_callee (f := 75) rfl ?_); refine gL (some 9) Try.func75 #[.string a0, .int .u64 ((a1.size : Int))] ?_; (with_reducible refine (wire_PutUint.calls k a0 ((a1.size : Int)) t111 _ A3.out).mono ?_); rintro e w5 ⟨rfl, hb⟩; refine ⟨_, rfl, ?_⟩; replace HB := aM (bS (bl) hb); (try clear hb)))
  go_ret; exact ⟨by first | rfl | (simp [errW_none, errW_some] <;> rfl) | (simp [*, errW_none, errW_some] <;> rfl), bl⟩
 ·rw [if_neg c4] at H; exact absurd H (by simp)
def codec_writer_tags.l0 : Nat → List (S130) → Int → Int → ByteArray → Option (ByteArray)
 | 0, _, _, _, _ => none
 | k + 1, x10, x11, x12, x1000 => if x12 < x11 then (if 0 ≤ x12 then (if x12 < (x10.length : Int) then ((wire_PutText.f k x1000 ((rd_T130 x10 x12).f0)).bind fun t115 => ((wire_PutText.f k t115 ((rd_T130 x10 x12).f1)).bind fun t116 => (codec_writer_tags.l0 k x10 x11 (wrap64 (x12 + 1)) t116))) else (none)) else (none)) else (some x1000)
def codec_writer_tags.f (k : Nat) (s0_0 : ByteArray) (l1 : List (S130)) : Option (ByteArray) := (codec_writer_count.f k s0_0 (l1.length : Int)).bind fun t112 => (codec_writer_tags.l0 k l1 (l1.length : Int) 0 t112)
theorem codec_writer_tags.mono_l : ∀ k, (∀ y0 y1 y2 y3, LeO (codec_writer_tags.l0 k y0 y1 y2 y3) (codec_writer_tags.l0 (k + 1) y0 y1 y2 y3))
 | 0 => fun _ _ _ _ r h => by simp [codec_writer_tags.l0] at h
 | k + 1 => by
  have ih0 := codec_writer_tags.mono_l k
  ·intro y0 y1 y2 y3
   unfold codec_writer_tags.l0
   repeat' first
   | (with_reducible exact ih0 _ _ _ _)
   | (with_reducible exact codec_writer_count.mono _ _ _)
   | (with_reducible exact wire_PutText.mono _ _ _)
   | (with_reducible exact LeO.refl _)
   | (with_reducible exact LeO.none _)
   | (with_reducible refine LeO.ite ?_ ?_)
   | (with_reducible refine LeO.eB ?_ (fun _ => ?_))
   | (with_reducible refine LeO.bind ?_ (fun _ => ?_))
   | exact ih0 _ _ _ _
   | exact codec_writer_count.mono _ _ _
   | exact wire_PutText.mono _ _ _
   | exact LeO.none _
   | refine LeO.ite ?_ ?_
   | refine LeO.bind ?_ (fun _ => ?_)
theorem codec_writer_tags.mono : ∀ a0 a1 k, LeO (codec_writer_tags.f k a0 a1) (codec_writer_tags.f (k + 1) a0 a1) := by
 intro a0 a1 k; have ih0 := codec_writer_tags.mono_l k; unfold codec_writer_tags.f
 repeat' first
   | (with_reducible exact ih0 _ _ _ _)
   | (with_reducible exact codec_writer_count.mono _ _ _)
   | (with_reducible exact wire_PutText.mono _ _ _)
   | (with_reducible exact LeO.refl _)
   | (with_reducible exact LeO.none _)
   | (with_reducible refine LeO.ite ?_ ?_)
   | (with_reducible refine LeO.eB ?_ (fun _ => ?_))
   | (with_reducible refine LeO.bind ?_ (fun _ => ?_))
   | exact ih0 _ _ _ _
   | exact codec_writer_count.mono _ _ _
   | exact wire_PutText.mono _ _ _
   | exact LeO.none _
   | refine LeO.ite ?_ ?_
   | refine LeO.bind ?_ (fun _ => ?_)
def codec_writer_tags.T4 : Bool × List (List Nat × List Nat) := (true, [([], []), ([], []), ([1], [1]), ([2], [2]), ([3], [3]), ([], []), ([5], [5]), ([4, 6], [4, 6]), ([], []), ([8], [8]), ([7, 9, 7], [7, 9]), ([0, 0, 1, 2, 3, 4, 5, 6, 7, 8, 9, 10], [0]), ([11, 0, 1, 2, 3, 4, 5, 6, 7, 8, 9, 10], [11]), ([12, 10, 10, 0, 1, 2, 3, 4, 5, 6, 7, 8, 9, 10], [10, 12])])
def codec_writer_tags.B4 : List Nat := [0, 0, 2, 6, 14, 0, 32, 126, 0, 256, 1022, 2047, 4095, 8191]
theorem codec_writer_tags.tab4 : rtab .any (opsOf Try.f76 4) = codec_writer_tags.T4 := by kernel_rfl
theorem codec_writer_tags.bits4 : waitsOk codec_writer_tags.T4.2 codec_writer_tags.B4 = true := by kernel_rfl
set_option maxHeartbeats 8000000 in
set_option maxRecDepth 100000 in
theorem codec_writer_tags.calls (k : Nat) (g : Nat) (s0_0 : ByteArray) (A1 : Option Addr) (c1 : Nat) (l1 : List (S130)) (r : ByteArray) (w0 w : World) (hI : IsS68 w0 w g s0_0) (hB : Below w0.heap.size w0 w) (hr1 : ∀ W_, KeepBut w W_ g none → Kd.C k130 W_ A1 l1.length l1) (hc1 : l1.length ≤ c1) (h : codec_writer_tags.f k s0_0 l1 = some r) :
  Calls Try.prog 76 #[.pointer (some ⟨g, 0, none⟩), .slice A1 l1.length c1] w fun e w' => e = .returned (.tuple #[]) ∧ IsS68 w0 w' g r ∧ Below w0.heap.size w0 w' ∧ KeepBut w w' g none := by
 have hu130 := Try.underlying130; have HR1 := aM hr1; have HC1 := aM hc1; clear hr1 hc1; have HI0 := aM hI; have HK := aM (KeepBut.refl w g none); have HL := aM hB.size; clear hI; have HW0 := aM hB.size; have HB := aM hB; clear hB; have H : ((codec_writer_count.f k s0_0 (l1.length : Int)).bind fun t112 => (codec_writer_tags.l0 k l1 (l1.length : Int) 0 t112)) = some r := h; clear h; replace H := Option.bind_eq_some_iff.mp H; obtain ⟨t112, A30, H⟩ := H; (try dsimp only at H); have A3 := aM A30; clear A30; have H' := aM H; clear H; go_enter Try.func76, Try.ntmps76
 go_wp2_with (first | ((with_reducible refine gate_callee (f := 27) rfl ?_); refine gL (some 9) Try.func27 #[.pointer (some ⟨g, 0, none⟩), .int .i64 (l1.length : Int)] ?_; (with_reducible refine (codec_writer_count.calls k g s0_0 (l1.length : Int) t112 w0 _ (iS68 HI0) (iB68 HB) A3.out).mono ?_); rintro e w4 ⟨rfl, hi, hb, hk⟩; refine ⟨_, rfl, ?_⟩; replace HK := aM (ku HK hk); replace HB := aM (hb); replace HI0 := aM (hi); (try clear hb); (try clear hk); (try clear hi)))
 go_loopg [12] k (fun kq v12 w' => ∃ (x12_1 : Int) (x1000_1 : ByteArray), v12 = .int .i64 x12_1 ∧ Aside0 (codec_writer_tags.l0 kq l1 (l1.length : Int) x12_1 x1000_1 = some r) ∧ Aside0 (kq ≤ k) ∧ Aside0 (IsS68 w0 w' g x1000_1) ∧ Aside0 (KeepBut w w' g none) ∧ Aside0 (Below w0.heap.size w0 w'))
 case atStart => exact ⟨(0), (t112), (by first | rfl | (simp; done) | (simp [*]; done)), H', ⟨Nat.le_refl _⟩, ⟨iS68 HI0⟩, ⟨kp HK⟩, ⟨iB68 HB⟩⟩
 case round =>
  clear H'; (try clear c1); obtain ⟨x12_1, x1000_1, rfl, HA, HK1, HI0, HK, HB⟩ := hrel
  cases gk with
  | zero => exact absurd HA.out (by simp [codec_writer_tags.l0])
  | succ k1 =>
   have H := HA.out; clear HA; simp only [codec_writer_tags.l0] at H
   by_cases c5 : x12_1 < (l1.length : Int)
   ·rw [if_pos c5] at H; have c5b0 : decide (x12_1 < (l1.length : Int)) = true := decide_eq_true c5; clear c5
    by_cases c6 : 0 ≤ x12_1
    ·rw [if_pos c6] at H; have c6b0 : decide (0 ≤ x12_1) = true := decide_eq_true c6; clear c6
     by_cases c7 : x12_1 < (l1.length : Int)
     ·rw [if_pos c7] at H; have c7b0 : decide (x12_1 < (l1.length : Int)) = true := decide_eq_true c7; clear c7; replace H := Option.bind_eq_some_iff.mp H; obtain ⟨t115, A80, H⟩ := H; (try dsimp only at H); have A8 := aM A80; clear A80; replace H := Option.bind_eq_some_iff.mp H; obtain ⟨t116, A90, H⟩ := H; (try dsimp only at H); have A9 := aM A90; clear A90; have H' := aM H; clear H; have p113 : 0 ≤ (x12_1 : Int) := oT; have q113 : x12_1 < (l1.length : Int) := oT; obtain ⟨ad113, e113, hx113_0, hx113_1⟩ := at_T130 (Kd.C_foot_now HR1.out HK.out) x12_1 p113 q113; cases e113
      replace p113 := eq_true p113; replace q113 := eq_true q113
      try go_wp2_with (first | ((with_reducible refine gate_dst (N := 5) rfl ?_); refine bx (N := 5) (cs := #[.string (⟨#[]⟩ : ByteArray), .string (⟨#[]⟩ : ByteArray)]) (t := 130) ?_; intro gb114 hg w10 hbox hb; have BK114 := aM (hbox); have GW114 := aM (gk HK hg); have GE114 := aM (Nat.le_trans HW0.out (gk HK hg)); have NB0_114 := aM (ni68 HI0 hg); have NB114_0 := aM (ni68 HI0 hg).symm; replace HI0 := aM (IsS68.below (iS68 HI0) hb); replace HK := aM (kt HK hb); replace HB := aM (bS (iB68 HB) hb); clear hb hbox hg; have hn11 := nn NB114_0; have hz12 := bc2 BK114))
      have n0_ : Aside0 (((w10.setCell ⟨gb114, 0, none⟩ (.string ((rd_T130 l1 x12_1).f0))).setCell ⟨gb114, 1, none⟩ (.string ((rd_T130 l1 x12_1).f1))).heap[gb114]? = some (.cells #[.string ((rd_T130 l1 x12_1).f0), .string ((rd_T130 l1 x12_1).f1)] 130 (0, 0))) := ⟨bk BK114⟩; have n1_ : Aside0 (IsS68 w0 ((w10.setCell ⟨gb114, 0, none⟩ (.string ((rd_T130 l1 x12_1).f0))).setCell ⟨gb114, 1, none⟩ (.string ((rd_T130 l1 x12_1).f1))) g x1000_1) := ⟨iS68 HI0⟩; have n2_ : Aside0 (KeepBut w ((w10.setCell ⟨gb114, 0, none⟩ (.string ((rd_T130 l1 x12_1).f0))).setCell ⟨gb114, 1, none⟩ (.string ((rd_T130 l1 x12_1).f1))) g none) := ⟨kp HK⟩; have n3_ : Aside0 (Below w0.heap.size w0 ((w10.setCell ⟨gb114, 0, none⟩ (.string ((rd_T130 l1 x12_1).f0))).setCell ⟨gb114, 1, none⟩ (.string ((rd_T130 l1 x12_1).f1)))) := ⟨iB68 HB⟩
      (try clear BK114)
      (try clear HI0)
      (try clear HK)
      (try clear HB)
      generalize ((w10.setCell ⟨gb114, 0, none⟩ (.string ((rd_T130 l1 x12_1).f0))).setCell ⟨gb114, 1, none⟩ (.string ((rd_T130 l1 x12_1).f1))) = w13 at n0_ n1_ n2_ n3_ ⊢; have BK114 := n0_; have HI0 := n1_; have HK := n2_; have HB := n3_; clear n0_ n1_ n2_ n3_; replace BK114 := aM (kD BK114.out); replace HI0 := aM (IsS68.drew HI0.out); replace HK := aM (keep_drew HK.out); replace HB := aM (bD HB.out); refine start_ (n := 14) (S := fun w' => w'.cell? ⟨g, 0, none⟩ = some (.string x1000_1) ∧ w'.cell? ⟨gb114, 0, none⟩ = some (.string ((rd_T130 l1 x12_1).f0)) ∧ w'.cell? ⟨gb114, 1, none⟩ = some (.string ((rd_T130 l1 x12_1).f1))) (ds := [13]) #[false, false, false, false, false, false, false, false, false, false, false, false, false, false] (by kernel_rfl) rfl rfl ⟨(kC HI0.out.1 0).trans rfl, (kC BK114.out 0).trans rfl, (kC BK114.out 1).trans rfl⟩ (fun hHeld => ?_); refine with_tabW codec_writer_tags.tab4 codec_writer_tags.bits4 (fun HT_ HW_ => ?_); generalize w13.drew = w14 at BK114 HI0 HK HB hHeld ⊢; refine pu 0 16 (ba 14 1) ?_; refine pu 1 17 (ba 14 3) ?_; refine pu 2 18 (ba 14 7) ?_; refine pu 3 19 (ba 14 15) ?_; refine pu 5 21 (ba 14 47) ?_; refine pu 8 24 (ba 14 303) ?_; refine tk 4 20 (ba 14 319) ?_; refine tk 6 22 (ba 14 383) ?_; refine tk 9 25 (ba 14 895) ?_; refine one_ (i := 7) (N := some 23) (ba 14 1023) rfl rfl (one_of HT_.out (by kernel_rfl)) (by decide) (fun K hK => ?_); refine goes_ Try.func77 (by kernel_rfl) rfl #[.string x1000_1, .string ((rd_T130 l1 x12_1).f0)] (by rfl) rfl rfl (by (try simp only [List.map_toArray, List.map_cons, List.map_nil]); first | done | rfl | (simp only [List.length_drop, List.length_take]; rfl)) ?_
      with_reducible refine (wire_PutText.calls k1 x1000_1 ((rd_T130 l1 x12_1).f0) t115 _ A8.out).mono ?_
      rintro e w15 ⟨rfl, hb⟩; refine ⟨_, rfl, ?_⟩; replace HI0 := aM (IsS68.below (iS68 HI0) hb); replace BK114 := aM (kB (kl BK114) hb); replace HK := aM (kt HK hb); replace HB := aM (bS (iB68 HB) hb)
      (try clear hb)
      (try clear hb2)
      (try clear hk)
      (try clear hi)
      refine hK.out _ _ ⟨(kC HI0.out.1 0).trans rfl, (kC BK114.out 0).trans rfl, (kC BK114.out 1).trans rfl⟩ (fun hHeld => ?_); clear hK K; refine norm_ (a' := ?_) ?_ ?_; rotate_left
      ·show Act.put _ (some 23) _ = _
       simp only [Act.put, sA, sB, sC, i64_w, i32_w]; rfl
      refine one_ (i := 10) (N := some 26) (ba 14 2047) rfl rfl (one_of HT_.out (by kernel_rfl)) (by decide) (fun K hK => ?_); refine goes_ Try.func77 (by kernel_rfl) rfl #[.string t115, .string ((rd_T130 l1 x12_1).f1)] (by rfl) rfl rfl (by (try simp only [List.map_toArray, List.map_cons, List.map_nil]); first | done | rfl | (simp only [List.length_drop, List.length_take]; rfl)) ?_
      with_reducible refine (wire_PutText.calls k1 t115 ((rd_T130 l1 x12_1).f1) t116 _ A9.out).mono ?_
      rintro e w16 ⟨rfl, hb⟩; refine ⟨_, rfl, ?_⟩; replace HI0 := aM (IsS68.below (iS68 HI0) hb); replace BK114 := aM (kB (kl BK114) hb); replace HK := aM (kt HK hb); replace HB := aM (bS (iB68 HB) hb)
      (try clear hb)
      (try clear hb2)
      (try clear hk)
      (try clear hi)
      refine hK.out _ _ ⟨(kC HI0.out.1 0).trans rfl, (kC BK114.out 0).trans rfl, (kC BK114.out 1).trans rfl⟩ (fun hHeld => ?_); clear hK K; refine norm_ (a' := ?_) ?_ ?_; rotate_left
      ·show Act.put _ (some 26) _ = _
       simp only [Act.put, sA, sB, sC, i64_w, i32_w]; rfl
      refine pu 11 27 (ba 14 4095) ?_; refine pu 12 28 (ba 14 8191) ?_; have hcs_ := cellS68_0 HI0.out.1; have hfs_ := kF HI0.out.1 0; refine last_ (i := 13) (N := none) (ba 14 16383) rfl rfl (one_of HT_.out (by kernel_rfl)) (by decide) (fun K hK => ?_); refine skip_ (w1 := ?_) (by rfl) rfl ?_ ?_; rotate_left
      ·go_simp; rfl
      refine hK.out _ _ ?_; clear hK K; refine done_ (done_of HT_.out (by kernel_rfl)) ?_
      try go_wp2
      go_roundg k1
      case measure => have := HK1.out; omega
      case rel => exact ⟨(wrap64 (x12_1 + 1)), (t116), (by first | rfl | (simp; done) | (simp [*]; done)), H', ⟨by have := HK1.out; omega⟩, ⟨iS68 HI0⟩, ⟨kp HK⟩, ⟨iB68 HB⟩⟩
     ·rw [if_neg c7] at H; exact absurd H (by simp)
    ·rw [if_neg c6] at H; exact absurd H (by simp)
   ·rw [if_neg c5] at H; have c5b0 : decide (x12_1 < (l1.length : Int)) = false := decide_eq_false c5; clear c5; obtain rfl := Option.some.inj H
    go_wp2
    first | go_end0 | ((try simp only [Exit.inBlock, Exit.then]); refine bodyPost_ret (results_none rfl _ _ _) rfl ?_)
    exact ⟨by first | rfl | (simp [errW_none, errW_some] <;> rfl) | (simp [*, errW_none, errW_some] <;> rfl), iS68 HI0, iB68 HB, kp HK⟩
def codec_writer_node.f (k : Nat) (s0_0 : ByteArray) (a1_0 : Int) (a1_1 : Int) (a1_2 : Int) (l1_3 : List (S130)) : Option (ByteArray) := (codec_writer_ints.f k s0_0 (([a1_0, a1_1, a1_2] : List Int))).bind fun t121 => ((codec_writer_tags.f k t121 l1_3).bind fun t122 => (some t122))
theorem codec_writer_node.mono : ∀ a0 a1 a2 a3 a4 k, LeO (codec_writer_node.f k a0 a1 a2 a3 a4) (codec_writer_node.f (k + 1) a0 a1 a2 a3 a4) := by
 intro a0 a1 a2 a3 a4 k; unfold codec_writer_node.f
 repeat' first
   | (with_reducible exact codec_writer_ints.mono _ _ _)
   | (with_reducible exact codec_writer_tags.mono _ _ _)
   | (with_reducible exact LeO.refl _)
   | (with_reducible exact LeO.none _)
   | (with_reducible refine LeO.ite ?_ ?_)
   | (with_reducible refine LeO.eB ?_ (fun _ => ?_))
   | (with_reducible refine LeO.bind ?_ (fun _ => ?_))
   | exact codec_writer_ints.mono _ _ _
   | exact codec_writer_tags.mono _ _ _
   | exact LeO.none _
   | refine LeO.ite ?_ ?_
   | refine LeO.bind ?_ (fun _ => ?_)
set_option maxHeartbeats 8000000 in
set_option maxRecDepth 100000 in
theorem codec_writer_node.calls (k : Nat) (g : Nat) (s0_0 : ByteArray) (a1_0 : Int) (a1_1 : Int) (a1_2 : Int) (A1_3 : Option Addr) (c1_3 : Nat) (l1_3 : List (S130)) (r : ByteArray) (w0 w : World) (hI : IsS68 w0 w g s0_0) (hB : Below w0.heap.size w0 w) (hr1_3 : ∀ W_, KeepBut w W_ g none → Kd.C k130 W_ A1_3 l1_3.length l1_3) (hc1_3 : l1_3.length ≤ c1_3) (h : codec_writer_node.f k s0_0 a1_0 a1_1 a1_2 l1_3 = some r) :
  Calls Try.prog 28 #[.pointer (some ⟨g, 0, none⟩), .agg #[.int .i64 a1_0, .int .i64 a1_1, .int .i64 a1_2, .slice A1_3 l1_3.length c1_3]] w fun e w' => e = .returned (.tuple #[]) ∧ IsS68 w0 w' g r ∧ Below w0.heap.size w0 w' ∧ KeepBut w w' g none := by
 have hu53 := Try.underlying53; have HR1_3 := aM hr1_3; have HC1_3 := aM hc1_3; clear hr1_3 hc1_3; have HI0 := aM hI; have HK := aM (KeepBut.refl w g none); have HL := aM hB.size; clear hI; have HW0 := aM hB.size; have HB := aM hB; clear hB; have H : ((codec_writer_ints.f k s0_0 (([a1_0, a1_1, a1_2] : List Int))).bind fun t121 => ((codec_writer_tags.f k t121 l1_3).bind fun t122 => (some t122))) = some r := h; clear h; obtain ⟨y118, hy118⟩ : ∃ y_ : List Int, y_ = (([a1_0, a1_1, a1_2] : List Int)) := ⟨_, rfl⟩; replace H : ((codec_writer_ints.f k s0_0 y118).bind fun t121 => ((codec_writer_tags.f k t121 l1_3).bind fun t122 => (some t122))) = some r := by first | (rw [hy118]; with_reducible exact H) | (have H2_ := (Option.bind_some _ _).symm.trans H; rw [hy118]; with_reducible exact H2_) | (have H2_ := (Option.bind_some _ _).symm.trans H; with_reducible exact H2_) | with_reducible exact H | (rw [hy118]; exact H) | exact H
 have Ny118 := aM hy118; clear hy118; replace H := Option.bind_eq_some_iff.mp H; obtain ⟨t121, A30, H⟩ := H; (try dsimp only at H); have A3 := aM A30; clear A30; replace H := Option.bind_eq_some_iff.mp H; obtain ⟨t122, A40, H⟩ := H; (try dsimp only at H); have A4 := aM A40; clear A40; obtain rfl := Option.some.inj H; go_enter Try.func28, Try.ntmps28
 go_wp2_with (first | ((with_reducible refine gate_dst (N := 3) rfl ?_); refine bx (N := 3) (cs := #[.int .i64 a1_0, .int .i64 a1_1, .int .i64 a1_2, .slice A1_3 l1_3.length c1_3]) (t := 53) ?_; intro gb117 hg w5 hbox hb; have BK117 := aM (hbox); have GW117 := aM (gk HK hg); have GE117 := aM (Nat.le_trans HW0.out (gk HK hg)); have NB0_117 := aM (ni68 HI0 hg); have NB117_0 := aM (ni68 HI0 hg).symm; replace HI0 := aM (IsS68.below (iS68 HI0) hb); replace HK := aM (kt HK hb); replace HB := aM (bS (iB68 HB) hb); clear hb hbox hg; have hn6 := nn NB117_0; have hz7 := bc4 BK117) | ((with_reducible refine gate_dst (N := 13) rfl ?_); refine Kd.R_lit (Kd.int .i64) _ 3 ?hg (N := 13) ?hd (xs := ([a1_0, a1_1, a1_2] : List Int)) (inner := [.int .i64 a1_0, .int .i64 a1_1, .int .i64 a1_2]) (ok := fun _ => True) (okp := fun _ => True) ?hr ?hp (fun _ hk => hk) trivial (Below.refl _ _) (Nat.le_refl _) (by simp) ?_; (case hd => rfl); (case hg => rfl); (case hr => first | (go_simp; done) | (go_simp; rfl)); (case hp => exact (Reps.one (show Kd.M (Kd.int .i64) _ _ _ a1_0 [.int .i64 a1_0] from rfl) (Reps.one (show Kd.M (Kd.int .i64) _ _ _ a1_1 [.int .i64 a1_1] from rfl) (Reps.one (show Kd.M (Kd.int .i64) _ _ _ a1_2 [.int .i64 a1_2] from rfl) (Reps.none _ _))))); intro v119 w8 ho9 hb hg_ hnew_; clear hg_ hnew_; (first | rw [← Ny118.out] at ho9 | (simp only [Int.reduceToNat] at ho9; rw [← Ny118.out] at ho9)); have HO120 := aM (Kd.R_lower ho9 (keep_size (w := w) (g := g) (row := none) (kp HK))); replace HI0 := aM (IsS68.below (iS68 HI0) hb); replace BK117 := aM (kB (kl BK117) hb); replace HK := aM (kt HK hb); replace HB := aM (bS (iB68 HB) hb); clear hb ho9; obtain ⟨Ao10, co10, eo10⟩ := Kd.R_slice HO120.out; subst eo10) | ((with_reducible refine gate_callee (f := 50) rfl ?_); refine gL (some 14) Try.func50 #[.pointer (some ⟨g, 0, none⟩), .slice Ao10 y118.length co10] ?_; (with_reducible refine (codec_writer_ints.calls k g s0_0 _ _ y118 t121 w0 _ (iS68 HI0) (iB68 HB) ?side3 ?side4 ?side5 A3.out).mono ?_); (case side3 => repeat (first | exact (rR HO120.out).2.2 | (with_reducible refine cA ?_ _) | (with_reducible refine cN ?_ _) | (with_reducible refine cD ?_))); (case side4 => exact (rR HO120.out).2.1); (case side5 => exact far_slice (IsS68.own_ne HI0.out HO120.out (by decide))); rintro e w11 ⟨rfl, hi, hb, hk⟩; refine ⟨_, rfl, ?_⟩; replace BK117 := aM (k0 hk BK117 NB117_0); replace HO120 := aM (rM (Kd.R_keep (IsS68.apart (show IsS68 w0 _ g s0_0 from iS68 HI0) (rl HO120) (by decide)) hk (fun _ h => h.2)) (fun _ h => h.1)); replace HK := aM (ku HK hk); replace HB := aM (hb); replace HI0 := aM (hi); (try clear hb); (try clear hk); (try clear hi); have hz12 := bc4 BK117) | ((with_reducible refine gate_callee (f := 76) rfl ?_); refine gL (some 18) Try.func76 #[.pointer (some ⟨g, 0, none⟩), .slice A1_3 l1_3.length c1_3] ?_; (with_reducible refine (codec_writer_tags.calls k g t121 _ _ l1_3 t122 w0 _ (iS68 HI0) (iB68 HB) ?side3 ?side4 A4.out).mono ?_); (case side3 => exact Kd.C_foot_step HR1_3.out (kp HK)); (case side4 => exact HC1_3.out); rintro e w13 ⟨rfl, hi, hb, hk⟩; refine ⟨_, rfl, ?_⟩; replace BK117 := aM (k0 hk BK117 NB117_0); replace HO120 := aM (rM (Kd.R_keep (IsS68.apart (show IsS68 w0 _ g t121 from iS68 HI0) (rl HO120) (by decide)) hk (fun _ h => h.2)) (fun _ h => h.1)); replace HK := aM (ku HK hk); replace HB := aM (hb); replace HI0 := aM (hi); (try clear hb); (try clear hk); (try clear hi)))
 first | go_end0 | ((try simp only [Exit.inBlock, Exit.then]); refine bodyPost_ret (results_none rfl _ _ _) rfl ?_)
 exact ⟨by first | rfl | (simp [errW_none, errW_some] <;> rfl) | (simp [*, errW_none, errW_some] <;> rfl), iS68 HI0, iB68 HB, kp HK⟩
def codec_writer_way.f (k : Nat) (s0_0 : ByteArray) (a1_0 : Int) (l1_1 : List Int) (l1_2 : List (S130)) : Option (ByteArray) := (codec_writer_ints.f k s0_0 (([a1_0] : List Int))).bind fun t127 => ((codec_writer_count.f k t127 (l1_1.length : Int)).bind fun t128 => ((codec_writer_ints.f k t128 l1_1).bind fun t129 => ((codec_writer_tags.f k t129 l1_2).bind fun t130 => (some t130))))
theorem codec_writer_way.mono : ∀ a0 a1 a2 a3 k, LeO (codec_writer_way.f k a0 a1 a2 a3) (codec_writer_way.f (k + 1) a0 a1 a2 a3) := by
 intro a0 a1 a2 a3 k; unfold codec_writer_way.f
 repeat' first
   | (with_reducible exact codec_writer_count.mono _ _ _)
   | (with_reducible exact codec_writer_ints.mono _ _ _)
   | (with_reducible exact codec_writer_tags.mono _ _ _)
   | (with_reducible exact LeO.refl _)
   | (with_reducible exact LeO.none _)
   | (with_reducible refine LeO.ite ?_ ?_)
   | (with_reducible refine LeO.eB ?_ (fun _ => ?_))
   | (with_reducible refine LeO.bind ?_ (fun _ => ?_))
   | exact codec_writer_count.mono _ _ _
   | exact codec_writer_ints.mono _ _ _
   | exact codec_writer_tags.mono _ _ _
   | exact LeO.none _
   | refine LeO.ite ?_ ?_
   | refine LeO.bind ?_ (fun _ => ?_)
set_option maxHeartbeats 8000000 in
set_option maxRecDepth 100000 in
theorem codec_writer_way.calls (k : Nat) (g : Nat) (s0_0 : ByteArray) (a1_0 : Int) (A1_1 : Option Addr) (c1_1 : Nat) (l1_1 : List Int) (A1_2 : Option Addr) (c1_2 : Nat) (l1_2 : List (S130)) (r : ByteArray) (w0 w : World) (hI : IsS68 w0 w g s0_0) (hB : Below w0.heap.size w0 w) (hr1_1 : Kd.C (Kd.int .i64) w A1_1 l1_1.length l1_1) (hc1_1 : l1_1.length ≤ c1_1) (hf1_1 : ∀ ad, A1_1 = some ad → 0 < l1_1.length → ad.block ≠ g) (hr1_2 : ∀ W_, KeepBut w W_ g none → Kd.C k130 W_ A1_2 l1_2.length l1_2) (hc1_2 : l1_2.length ≤ c1_2) (h : codec_writer_way.f k s0_0 a1_0 l1_1 l1_2 = some r) :
  Calls Try.prog 29 #[.pointer (some ⟨g, 0, none⟩), .agg #[.int .i64 a1_0, .slice A1_1 l1_1.length c1_1, .slice A1_2 l1_2.length c1_2]] w fun e w' => e = .returned (.tuple #[]) ∧ IsS68 w0 w' g r ∧ Below w0.heap.size w0 w' ∧ KeepBut w w' g none := by
 have hu56 := Try.underlying56; have HR1_1 := aM hr1_1; have HC1_1 := aM hc1_1; clear hr1_1 hc1_1; have HR1_2 := aM hr1_2; have HC1_2 := aM hc1_2; clear hr1_2 hc1_2; have HI0 := aM hI; have HK := aM (KeepBut.refl w g none); have HL := aM hB.size; clear hI; have HW0 := aM hB.size; have HB := aM hB; clear hB; have H : ((codec_writer_ints.f k s0_0 (([a1_0] : List Int))).bind fun t127 => ((codec_writer_count.f k t127 (l1_1.length : Int)).bind fun t128 => ((codec_writer_ints.f k t128 l1_1).bind fun t129 => ((codec_writer_tags.f k t129 l1_2).bind fun t130 => (some t130))))) = some r := h; clear h; obtain ⟨y124, hy124⟩ : ∃ y_ : List Int, y_ = (([a1_0] : List Int)) := ⟨_, rfl⟩; replace H : ((codec_writer_ints.f k s0_0 y124).bind fun t127 => ((codec_writer_count.f k t127 (l1_1.length : Int)).bind fun t128 => ((codec_writer_ints.f k t128 l1_1).bind fun t129 => ((codec_writer_tags.f k t129 l1_2).bind fun t130 => (some t130))))) = some r := by first | (rw [hy124]; with_reducible exact H) | (have H2_ := (Option.bind_some _ _).symm.trans H; rw [hy124]; with_reducible exact H2_) | (have H2_ := (Option.bind_some _ _).symm.trans H; with_reducible exact H2_) | with_reducible exact H | (rw [hy124]; exact H) | exact H
 have Ny124 := aM hy124; clear hy124; replace H := Option.bind_eq_some_iff.mp H; obtain ⟨t127, A30, H⟩ := H; (try dsimp only at H); have A3 := aM A30; clear A30; replace H := Option.bind_eq_some_iff.mp H; obtain ⟨t128, A40, H⟩ := H; (try dsimp only at H); have A4 := aM A40; clear A40; replace H := Option.bind_eq_some_iff.mp H; obtain ⟨t129, A50, H⟩ := H; (try dsimp only at H); have A5 := aM A50; clear A50; replace H := Option.bind_eq_some_iff.mp H; obtain ⟨t130, A60, H⟩ := H; (try dsimp only at H); have A6 := aM A60; clear A60; obtain rfl := Option.some.inj H; go_enter Try.func29, Try.ntmps29
 go_wp2_with (first | ((with_reducible refine gate_dst (N := 3) rfl ?_); refine bx (N := 3) (cs := #[.int .i64 a1_0, .slice A1_1 l1_1.length c1_1, .slice A1_2 l1_2.length c1_2]) (t := 56) ?_; intro gb123 hg w7 hbox hb; have BK123 := aM (hbox); have GW123 := aM (gk HK hg); have GE123 := aM (Nat.le_trans HW0.out (gk HK hg)); have NB0_123 := aM (ni68 HI0 hg); have NB123_0 := aM (ni68 HI0 hg).symm; replace HI0 := aM (IsS68.below (iS68 HI0) hb); replace HK := aM (kt HK hb); replace HB := aM (bS (iB68 HB) hb); clear hb hbox hg; have hn8 := nn NB123_0; have hz9 := bc3 BK123) | ((with_reducible refine gate_dst (N := 7) rfl ?_); refine Kd.R_lit (Kd.int .i64) _ 3 ?hg (N := 7) ?hd (xs := ([a1_0] : List Int)) (inner := [.int .i64 a1_0]) (ok := fun _ => True) (okp := fun _ => True) ?hr ?hp (fun _ hk => hk) trivial (Below.refl _ _) (Nat.le_refl _) (by simp) ?_; (case hd => rfl); (case hg => rfl); (case hr => first | (go_simp; done) | (go_simp; rfl)); (case hp => exact (Reps.one (show Kd.M (Kd.int .i64) _ _ _ a1_0 [.int .i64 a1_0] from rfl) (Reps.none _ _))); intro v125 w10 ho11 hb hg_ hnew_; clear hg_ hnew_; (first | rw [← Ny124.out] at ho11 | (simp only [Int.reduceToNat] at ho11; rw [← Ny124.out] at ho11)); have HO126 := aM (Kd.R_lower ho11 (keep_size (w := w) (g := g) (row := none) (kp HK))); replace HI0 := aM (IsS68.below (iS68 HI0) hb); replace BK123 := aM (kB (kl BK123) hb); replace HK := aM (kt HK hb); replace HB := aM (bS (iB68 HB) hb); clear hb ho11; obtain ⟨Ao12, co12, eo12⟩ := Kd.R_slice HO126.out; subst eo12) | ((with_reducible refine gate_callee (f := 50) rfl ?_); refine gL (some 8) Try.func50 #[.pointer (some ⟨g, 0, none⟩), .slice Ao12 y124.length co12] ?_; (with_reducible refine (codec_writer_ints.calls k g s0_0 _ _ y124 t127 w0 _ (iS68 HI0) (iB68 HB) ?side3 ?side4 ?side5 A3.out).mono ?_); (case side3 => repeat (first | exact (rR HO126.out).2.2 | (with_reducible refine cA ?_ _) | (with_reducible refine cN ?_ _) | (with_reducible refine cD ?_))); (case side4 => exact (rR HO126.out).2.1); (case side5 => exact far_slice (IsS68.own_ne HI0.out HO126.out (by decide))); rintro e w13 ⟨rfl, hi, hb, hk⟩; refine ⟨_, rfl, ?_⟩; replace BK123 := aM (k0 hk BK123 NB123_0); replace HO126 := aM (rM (Kd.R_keep (IsS68.apart (show IsS68 w0 _ g s0_0 from iS68 HI0) (rl HO126) (by decide)) hk (fun _ h => h.2)) (fun _ h => h.1)); replace HK := aM (ku HK hk); replace HB := aM (hb); replace HI0 := aM (hi); (try clear hb); (try clear hk); (try clear hi); have hz14 := bc3 BK123) | ((with_reducible refine gate_callee (f := 27) rfl ?_); refine gL (some 13) Try.func27 #[.pointer (some ⟨g, 0, none⟩), .int .i64 (l1_1.length : Int)] ?_; (with_reducible refine (codec_writer_count.calls k g t127 (l1_1.length : Int) t128 w0 _ (iS68 HI0) (iB68 HB) A4.out).mono ?_); rintro e w15 ⟨rfl, hi, hb, hk⟩; refine ⟨_, rfl, ?_⟩; replace BK123 := aM (k0 hk BK123 NB123_0); replace HO126 := aM (rM (Kd.R_keep (IsS68.apart (show IsS68 w0 _ g t127 from iS68 HI0) (rl HO126) (by decide)) hk (fun _ h => h.2)) (fun _ h => h.1)); replace HK := aM (ku HK hk); replace HB := aM (hb); replace HI0 := aM (hi); (try clear hb); (try clear hk); (try clear hi); have hz16 := bc3 BK123) | ((with_reducible refine gate_callee (f := 50) rfl ?_); refine gL (some 17) Try.func50 #[.pointer (some ⟨g, 0, none⟩), .slice A1_1 l1_1.length c1_1] ?_; (with_reducible refine (codec_writer_ints.calls k g t128 _ _ l1_1 t129 w0 _ (iS68 HI0) (iB68 HB) ?side3 ?side4 ?side5 A5.out).mono ?_); (case side3 => exact Kd.C_keep 0 HR1_1.out (kp HK) hf1_1); (case side4 => exact HC1_1.out); (case side5 => exact hf1_1); rintro e w17 ⟨rfl, hi, hb, hk⟩; refine ⟨_, rfl, ?_⟩; replace BK123 := aM (k0 hk BK123 NB123_0); replace HO126 := aM (rM (Kd.R_keep (IsS68.apart (show IsS68 w0 _ g t128 from iS68 HI0) (rl HO126) (by decide)) hk (fun _ h => h.2)) (fun _ h => h.1)); replace HK := aM (ku HK hk); replace HB := aM (hb); replace HI0 := aM (hi); (try clear hb); (try clear hk); (try clear hi); have hz18 := bc3 BK123) | ((with_reducible refine gate_callee (f := 76) rfl ?_); refine gL (some 21) Try.func76 #[.pointer (some ⟨g, 0, none⟩), .slice A1_2 l1_2.length c1_2] ?_; (with_reducible refine (codec_writer_tags.calls k g t129 _ _ l1_2 t130 w0 _ (iS68 HI0) (iB68 HB) ?side3 ?side4 A6.out).mono ?_); (case side3 => exact Kd.C_foot_step HR1_2.out (kp HK)); (case side4 => exact HC1_2.out); rintro e w19 ⟨rfl, hi, hb, hk⟩; refine ⟨_, rfl, ?_⟩; replace BK123 := aM (k0 hk BK123 NB123_0); replace HO126 := aM (rM (Kd.R_keep (IsS68.apart (show IsS68 w0 _ g t129 from iS68 HI0) (rl HO126) (by decide)) hk (fun _ h => h.2)) (fun _ h => h.1)); replace HK := aM (ku HK hk); replace HB := aM (hb); replace HI0 := aM (hi); (try clear hb); (try clear hk); (try clear hi)))
 first | go_end0 | ((try simp only [Exit.inBlock, Exit.then]); refine bodyPost_ret (results_none rfl _ _ _) rfl ?_)
 exact ⟨by first | rfl | (simp [errW_none, errW_some] <;> rfl) | (simp [*, errW_none, errW_some] <;> rfl), iS68 HI0, iB68 HB, kp HK⟩
end Go.Proofs.Ytefambkodalomaa.PAll
