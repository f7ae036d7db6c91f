-- out of a driver of this session's prover over the kit's print: Lean checks it
import Derived.Test.YtefambkodalomaaPAllx0
namespace Go.Proofs.Ytefambkodalomaa.PAll
open Go.Proofs.YtefambkodalomaaG Go.Shelf Go.Lib
open Go.RowKit Go.Proofs.YtefambkodalomaaW.PrintWords Go.Proofs.YtefambkodalomaaW.PrintLast Go.Proofs.YtefambkodalomaaW.PrintMore
attribute [local go_sem] max2_int min2_int max_two min_two max_three min_three max_four min_four   -- for this text's walks alone
set_option linter.unusedVariables false
set_option linter.unusedSimpArgs false
def IsS164 (w0 W : World) (g : Nat) (f0 : ByteArray) (f1 : Int) (f2 : Int) : Prop := W.heap[g]? = some (.cells #[.string f0, .int .i64 f1, .int .i64 f2] 164 (0, 0)) ∧ w0.heap.size ≤ g
theorem IsS164.grown {w0 W : World} {g : Nat} {f0 : ByteArray} {f1 : Int} {f2 : Int} {W1 : World} {row : Option Nat} (h : IsS164 w0 W g f0 f1 f2) (hw : W.grownBy W1 row) (hne : some g ≠ row) : IsS164 w0 W1 g f0 f1 f2 := by
 obtain ⟨hb, hg⟩ := h; exact ⟨blk_grown hb hw hne, hg⟩
theorem IsS164.own_neN {w0 W : World} {g : Nat} {f0 : ByteArray} {f1 : Int} {f2 : Int} {α : Type} {d : Kd α} {e : Nat} {base : Nat} {ok : Nat → Prop} {v : Value} {xs : List α} (h : IsS164 w0 W g f0 f1 f2) (ho : Kd.N d e W base ok v xs) (ht : e ≠ 164) : some g ≠ v.ownBlock := by
 obtain ⟨hb, hg⟩ := h; exact Kd.N_ne ho hb ht
theorem IsS164.fresh {w0 W : World} {g : Nat} {f0 : ByteArray} {f1 : Int} {f2 : Int} (h : IsS164 w0 W g f0 f1 f2) : ∀ k, W.heap.size ≤ k → k ≠ g := by
 obtain ⟨hb, hg⟩ := h; exact Kd.freshB hb
theorem IsS164.kept {w0 W : World} {g : Nat} {f0 : ByteArray} {f1 : Int} {f2 : Int} {W1 : World} {S : Nat → Prop} (h : IsS164 w0 W g f0 f1 f2) (hk : Kept W W1 S) (hne : ¬ S g) : IsS164 w0 W1 g f0 f1 f2 := by
 obtain ⟨hb, hg⟩ := h; exact ⟨blk_kept hb hk hne, hg⟩
theorem IsS164.below {w0 W : World} {g : Nat} {f0 : ByteArray} {f1 : Int} {f2 : Int} {W1 : World} (h : IsS164 w0 W g f0 f1 f2) (hw : Below W.heap.size W W1) : IsS164 w0 W1 g f0 f1 f2 := h.grown (grown_of_below hw none) (by simp)
theorem IsS164.alloc {w0 W : World} {g : Nat} {f0 : ByteArray} {f1 : Int} {f2 : Int} (h : IsS164 w0 W g f0 f1 f2) (o : Obj) : IsS164 w0 (W.alloc o) g f0 f1 f2 := h.below (bA (Below.refl _ _) o)
theorem IsS164.drewN {w0 W : World} {g : Nat} {f0 : ByteArray} {f1 : Int} {f2 : Int} (h : IsS164 w0 W g f0 f1 f2) (m : Nat) : IsS164 w0 (W.drewN m) g f0 f1 f2 := h
theorem IsS164.drew {w0 W : World} {g : Nat} {f0 : ByteArray} {f1 : Int} {f2 : Int} (h : IsS164 w0 W g f0 f1 f2) : IsS164 w0 W.drew g f0 f1 f2 := h
theorem IsS164.at_ {w0 W : World} {g : Nat} {f0 : ByteArray} {f1 : Int} {f2 : Int} {w' : World} {m : Nat} (hq : W.drewN m = w') (h : IsS164 w0 W g f0 f1 f2) : IsS164 w0 w' g f0 f1 f2 := by subst hq; exact IsS164.drewN h m
theorem IsS164.apart {w0 W : World} {g : Nat} {f0 : ByteArray} {f1 : Int} {f2 : Int} {α : Type} {d : Kd α} {e : Nat} {base : Nat} {ok : Nat → Prop} {v : Value} {xs : List α} (h : IsS164 w0 W g f0 f1 f2) (ho : d.R e W base ok v xs) (ht : ∀ q, q ∈ e :: d.E → q ≠ 164) : d.R e W base (fun k => ok k ∧ k ≠ g) v xs := by
 obtain ⟨hb, hg⟩ := h; exact Kd.R_types ho hb ht
theorem IsS164.own_ne {w0 W : World} {g : Nat} {f0 : ByteArray} {f1 : Int} {f2 : Int} {α : Type} {d : Kd α} {e : Nat} {base : Nat} {ok : Nat → Prop} {v : Value} {xs : List α} (h : IsS164 w0 W g f0 f1 f2) (ho : d.R e W base ok v xs) (ht : e ≠ 164) : some g ≠ v.ownBlock := by
 obtain ⟨hb, hg⟩ := h; exact Kd.R_ne ho hb ht
theorem IsS164.apartQ {w0 W : World} {g : Nat} {f0 : ByteArray} {f1 : Int} {f2 : Int} {α : Type} {d : Kd α} {e : Nat} {base : Nat} {ok : Nat → Prop} {v : Value} {xs : List α} (h : IsS164 w0 W g f0 f1 f2) (ho : d.Q e W base ok v xs) (ht : ∀ q, q ∈ e :: d.E → q ≠ 164) : d.Q e W base (fun k => ok k ∧ k ≠ g) v xs := by
 obtain ⟨hb, hg⟩ := h; exact Kd.Q_types ho hb ht
theorem IsS164.own_neQ {w0 W : World} {g : Nat} {f0 : ByteArray} {f1 : Int} {f2 : Int} {α : Type} {d : Kd α} {e : Nat} {base : Nat} {ok : Nat → Prop} {v : Value} {xs : List α} (h : IsS164 w0 W g f0 f1 f2) (ho : d.Q e W base ok v xs) (ht : e ≠ 164) : some g ≠ v.ownBlock := by
 obtain ⟨hb, hg⟩ := h; exact Kd.Q_ne ho hb ht
theorem IsS164.apartS {w0 W : World} {g : Nat} {f0 : ByteArray} {f1 : Int} {f2 : Int} {α : Type} {d : Kd α} {e : Nat} {base : Nat} {ok : Nat → Prop} {v : Value} {xs : List α} (h : IsS164 w0 W g f0 f1 f2) (ho : d.S e W base ok v xs) (ht : ∀ q, q ∈ e :: d.E → q ≠ 164) : d.S e W base (fun k => ok k ∧ k ≠ g) v xs := by
 obtain ⟨hb, hg⟩ := h; exact Kd.S_types ho hb ht
theorem IsS164.own_neS {w0 W : World} {g : Nat} {f0 : ByteArray} {f1 : Int} {f2 : Int} {α : Type} {d : Kd α} {e : Nat} {base : Nat} {ok : Nat → Prop} {v : Value} {xs : List α} (h : IsS164 w0 W g f0 f1 f2) (ho : d.S e W base ok v xs) (ht : e ≠ 164) : some g ≠ v.ownBlock := by
 obtain ⟨hb, hg⟩ := h; exact Kd.S_ne ho hb ht
theorem IsS164.lt {w0 W : World} {g : Nat} {f0 : ByteArray} {f1 : Int} {f2 : Int} (h : IsS164 w0 W g f0 f1 f2) : g < W.heap.size := by
 obtain ⟨hb, hg⟩ := h; exact blk_lt hb
theorem IsS164.ge {w0 W : World} {g : Nat} {f0 : ByteArray} {f1 : Int} {f2 : Int} (h : IsS164 w0 W g f0 f1 f2) : w0.heap.size ≤ g := by
 obtain ⟨hb, hg⟩ := h; exact hg
theorem IsS164.ne_blk {w0 W : World} {g : Nat} {f0 : ByteArray} {f1 : Int} {f2 : Int} {a : Nat} {cs : Array Value} {t : TypeId} {fr : Nat × Nat} (h : IsS164 w0 W g f0 f1 f2) (hb2 : W.heap[a]? = some (.cells cs t fr)) (ht : t ≠ 164) : g ≠ a := by
 obtain ⟨hb, hg⟩ := h; rintro rfl; rw [hb] at hb2; injection hb2 with hb2
 injection hb2 with _ ht2
 exact ht ht2.symm
theorem IsS164.far {w0 W : World} {g : Nat} {f0 : ByteArray} {f1 : Int} {f2 : Int} {p : Addr} (h : IsS164 w0 W g f0 f1 f2) (hne : g ≠ p.block) (u : Value) : IsS164 w0 (W.setCell p u) g f0 f1 f2 := by
 obtain ⟨hb, hg⟩ := h; exact ⟨blk_far hb hne u, hg⟩
theorem cellS164_0 {W : World} {g : Nat} {f0 : ByteArray} {f1 : Int} {f2 : Int} (h : W.heap[g]? = some (.cells #[.string f0, .int .i64 f1, .int .i64 f2] 164 (0, 0))) : W.cell? ⟨g, 0, none⟩ = some (.string f0) := (kC h 0).trans rfl
theorem IsS164.set_0 {w0 W : World} {g : Nat} {f0 : ByteArray} {f1 : Int} {f2 : Int} (h : IsS164 w0 W g f0 f1 f2) (x : ByteArray) : IsS164 w0 (W.setCell ⟨g, 0, none⟩ (.string x)) g x f1 f2 := by
 obtain ⟨hb, hg⟩ := h; exact ⟨by simpa using blk_set hb 0 (.string x), hg⟩
theorem cellS164_1 {W : World} {g : Nat} {f0 : ByteArray} {f1 : Int} {f2 : Int} (h : W.heap[g]? = some (.cells #[.string f0, .int .i64 f1, .int .i64 f2] 164 (0, 0))) : W.cell? ⟨g, 1, none⟩ = some (.int .i64 f1) := (kC h 1).trans rfl
theorem IsS164.set_1 {w0 W : World} {g : Nat} {f0 : ByteArray} {f1 : Int} {f2 : Int} (h : IsS164 w0 W g f0 f1 f2) (x : Int) : IsS164 w0 (W.setCell ⟨g, 1, none⟩ (.int .i64 x)) g f0 x f2 := by
 obtain ⟨hb, hg⟩ := h; exact ⟨by simpa using blk_set hb 1 (.int .i64 x), hg⟩
theorem cellS164_2 {W : World} {g : Nat} {f0 : ByteArray} {f1 : Int} {f2 : Int} (h : W.heap[g]? = some (.cells #[.string f0, .int .i64 f1, .int .i64 f2] 164 (0, 0))) : W.cell? ⟨g, 2, none⟩ = some (.int .i64 f2) := (kC h 2).trans rfl
theorem IsS164.set_2 {w0 W : World} {g : Nat} {f0 : ByteArray} {f1 : Int} {f2 : Int} (h : IsS164 w0 W g f0 f1 f2) (x : Int) : IsS164 w0 (W.setCell ⟨g, 2, none⟩ (.int .i64 x)) g f0 f1 x := by
 obtain ⟨hb, hg⟩ := h; exact ⟨by simpa using blk_set hb 2 (.int .i64 x), hg⟩
theorem IsS164.new (w0 W : World) (f0 : ByteArray) (f1 : Int) (f2 : Int) (hB : Below w0.heap.size w0 W) : IsS164 w0 (W.alloc (.cells #[.string f0, .int .i64 f1, .int .i64 f2] 164)) W.heap.size f0 f1 f2 := ⟨by simpa using heap_alloc_new W _, hB.size⟩
theorem iS164 {w0 W0 W : World} {g : Nat} {f0 ef0 : ByteArray} {f1 ef1 : Int} {f2 ef2 : Int} (_h0 : Aside0 (IsS164 w0 W0 g ef0 ef1 ef2)) (h : IsS164 w0 W g f0 f1 f2 := by repeat (first | (with_reducible first | exact Aside0.out (by assumption) | apply IsS164.alloc | apply IsS164.drewN | apply IsS164.drew | apply IsS164.set_0 | apply IsS164.set_1 | apply IsS164.set_2 | refine IsS164.far ?_ (Aside0.out (by assumption)) _))) : IsS164 w0 W g f0 f1 f2 := h
theorem ni164 {w0 W0 W : World} {g gb : Nat} {f0 ef0 : ByteArray} {f1 ef1 : Int} {f2 ef2 : Int} (_h0 : Aside0 (IsS164 w0 W0 g ef0 ef1 ef2)) (hg : gb = W.heap.size) (h : IsS164 w0 W g f0 f1 f2 := by repeat (first | (with_reducible first | exact Aside0.out (by assumption) | apply IsS164.alloc | apply IsS164.drewN | apply IsS164.drew | apply IsS164.set_0 | apply IsS164.set_1 | apply IsS164.set_2 | refine IsS164.far ?_ (Aside0.out (by assumption)) _))) : g ≠ gb := by rw [hg]; exact Nat.ne_of_lt h.lt
theorem iB164 {w0 W0 W : World} (_h0 : Aside0 (Below w0.heap.size w0 W0)) (h : Below w0.heap.size w0 W := by repeat (first | (with_reducible first | exact Aside0.out (by assumption) | apply below_alloc | apply pw_below_drewN | apply below_drew1 | refine below_set ?_ (IsS164.ge (Aside0.out (by assumption))) | refine below_set ?_ (Aside0.out (by assumption))))) : Below w0.heap.size w0 W := h
def codec_reader_check.f (s0 : ByteArray) (s1 s2 a1 : Int) : Option (Except Int (ByteArray × Int × Int)) := if a1 = 0 then some (.ok (s0, s1, s2)) else some (.error a1)
def codec_reader_check.Post (w0 w : World) (g : Nat) : Except Int (ByteArray × Int × Int) → Ending → World → Prop
 | .ok (r1, r2, r3), e, w' => e = .returned (.tuple #[]) ∧ IsS164 w0 w' g r1 r2 r3 ∧ Below w0.heap.size w0 w' ∧ KeepBut w w' g none
 | .error xe_, e, w' => e = .panicked [{ v := .iface 139 (.int .i64 xe_), recovered := false }] ∧ Below w0.heap.size w0 w'
set_option maxHeartbeats 4000000 in
theorem codec_reader_check.calls (g : Nat) (s0_0 : ByteArray) (s0_1 s0_2 a1 : Int) (r : Except Int (ByteArray × Int × Int)) (w0 w : World) (hI : IsS164 w0 w g s0_0 s0_1 s0_2) (hB : Below w0.heap.size w0 w) (h : codec_reader_check.f s0_0 s0_1 s0_2 a1 = some r) :
  Calls Try.prog 82 #[.agg #[.pointer (some ⟨g, 0, none⟩)], .int .i64 a1] w (codec_reader_check.Post w0 w g r) := by
 have HI := aM hI; have HB := aM hB; clear hI hB; unfold codec_reader_check.f at h
 by_cases h0 : a1 = 0
 ·rw [if_pos h0] at h; obtain rfl := Option.some.inj h; subst h0; go_enter Try.func82, Try.ntmps82
  go_wp2
  try go_end0
  exact ⟨rfl, HI.out.alloc _, bA HB.out _, keep_alloc (KeepBut.refl _ _ _) _⟩
 ·rw [if_neg h0] at h; obtain rfl := Option.some.inj h; have h1 : (a1 != 0) = true := bne_iff_ne.mpr h0; go_enter Try.func82, Try.ntmps82
  go_wp2
  exact ⟨rfl, rfl, bA HB.out _⟩
def wire_Reader_uint.l0 : Nat → Int → Int → ByteArray → Int → Int → Option (Int × Int × ByteArray × Int × Int)
 | 0, _, _, _, _, _ => none
 | k + 1, x4, x7, x1000, x1001, x1002 => if x7 < 10 then (if x1001 ≥ (x1000.size : Int) then (some (0, 3, x1000, x1001, x1002)) else (if 0 ≤ x1001 then (if x1001 < (x1000.size : Int) then (if 0 ≤ (wrap64 (7 * x7)) then (if (bt x1000 x1001) ≥ 128 then (wire_Reader_uint.l0 k (Go.bits .or .u64 x4 (shl .u64 (IntKind.u64.wrap (Go.bits .and .u8 (bt x1000 x1001) 127)) (wrap64 (7 * x7)))) (wrap64 (x7 + 1)) x1000 (wrap64 (x1001 + 1)) x1002) else (if x7 > 0 then (if (bt x1000 x1001) = 0 then (some (0, 4, x1000, wrap64 (x1001 + 1), x1002)) else (if x7 = 9 then (if (bt x1000 x1001) > 1 then (some (0, 4, x1000, wrap64 (x1001 + 1), x1002)) else (some (Go.bits .or .u64 x4 (shl .u64 (IntKind.u64.wrap (Go.bits .and .u8 (bt x1000 x1001) 127)) (wrap64 (7 * x7))), 0, x1000, wrap64 (x1001 + 1), x1002))) else (some (Go.bits .or .u64 x4 (shl .u64 (IntKind.u64.wrap (Go.bits .and .u8 (bt x1000 x1001) 127)) (wrap64 (7 * x7))), 0, x1000, wrap64 (x1001 + 1), x1002)))) else (if x7 = 9 then (if (bt x1000 x1001) > 1 then (some (0, 4, x1000, wrap64 (x1001 + 1), x1002)) else (some (Go.bits .or .u64 x4 (shl .u64 (IntKind.u64.wrap (Go.bits .and .u8 (bt x1000 x1001) 127)) (wrap64 (7 * x7))), 0, x1000, wrap64 (x1001 + 1), x1002))) else (some (Go.bits .or .u64 x4 (shl .u64 (IntKind.u64.wrap (Go.bits .and .u8 (bt x1000 x1001) 127)) (wrap64 (7 * x7))), 0, x1000, wrap64 (x1001 + 1), x1002))))) else (none)) else (none)) else (none))) else (some (0, 4, x1000, x1001, x1002))
def wire_Reader_uint.f (k : Nat) (s0_0 : ByteArray) (s0_1 : Int) (s0_2 : Int) : Option (Int × Int × ByteArray × Int × Int) := wire_Reader_uint.l0 k 0 0 s0_0 s0_1 s0_2
theorem wire_Reader_uint.mono_l : ∀ k, (∀ y0 y1 y2 y3 y4, LeO (wire_Reader_uint.l0 k y0 y1 y2 y3 y4) (wire_Reader_uint.l0 (k + 1) y0 y1 y2 y3 y4))
 | 0 => fun _ _ _ _ _ r h => by simp [wire_Reader_uint.l0] at h
 | k + 1 => by
  have ih0 := wire_Reader_uint.mono_l k
  ·intro y0 y1 y2 y3 y4
   unfold wire_Reader_uint.l0
   repeat' first
   | (with_reducible exact ih0 _ _ _ _ _)
   | (with_reducible exact LeO.refl _)
   | (with_reducible exact LeO.none _)
   | (with_reducible refine LeO.ite ?_ ?_)
   | (with_reducible refine LeO.eB ?_ (fun _ => ?_))
   | (with_reducible refine LeO.bind ?_ (fun _ => ?_))
   | exact ih0 _ _ _ _ _
   | exact LeO.none _
   | refine LeO.ite ?_ ?_
   | refine LeO.bind ?_ (fun _ => ?_)
theorem wire_Reader_uint.mono : ∀ a0 a1 a2 k, LeO (wire_Reader_uint.f k a0 a1 a2) (wire_Reader_uint.f (k + 1) a0 a1 a2) := by
 intro a0 a1 a2 k; have ih0 := wire_Reader_uint.mono_l k; unfold wire_Reader_uint.f
 repeat' first
   | (with_reducible exact ih0 _ _ _ _ _)
   | (with_reducible exact LeO.refl _)
   | (with_reducible exact LeO.none _)
   | (with_reducible refine LeO.ite ?_ ?_)
   | (with_reducible refine LeO.eB ?_ (fun _ => ?_))
   | (with_reducible refine LeO.bind ?_ (fun _ => ?_))
   | exact ih0 _ _ _ _ _
   | exact LeO.none _
   | refine LeO.ite ?_ ?_
   | refine LeO.bind ?_ (fun _ => ?_)
set_option maxHeartbeats 8000000 in
set_option maxRecDepth 100000 in
theorem wire_Reader_uint.calls (k : Nat) (g : Nat) (s0_0 : ByteArray) (s0_1 : Int) (s0_2 : Int) (r1 : Int) (r2 : Int) (r3 : ByteArray) (r4 : Int) (r5 : Int) (w0 w : World) (hI : IsS164 w0 w g s0_0 s0_1 s0_2) (hB : Below w0.heap.size w0 w) (h : wire_Reader_uint.f k s0_0 s0_1 s0_2 = some (r1, r2, r3, r4, r5)) :
  Calls Try.prog 119 #[.pointer (some ⟨g, 0, none⟩)] w fun e w' => e = .returned (.tuple #[.int .u64 r1, .int .i64 r2]) ∧ IsS164 w0 w' g r3 r4 r5 ∧ Below w0.heap.size w0 w' ∧ KeepBut w w' g none := by
 have HI0 := aM hI; have HK := aM (KeepBut.refl w g none); have HL := aM hB.size; clear hI; have HW0 := aM hB.size; have HB := aM hB; clear hB; have H : (wire_Reader_uint.l0 k 0 0 s0_0 s0_1 s0_2) = some (r1, r2, r3, r4, r5) := h; clear h; have H' := aM H; clear H; go_enter Try.func119, Try.ntmps119
 go_wp2
 repeat (go_quiet (fail); try go_wp2)
 go_loopg [4, 7] k (fun kq v4 v7 w' => ∃ (x4_1 : Int) (x7_1 : Int) (x1001_1 : Int), v4 = .int .u64 x4_1 ∧ v7 = .int .i64 x7_1 ∧ Aside0 (wire_Reader_uint.l0 kq x4_1 x7_1 s0_0 x1001_1 s0_2 = some (r1, r2, r3, r4, r5)) ∧ Aside0 (kq ≤ k) ∧ Aside0 (IsS164 w0 w' g s0_0 x1001_1 s0_2) ∧ Aside0 (KeepBut w w' g none) ∧ Aside0 (Below w0.heap.size w0 w'))
 case atStart => exact ⟨(0), (0), (s0_1), (by first | rfl | (simp; done) | (simp [*]; done)), (by first | rfl | (simp; done) | (simp [*]; done)), H', ⟨Nat.le_refl _⟩, ⟨iS164 HI0⟩, ⟨kp HK⟩, ⟨iB164 HB⟩⟩
 case round =>
  clear H'; obtain ⟨x4_1, x7_1, x1001_1, rfl, rfl, HA, HK1, HI0, HK, HB⟩ := hrel
  cases gk with
  | zero => exact absurd HA.out (by simp [wire_Reader_uint.l0])
  | succ k1 =>
   have H := HA.out; clear HA; simp only [wire_Reader_uint.l0] at H
   by_cases c2 : x7_1 < 10
   ·rw [if_pos c2] at H; have c2b0 : decide (x7_1 < 10) = true := decide_eq_true c2; clear c2
    by_cases c3 : x1001_1 ≥ (s0_0.size : Int)
    ·rw [if_pos c3] at H; have c3b0 : decide ((s0_0.size : Int) ≤ x1001_1) = true := decide_eq_true c3; clear c3; simp only [Option.some.injEq, Prod.mk.injEq] at H; obtain ⟨rfl, rfl, rfl, rfl, rfl⟩ := H; obtain ⟨HGz4, hgz4⟩ := HI0.out; have hcz4_0 := cellS164_0 HGz4; have hcz4_1 := cellS164_1 HGz4; have hcz4_2 := cellS164_2 HGz4; have hfz4_0 := kF HGz4 0; have hfz4_1 := kF HGz4 1; have hfz4_2 := kF HGz4 2; clear HGz4 hgz4
     go_wp2
     repeat (go_quiet (fail); try go_wp2)
     go_ret2
     exact ⟨by first | rfl | (simp [errW_none, errW_some] <;> rfl) | (simp [*, errW_none, errW_some] <;> rfl), iS164 HI0, iB164 HB, kp HK⟩
    ·rw [if_neg c3] at H; have c3b0 : decide ((s0_0.size : Int) ≤ x1001_1) = false := decide_eq_false c3; clear c3
     by_cases c5 : 0 ≤ x1001_1
     ·rw [if_pos c5] at H; have c5b0 : decide (0 ≤ x1001_1) = true := decide_eq_true c5; clear c5
      by_cases c6 : x1001_1 < (s0_0.size : Int)
      ·rw [if_pos c6] at H; have c6b0 : decide (x1001_1 < (s0_0.size : Int)) = true := decide_eq_true c6; clear c6; obtain ⟨ji8, hji8⟩ : ∃ j_ : Int, (wrap64 (7 * x7_1)) = j_ := ⟨_, rfl⟩; replace H : (if 0 ≤ (ji8) then (if (bt s0_0 x1001_1) ≥ 128 then (wire_Reader_uint.l0 k1 (Go.bits .or .u64 x4_1 (shl .u64 (IntKind.u64.wrap (Go.bits .and .u8 (bt s0_0 x1001_1) 127)) (ji8))) (wrap64 (x7_1 + 1)) s0_0 (wrap64 (x1001_1 + 1)) s0_2) else (if x7_1 > 0 then (if (bt s0_0 x1001_1) = 0 then (some (0, 4, s0_0, wrap64 (x1001_1 + 1), s0_2)) else (if x7_1 = 9 then (if (bt s0_0 x1001_1) > 1 then (some (0, 4, s0_0, wrap64 (x1001_1 + 1), s0_2)) else (some (Go.bits .or .u64 x4_1 (shl .u64 (IntKind.u64.wrap (Go.bits .and .u8 (bt s0_0 x1001_1) 127)) (ji8)), 0, s0_0, wrap64 (x1001_1 + 1), s0_2))) else (some (Go.bits .or .u64 x4_1 (shl .u64 (IntKind.u64.wrap (Go.bits .and .u8 (bt s0_0 x1001_1) 127)) (ji8)), 0, s0_0, wrap64 (x1001_1 + 1), s0_2)))) else (if x7_1 = 9 then (if (bt s0_0 x1001_1) > 1 then (some (0, 4, s0_0, wrap64 (x1001_1 + 1), s0_2)) else (some (Go.bits .or .u64 x4_1 (shl .u64 (IntKind.u64.wrap (Go.bits .and .u8 (bt s0_0 x1001_1) 127)) (ji8)), 0, s0_0, wrap64 (x1001_1 + 1), s0_2))) else (some (Go.bits .or .u64 x4_1 (shl .u64 (IntKind.u64.wrap (Go.bits .and .u8 (bt s0_0 x1001_1) 127)) (ji8)), 0, s0_0, wrap64 (x1001_1 + 1), s0_2))))) else (none)) = some (r1, r2, r3, r4, r5) := by first | (rw [hji8] at H; exact H) | (simp only [hji8] at H ⊢; exact H)
       have hji8w : (IntKind.i64.wrap (7 * x7_1)) = ji8 := (i64_w _).trans hji8
       by_cases c9 : 0 ≤ (ji8)
       ·rw [if_pos c9] at H; have c9b0 := eq_true c9; have c9b1 : decide (0 ≤ (ji8)) = true := decide_eq_true c9; clear c9; obtain ⟨ji10, hji10⟩ : ∃ j_ : Int, (shl .u64 (IntKind.u64.wrap (Go.bits .and .u8 (bt s0_0 x1001_1) 127)) (ji8)) = j_ := ⟨_, rfl⟩; replace H : (if (bt s0_0 x1001_1) ≥ 128 then (wire_Reader_uint.l0 k1 (Go.bits .or .u64 x4_1 (ji10)) (wrap64 (x7_1 + 1)) s0_0 (wrap64 (x1001_1 + 1)) s0_2) else (if x7_1 > 0 then (if (bt s0_0 x1001_1) = 0 then (some (0, 4, s0_0, wrap64 (x1001_1 + 1), s0_2)) else (if x7_1 = 9 then (if (bt s0_0 x1001_1) > 1 then (some (0, 4, s0_0, wrap64 (x1001_1 + 1), s0_2)) else (some (Go.bits .or .u64 x4_1 (ji10), 0, s0_0, wrap64 (x1001_1 + 1), s0_2))) else (some (Go.bits .or .u64 x4_1 (ji10), 0, s0_0, wrap64 (x1001_1 + 1), s0_2)))) else (if x7_1 = 9 then (if (bt s0_0 x1001_1) > 1 then (some (0, 4, s0_0, wrap64 (x1001_1 + 1), s0_2)) else (some (Go.bits .or .u64 x4_1 (ji10), 0, s0_0, wrap64 (x1001_1 + 1), s0_2))) else (some (Go.bits .or .u64 x4_1 (ji10), 0, s0_0, wrap64 (x1001_1 + 1), s0_2))))) = some (r1, r2, r3, r4, r5) := by first | (rw [hji10] at H; exact H) | (simp only [hji10] at H ⊢; exact H)
        have hji10_ : (IntKind.u64.wrap ((IntKind.u64.wrap (Go.bits .and .u8 (bt s0_0 x1001_1) 127)) * 2 ^ min (ji8).toNat 64)) = ji10 := hji10; have hji10z : (ji8) ≤ 64 → (IntKind.u64.wrap ((IntKind.u64.wrap (Go.bits .and .u8 (bt s0_0 x1001_1) 127)) * 2 ^ (ji8).toNat)) = ji10 := shl_small hji10
        by_cases c11 : (bt s0_0 x1001_1) ≥ 128
        ·rw [if_pos c11] at H; have c11b0 : decide (128 ≤ (bt s0_0 x1001_1)) = true := decide_eq_true c11; clear c11; have H' := aM H; clear H; obtain ⟨HGz12, hgz12⟩ := HI0.out; have hcz12_0 := cellS164_0 HGz12; have hcz12_1 := cellS164_1 HGz12; have hcz12_2 := cellS164_2 HGz12; have hfz12_0 := kF HGz12 0; have hfz12_1 := kF HGz12 1; have hfz12_2 := kF HGz12 2; clear HGz12 hgz12; have p7 : 0 ≤ (x1001_1 : Int) := oT; have q7 : x1001_1 < (s0_0.size : Int) := oT; have hx7 := bt_at s0_0 x1001_1; replace p7 := eq_true p7; replace q7 := eq_true q7
         go_wp2
         repeat (go_quiet (fail); try go_wp2)
         go_roundg k1
         case measure => have := HK1.out; omega
         case rel => exact ⟨(Go.bits .or .u64 x4_1 (ji10)), (wrap64 (x7_1 + 1)), (wrap64 (x1001_1 + 1)), (by first | rfl | (simp; done) | (simp only [← hji10] <;> (first | rfl | simp)) | (simp [*]; done)), (by first | rfl | (simp; done) | (simp [*]; done)), H', ⟨by have := HK1.out; omega⟩, ⟨iS164 HI0⟩, ⟨kp HK⟩, ⟨iB164 HB⟩⟩
        ·rw [if_neg c11] at H; have c11b0 : decide (128 ≤ (bt s0_0 x1001_1)) = false := decide_eq_false c11; clear c11
         by_cases c13 : x7_1 > 0
         ·rw [if_pos c13] at H; have c13b0 : decide (0 < x7_1) = true := decide_eq_true c13; clear c13
          by_cases c14 : (bt s0_0 x1001_1) = 0
          ·rw [if_pos c14] at H; have c14b0 : ((bt s0_0 x1001_1) == 0) = true := beq_iff_eq.mpr c14; have c14b1 : ((bt s0_0 x1001_1) != 0) = false := bne_eq_false_iff_eq.mpr c14; clear c14; simp only [Option.some.injEq, Prod.mk.injEq] at H; obtain ⟨rfl, rfl, rfl, rfl, rfl⟩ := H; obtain ⟨HGz15, hgz15⟩ := HI0.out; have hcz15_0 := cellS164_0 HGz15; have hcz15_1 := cellS164_1 HGz15; have hcz15_2 := cellS164_2 HGz15; have hfz15_0 := kF HGz15 0; have hfz15_1 := kF HGz15 1; have hfz15_2 := kF HGz15 2; clear HGz15 hgz15; have p7 : 0 ≤ (x1001_1 : Int) := oT; have q7 : x1001_1 < (s0_0.size : Int) := oT; have hx7 := bt_at s0_0 x1001_1; replace p7 := eq_true p7; replace q7 := eq_true q7
           go_wp2
           repeat (go_quiet (fail); try go_wp2)
           go_ret2
           exact ⟨by first | rfl | (simp [errW_none, errW_some] <;> rfl) | (simp only [← hji8, ← hji10]; first | rfl | (simp [errW_none, errW_some] <;> rfl)) | (simp [*, errW_none, errW_some] <;> rfl), iS164 HI0, iB164 HB, kp HK⟩
          ·rw [if_neg c14] at H; have c14b0 : ((bt s0_0 x1001_1) == 0) = false := beq_eq_false_iff_ne.mpr c14; have c14b1 : ((bt s0_0 x1001_1) != 0) = true := bne_iff_ne.mpr c14
           by_cases c16 : x7_1 = 9
           ·rw [if_pos c16] at H; have c16b0 : (x7_1 == 9) = true := beq_iff_eq.mpr c16; have c16b1 : (x7_1 != 9) = false := bne_eq_false_iff_eq.mpr c16; clear c16
            by_cases c17 : (bt s0_0 x1001_1) > 1
            ·rw [if_pos c17] at H; have c17b0 : decide (1 < (bt s0_0 x1001_1)) = true := decide_eq_true c17; clear c17; simp only [Option.some.injEq, Prod.mk.injEq] at H; obtain ⟨rfl, rfl, rfl, rfl, rfl⟩ := H; obtain ⟨HGz18, hgz18⟩ := HI0.out; have hcz18_0 := cellS164_0 HGz18; have hcz18_1 := cellS164_1 HGz18; have hcz18_2 := cellS164_2 HGz18; have hfz18_0 := kF HGz18 0; have hfz18_1 := kF HGz18 1; have hfz18_2 := kF HGz18 2; clear HGz18 hgz18; have p7 : 0 ≤ (x1001_1 : Int) := oT; have q7 : x1001_1 < (s0_0.size : Int) := oT; have hx7 := bt_at s0_0 x1001_1; replace p7 := eq_true p7; replace q7 := eq_true q7
             go_wp2
             repeat (go_quiet (fail); try go_wp2)
             go_ret2
             exact ⟨by first | rfl | (simp [errW_none, errW_some] <;> rfl) | (simp only [← hji8, ← hji10]; first | rfl | (simp [errW_none, errW_some] <;> rfl)) | (simp [*, errW_none, errW_some] <;> rfl), iS164 HI0, iB164 HB, kp HK⟩
            ·rw [if_neg c17] at H; have c17b0 : decide (1 < (bt s0_0 x1001_1)) = false := decide_eq_false c17; clear c17; simp only [Option.some.injEq, Prod.mk.injEq] at H; obtain ⟨rfl, rfl, rfl, rfl, rfl⟩ := H; obtain ⟨HGz19, hgz19⟩ := HI0.out; have hcz19_0 := cellS164_0 HGz19; have hcz19_1 := cellS164_1 HGz19; have hcz19_2 := cellS164_2 HGz19; have hfz19_0 := kF HGz19 0; have hfz19_1 := kF HGz19 1; have hfz19_2 := kF HGz19 2; clear HGz19 hgz19; have p7 : 0 ≤ (x1001_1 : Int) := oT; have q7 : x1001_1 < (s0_0.size : Int) := oT; have hx7 := bt_at s0_0 x1001_1; replace p7 := eq_true p7; replace q7 := eq_true q7
             go_wp2
             repeat (go_quiet (fail); try go_wp2)
             go_ret2
             exact ⟨by first | rfl | (simp [errW_none, errW_some] <;> rfl) | (simp only [← hji8, ← hji10]; first | rfl | (simp [errW_none, errW_some] <;> rfl)) | (simp [*, errW_none, errW_some] <;> rfl), iS164 HI0, iB164 HB, kp HK⟩
           ·rw [if_neg c16] at H; have c16b0 : (x7_1 == 9) = false := beq_eq_false_iff_ne.mpr c16; have c16b1 : (x7_1 != 9) = true := bne_iff_ne.mpr c16; simp only [Option.some.injEq, Prod.mk.injEq] at H; obtain ⟨rfl, rfl, rfl, rfl, rfl⟩ := H; obtain ⟨HGz20, hgz20⟩ := HI0.out; have hcz20_0 := cellS164_0 HGz20; have hcz20_1 := cellS164_1 HGz20; have hcz20_2 := cellS164_2 HGz20; have hfz20_0 := kF HGz20 0; have hfz20_1 := kF HGz20 1; have hfz20_2 := kF HGz20 2; clear HGz20 hgz20; have p7 : 0 ≤ (x1001_1 : Int) := oT; have q7 : x1001_1 < (s0_0.size : Int) := oT; have hx7 := bt_at s0_0 x1001_1; replace p7 := eq_true p7; replace q7 := eq_true q7
            go_wp2
            repeat (go_quiet (fail); try go_wp2)
            go_ret2
            exact ⟨by first | rfl | (simp [errW_none, errW_some] <;> rfl) | (simp only [← hji8, ← hji10]; first | rfl | (simp [errW_none, errW_some] <;> rfl)) | (simp [*, errW_none, errW_some] <;> rfl), iS164 HI0, iB164 HB, kp HK⟩
         ·rw [if_neg c13] at H; have c13b0 : decide (0 < x7_1) = false := decide_eq_false c13; clear c13
          by_cases c21 : x7_1 = 9
          ·rw [if_pos c21] at H; have c21b0 : (x7_1 == 9) = true := beq_iff_eq.mpr c21; have c21b1 : (x7_1 != 9) = false := bne_eq_false_iff_eq.mpr c21; clear c21
           by_cases c22 : (bt s0_0 x1001_1) > 1
           ·rw [if_pos c22] at H; have c22b0 : decide (1 < (bt s0_0 x1001_1)) = true := decide_eq_true c22; clear c22; simp only [Option.some.injEq, Prod.mk.injEq] at H; obtain ⟨rfl, rfl, rfl, rfl, rfl⟩ := H; obtain ⟨HGz23, hgz23⟩ := HI0.out; have hcz23_0 := cellS164_0 HGz23; have hcz23_1 := cellS164_1 HGz23; have hcz23_2 := cellS164_2 HGz23; have hfz23_0 := kF HGz23 0; have hfz23_1 := kF HGz23 1; have hfz23_2 := kF HGz23 2; clear HGz23 hgz23; have p7 : 0 ≤ (x1001_1 : Int) := oT; have q7 : x1001_1 < (s0_0.size : Int) := oT; have hx7 := bt_at s0_0 x1001_1; replace p7 := eq_true p7; replace q7 := eq_true q7
            go_wp2
            repeat (go_quiet (fail); try go_wp2)
            go_ret2
            exact ⟨by first | rfl | (simp [errW_none, errW_some] <;> rfl) | (simp only [← hji8, ← hji10]; first | rfl | (simp [errW_none, errW_some] <;> rfl)) | (simp [*, errW_none, errW_some] <;> rfl), iS164 HI0, iB164 HB, kp HK⟩
           ·rw [if_neg c22] at H; have c22b0 : decide (1 < (bt s0_0 x1001_1)) = false := decide_eq_false c22; clear c22; simp only [Option.some.injEq, Prod.mk.injEq] at H; obtain ⟨rfl, rfl, rfl, rfl, rfl⟩ := H; obtain ⟨HGz24, hgz24⟩ := HI0.out; have hcz24_0 := cellS164_0 HGz24; have hcz24_1 := cellS164_1 HGz24; have hcz24_2 := cellS164_2 HGz24; have hfz24_0 := kF HGz24 0; have hfz24_1 := kF HGz24 1; have hfz24_2 := kF HGz24 2; clear HGz24 hgz24; have p7 : 0 ≤ (x1001_1 : Int) := oT; have q7 : x1001_1 < (s0_0.size : Int) := oT; have hx7 := bt_at s0_0 x1001_1; replace p7 := eq_true p7; replace q7 := eq_true q7
            go_wp2
            repeat (go_quiet (fail); try go_wp2)
            go_ret2
            exact ⟨by first | rfl | (simp [errW_none, errW_some] <;> rfl) | (simp only [← hji8, ← hji10]; first | rfl | (simp [errW_none, errW_some] <;> rfl)) | (simp [*, errW_none, errW_some] <;> rfl), iS164 HI0, iB164 HB, kp HK⟩
          ·rw [if_neg c21] at H; have c21b0 : (x7_1 == 9) = false := beq_eq_false_iff_ne.mpr c21; have c21b1 : (x7_1 != 9) = true := bne_iff_ne.mpr c21; simp only [Option.some.injEq, Prod.mk.injEq] at H; obtain ⟨rfl, rfl, rfl, rfl, rfl⟩ := H; obtain ⟨HGz25, hgz25⟩ := HI0.out; have hcz25_0 := cellS164_0 HGz25; have hcz25_1 := cellS164_1 HGz25; have hcz25_2 := cellS164_2 HGz25; have hfz25_0 := kF HGz25 0; have hfz25_1 := kF HGz25 1; have hfz25_2 := kF HGz25 2; clear HGz25 hgz25; have p7 : 0 ≤ (x1001_1 : Int) := oT; have q7 : x1001_1 < (s0_0.size : Int) := oT; have hx7 := bt_at s0_0 x1001_1; replace p7 := eq_true p7; replace q7 := eq_true q7
           go_wp2
           repeat (go_quiet (fail); try go_wp2)
           go_ret2
           exact ⟨by first | rfl | (simp [errW_none, errW_some] <;> rfl) | (simp only [← hji8, ← hji10]; first | rfl | (simp [errW_none, errW_some] <;> rfl)) | (simp [*, errW_none, errW_some] <;> rfl), iS164 HI0, iB164 HB, kp HK⟩
       ·rw [if_neg c9] at H; exact absurd H (by simp)
      ·rw [if_neg c6] at H; exact absurd H (by simp)
     ·rw [if_neg c5] at H; exact absurd H (by simp)
   ·rw [if_neg c2] at H; have c2b0 : decide (x7_1 < 10) = false := decide_eq_false c2; clear c2; simp only [Option.some.injEq, Prod.mk.injEq] at H; obtain ⟨rfl, rfl, rfl, rfl, rfl⟩ := H
    go_wp2
    repeat (go_quiet (fail); try go_wp2)
    go_ret2
    exact ⟨by first | rfl | (simp [errW_none, errW_some] <;> rfl) | (simp [*, errW_none, errW_some] <;> rfl), iS164 HI0, iB164 HB, kp HK⟩
def wire_Reader_count.f (k : Nat) (s0_0 : ByteArray) (s0_1 : Int) (s0_2 : Int) (a1 : Int) : Option (Int × Int × ByteArray × Int × Int) := (wire_Reader_uint.f k s0_0 s0_1 s0_2).bind fun bt159 => (if bt159.2.1 = 0 then (if bt159.1 > (IntKind.u64.wrap (mx a1 0)) then (some (wrap64 (bt159.1), 5, bt159.2.2.1, bt159.2.2.2.1, bt159.2.2.2.2)) else (some (wrap64 (bt159.1), bt159.2.1, bt159.2.2.1, bt159.2.2.2.1, bt159.2.2.2.2))) else (some (wrap64 (bt159.1), bt159.2.1, bt159.2.2.1, bt159.2.2.2.1, bt159.2.2.2.2)))
theorem wire_Reader_count.mono : ∀ a0 a1 a2 a3 k, LeO (wire_Reader_count.f k a0 a1 a2 a3) (wire_Reader_count.f (k + 1) a0 a1 a2 a3) := by
 intro a0 a1 a2 a3 k; unfold wire_Reader_count.f
 repeat' first
   | (with_reducible exact wire_Reader_uint.mono _ _ _ _)
   | (with_reducible exact LeO.refl _)
   | (with_reducible exact LeO.none _)
   | (with_reducible refine LeO.ite ?_ ?_)
   | (with_reducible refine LeO.eB ?_ (fun _ => ?_))
   | (with_reducible refine LeO.bind ?_ (fun _ => ?_))
   | exact wire_Reader_uint.mono _ _ _ _
   | exact LeO.none _
   | refine LeO.ite ?_ ?_
   | refine LeO.bind ?_ (fun _ => ?_)
set_option maxHeartbeats 8000000 in
set_option maxRecDepth 100000 in
theorem wire_Reader_count.calls (k : Nat) (g : Nat) (s0_0 : ByteArray) (s0_1 : Int) (s0_2 : Int) (a1 : Int) (r1 : Int) (r2 : Int) (r3 : ByteArray) (r4 : Int) (r5 : Int) (w0 w : World) (hI : IsS164 w0 w g s0_0 s0_1 s0_2) (hB : Below w0.heap.size w0 w) (h : wire_Reader_count.f k s0_0 s0_1 s0_2 a1 = some (r1, r2, r3, r4, r5)) :
  Calls Try.prog 111 #[.pointer (some ⟨g, 0, none⟩), .int .i64 a1] w fun e w' => e = .returned (.tuple #[.int .i64 r1, .int .i64 r2]) ∧ IsS164 w0 w' g r3 r4 r5 ∧ Below w0.heap.size w0 w' ∧ KeepBut w w' g none := by
 have HI0 := aM hI; have HK := aM (KeepBut.refl w g none); have HL := aM hB.size; clear hI; have HW0 := aM hB.size; have HB := aM hB; clear hB; have H : ((wire_Reader_uint.f k s0_0 s0_1 s0_2).bind fun bt159 => (if bt159.2.1 = 0 then (if bt159.1 > (IntKind.u64.wrap (mx a1 0)) then (some (wrap64 (bt159.1), 5, bt159.2.2.1, bt159.2.2.2.1, bt159.2.2.2.2)) else (some (wrap64 (bt159.1), bt159.2.1, bt159.2.2.1, bt159.2.2.2.1, bt159.2.2.2.2))) else (some (wrap64 (bt159.1), bt159.2.1, bt159.2.2.1, bt159.2.2.2.1, bt159.2.2.2.2)))) = some (r1, r2, r3, r4, r5) := h; clear h; replace H := Option.bind_eq_some_iff.mp H; obtain ⟨⟨t159, t160, t161, t162, t163⟩, A30, H⟩ := H; replace H : (if t160 = 0 then (if t159 > (IntKind.u64.wrap (mx a1 0)) then (some (wrap64 (t159), 5, t161, t162, t163)) else (some (wrap64 (t159), t160, t161, t162, t163))) else (some (wrap64 (t159), t160, t161, t162, t163))) = some (r1, r2, r3, r4, r5) := H; have A3 := aM A30; clear A30
 by_cases c4 : t160 = 0
 ·rw [if_pos c4] at H; have c4b0 : (t160 == 0) = true := beq_iff_eq.mpr c4; have c4b1 : (t160 != 0) = false := bne_eq_false_iff_eq.mpr c4; clear c4; obtain ⟨ji5, hji5⟩ : ∃ j_ : Int, (mx a1 0) = j_ := ⟨_, rfl⟩; replace H : (if t159 > (IntKind.u64.wrap (ji5)) then (some (wrap64 (t159), 5, t161, t162, t163)) else (some (wrap64 (t159), t160, t161, t162, t163))) = some (r1, r2, r3, r4, r5) := by first | (rw [hji5] at H; exact H) | (simp only [hji5] at H ⊢; exact H)
  (try rw [hji5] at A3)
  (try (have hji5l : 0 ≤ ji5 := by (rw [← hji5]; unfold mx; (repeat' split) <;> omega)))
  (try (have hji5m : 0 ≤ ji5 := by omega))
  have hji5_ : (if a1 < 0 then 0 else a1) = ji5 := hji5
  by_cases c6 : t159 > (IntKind.u64.wrap (ji5))
  ·rw [if_pos c6] at H; have c6b0 : decide ((IntKind.u64.wrap (ji5)) < t159) = true := decide_eq_true c6; clear c6; simp only [Option.some.injEq, Prod.mk.injEq] at H; obtain ⟨rfl, rfl, rfl, rfl, rfl⟩ := H; go_enter Try.func111, Try.ntmps111
   go_wp2_with (first | ((with_reducible refine gate_callee (f := 119) rfl ?_); refine gL (some 10) Try.func119 #[.pointer (some ⟨g, 0, none⟩)] ?_; (with_reducible refine (wire_Reader_uint.calls k g s0_0 s0_1 s0_2 t159 t160 t161 t162 t163 w0 _ (iS164 HI0) (iB164 HB) A3.out).mono ?_); rintro e w7 ⟨rfl, hi, hb, hk⟩; refine ⟨_, rfl, ?_⟩; replace HK := aM (ku HK hk); replace HB := aM (hb); replace HI0 := aM (hi); (try clear hb); (try clear hk); (try clear hi)))
   go_ret2
   exact ⟨by first | rfl | (simp [errW_none, errW_some] <;> rfl) | (simp only [← hji5]; first | rfl | (simp [errW_none, errW_some] <;> rfl)) | (simp [*, errW_none, errW_some] <;> rfl), iS164 HI0, iB164 HB, kp HK⟩
  ·rw [if_neg c6] at H; have c6b0 : decide ((IntKind.u64.wrap (ji5)) < t159) = false := decide_eq_false c6; clear c6; simp only [Option.some.injEq, Prod.mk.injEq] at H; obtain ⟨rfl, rfl, rfl, rfl, rfl⟩ := H; go_enter Try.func111, Try.ntmps111
   go_wp2_with (first | ((with_reducible refine gate_callee (f := 119) rfl ?_); refine gL (some 10) Try.func119 #[.pointer (some ⟨g, 0, none⟩)] ?_; (with_reducible refine (wire_Reader_uint.calls k g s0_0 s0_1 s0_2 t159 t160 t161 t162 t163 w0 _ (iS164 HI0) (iB164 HB) A3.out).mono ?_); rintro e w8 ⟨rfl, hi, hb, hk⟩; refine ⟨_, rfl, ?_⟩; replace HK := aM (ku HK hk); replace HB := aM (hb); replace HI0 := aM (hi); (try clear hb); (try clear hk); (try clear hi)))
   go_ret2
   exact ⟨by first | rfl | (simp [errW_none, errW_some] <;> rfl) | (simp only [← hji5]; first | rfl | (simp [errW_none, errW_some] <;> rfl)) | (simp [*, errW_none, errW_some] <;> rfl), iS164 HI0, iB164 HB, kp HK⟩
 ·rw [if_neg c4] at H; have c4b0 : (t160 == 0) = false := beq_eq_false_iff_ne.mpr c4; have c4b1 : (t160 != 0) = true := bne_iff_ne.mpr c4; simp only [Option.some.injEq, Prod.mk.injEq] at H; obtain ⟨rfl, rfl, rfl, rfl, rfl⟩ := H; go_enter Try.func111, Try.ntmps111
  go_wp2_with (first | ((with_reducible refine gate_callee (f := 119) rfl ?_); refine gL (some 10) Try.func119 #[.pointer (some ⟨g, 0, none⟩)] ?_; (with_reducible refine (wire_Reader_uint.calls k g s0_0 s0_1 s0_2 t159 t160 t161 t162 t163 w0 _ (iS164 HI0) (iB164 HB) A3.out).mono ?_); rintro e w9 ⟨rfl, hi, hb, hk⟩; refine ⟨_, rfl, ?_⟩; replace HK := aM (ku HK hk); replace HB := aM (hb); replace HI0 := aM (hi); (try clear hb); (try clear hk); (try clear hi)))
  go_ret2
  exact ⟨by first | rfl | (simp [errW_none, errW_some] <;> rfl) | (simp [*, errW_none, errW_some] <;> rfl), iS164 HI0, iB164 HB, kp HK⟩
set_option maxHeartbeats 4000000 in
theorem try1_ok (be bat br bok : Nat) (u : FrameMode) (w : World) (he : w.cell? ⟨be, 0, none⟩ = some (.int .i64 0)) (hfo : w.frozen? ⟨bok, 0, none⟩ = false) (v : Value) (hv : w.cell? ⟨bok, 0, none⟩ = some v) :
  CallsD Try.prog 118 #[.pointer (some ⟨be, 0, none⟩), .pointer (some ⟨bat, 0, none⟩), .pointer (some ⟨br, 0, none⟩), .pointer (some ⟨bok, 0, none⟩)] u w fun e u' w' => u' = u ∧ e = .returned (.tuple #[]) ∧ w' = w.setCell ⟨bok, 0, none⟩ (.bool true) := by
 go_enter_d Try.func118, Try.ntmps118
 go_wp2
 go_end0
 exact ⟨rfl, rfl⟩
set_option maxHeartbeats 4000000 in
theorem try1_err (g be bat br bok : Nat) (at_ er : Int) (her : er ≠ 0) (u : FrameMode) (w : World) (n1 : ¬ g = be) (he : w.cell? ⟨be, 0, none⟩ = some (.int .i64 er)) (ha : w.cell? ⟨bat, 0, none⟩ = some (.int .i64 at_)) (hr : w.cell? ⟨br, 0, none⟩ = some (.pointer (some ⟨g, 0, none⟩)))
  (hf1 : w.frozen? ⟨g, 1, none⟩ = false) (hf2 : w.frozen? ⟨g, 2, none⟩ = false) (v1 v2 : Value) (hg1 : w.cell? ⟨g, 1, none⟩ = some v1) (hg2 : w.cell? ⟨g, 2, none⟩ = some v2)
  (hfo : w.frozen? ⟨bok, 0, none⟩ = false) (v : Value) (hv : w.cell? ⟨bok, 0, none⟩ = some v) (n2 : ¬ g = bok) :
  CallsD Try.prog 118 #[.pointer (some ⟨be, 0, none⟩), .pointer (some ⟨bat, 0, none⟩), .pointer (some ⟨br, 0, none⟩), .pointer (some ⟨bok, 0, none⟩)] u w fun e u' w' => u' = u ∧ e = .returned (.tuple #[]) ∧ w' = ((w.setCell ⟨g, 1, none⟩ (.int .i64 at_)).setCell ⟨g, 2, none⟩ (.int .i64 er)).setCell ⟨bok, 0, none⟩ (.bool false) := by
 have h1 : (er != 0) = true := bne_iff_ne.mpr her; have h2 : (er == 0) = false := beq_eq_false_iff_ne.mpr her
 go_enter_d Try.func118, Try.ntmps118
 go_wp2
 go_end0
 exact ⟨rfl, rfl⟩
def Alike0 (g nb : Nat) (w w' : World) : Prop := w.heap.size ≤ w'.heap.size ∧ ∀ i, i < w.heap.size → i ≠ g → i ≠ nb → w'.heap[i]? = w.heap[i]?
theorem Alike0.trans {g nb : Nat} {w w1 w2 : World} (h : Alike0 g nb w w1) (k : Alike0 g nb w1 w2) : Alike0 g nb w w2 :=
 ⟨Nat.le_trans h.1 k.1, fun i hi h1 h2 => (k.2 i (Nat.lt_of_lt_of_le hi h.1) h1 h2).trans (h.2 i hi h1 h2)⟩
theorem Alike0.of_below {g nb : Nat} {w w1 : World} (h : Below w.heap.size w w1) : Alike0 g nb w w1 := ⟨h.size, fun i hi _ _ => h.block i hi⟩
theorem Alike0.set {g nb : Nat} {w w1 : World} (h : Alike0 g nb w w1) (p : Addr) (v : Value) (hp : p.block = g ∨ p.block = nb ∨ w.heap.size ≤ p.block) : Alike0 g nb w (w1.setCell p v) :=
 ⟨Nat.le_trans h.1 (by simp), fun i hi h1 h2 => (Below.heap_setCell w1 p v i (by rcases hp with hp | hp | hp <;> omega)).trans (h.2 i hi h1 h2)⟩
set_option maxHeartbeats 4000000 in
theorem try_any (C : Nat) (caps : Array Value) (g nb T : Nat) (s s' : ByteArray) (at_ at' er : Int) (V : Value) (w0 w : World) (hI : IsS164 w0 w g s at_ 0) (hB : Below w0.heap.size w0 w) (hnb : nb < w.heap.size) (hnbw : w0.heap.size ≤ nb) (hng : nb ≠ g) (fin : Int) (hfin : Aside0 (fin = if er = 0 then at' else at_))
  (eg : ∀ args w, (callFunc C args).run Try.prog w = .ok (.enter C args) w)
  (HC : ∀ W, Below w.heap.size w W → Calls Try.prog C caps W fun e w' => e = .returned (.int .i64 er) ∧ IsS164 w0 w' g s' at' 0 ∧ w'.heap[nb]? = some (.cells #[V] T (0, 0)) ∧ Below w0.heap.size w0 w' ∧ Alike0 g nb W w') :
  Calls Try.prog 109 #[.pointer (some ⟨g, 0, none⟩), .func (.func C) #[] caps] w fun e w' => e = .returned (.bool (er == 0)) ∧ IsS164 w0 w' g s' fin er ∧ w'.heap[nb]? = some (.cells #[V] T (0, 0)) ∧ Below w0.heap.size w0 w' ∧ Alike0 g nb w w' := by
 have h2 := cellS164_2 hI.1; have h1 := cellS164_1 hI.1; have hlt := hI.lt; have HI := aM hI; have HB := aM hB; have HH := aM HC; clear hI hB HC
 go_enter_defers Try.func109, Try.ntmps109
 go_wp2
 refine (HH.out _ (bA (bA (bA (bA (Below.refl _ _) _) _) _) _)).mono ?_; rintro e w1 ⟨rfl, hi1, hn1, hb1, ha1⟩; have hsz : w1.heap.size ≥ w.heap.size + 4 := by have := ha1.1; simp at this; omega
 have k0 : w1.heap[w.heap.size]? = some (.cells #[.pointer (some ⟨g, 0, none⟩)] 79 (0, 0)) := (ha1.2 _ (by simp; omega) (by omega) (by omega)).trans (kA (kA (kA (heap_alloc_new w _) _) _) _); have k1 : w1.heap[w.heap.size + 1]? = some (.cells #[.bool false] 4 (0, 0)) := (ha1.2 _ (by simp) (by omega) (by omega)).trans (kA (kA (by simpa using heap_alloc_new (w.alloc _) (.cells #[.bool false] 4)) _) _); have k2 : w1.heap[w.heap.size + 1 + 1]? = some (.cells #[.int .i64 at_] 3 (0, 0)) := (ha1.2 _ (by simp) (by omega) (by omega)).trans (kA (by simpa using heap_alloc_new ((w.alloc _).alloc _) (.cells #[.int .i64 at_] 3)) _); have k3 : w1.heap[w.heap.size + 1 + 1 + 1]? = some (.cells #[.int .i64 0] 30 (0, 0)) := (ha1.2 _ (by simp) (by omega) (by omega)).trans (by simpa using heap_alloc_new (((w.alloc _).alloc _).alloc _) (.cells #[.int .i64 0] 30)); have c3 := kC k3 0; have f3 := kF k3 0; have c3' : w1.cell? ⟨w.heap.size + 1 + 1 + 1, 0, none⟩ = some (.int .i64 0) := c3.trans rfl; have K0 := aM k0; have K1 := aM k1; have K2 := aM k2; have K3 := aM k3; have HI1 := aM hi1; have HN1 := aM hn1; have HB1 := aM hb1; have HA1 := aM ha1; have HS := aM hsz; have HBW := aM (show w0.heap.size ≤ w.heap.size from HB.out.size); clear k0 k1 k2 k3 hi1 hn1 hb1 ha1 hsz c3 HH eg h1 h2
 go_wp2
 by_cases her : er = 0
 ·subst her; refine leaves_cons (f := 118) (args := #[.pointer (some ⟨w.heap.size + 1 + 1 + 1, 0, none⟩), .pointer (some ⟨w.heap.size + 1 + 1, 0, none⟩), .pointer (some ⟨w.heap.size, 0, none⟩), .pointer (some ⟨w.heap.size + 1, 0, none⟩)]) (by simp) (by simp [go_sem]) ?_; have z3 := blk_set K3.out 0 (.int .i64 0); have z1 := blk_far K1.out (p := ⟨w.heap.size + 1 + 1 + 1, 0, none⟩) (by simp) (.int .i64 0); refine (try1_ok _ _ _ _ .returning _ ((kC z3 0).trans rfl) (kF z1 0) _ ((kC z1 0).trans rfl)).mono ?_; rintro e u' w'' ⟨rfl, rfl, rfl⟩; have d1 := blk_set z1 0 (.bool true); have dc : ((w1.setCell ⟨w.heap.size + 1 + 1 + 1, 0, none⟩ (.int .i64 0)).setCell ⟨w.heap.size + 1, 0, none⟩ (.bool true)).cell? ⟨w.heap.size + 1, 0, none⟩ = some (.bool true) := (kC d1 0).trans rfl; refine ⟨.bool true, by simp [results, Try.results109, go_sem, dc], ?_⟩; have e0 : fin = at' := by rw [hfin.out, if_pos rfl]
  have hi := HI1.out; rw [← e0] at hi; have hs := HS.out; have hbw := HBW.out; exact ⟨rfl, (hi.far (by show g ≠ w.heap.size + 1 + 1 + 1; omega) _).far (by show g ≠ w.heap.size + 1; omega) _, blk_far (blk_far HN1.out (by show nb ≠ w.heap.size + 1 + 1 + 1; omega) _) (by show nb ≠ w.heap.size + 1; omega) _,
   (HB1.out.setCell (by show w0.heap.size ≤ w.heap.size + 1 + 1 + 1; omega) _).setCell (by show w0.heap.size ≤ w.heap.size + 1; omega) _,
   (((Alike0.of_below (bA (bA (bA (bA (Below.refl _ _) _) _) _) _)).trans HA1.out).set _ _ (.inr (.inr (by show w.heap.size ≤ w.heap.size + 1 + 1 + 1; omega)))).set _ _ (.inr (.inr (by show w.heap.size ≤ w.heap.size + 1; omega)))⟩
 ·refine leaves_cons (f := 118) (args := #[.pointer (some ⟨w.heap.size + 1 + 1 + 1, 0, none⟩), .pointer (some ⟨w.heap.size + 1 + 1, 0, none⟩), .pointer (some ⟨w.heap.size, 0, none⟩), .pointer (some ⟨w.heap.size + 1, 0, none⟩)]) (by simp) (by simp [go_sem]) ?_; have z3 := blk_set K3.out 0 (.int .i64 er); have z2 := blk_far K2.out (p := ⟨w.heap.size + 1 + 1 + 1, 0, none⟩) (by simp) (.int .i64 er); have z1 := blk_far K1.out (p := ⟨w.heap.size + 1 + 1 + 1, 0, none⟩) (by simp) (.int .i64 er); have z0 := blk_far K0.out (p := ⟨w.heap.size + 1 + 1 + 1, 0, none⟩) (by simp; omega) (.int .i64 er); have hi := HI1.out.far (p := ⟨w.heap.size + 1 + 1 + 1, 0, none⟩) (by show g ≠ w.heap.size + 1 + 1 + 1; omega) (.int .i64 er); refine (try1_err g _ _ _ _ at_ er her .returning _ (by omega) ((kC z3 0).trans rfl) ((kC z2 0).trans rfl) ((kC z0 0).trans rfl) (kF hi.1 1) (kF hi.1 2) _ _ ((kC hi.1 1).trans rfl) ((kC hi.1 2).trans rfl) (kF z1 0) _ ((kC z1 0).trans rfl) (by omega)).mono ?_; rintro e u' w'' ⟨rfl, rfl, rfl⟩; have y1 := blk_far (blk_far z1 (p := ⟨g, 1, none⟩) (by show w.heap.size + 1 ≠ g; omega) (.int .i64 at_)) (p := ⟨g, 2, none⟩) (by show w.heap.size + 1 ≠ g; omega) (.int .i64 er); have d1 := blk_set y1 0 (.bool false); have dc := (kC d1 0).trans (show _ = some (Value.bool false) from rfl); refine ⟨.bool false, by simp [results, Try.results109, go_sem, dc], ?_⟩; have e0 : fin = at_ := by rw [hfin.out, if_neg her]
  have hs := HS.out; have hbw := HBW.out; have hge := HI.out.ge; have e1 : (er == 0) = false := beq_eq_false_iff_ne.mpr her; rw [e1, e0]; refine ⟨rfl, ((hi.set_1 at_).set_2 er).far (by show g ≠ w.heap.size + 1; omega) _, ?_, ?_, ?_⟩
  ·exact blk_far (blk_far (blk_far (blk_far HN1.out (by show nb ≠ w.heap.size + 1 + 1 + 1; omega) _) hng _) hng _) (by show nb ≠ w.heap.size + 1; omega) _
  ·exact (((HB1.out.setCell (by show w0.heap.size ≤ w.heap.size + 1 + 1 + 1; omega) _).setCell hge _).setCell hge _).setCell (by show w0.heap.size ≤ w.heap.size + 1; omega) _
  ·exact (((((Alike0.of_below (bA (bA (bA (bA (Below.refl _ _) _) _) _) _)).trans HA1.out).set _ _ (.inr (.inr (by show w.heap.size ≤ w.heap.size + 1 + 1 + 1; omega)))).set _ _ (.inl rfl)).set _ _ (.inl rfl)).set _ _ (.inr (.inr (by show w.heap.size ≤ w.heap.size + 1; omega)))
def wire_Reader_Uint.f (k : Nat) (s0_0 : ByteArray) (s0_1 s0_2 : Int) : Option (Int × ByteArray × Int × Int) :=
 if s0_2 = 0 then (wire_Reader_uint.f k s0_0 s0_1 s0_2).bind fun b => (if b.2.2.2.2 = 0 then (if b.2.1 = 0 then some (b.1, b.2.2.1, b.2.2.2.1, 0) else some (0, b.2.2.1, s0_1, b.2.1)) else none) else none
theorem wire_Reader_Uint.mono : ∀ a0 a1 a2 k, LeO (wire_Reader_Uint.f k a0 a1 a2) (wire_Reader_Uint.f (k + 1) a0 a1 a2) := by
 intro a0 a1 a2 k; unfold wire_Reader_Uint.f; exact LeO.ite (LeO.bind (wire_Reader_uint.mono _ _ _ _) (fun _ => LeO.refl _)) (LeO.refl _)
set_option maxHeartbeats 4000000 in
theorem uint1 (k : Nat) (g br nb : Nat) (s s' : ByteArray) (at_ at' n e : Int) (v : Value) (w0 w W : World) (hI : IsS164 w0 W g s at_ 0) (hB : Below w0.heap.size w0 W) (hge : w0.heap.size ≤ nb) (hng : nb ≠ g)
  (hbr : W.heap[br]? = some (.cells #[.pointer (some ⟨g, 0, none⟩)] 79 (0, 0))) (hnb : W.heap[nb]? = some (.cells #[v] 74 (0, 0))) (h : wire_Reader_uint.f k s at_ 0 = some (n, e, s', at', 0)) :
  Calls Try.prog 122 #[.pointer (some ⟨br, 0, none⟩), .pointer (some ⟨nb, 0, none⟩)] W fun e' w' => e' = .returned (.int .i64 e) ∧ IsS164 w0 w' g s' at' 0 ∧ w'.heap[nb]? = some (.cells #[.int .u64 n] 74 (0, 0)) ∧ Below w0.heap.size w0 w' ∧ Alike0 g nb W w' := by
 have HI := aM hI; have HB := aM hB; have HN := aM hnb; have HG := aM hge; have HH := aM h; have HNG := aM hng; have hlt := blk_lt hnb; have c0 := (kC hbr 0).trans (show _ = some (Value.pointer (some ⟨g, 0, none⟩)) from rfl); clear hI hB hnb hge h hbr hng; go_enter Try.func122, Try.ntmps122
 go_wp2_with (go_at_call 119; (with_reducible refine (wire_Reader_uint.calls k g s at_ 0 n e s' at' 0 w0 _ HI.out HB.out HH.out).mono ?_); rintro e1 w1 ⟨rfl, hi, hb, hk⟩; have HI1 := aM hi; have HB1 := aM hb; have HK := aM hk; have HN1 := aM (KeepBut.blk hk HN.out HNG.out (by simp)); have cn := (kC HN1.out 0).trans (show _ = some v from rfl); have fn_ := kF HN1.out 0; clear hi hb hk c0)
 go_ret; exact ⟨rfl, HI1.out.far (Ne.symm HNG.out) _, by simpa using blk_set HN1.out 0 (.int .u64 n), HB1.out.setCell HG.out _, Alike0.set ⟨HK.out.1, fun i hi h1 _ => HK.out.2 i hi h1 (by simp)⟩ _ _ (.inr (.inl rfl))⟩
set_option maxHeartbeats 4000000 in
theorem wire_Reader_Uint.calls (k : Nat) (g : Nat) (s0_0 : ByteArray) (s0_1 s0_2 : Int) (r1 : Int) (r2 : ByteArray) (r3 r4 : Int) (w0 w : World) (hI : IsS164 w0 w g s0_0 s0_1 s0_2) (hB : Below w0.heap.size w0 w) (h : wire_Reader_Uint.f k s0_0 s0_1 s0_2 = some (r1, r2, r3, r4)) :
  Calls Try.prog 120 #[.pointer (some ⟨g, 0, none⟩)] w fun e w' => e = .returned (.int .u64 r1) ∧ IsS164 w0 w' g r2 r3 r4 ∧ Below w0.heap.size w0 w' ∧ KeepBut w w' g none := by
 unfold wire_Reader_Uint.f at h
 by_cases h0 : s0_2 = 0
 case neg => rw [if_neg h0] at h; cases h
 subst h0; rw [if_pos rfl] at h; obtain ⟨⟨n, e, s', at', er'⟩, hu, h⟩ := Option.bind_eq_some_iff.mp h; dsimp only at h
 by_cases h1 : er' = 0
 case neg => rw [if_neg h1] at h; cases h
 subst h1; rw [if_pos rfl] at h; have hsz : w0.heap.size ≤ w.heap.size := hB.size; have hlt := hI.lt; have eg : ∀ args w, (callFunc 122 args).run Try.prog w = .ok (.enter 122 args) w := enters_of Try.func122 (by kernel_rfl) rfl; have hT : ∀ fin : Int, Aside0 (fin = if e = 0 then at' else s0_1) → Calls Try.prog 109 #[.pointer (some ⟨g, 0, none⟩), .func (.func 122) #[] #[.pointer (some ⟨w.heap.size, 0, none⟩), .pointer (some ⟨w.heap.size + 1, 0, none⟩)]] ((w.alloc (.cells #[.pointer (some ⟨g, 0, none⟩)] 79)).alloc (.cells #[.int .u64 0] 74)) fun e' w' => e' = .returned (.bool (e == 0)) ∧ IsS164 w0 w' g s' fin e ∧ w'.heap[w.heap.size + 1]? = some (.cells #[.int .u64 n] 74 (0, 0)) ∧ Below w0.heap.size w0 w' ∧ Alike0 g (w.heap.size + 1) ((w.alloc (.cells #[.pointer (some ⟨g, 0, none⟩)] 79)).alloc (.cells #[.int .u64 0] 74)) w' := by
  intro fin hfin; have hI2 : IsS164 w0 ((w.alloc (.cells #[.pointer (some ⟨g, 0, none⟩)] 79)).alloc (.cells #[.int .u64 0] 74)) g s0_0 s0_1 0 := (hI.alloc _).alloc _; refine try_any 122 _ g (w.heap.size + 1) 74 s0_0 s' s0_1 at' e (.int .u64 n) w0 _ hI2 (bA (bA hB _) _) (by simp) (by omega) (by omega) fin hfin eg (fun W hW => ?_); have z0 : ((w.alloc (.cells #[.pointer (some ⟨g, 0, none⟩)] 79)).alloc (.cells #[.int .u64 0] 74)).heap[w.heap.size]? = some (.cells #[.pointer (some ⟨g, 0, none⟩)] 79 (0, 0)) := kA (heap_alloc_new w _) _; have z1 : ((w.alloc (.cells #[.pointer (some ⟨g, 0, none⟩)] 79)).alloc (.cells #[.int .u64 0] 74)).heap[w.heap.size + 1]? = some (.cells #[.int .u64 0] 74 (0, 0)) := by simpa using heap_alloc_new (w.alloc _) (.cells #[.int .u64 0] 74)
  exact uint1 k g w.heap.size (w.heap.size + 1) s0_0 s' s0_1 at' n e (.int .u64 0) w0 w W (hI2.below hW) (bS (bA (bA hB _) _) hW) (by omega) (by omega) (kB z0 hW) (kB z1 hW) hu
 have HT := aM hT; have HS := aM hsz; clear hT eg hsz
 by_cases he : e = 0
 ·subst he; rw [if_pos rfl] at h; simp only [Option.some.injEq, Prod.mk.injEq] at h; obtain ⟨rfl, rfl, rfl, rfl⟩ := h; have h00 : ((0 : Int) == 0) = true := rfl; clear hI hB hu; go_enter Try.func120, Try.ntmps120
  go_wp2_with (fail)
  refine (HT.out at' ⟨by simp⟩).mono ?_; rintro e1 w1 ⟨rfl, hi, hn, hb, ha⟩; have HI1 := aM hi; have HB1 := aM hb; have HA := aM ha; have cn := (kC hn 0).trans (show _ = some (Value.int .u64 n) from rfl); clear hi hb ha hn HT
  go_wp2
  go_ret; refine ⟨rfl, HI1.out, HB1.out, by have := HA.out.1; simp at this; omega, fun i hi h1 _ => (HA.out.2 i (by simp; omega) h1 (by omega)).trans ((bA (bA (Below.refl w.heap.size w) _) _).block i hi)⟩
 ·rw [if_neg he] at h; simp only [Option.some.injEq, Prod.mk.injEq] at h; obtain ⟨rfl, rfl, rfl, rfl⟩ := h; have h00 : (e == 0) = false := beq_eq_false_iff_ne.mpr he; have HE := aM he; clear hI hB hu he; go_enter Try.func120, Try.ntmps120
  go_wp2_with (fail)
  refine (HT.out s0_1 ⟨by rw [if_neg HE.out]⟩).mono ?_; rintro e1 w1 ⟨rfl, hi, hn, hb, ha⟩; have HI1 := aM hi; have HB1 := aM hb; have HA := aM ha; clear hi hb ha hn HT
  go_wp2
  go_ret; refine ⟨rfl, HI1.out, HB1.out, by have := HA.out.1; simp at this; omega, fun i hi h1 _ => (HA.out.2 i (by simp; omega) h1 (by omega)).trans ((bA (bA (Below.refl w.heap.size w) _) _).block i hi)⟩
def wire_Reader_Count.f (k : Nat) (s0_0 : ByteArray) (s0_1 s0_2 : Int) (a1 : Int) : Option (Int × ByteArray × Int × Int) :=
 if s0_2 = 0 then (wire_Reader_count.f k s0_0 s0_1 s0_2 a1).bind fun b => (if b.2.2.2.2 = 0 then (if b.2.1 = 0 then some (b.1, b.2.2.1, b.2.2.2.1, 0) else some (0, b.2.2.1, s0_1, b.2.1)) else none) else none
theorem wire_Reader_Count.mono : ∀ a0 a1 a2 a3 k, LeO (wire_Reader_Count.f k a0 a1 a2 a3) (wire_Reader_Count.f (k + 1) a0 a1 a2 a3) := by
 intro a0 a1 a2 a3 k; unfold wire_Reader_Count.f; exact LeO.ite (LeO.bind (wire_Reader_count.mono _ _ _ _ _) (fun _ => LeO.refl _)) (LeO.refl _)
set_option maxHeartbeats 4000000 in
theorem count1 (k : Nat) (g br bm nb : Nat) (s s' : ByteArray) (at_ at' most n e : Int) (v : Value) (w0 W : World) (hI : IsS164 w0 W g s at_ 0) (hB : Below w0.heap.size w0 W) (hge : w0.heap.size ≤ nb) (hng : nb ≠ g)
  (hbr : W.heap[br]? = some (.cells #[.pointer (some ⟨g, 0, none⟩)] 79 (0, 0))) (hbm : W.heap[bm]? = some (.cells #[.int .i64 most] 3 (0, 0))) (hnb : W.heap[nb]? = some (.cells #[v] 3 (0, 0))) (h : wire_Reader_count.f k s at_ 0 most = some (n, e, s', at', 0)) :
  Calls Try.prog 110 #[.pointer (some ⟨br, 0, none⟩), .pointer (some ⟨bm, 0, none⟩), .pointer (some ⟨nb, 0, none⟩)] W fun e' w' => e' = .returned (.int .i64 e) ∧ IsS164 w0 w' g s' at' 0 ∧ w'.heap[nb]? = some (.cells #[.int .i64 n] 3 (0, 0)) ∧ Below w0.heap.size w0 w' ∧ Alike0 g nb W w' := by
 have HI := aM hI; have HB := aM hB; have HN := aM hnb; have HG := aM hge; have HH := aM h; have HNG := aM hng; have c0 := (kC hbr 0).trans (show _ = some (Value.pointer (some ⟨g, 0, none⟩)) from rfl); have cm := (kC hbm 0).trans (show _ = some (Value.int .i64 most) from rfl); clear hI hB hnb hge h hbr hng hbm; go_enter Try.func110, Try.ntmps110
 go_wp2_with (go_at_call 111; (with_reducible refine (wire_Reader_count.calls k g s at_ 0 most n e s' at' 0 w0 _ HI.out HB.out HH.out).mono ?_); rintro e1 w1 ⟨rfl, hi, hb, hk⟩; have HI1 := aM hi; have HB1 := aM hb; have HK := aM hk; have HN1 := aM (KeepBut.blk hk HN.out HNG.out (by simp)); have cn := (kC HN1.out 0).trans (show _ = some v from rfl); have fn_ := kF HN1.out 0; clear hi hb hk c0 cm)
 go_ret; exact ⟨rfl, HI1.out.far (Ne.symm HNG.out) _, by simpa using blk_set HN1.out 0 (.int .i64 n), HB1.out.setCell HG.out _, Alike0.set ⟨HK.out.1, fun i hi h1 _ => HK.out.2 i hi h1 (by simp)⟩ _ _ (.inr (.inl rfl))⟩
theorem al3 (w : World) (A B C : Obj) : (((w.alloc A).alloc B).alloc C).heap[w.heap.size]? = some A ∧ (((w.alloc A).alloc B).alloc C).heap[w.heap.size + 1]? = some B ∧ (((w.alloc A).alloc B).alloc C).heap[w.heap.size + 1 + 1]? = some C :=
 ⟨kA (kA (heap_alloc_new w A) _) _, kA (by simpa using heap_alloc_new (w.alloc A) B) _, by simpa using heap_alloc_new ((w.alloc A).alloc B) C⟩
set_option maxHeartbeats 4000000 in
theorem wire_Reader_Count.calls (k : Nat) (g : Nat) (s0_0 : ByteArray) (s0_1 s0_2 : Int) (a1 : Int) (r1 : Int) (r2 : ByteArray) (r3 r4 : Int) (w0 w : World) (hI : IsS164 w0 w g s0_0 s0_1 s0_2) (hB : Below w0.heap.size w0 w) (h : wire_Reader_Count.f k s0_0 s0_1 s0_2 a1 = some (r1, r2, r3, r4)) :
  Calls Try.prog 84 #[.pointer (some ⟨g, 0, none⟩), .int .i64 a1] w fun e w' => e = .returned (.int .i64 r1) ∧ IsS164 w0 w' g r2 r3 r4 ∧ Below w0.heap.size w0 w' ∧ KeepBut w w' g none := by
 unfold wire_Reader_Count.f at h
 by_cases h0 : s0_2 = 0
 case neg => rw [if_neg h0] at h; cases h
 subst h0; rw [if_pos rfl] at h; obtain ⟨⟨n, e, s', at', er'⟩, hu, h⟩ := Option.bind_eq_some_iff.mp h; dsimp only at h
 by_cases h1 : er' = 0
 case neg => rw [if_neg h1] at h; cases h
 subst h1; rw [if_pos rfl] at h; have hsz : w0.heap.size ≤ w.heap.size := hB.size; have hlt := hI.lt; have eg : ∀ args w, (callFunc 110 args).run Try.prog w = .ok (.enter 110 args) w := enters_of Try.func110 (by kernel_rfl) rfl; have hT : ∀ fin : Int, Aside0 (fin = if e = 0 then at' else s0_1) → Calls Try.prog 109 #[.pointer (some ⟨g, 0, none⟩), .func (.func 110) #[] #[.pointer (some ⟨w.heap.size, 0, none⟩), .pointer (some ⟨w.heap.size + 1, 0, none⟩), .pointer (some ⟨w.heap.size + 1 + 1, 0, none⟩)]] (((w.alloc (.cells #[.pointer (some ⟨g, 0, none⟩)] 79)).alloc (.cells #[.int .i64 a1] 3)).alloc (.cells #[.int .i64 0] 3)) fun e' w' => e' = .returned (.bool (e == 0)) ∧ IsS164 w0 w' g s' fin e ∧ w'.heap[w.heap.size + 1 + 1]? = some (.cells #[.int .i64 n] 3 (0, 0)) ∧ Below w0.heap.size w0 w' ∧ Alike0 g (w.heap.size + 1 + 1) (((w.alloc (.cells #[.pointer (some ⟨g, 0, none⟩)] 79)).alloc (.cells #[.int .i64 a1] 3)).alloc (.cells #[.int .i64 0] 3)) w' := by
  intro fin hfin; have hI2 : IsS164 w0 (((w.alloc (.cells #[.pointer (some ⟨g, 0, none⟩)] 79)).alloc (.cells #[.int .i64 a1] 3)).alloc (.cells #[.int .i64 0] 3)) g s0_0 s0_1 0 := ((hI.alloc _).alloc _).alloc _; refine try_any 110 _ g (w.heap.size + 1 + 1) 3 s0_0 s' s0_1 at' e (.int .i64 n) w0 _ hI2 (bA (bA (bA hB _) _) _) (by simp) (by omega) (by omega) fin hfin eg (fun W hW => ?_); obtain ⟨z0, z1, z2⟩ := al3 w (.cells #[.pointer (some ⟨g, 0, none⟩)] 79) (.cells #[.int .i64 a1] 3) (.cells #[.int .i64 0] 3); exact count1 k g w.heap.size (w.heap.size + 1) (w.heap.size + 1 + 1) s0_0 s' s0_1 at' a1 n e (.int .i64 0) w0 W (hI2.below hW) (bS (bA (bA (bA hB _) _) _) hW) (by omega) (by omega) (kB z0 hW) (kB z1 hW) (kB z2 hW) hu
 have HT := aM hT; have HS := aM hsz; clear hT eg hsz
 by_cases he : e = 0
 ·subst he; rw [if_pos rfl] at h; simp only [Option.some.injEq, Prod.mk.injEq] at h; obtain ⟨rfl, rfl, rfl, rfl⟩ := h; have h00 : ((0 : Int) == 0) = true := rfl; clear hI hB hu; go_enter Try.func84, Try.ntmps84
  go_wp2_with (fail)
  refine (HT.out at' ⟨by simp⟩).mono ?_; rintro e1 w1 ⟨rfl, hi, hn, hb, ha⟩; have HI1 := aM hi; have HB1 := aM hb; have HA := aM ha; have cn := (kC hn 0).trans (show _ = some (Value.int .i64 n) from rfl); clear hi hb ha hn HT
  go_wp2
  go_ret; refine ⟨rfl, HI1.out, HB1.out, by have := HA.out.1; simp at this; omega, fun i hi h1 _ => (HA.out.2 i (by simp; omega) h1 (by omega)).trans ((bA (bA (bA (Below.refl w.heap.size w) _) _) _).block i hi)⟩
 ·rw [if_neg he] at h; simp only [Option.some.injEq, Prod.mk.injEq] at h; obtain ⟨rfl, rfl, rfl, rfl⟩ := h; have h00 : (e == 0) = false := beq_eq_false_iff_ne.mpr he; have HE := aM he; clear hI hB hu he; go_enter Try.func84, Try.ntmps84
  go_wp2_with (fail)
  refine (HT.out s0_1 ⟨by rw [if_neg HE.out]⟩).mono ?_; rintro e1 w1 ⟨rfl, hi, hn, hb, ha⟩; have HI1 := aM hi; have HB1 := aM hb; have HA := aM ha; clear hi hb ha hn HT
  go_wp2
  go_ret; refine ⟨rfl, HI1.out, HB1.out, by have := HA.out.1; simp at this; omega, fun i hi h1 _ => (HA.out.2 i (by simp; omega) h1 (by omega)).trans ((bA (bA (bA (Below.refl w.heap.size w) _) _) _).block i hi)⟩
def wire_Reader_Err.f (s : ByteArray) (at_ er : Int) : Option (Int × ByteArray × Int × Int) := some (er, s, at_, er)
set_option maxHeartbeats 4000000 in
theorem wire_Reader_Err.calls (g : Nat) (s0_0 : ByteArray) (s0_1 s0_2 : Int) (r1 : Int) (r2 : ByteArray) (r3 r4 : Int) (w0 w : World) (hI : IsS164 w0 w g s0_0 s0_1 s0_2) (hB : Below w0.heap.size w0 w) (h : wire_Reader_Err.f s0_0 s0_1 s0_2 = some (r1, r2, r3, r4)) :
  Calls Try.prog 85 #[.pointer (some ⟨g, 0, none⟩)] w fun e w' => e = .returned (.int .i64 r1) ∧ IsS164 w0 w' g r2 r3 r4 ∧ Below w0.heap.size w0 w' ∧ KeepBut w w' g none := by
 unfold wire_Reader_Err.f at h; simp only [Option.some.injEq, Prod.mk.injEq] at h; obtain ⟨rfl, rfl, rfl, rfl⟩ := h; have HI := aM hI; have HB := aM hB; have h2 := cellS164_2 hI.1; clear hI hB; go_enter Try.func85, Try.ntmps85
 go_wp2
 go_ret; exact ⟨rfl, HI.out, HB.out, KeepBut.refl _ _ _⟩
end Go.Proofs.Ytefambkodalomaa.PAll
