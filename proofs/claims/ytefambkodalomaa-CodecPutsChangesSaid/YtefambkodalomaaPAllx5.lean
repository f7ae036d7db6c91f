-- out of a driver of this session's prover over the kit's print: Lean checks it
import Derived.Test.YtefambkodalomaaPAllx0
import Derived.Test.YtefambkodalomaaPAllx4
namespace Go.Proofs.Ytefambkodalomaa.PAll
open Go.Proofs.YtefambkodalomaaG Go.Shelf Go.Lib
open Go.RowKit Go.Proofs.YtefambkodalomaaW.PrintWords Go.Proofs.YtefambkodalomaaW.PrintLast Go.Proofs.YtefambkodalomaaW.PrintMore
attribute [local go_sem] max2_int min2_int max_two min_two max_three min_three max_four min_four   -- for this text's walks alone
set_option linter.unusedVariables false
set_option linter.unusedSimpArgs false
def codec_writer_rel.l0 : Nat → List (S63) → Int → Int → ByteArray → Int → List (S63) → List (S130) → Option (ByteArray)
 | 0, _, _, _, _, _, _, _ => none
 | k + 1, x17, x18, x19, x1000, x132000, x132001, x132002 => if x19 < x18 then (if 0 ≤ x19 then (if x19 < (x17.length : Int) then ((codec_writer_ints.f k x1000 (([(rd_T63 x17 x19).f0.f0, (rd_T63 x17 x19).f0.f1] : List Int))).bind fun t142 => ((wire_PutText.f k t142 ((rd_T63 x17 x19).f1)).bind fun t143 => (codec_writer_rel.l0 k x17 x18 (wrap64 (x19 + 1)) t143 x132000 x132001 x132002))) else (none)) else (none)) else ((codec_writer_tags.f k x1000 x132002).bind fun t144 => (some t144))
def codec_writer_rel.f (k : Nat) (s0_0 : ByteArray) (a1_0 : Int) (l1_1 : List (S63)) (l1_2 : List (S130)) : Option (ByteArray) := (codec_writer_ints.f k s0_0 (([a1_0] : List Int))).bind fun t135 => ((codec_writer_count.f k t135 (l1_1.length : Int)).bind fun t136 => (codec_writer_rel.l0 k l1_1 (l1_1.length : Int) 0 t136 a1_0 l1_1 l1_2))
theorem codec_writer_rel.mono_l : ∀ k, (∀ y0 y1 y2 y3 y4 y5 y6, LeO (codec_writer_rel.l0 k y0 y1 y2 y3 y4 y5 y6) (codec_writer_rel.l0 (k + 1) y0 y1 y2 y3 y4 y5 y6))
 | 0 => fun _ _ _ _ _ _ _ r h => by simp [codec_writer_rel.l0] at h
 | k + 1 => by
  have ih0 := codec_writer_rel.mono_l k
  ·intro y0 y1 y2 y3 y4 y5 y6
   unfold codec_writer_rel.l0
   repeat' first
   | (with_reducible exact ih0 _ _ _ _ _ _ _)
   | (with_reducible exact codec_writer_count.mono _ _ _)
   | (with_reducible exact codec_writer_ints.mono _ _ _)
   | (with_reducible exact codec_writer_tags.mono _ _ _)
   | (with_reducible exact wire_PutText.mono _ _ _)
   | (with_reducible exact LeO.refl _)
   | (with_reducible exact LeO.none _)
   | (with_reducible refine LeO.ite ?_ ?_)
   | (with_reducible refine LeO.eB ?_ (fun _ => ?_))
   | (with_reducible refine LeO.bind ?_ (fun _ => ?_))
   | exact ih0 _ _ _ _ _ _ _
   | exact codec_writer_count.mono _ _ _
   | exact codec_writer_ints.mono _ _ _
   | exact codec_writer_tags.mono _ _ _
   | exact wire_PutText.mono _ _ _
   | exact LeO.none _
   | refine LeO.ite ?_ ?_
   | refine LeO.bind ?_ (fun _ => ?_)
theorem codec_writer_rel.mono : ∀ a0 a1 a2 a3 k, LeO (codec_writer_rel.f k a0 a1 a2 a3) (codec_writer_rel.f (k + 1) a0 a1 a2 a3) := by
 intro a0 a1 a2 a3 k; have ih0 := codec_writer_rel.mono_l k; unfold codec_writer_rel.f
 repeat' first
   | (with_reducible exact ih0 _ _ _ _ _ _ _)
   | (with_reducible exact codec_writer_count.mono _ _ _)
   | (with_reducible exact codec_writer_ints.mono _ _ _)
   | (with_reducible exact codec_writer_tags.mono _ _ _)
   | (with_reducible exact wire_PutText.mono _ _ _)
   | (with_reducible exact LeO.refl _)
   | (with_reducible exact LeO.none _)
   | (with_reducible refine LeO.ite ?_ ?_)
   | (with_reducible refine LeO.eB ?_ (fun _ => ?_))
   | (with_reducible refine LeO.bind ?_ (fun _ => ?_))
   | exact ih0 _ _ _ _ _ _ _
   | exact codec_writer_count.mono _ _ _
   | exact codec_writer_ints.mono _ _ _
   | exact codec_writer_tags.mono _ _ _
   | exact wire_PutText.mono _ _ _
   | exact LeO.none _
   | refine LeO.ite ?_ ?_
   | refine LeO.bind ?_ (fun _ => ?_)
def codec_writer_rel.T7 : Bool × List (List Nat × List Nat) := (true, [([], []), ([], []), ([1], [1]), ([2], [2]), ([3], [3]), ([], []), ([5], [5]), ([4, 6], [4, 6]), ([0, 0, 1, 2, 3, 4, 5, 6, 7], [0]), ([8, 0, 1, 2, 3, 4, 5, 6, 7], [8]), ([9, 7, 7, 0, 1, 2, 3, 4, 5, 6, 7], [7, 9])])
def codec_writer_rel.B7 : List Nat := [0, 0, 2, 6, 14, 0, 32, 126, 255, 511, 1023]
theorem codec_writer_rel.tab7 : rtab .any (opsOf Try.f30 7) = codec_writer_rel.T7 := by kernel_rfl
theorem codec_writer_rel.bits7 : waitsOk codec_writer_rel.T7.2 codec_writer_rel.B7 = true := by kernel_rfl
set_option maxHeartbeats 8000000 in
set_option maxRecDepth 100000 in
theorem codec_writer_rel.calls (k : Nat) (g : Nat) (s0_0 : ByteArray) (a1_0 : Int) (A1_1 : Option Addr) (c1_1 : Nat) (l1_1 : List (S63)) (A1_2 : Option Addr) (c1_2 : Nat) (l1_2 : List (S130)) (r : ByteArray) (w0 w : World) (hI : IsS68 w0 w g s0_0) (hB : Below w0.heap.size w0 w) (hr1_1 : ∀ W_, KeepBut w W_ g none → Kd.C k63 W_ A1_1 l1_1.length l1_1) (hc1_1 : l1_1.length ≤ c1_1) (hr1_2 : ∀ W_, KeepBut w W_ g none → Kd.C k130 W_ A1_2 l1_2.length l1_2) (hc1_2 : l1_2.length ≤ c1_2) (h : codec_writer_rel.f k s0_0 a1_0 l1_1 l1_2 = some r) :
  Calls Try.prog 30 #[.pointer (some ⟨g, 0, none⟩), .agg #[.int .i64 a1_0, .slice A1_1 l1_1.length c1_1, .slice A1_2 l1_2.length c1_2]] w fun e w' => e = .returned (.tuple #[]) ∧ IsS68 w0 w' g r ∧ Below w0.heap.size w0 w' ∧ KeepBut w w' g none := by
 have hu59 := Try.underlying59; have hu63 := Try.underlying63; have HR1_1 := aM hr1_1; have HC1_1 := aM hc1_1; clear hr1_1 hc1_1; have HR1_2 := aM hr1_2; have HC1_2 := aM hc1_2; clear hr1_2 hc1_2; have HI0 := aM hI; have HK := aM (KeepBut.refl w g none); have HL := aM hB.size; clear hI; have HW0 := aM hB.size; have HB := aM hB; clear hB; have H : ((codec_writer_ints.f k s0_0 (([a1_0] : List Int))).bind fun t135 => ((codec_writer_count.f k t135 (l1_1.length : Int)).bind fun t136 => (codec_writer_rel.l0 k l1_1 (l1_1.length : Int) 0 t136 a1_0 l1_1 l1_2))) = some r := h; clear h; obtain ⟨y132, hy132⟩ : ∃ y_ : List Int, y_ = (([a1_0] : List Int)) := ⟨_, rfl⟩; replace H : ((codec_writer_ints.f k s0_0 y132).bind fun t135 => ((codec_writer_count.f k t135 (l1_1.length : Int)).bind fun t136 => (codec_writer_rel.l0 k l1_1 (l1_1.length : Int) 0 t136 a1_0 l1_1 l1_2))) = some r := by first | (rw [hy132]; with_reducible exact H) | (have H2_ := (Option.bind_some _ _).symm.trans H; rw [hy132]; with_reducible exact H2_) | (have H2_ := (Option.bind_some _ _).symm.trans H; with_reducible exact H2_) | with_reducible exact H | (rw [hy132]; exact H) | exact H
 have Ny132 := aM hy132; clear hy132; replace H := Option.bind_eq_some_iff.mp H; obtain ⟨t135, A30, H⟩ := H; (try dsimp only at H); have A3 := aM A30; clear A30; replace H := Option.bind_eq_some_iff.mp H; obtain ⟨t136, A40, H⟩ := H; (try dsimp only at H); have A4 := aM A40; clear A40; have H' := aM H; clear H; go_enter Try.func30, Try.ntmps30
 go_wp2_with (first | ((with_reducible refine gate_dst (N := 3) rfl ?_); refine bx (N := 3) (cs := #[.int .i64 a1_0, .slice A1_1 l1_1.length c1_1, .slice A1_2 l1_2.length c1_2]) (t := 59) ?_; intro gb131 hg w5 hbox hb; have BK131 := aM (hbox); have GW131 := aM (gk HK hg); have GE131 := aM (Nat.le_trans HW0.out (gk HK hg)); have NB0_131 := aM (ni68 HI0 hg); have NB131_0 := aM (ni68 HI0 hg).symm; replace HI0 := aM (IsS68.below (iS68 HI0) hb); replace HK := aM (kt HK hb); replace HB := aM (bS (iB68 HB) hb); clear hb hbox hg; have hn6 := nn NB131_0; have hz7 := bc3 BK131) | ((with_reducible refine gate_dst (N := 9) rfl ?_); refine Kd.R_lit (Kd.int .i64) _ 3 ?hg (N := 9) ?hd (xs := ([a1_0] : List Int)) (inner := [.int .i64 a1_0]) (ok := fun _ => True) (okp := fun _ => True) ?hr ?hp (fun _ hk => hk) trivial (Below.refl _ _) (Nat.le_refl _) (by simp) ?_; (case hd => rfl); (case hg => rfl); (case hr => first | (go_simp; done) | (go_simp; rfl)); (case hp => exact (Reps.one (show Kd.M (Kd.int .i64) _ _ _ a1_0 [.int .i64 a1_0] from rfl) (Reps.none _ _))); intro v133 w8 ho9 hb hg_ hnew_; clear hg_ hnew_; (first | rw [← Ny132.out] at ho9 | (simp only [Int.reduceToNat] at ho9; rw [← Ny132.out] at ho9)); have HO134 := aM (Kd.R_lower ho9 (keep_size (w := w) (g := g) (row := none) (kp HK))); replace HI0 := aM (IsS68.below (iS68 HI0) hb); replace BK131 := aM (kB (kl BK131) hb); replace HK := aM (kt HK hb); replace HB := aM (bS (iB68 HB) hb); clear hb ho9; obtain ⟨Ao10, co10, eo10⟩ := Kd.R_slice HO134.out; subst eo10) | ((with_reducible refine gate_callee (f := 50) rfl ?_); refine gL (some 10) Try.func50 #[.pointer (some ⟨g, 0, none⟩), .slice Ao10 y132.length co10] ?_; (with_reducible refine (codec_writer_ints.calls k g s0_0 _ _ y132 t135 w0 _ (iS68 HI0) (iB68 HB) ?side3 ?side4 ?side5 A3.out).mono ?_); (case side3 => repeat (first | exact (rR HO134.out).2.2 | (with_reducible refine cA ?_ _) | (with_reducible refine cN ?_ _) | (with_reducible refine cD ?_))); (case side4 => exact (rR HO134.out).2.1); (case side5 => exact far_slice (IsS68.own_ne HI0.out HO134.out (by decide))); rintro e w11 ⟨rfl, hi, hb, hk⟩; refine ⟨_, rfl, ?_⟩; replace BK131 := aM (k0 hk BK131 NB131_0); replace HO134 := aM (rM (Kd.R_keep (IsS68.apart (show IsS68 w0 _ g s0_0 from iS68 HI0) (rl HO134) (by decide)) hk (fun _ h => h.2)) (fun _ h => h.1)); replace HK := aM (ku HK hk); replace HB := aM (hb); replace HI0 := aM (hi); (try clear hb); (try clear hk); (try clear hi); have hz12 := bc3 BK131) | ((with_reducible refine gate_callee (f := 27) rfl ?_); refine gL (some 15) Try.func27 #[.pointer (some ⟨g, 0, none⟩), .int .i64 (l1_1.length : Int)] ?_; (with_reducible refine (codec_writer_count.calls k g t135 (l1_1.length : Int) t136 w0 _ (iS68 HI0) (iB68 HB) A4.out).mono ?_); rintro e w13 ⟨rfl, hi, hb, hk⟩; refine ⟨_, rfl, ?_⟩; replace BK131 := aM (k0 hk BK131 NB131_0); replace HO134 := aM (rM (Kd.R_keep (IsS68.apart (show IsS68 w0 _ g t135 from iS68 HI0) (rl HO134) (by decide)) hk (fun _ h => h.2)) (fun _ h => h.1)); replace HK := aM (ku HK hk); replace HB := aM (hb); replace HI0 := aM (hi); (try clear hb); (try clear hk); (try clear hi); have hz14 := bc3 BK131))
 go_loopg [19] k (fun kq v19 w' => ∃ (x19_1 : Int) (x1000_1 : ByteArray), v19 = .int .i64 x19_1 ∧ Aside0 (codec_writer_rel.l0 kq l1_1 (l1_1.length : Int) x19_1 x1000_1 a1_0 l1_1 l1_2 = some r) ∧ Aside0 (kq ≤ k) ∧ Aside0 (w'.heap[gb131]? = some (.cells #[.int .i64 a1_0, (.slice A1_1 l1_1.length c1_1), (.slice A1_2 l1_2.length c1_2)] 59 (0, 0))) ∧ Aside0 (IsS68 w0 w' g x1000_1) ∧ Aside0 (KeepBut w w' g none) ∧ Aside0 (Below w0.heap.size w0 w'))
 case atStart => exact ⟨(0), (t136), (by first | rfl | (simp; done) | (simp [*]; done)), H', ⟨Nat.le_refl _⟩, ⟨kl BK131⟩, ⟨iS68 HI0⟩, ⟨kp HK⟩, ⟨iB68 HB⟩⟩
 case round =>
  clear H'; (try clear hz12); (try clear hz14); (try clear hz7); obtain ⟨x19_1, x1000_1, rfl, HA, HK1, BK131, HI0, HK, HB⟩ := hrel
  cases gk with
  | zero => exact absurd HA.out (by simp [codec_writer_rel.l0])
  | succ k1 =>
   have H := HA.out; clear HA; simp only [codec_writer_rel.l0] at H
   by_cases c15 : x19_1 < (l1_1.length : Int)
   ·rw [if_pos c15] at H; have c15b0 : decide (x19_1 < (l1_1.length : Int)) = true := decide_eq_true c15; clear c15
    by_cases c16 : 0 ≤ x19_1
    ·rw [if_pos c16] at H; have c16b0 : decide (0 ≤ x19_1) = true := decide_eq_true c16; clear c16
     by_cases c17 : x19_1 < (l1_1.length : Int)
     ·rw [if_pos c17] at H; have c17b0 : decide (x19_1 < (l1_1.length : Int)) = true := decide_eq_true c17; clear c17; obtain ⟨y139, hy139⟩ : ∃ y_ : List Int, y_ = (([(rd_T63 l1_1 x19_1).f0.f0, (rd_T63 l1_1 x19_1).f0.f1] : List Int)) := ⟨_, rfl⟩; replace H : ((codec_writer_ints.f k1 x1000_1 y139).bind fun t142 => ((wire_PutText.f k1 t142 ((rd_T63 l1_1 x19_1).f1)).bind fun t143 => (codec_writer_rel.l0 k1 l1_1 (l1_1.length : Int) (wrap64 (x19_1 + 1)) t143 a1_0 l1_1 l1_2))) = some r := by first | (rw [hy139]; with_reducible exact H) | (have H2_ := (Option.bind_some _ _).symm.trans H; rw [hy139]; with_reducible exact H2_) | (have H2_ := (Option.bind_some _ _).symm.trans H; with_reducible exact H2_) | with_reducible exact H | (rw [hy139]; exact H) | exact H
      have Ny139 := aM hy139; clear hy139; replace H := Option.bind_eq_some_iff.mp H; obtain ⟨t142, A180, H⟩ := H; (try dsimp only at H); have A18 := aM A180; clear A180; replace H := Option.bind_eq_some_iff.mp H; obtain ⟨t143, A190, H⟩ := H; (try dsimp only at H); have A19 := aM A190; clear A190; have H' := aM H; clear H; have p137 : 0 ≤ (x19_1 : Int) := oT; have q137 : x19_1 < (l1_1.length : Int) := oT; obtain ⟨ad137, e137, hx137_0, hx137_1, hx137_2⟩ := at_T63 (Kd.C_foot_now HR1_1.out HK.out) x19_1 p137 q137; cases e137
      replace p137 := eq_true p137; replace q137 := eq_true q137
      try go_wp2_with (first | ((with_reducible refine gate_dst (N := 5) rfl ?_); refine bx (N := 5) (cs := #[.int .i64 0, .int .i64 0, .string (⟨#[]⟩ : ByteArray)]) (t := 63) ?_; intro gb138 hg w20 hbox hb; have BK138 := aM (hbox); have GW138 := aM (gk HK hg); have GE138 := aM (Nat.le_trans HW0.out (gk HK hg)); obtain ⟨NB131_138, NB138_131⟩ := n2 BK131 hg; have NB0_138 := aM (ni68 HI0 hg); have NB138_0 := aM (ni68 HI0 hg).symm; replace BK131 := aM (kB (kl BK131) hb); replace HI0 := aM (IsS68.below (iS68 HI0) hb); replace HK := aM (kt HK hb); replace HB := aM (bS (iB68 HB) hb); clear hb hbox hg; have hn21 := nn NB138_131; have hn22 := nn NB138_0; have hz23 := bc3 BK138) | ((with_reducible refine gate_dst (N := 30) rfl ?_); refine Kd.R_lit (Kd.int .i64) _ 3 ?hg (N := 30) ?hd (xs := ([(rd_T63 l1_1 x19_1).f0.f0, (rd_T63 l1_1 x19_1).f0.f1] : List Int)) (inner := [.int .i64 ((rd_T63 l1_1 x19_1).f0.f0), .int .i64 ((rd_T63 l1_1 x19_1).f0.f1)]) (ok := fun _ => True) (okp := fun _ => True) ?hr ?hp (fun _ hk => hk) trivial (Below.refl _ _) (Nat.le_refl _) (by simp) ?_; (case hd => rfl); (case hg => rfl); (case hr => first | (go_simp; done) | (go_simp; rfl)); (case hp => exact (Reps.one (show Kd.M (Kd.int .i64) _ _ _ ((rd_T63 l1_1 x19_1).f0.f0) [.int .i64 ((rd_T63 l1_1 x19_1).f0.f0)] from rfl) (Reps.one (show Kd.M (Kd.int .i64) _ _ _ ((rd_T63 l1_1 x19_1).f0.f1) [.int .i64 ((rd_T63 l1_1 x19_1).f0.f1)] from rfl) (Reps.none _ _)))); intro v140 w24 ho25 hb hg_ hnew_; clear hg_ hnew_; (first | rw [← Ny139.out] at ho25 | (simp only [Int.reduceToNat] at ho25; rw [← Ny139.out] at ho25)); have HO141 := aM (Kd.R_lower ho25 (keep_size (w := w) (g := g) (row := none) (kp HK))); replace BK131 := aM (kB (g := gb131) (o := .cells #[.int .i64 a1_0, .slice (some ad137) l1_1.length c1_1, .slice A1_2 l1_2.length c1_2] 59 (0, 0)) (bk BK131) hb); replace HI0 := aM (IsS68.below (show IsS68 w0 (((w20.setCell ⟨gb138, 0, none⟩ (.int .i64 ((rd_T63 l1_1 x19_1).f0.f0))).setCell ⟨gb138, 1, none⟩ (.int .i64 ((rd_T63 l1_1 x19_1).f0.f1))).setCell ⟨gb138, 2, none⟩ (.string ((rd_T63 l1_1 x19_1).f1))) g x1000_1 from iS68 HI0) hb); replace BK138 := aM (kB (g := gb138) (o := .cells #[.int .i64 ((rd_T63 l1_1 x19_1).f0.f0), .int .i64 ((rd_T63 l1_1 x19_1).f0.f1), .string ((rd_T63 l1_1 x19_1).f1)] 63 (0, 0)) (bk BK138) hb); replace HK := aM (kt HK hb); replace HB := aM (bS (iB68 HB) hb); clear hb ho25; obtain ⟨Ao26, co26, eo26⟩ := Kd.R_slice HO141.out; subst eo26) | ((with_reducible refine gate_callee (f := 50) rfl ?_); refine gL (some 31) Try.func50 #[.pointer (some ⟨g, 0, none⟩), .slice Ao26 y139.length co26] ?_; (with_reducible refine (codec_writer_ints.calls k1 g x1000_1 _ _ y139 t142 w0 _ (iS68 HI0) (iB68 HB) ?side3 ?side4 ?side5 A18.out).mono ?_); (case side3 => repeat (first | exact (rR HO141.out).2.2 | (with_reducible refine cA ?_ _) | (with_reducible refine cN ?_ _) | (with_reducible refine cD ?_))); (case side4 => exact (rR HO141.out).2.1); (case side5 => exact far_slice (IsS68.own_ne HI0.out HO141.out (by decide))); rintro e w27 ⟨rfl, hi, hb, hk⟩; refine ⟨_, rfl, ?_⟩; replace BK131 := aM (k0 hk BK131 NB131_0); replace BK138 := aM (k0 hk BK138 NB138_0); replace HO141 := aM (rM (Kd.R_keep (IsS68.apart (show IsS68 w0 _ g x1000_1 from iS68 HI0) (rl HO141) (by decide)) hk (fun _ h => h.2)) (fun _ h => h.1)); replace HK := aM (ku HK hk); replace HB := aM (hb); replace HI0 := aM (hi); (try clear hb); (try clear hk); (try clear hi)))
      replace BK131 := aM (kD BK131.out); replace BK138 := aM (kD BK138.out); replace HI0 := aM (IsS68.drew HI0.out); replace HK := aM (keep_drew HK.out); replace HB := aM (bD HB.out); clear HO141; refine start_ (n := 11) (S := fun w' => w'.cell? ⟨g, 0, none⟩ = some (.string t142) ∧ w'.cell? ⟨gb138, 0, none⟩ = some (.int .i64 ((rd_T63 l1_1 x19_1).f0.f0)) ∧ w'.cell? ⟨gb138, 1, none⟩ = some (.int .i64 ((rd_T63 l1_1 x19_1).f0.f1)) ∧ w'.cell? ⟨gb138, 2, none⟩ = some (.string ((rd_T63 l1_1 x19_1).f1))) (ds := [10]) #[false, false, false, false, false, false, false, false, false, false, false] (by kernel_rfl) rfl rfl ⟨(kC HI0.out.1 0).trans rfl, (kC BK138.out 0).trans rfl, (kC BK138.out 1).trans rfl, (kC BK138.out 2).trans rfl⟩ (fun hHeld => ?_); refine with_tabW codec_writer_rel.tab7 codec_writer_rel.bits7 (fun HT_ HW_ => ?_); generalize w27.drew = w28 at BK131 BK138 HI0 HK HB hHeld ⊢; refine pu 0 32 (ba 11 1) ?_; refine pu 1 33 (ba 11 3) ?_; refine pu 2 34 (ba 11 7) ?_; refine pu 3 35 (ba 11 15) ?_; refine pu 5 37 (ba 11 47) ?_; refine tk 4 36 (ba 11 63) ?_; refine tk 6 38 (ba 11 127) ?_; refine one_ (i := 7) (N := some 39) (ba 11 255) rfl rfl (one_of HT_.out (by kernel_rfl)) (by decide) (fun K hK => ?_); refine goes_ Try.func77 (by kernel_rfl) rfl #[.string t142, .string ((rd_T63 l1_1 x19_1).f1)] (by rfl) rfl rfl (by (try simp only [List.map_toArray, List.map_cons, List.map_nil]); first | done | rfl | (simp only [List.length_drop, List.length_take]; rfl)) ?_
      with_reducible refine (wire_PutText.calls k1 t142 ((rd_T63 l1_1 x19_1).f1) t143 _ A19.out).mono ?_
      rintro e w29 ⟨rfl, hb⟩; refine ⟨_, rfl, ?_⟩; replace BK131 := aM (kB (kl BK131) hb); replace HI0 := aM (IsS68.below (iS68 HI0) hb); replace BK138 := aM (kB (kl BK138) hb); replace HK := aM (kt HK hb); replace HB := aM (bS (iB68 HB) hb)
      (try clear hb)
      (try clear hb2)
      (try clear hk)
      (try clear hi)
      refine hK.out _ _ ⟨(kC HI0.out.1 0).trans rfl, (kC BK138.out 0).trans rfl, (kC BK138.out 1).trans rfl, (kC BK138.out 2).trans rfl⟩ (fun hHeld => ?_); clear hK K; refine norm_ (a' := ?_) ?_ ?_; rotate_left
      ·show Act.put _ (some 39) _ = _
       simp only [Act.put, sA, sB, sC, i64_w, i32_w]; rfl
      refine pu 8 40 (ba 11 511) ?_; refine pu 9 41 (ba 11 1023) ?_; have hcs_ := cellS68_0 HI0.out.1; have hfs_ := kF HI0.out.1 0; refine last_ (i := 10) (N := none) (ba 11 2047) rfl rfl (one_of HT_.out (by kernel_rfl)) (by decide) (fun K hK => ?_); refine skip_ (w1 := ?_) (by rfl) rfl ?_ ?_; rotate_left
      ·go_simp; rfl
      refine hK.out _ _ ?_; clear hK K; refine done_ (done_of HT_.out (by kernel_rfl)) ?_
      try go_wp2
      go_roundg k1
      case measure => have := HK1.out; omega
      case rel => exact ⟨(wrap64 (x19_1 + 1)), (t143), (by first | rfl | (simp; done) | (simp [*]; done)), H', ⟨by have := HK1.out; omega⟩, ⟨bk BK131⟩, ⟨iS68 HI0⟩, ⟨kp HK⟩, ⟨iB68 HB⟩⟩
     ·rw [if_neg c17] at H; exact absurd H (by simp)
    ·rw [if_neg c16] at H; exact absurd H (by simp)
   ·rw [if_neg c15] at H; have c15b0 : decide (x19_1 < (l1_1.length : Int)) = false := decide_eq_false c15; clear c15; replace H := Option.bind_eq_some_iff.mp H; obtain ⟨t144, A300, H⟩ := H; (try dsimp only at H); have A30 := aM A300; clear A300; obtain rfl := Option.some.inj H; have hn31 := nn NB131_0; have hz32 := bc3 BK131
    go_wp2_with (first | ((with_reducible refine gate_callee (f := 76) rfl ?_); refine gL (some 46) Try.func76 #[.pointer (some ⟨g, 0, none⟩), .slice A1_2 l1_2.length c1_2] ?_; (with_reducible refine (codec_writer_tags.calls k1 g x1000_1 _ _ l1_2 t144 w0 _ (iS68 HI0) (iB68 HB) ?side3 ?side4 A30.out).mono ?_); (case side3 => exact Kd.C_foot_step HR1_2.out (kp HK)); (case side4 => exact HC1_2.out); rintro e w33 ⟨rfl, hi, hb, hk⟩; refine ⟨_, rfl, ?_⟩; replace HK := aM (ku HK hk); replace HI0 := aM (hi); replace HB := aM (hb); clear BK131; (try clear hb); (try clear hk); (try clear hi)))
    first | go_end0 | ((try simp only [Exit.inBlock, Exit.then]); refine bodyPost_ret (results_none rfl _ _ _) rfl ?_)
    exact ⟨by first | rfl | (simp [errW_none, errW_some] <;> rfl) | (simp [*, errW_none, errW_some] <;> rfl), iS68 HI0, iB68 HB, kp HK⟩
mutual
def codec_PutData.l0 : Nat → List (S53) → Int → Int → List (S53) → List (S56) → List (S59) → ByteArray → Option (ByteArray)
 | 0, _, _, _, _, _, _, _ => none
 | k + 1, x18, x19, x20, x146000, x146001, x146002, x147000 => if x20 < x19 then (if 0 ≤ x20 then (if x20 < (x18.length : Int) then ((codec_writer_node.f k x147000 ((rd_T53 x18 x20).f0) ((rd_T53 x18 x20).f1.f0) ((rd_T53 x18 x20).f1.f1) ((rd_T53 x18 x20).f2)).bind fun t150 => (codec_PutData.l0 k x18 x19 (wrap64 (x20 + 1)) x146000 x146001 x146002 t150)) else (none)) else (none)) else ((codec_writer_count.f k x147000 (x146001.length : Int)).bind fun t151 => (codec_PutData.l1 k x146001 (x146001.length : Int) 0 x146000 x146001 x146002 t151))
def codec_PutData.l1 : Nat → List (S56) → Int → Int → List (S53) → List (S56) → List (S59) → ByteArray → Option (ByteArray)
 | 0, _, _, _, _, _, _, _ => none
 | k + 1, x34, x35, x36, x146000, x146001, x146002, x147000 => if x36 < x35 then (if 0 ≤ x36 then (if x36 < (x34.length : Int) then ((codec_writer_way.f k x147000 ((rd_T56 x34 x36).f0) ((rd_T56 x34 x36).f1) ((rd_T56 x34 x36).f2)).bind fun t154 => (codec_PutData.l1 k x34 x35 (wrap64 (x36 + 1)) x146000 x146001 x146002 t154)) else (none)) else (none)) else ((codec_writer_count.f k x147000 (x146002.length : Int)).bind fun t155 => (codec_PutData.l2 k x146002 (x146002.length : Int) 0 t155))
def codec_PutData.l2 : Nat → List (S59) → Int → Int → ByteArray → Option (ByteArray)
 | 0, _, _, _, _ => none
 | k + 1, x50, x51, x52, x147000 => if x52 < x51 then (if 0 ≤ x52 then (if x52 < (x50.length : Int) then ((codec_writer_rel.f k x147000 ((rd_T59 x50 x52).f0) ((rd_T59 x50 x52).f1) ((rd_T59 x50 x52).f2)).bind fun t158 => (codec_PutData.l2 k x50 x51 (wrap64 (x52 + 1)) t158)) else (none)) else (none)) else (some x147000)
end
def codec_PutData.f (k : Nat) (l0_0 : List (S53)) (l0_1 : List (S56)) (l0_2 : List (S59)) : Option (ByteArray) := (codec_writer_count.f k (⟨#[]⟩ : ByteArray) (l0_0.length : Int)).bind fun t147 => (codec_PutData.l0 k l0_0 (l0_0.length : Int) 0 l0_0 l0_1 l0_2 t147)
theorem codec_PutData.mono_l : ∀ k, (∀ y0 y1 y2 y3 y4 y5 y6, LeO (codec_PutData.l0 k y0 y1 y2 y3 y4 y5 y6) (codec_PutData.l0 (k + 1) y0 y1 y2 y3 y4 y5 y6)) ∧ (∀ y0 y1 y2 y3 y4 y5 y6, LeO (codec_PutData.l1 k y0 y1 y2 y3 y4 y5 y6) (codec_PutData.l1 (k + 1) y0 y1 y2 y3 y4 y5 y6)) ∧ (∀ y0 y1 y2 y3, LeO (codec_PutData.l2 k y0 y1 y2 y3) (codec_PutData.l2 (k + 1) y0 y1 y2 y3))
 | 0 => ⟨fun _ _ _ _ _ _ _ r h => by simp [codec_PutData.l0] at h, fun _ _ _ _ _ _ _ r h => by simp [codec_PutData.l1] at h, fun _ _ _ _ r h => by simp [codec_PutData.l2] at h⟩
 | k + 1 => by
  obtain ⟨ih0, ih1, ih2⟩ := codec_PutData.mono_l k
  refine ⟨?_, ?_, ?_⟩
  ·intro y0 y1 y2 y3 y4 y5 y6
   unfold codec_PutData.l0
   repeat' first
   | (with_reducible exact ih0 _ _ _ _ _ _ _)
   | (with_reducible exact ih1 _ _ _ _ _ _ _)
   | (with_reducible exact ih2 _ _ _ _)
   | (with_reducible exact codec_writer_count.mono _ _ _)
   | (with_reducible exact codec_writer_node.mono _ _ _ _ _ _)
   | (with_reducible exact codec_writer_rel.mono _ _ _ _ _)
   | (with_reducible exact codec_writer_way.mono _ _ _ _ _)
   | (with_reducible exact LeO.refl _)
   | (with_reducible exact LeO.none _)
   | (with_reducible refine LeO.ite ?_ ?_)
   | (with_reducible refine LeO.eB ?_ (fun _ => ?_))
   | (with_reducible refine LeO.bind ?_ (fun _ => ?_))
   | exact ih0 _ _ _ _ _ _ _
   | exact ih1 _ _ _ _ _ _ _
   | exact ih2 _ _ _ _
   | exact codec_writer_count.mono _ _ _
   | exact codec_writer_node.mono _ _ _ _ _ _
   | exact codec_writer_rel.mono _ _ _ _ _
   | exact codec_writer_way.mono _ _ _ _ _
   | exact LeO.none _
   | refine LeO.ite ?_ ?_
   | refine LeO.bind ?_ (fun _ => ?_)
  ·intro y0 y1 y2 y3 y4 y5 y6
   unfold codec_PutData.l1
   repeat' first
   | (with_reducible exact ih0 _ _ _ _ _ _ _)
   | (with_reducible exact ih1 _ _ _ _ _ _ _)
   | (with_reducible exact ih2 _ _ _ _)
   | (with_reducible exact codec_writer_count.mono _ _ _)
   | (with_reducible exact codec_writer_node.mono _ _ _ _ _ _)
   | (with_reducible exact codec_writer_rel.mono _ _ _ _ _)
   | (with_reducible exact codec_writer_way.mono _ _ _ _ _)
   | (with_reducible exact LeO.refl _)
   | (with_reducible exact LeO.none _)
   | (with_reducible refine LeO.ite ?_ ?_)
   | (with_reducible refine LeO.eB ?_ (fun _ => ?_))
   | (with_reducible refine LeO.bind ?_ (fun _ => ?_))
   | exact ih0 _ _ _ _ _ _ _
   | exact ih1 _ _ _ _ _ _ _
   | exact ih2 _ _ _ _
   | exact codec_writer_count.mono _ _ _
   | exact codec_writer_node.mono _ _ _ _ _ _
   | exact codec_writer_rel.mono _ _ _ _ _
   | exact codec_writer_way.mono _ _ _ _ _
   | exact LeO.none _
   | refine LeO.ite ?_ ?_
   | refine LeO.bind ?_ (fun _ => ?_)
  ·intro y0 y1 y2 y3
   unfold codec_PutData.l2
   repeat' first
   | (with_reducible exact ih0 _ _ _ _ _ _ _)
   | (with_reducible exact ih1 _ _ _ _ _ _ _)
   | (with_reducible exact ih2 _ _ _ _)
   | (with_reducible exact codec_writer_count.mono _ _ _)
   | (with_reducible exact codec_writer_node.mono _ _ _ _ _ _)
   | (with_reducible exact codec_writer_rel.mono _ _ _ _ _)
   | (with_reducible exact codec_writer_way.mono _ _ _ _ _)
   | (with_reducible exact LeO.refl _)
   | (with_reducible exact LeO.none _)
   | (with_reducible refine LeO.ite ?_ ?_)
   | (with_reducible refine LeO.eB ?_ (fun _ => ?_))
   | (with_reducible refine LeO.bind ?_ (fun _ => ?_))
   | exact ih0 _ _ _ _ _ _ _
   | exact ih1 _ _ _ _ _ _ _
   | exact ih2 _ _ _ _
   | exact codec_writer_count.mono _ _ _
   | exact codec_writer_node.mono _ _ _ _ _ _
   | exact codec_writer_rel.mono _ _ _ _ _
   | exact codec_writer_way.mono _ _ _ _ _
   | exact LeO.none _
   | refine LeO.ite ?_ ?_
   | refine LeO.bind ?_ (fun _ => ?_)
theorem codec_PutData.mono : ∀ a0 a1 a2 k, LeO (codec_PutData.f k a0 a1 a2) (codec_PutData.f (k + 1) a0 a1 a2) := by
 intro a0 a1 a2 k; obtain ⟨ih0, ih1, ih2⟩ := codec_PutData.mono_l k; unfold codec_PutData.f
 repeat' first
   | (with_reducible exact ih0 _ _ _ _ _ _ _)
   | (with_reducible exact ih1 _ _ _ _ _ _ _)
   | (with_reducible exact ih2 _ _ _ _)
   | (with_reducible exact codec_writer_count.mono _ _ _)
   | (with_reducible exact codec_writer_node.mono _ _ _ _ _ _)
   | (with_reducible exact codec_writer_rel.mono _ _ _ _ _)
   | (with_reducible exact codec_writer_way.mono _ _ _ _ _)
   | (with_reducible exact LeO.refl _)
   | (with_reducible exact LeO.none _)
   | (with_reducible refine LeO.ite ?_ ?_)
   | (with_reducible refine LeO.eB ?_ (fun _ => ?_))
   | (with_reducible refine LeO.bind ?_ (fun _ => ?_))
   | exact ih0 _ _ _ _ _ _ _
   | exact ih1 _ _ _ _ _ _ _
   | exact ih2 _ _ _ _
   | exact codec_writer_count.mono _ _ _
   | exact codec_writer_node.mono _ _ _ _ _ _
   | exact codec_writer_rel.mono _ _ _ _ _
   | exact codec_writer_way.mono _ _ _ _ _
   | exact LeO.none _
   | refine LeO.ite ?_ ?_
   | refine LeO.bind ?_ (fun _ => ?_)
set_option maxHeartbeats 8000000 in
set_option maxRecDepth 100000 in
theorem codec_PutData.calls (k : Nat) (A0_0 : Option Addr) (c0_0 : Nat) (l0_0 : List (S53)) (A0_1 : Option Addr) (c0_1 : Nat) (l0_1 : List (S56)) (A0_2 : Option Addr) (c0_2 : Nat) (l0_2 : List (S59)) (r : ByteArray) (w : World) (hr0_0 : Kd.C k53 w A0_0 l0_0.length l0_0) (hc0_0 : l0_0.length ≤ c0_0) (hr0_1 : Kd.C k56 w A0_1 l0_1.length l0_1) (hc0_1 : l0_1.length ≤ c0_1) (hr0_2 : Kd.C k59 w A0_2 l0_2.length l0_2) (hc0_2 : l0_2.length ≤ c0_2) (h : codec_PutData.f k l0_0 l0_1 l0_2 = some r) :
  Calls Try.prog 12 #[.agg #[.slice A0_0 l0_0.length c0_0, .slice A0_1 l0_1.length c0_1, .slice A0_2 l0_2.length c0_2]] w fun e w' => e = .returned (.string r) ∧ Below w.heap.size w w' := by
 have hu26 := Try.underlying26; have hu68 := Try.underlying68; have hu53 := Try.underlying53; have hu56 := Try.underlying56; have hu59 := Try.underlying59; have HR0_0 := aM hr0_0; have HC0_0 := aM hc0_0; clear hr0_0 hc0_0; have HR0_1 := aM hr0_1; have HC0_1 := aM hc0_1; clear hr0_1 hc0_1; have HR0_2 := aM hr0_2; have HC0_2 := aM hc0_2; clear hr0_2 hc0_2; have HB := aM (Below.refl w.heap.size w); have H : ((codec_writer_count.f k (⟨#[]⟩ : ByteArray) (l0_0.length : Int)).bind fun t147 => (codec_PutData.l0 k l0_0 (l0_0.length : Int) 0 l0_0 l0_1 l0_2 t147)) = some r := h; clear h; replace H := Option.bind_eq_some_iff.mp H; obtain ⟨t147, A20, H⟩ := H; (try dsimp only at H); have A2 := aM A20; clear A20; have H' := aM H; clear H; go_enter Try.func12, Try.ntmps12
 go_wp2_with (first | ((with_reducible refine gate_dst (N := 1) rfl ?_); refine bx (N := 1) (cs := #[.slice A0_0 l0_0.length c0_0, .slice A0_1 l0_1.length c0_1, .slice A0_2 l0_2.length c0_2]) (t := 26) ?_; intro gb145 hg w3 hbox hb; have BK145 := aM (hbox); have GE145 := aM (gw (w := w) hg); replace HB := aM (bS (bl) hb); clear hb hbox hg) | ((with_reducible refine gate_dst (N := 11) rfl ?_); refine bx (N := 11) (cs := #[.string (⟨#[]⟩ : ByteArray)]) (t := 68) ?_; intro gb146 hg w4 hbox hb; have HI146 := aM ((show IsS68 w w4 gb146 (⟨#[]⟩ : ByteArray) from ⟨hbox, (by rw [hg]; exact (below_size (bl)) : w.heap.size ≤ gb146)⟩)); obtain ⟨NB145_146, NB146_145⟩ := n2 BK145 hg; replace BK145 := aM (kB (kl BK145) hb); replace HB := aM (bS (bl) hb); clear hb hbox hg; have hn5 := nn NB145_146; have hz6 := bc3 BK145) | ((with_reducible refine gate_callee (f := 27) rfl ?_); refine gL (some 16) Try.func27 #[.pointer (some ⟨gb146, 0, none⟩), .int .i64 (l0_0.length : Int)] ?_; (with_reducible refine (codec_writer_count.calls k gb146 (⟨#[]⟩ : ByteArray) (l0_0.length : Int) t147 w _ (iS68 HI146) (iB68 HB) A2.out).mono ?_); rintro e w7 ⟨rfl, hi, hb, hk⟩; refine ⟨_, rfl, ?_⟩; replace BK145 := aM (k0 hk BK145 NB145_146); replace HB := aM (hb); replace HI146 := aM (hi); (try clear hb); (try clear hk); (try clear hi); have hz8 := bc3 BK145))
 go_loopg [20] k (fun kq v20 w' => ∃ (x20_1 : Int) (x147000_1 : ByteArray), v20 = .int .i64 x20_1 ∧ Aside0 (codec_PutData.l0 kq l0_0 (l0_0.length : Int) x20_1 l0_0 l0_1 l0_2 x147000_1 = some r) ∧ Aside0 (kq ≤ k) ∧ Aside0 (w'.heap[gb145]? = some (.cells #[(.slice A0_0 l0_0.length c0_0), (.slice A0_1 l0_1.length c0_1), (.slice A0_2 l0_2.length c0_2)] 26 (0, 0))) ∧ Aside0 (IsS68 w w' gb146 x147000_1) ∧ Aside0 (Below w.heap.size w w'))
 case atStart => exact ⟨(0), (t147), (by first | rfl | (simp; done) | (simp [*]; done)), H', ⟨Nat.le_refl _⟩, ⟨kl BK145⟩, ⟨iS68 HI146⟩, ⟨iB68 HB⟩⟩
 case round =>
  clear H'; (try clear hz6); (try clear hz8); obtain ⟨x20_1, x147000_1, rfl, HA, HK1, BK145, HI146, HB⟩ := hrel
  cases gk with
  | zero => exact absurd HA.out (by simp [codec_PutData.l0])
  | succ k1 =>
   have H := HA.out; clear HA; simp only [codec_PutData.l0] at H
   by_cases c9 : x20_1 < (l0_0.length : Int)
   ·rw [if_pos c9] at H; have c9b0 : decide (x20_1 < (l0_0.length : Int)) = true := decide_eq_true c9; clear c9
    by_cases c10 : 0 ≤ x20_1
    ·rw [if_pos c10] at H; have c10b0 : decide (0 ≤ x20_1) = true := decide_eq_true c10; clear c10
     by_cases c11 : x20_1 < (l0_0.length : Int)
     ·rw [if_pos c11] at H; have c11b0 : decide (x20_1 < (l0_0.length : Int)) = true := decide_eq_true c11; clear c11; replace H := Option.bind_eq_some_iff.mp H; obtain ⟨t150, A120, H⟩ := H; (try dsimp only at H); have A12 := aM A120; clear A120; have H' := aM H; clear H; have p148 : 0 ≤ (x20_1 : Int) := oT; have q148 : x20_1 < (l0_0.length : Int) := oT; obtain ⟨ad148, A148_3, c148_3, e148, hx148_0, hx148_1, hx148_2, hx148_3, hl148_3, hi148_3⟩ := at_T53 HR0_0.out x20_1 p148 q148; cases e148
      replace hx148_0 := hs HB.out hx148_0; replace hx148_1 := hs HB.out hx148_1; replace hx148_2 := hs HB.out hx148_2; replace hx148_3 := hs HB.out hx148_3; have HR148_3 := aM hi148_3; have HC148_3 := aM hl148_3; clear hi148_3 hl148_3; replace p148 := eq_true p148; replace q148 := eq_true q148
      go_wp2_with (first | ((with_reducible refine gate_dst (N := 5) rfl ?_); refine bx (N := 5) (cs := #[.int .i64 0, .int .i64 0, .int .i64 0, .slice none 0 0]) (t := 53) ?_; intro gb149 hg w13 hbox hb; have BK149 := aM (hbox); have GE149 := aM ((by rw [hg]; exact (below_size (iB68 HB)) : w.heap.size ≤ gb149)); obtain ⟨NB145_149, NB149_145⟩ := n2 BK145 hg; have NB146_149 := aM (ni68 HI146 hg); have NB149_146 := aM (ni68 HI146 hg).symm; replace BK145 := aM (kB (kl BK145) hb); replace HI146 := aM (IsS68.below (iS68 HI146) hb); replace HB := aM (bS (iB68 HB) hb); clear hb hbox hg; have hn14 := nn NB149_145; have hn15 := nn NB149_146; have hz16 := bc4 BK149) | ((with_reducible refine gate_callee (f := 28) rfl ?_); refine gL (some 26) Try.func28 #[.pointer (some ⟨gb146, 0, none⟩), .agg #[.int .i64 ((rd_T53 l0_0 x20_1).f0), .int .i64 ((rd_T53 l0_0 x20_1).f1.f0), .int .i64 ((rd_T53 l0_0 x20_1).f1.f1), .slice A148_3 ((rd_T53 l0_0 x20_1).f2).length c148_3]] ?_; (with_reducible refine (codec_writer_node.calls k1 gb146 x147000_1 ((rd_T53 l0_0 x20_1).f0) ((rd_T53 l0_0 x20_1).f1.f0) ((rd_T53 l0_0 x20_1).f1.f1) _ _ ((rd_T53 l0_0 x20_1).f2) t150 w _ (iS68 HI146) (iB68 HB) ?side3 ?side4 A12.out).mono ?_); (case side3 => exact Kd.C_foot_came k130_heap HR148_3.out (iB68 HB) (IsS68.ge HI146.out)); (case side4 => exact HC148_3.out); rintro e w17 ⟨rfl, hi, hb, hk⟩; refine ⟨_, rfl, ?_⟩; replace BK145 := aM (kb hk BK145 NB145_146 (.cells #[.slice (some ad148) l0_0.length c0_0, .slice A0_1 l0_1.length c0_1, .slice A0_2 l0_2.length c0_2] 26 (0, 0))); replace BK149 := aM (kb hk BK149 NB149_146 (.cells #[.int .i64 ((rd_T53 l0_0 x20_1).f0), .int .i64 ((rd_T53 l0_0 x20_1).f1.f0), .int .i64 ((rd_T53 l0_0 x20_1).f1.f1), .slice A148_3 ((rd_T53 l0_0 x20_1).f2).length c148_3] 53 (0, 0))); replace HB := aM (hb); replace HI146 := aM (hi); (try clear hb); (try clear hk); (try clear hi)))
      go_roundg k1
      case measure => have := HK1.out; omega
      case rel => exact ⟨(wrap64 (x20_1 + 1)), (t150), (by first | rfl | (simp; done) | (simp [*]; done)), H', ⟨by have := HK1.out; omega⟩, ⟨kl BK145⟩, ⟨iS68 HI146⟩, ⟨iB68 HB⟩⟩
     ·rw [if_neg c11] at H; exact absurd H (by simp)
    ·rw [if_neg c10] at H; exact absurd H (by simp)
   ·rw [if_neg c9] at H; have c9b0 : decide (x20_1 < (l0_0.length : Int)) = false := decide_eq_false c9; clear c9; replace H := Option.bind_eq_some_iff.mp H; obtain ⟨t151, A180, H⟩ := H; (try dsimp only at H); have A18 := aM A180; clear A180; have H' := aM H; clear H; have hn19 := nn NB145_146; have hz20 := bc3 BK145
    go_wp2_with (first | ((with_reducible refine gate_callee (f := 27) rfl ?_); refine gL (some 32) Try.func27 #[.pointer (some ⟨gb146, 0, none⟩), .int .i64 (l0_1.length : Int)] ?_; (with_reducible refine (codec_writer_count.calls k1 gb146 x147000_1 (l0_1.length : Int) t151 w _ (iS68 HI146) (iB68 HB) A18.out).mono ?_); rintro e w21 ⟨rfl, hi, hb, hk⟩; refine ⟨_, rfl, ?_⟩; replace BK145 := aM (k0 hk BK145 NB145_146); replace HB := aM (hb); replace HI146 := aM (hi); (try clear hb); (try clear hk); (try clear hi); have hz22 := bc3 BK145))
    go_loopg [36] k1 (fun kq v36 w' => ∃ (x36_2 : Int) (x147000_2 : ByteArray), v36 = .int .i64 x36_2 ∧ Aside0 (codec_PutData.l1 kq l0_1 (l0_1.length : Int) x36_2 l0_0 l0_1 l0_2 x147000_2 = some r) ∧ Aside0 (kq ≤ k1) ∧ Aside0 (w'.heap[gb145]? = some (.cells #[(.slice A0_0 l0_0.length c0_0), (.slice A0_1 l0_1.length c0_1), (.slice A0_2 l0_2.length c0_2)] 26 (0, 0))) ∧ Aside0 (IsS68 w w' gb146 x147000_2) ∧ Aside0 (Below w.heap.size w w'))
    case atStart => exact ⟨(0), (t151), (by first | rfl | (simp; done) | (simp [*]; done)), H', ⟨Nat.le_refl _⟩, ⟨kl BK145⟩, ⟨iS68 HI146⟩, ⟨iB68 HB⟩⟩
    case round =>
     clear H'; (try clear c9); (try clear c9b0); (try clear c10); (try clear c10b0); (try clear c11); (try clear c11b0); (try clear hz16); (try clear hz20); (try clear hz22); (try clear hz6); (try clear hz8); (try clear hx148_0); (try clear hx148_1); (try clear hx148_2); (try clear hx148_3); (try clear p148); (try clear q148); obtain ⟨x36_2, x147000_2, rfl, HA, HK2, BK145, HI146, HB⟩ := hrel
     cases gk with
     | zero => exact absurd HA.out (by simp [codec_PutData.l1])
     | succ k2 =>
      have H := HA.out; clear HA; simp only [codec_PutData.l1] at H
      by_cases c23 : x36_2 < (l0_1.length : Int)
      ·rw [if_pos c23] at H; have c23b0 : decide (x36_2 < (l0_1.length : Int)) = true := decide_eq_true c23; clear c23
       by_cases c24 : 0 ≤ x36_2
       ·rw [if_pos c24] at H; have c24b0 : decide (0 ≤ x36_2) = true := decide_eq_true c24; clear c24
        by_cases c25 : x36_2 < (l0_1.length : Int)
        ·rw [if_pos c25] at H; have c25b0 : decide (x36_2 < (l0_1.length : Int)) = true := decide_eq_true c25; clear c25; replace H := Option.bind_eq_some_iff.mp H; obtain ⟨t154, A260, H⟩ := H; (try dsimp only at H); have A26 := aM A260; clear A260; have H' := aM H; clear H; have p152 : 0 ≤ (x36_2 : Int) := oT; have q152 : x36_2 < (l0_1.length : Int) := oT; obtain ⟨ad152, A152_1, c152_1, A152_2, c152_2, e152, hx152_0, hx152_1, hx152_2, hl152_1, hi152_1, hl152_2, hi152_2⟩ := at_T56 HR0_1.out x36_2 p152 q152; cases e152
         replace hx152_0 := hs HB.out hx152_0; replace hx152_1 := hs HB.out hx152_1; replace hx152_2 := hs HB.out hx152_2; have HR152_1 := aM hi152_1; have HC152_1 := aM hl152_1; clear hi152_1 hl152_1; have HR152_2 := aM hi152_2; have HC152_2 := aM hl152_2; clear hi152_2 hl152_2; replace p152 := eq_true p152; replace q152 := eq_true q152
         go_wp2_with (first | ((with_reducible refine gate_dst (N := 7) rfl ?_); refine bx (N := 7) (cs := #[.int .i64 0, .slice none 0 0, .slice none 0 0]) (t := 56) ?_; intro gb153 hg w27 hbox hb; have BK153 := aM (hbox); have GE153 := aM ((by rw [hg]; exact (below_size (iB68 HB)) : w.heap.size ≤ gb153)); obtain ⟨NB145_153, NB153_145⟩ := n2 BK145 hg; have NB146_153 := aM (ni68 HI146 hg); have NB153_146 := aM (ni68 HI146 hg).symm; replace BK145 := aM (kB (kl BK145) hb); replace HI146 := aM (IsS68.below (iS68 HI146) hb); replace HB := aM (bS (iB68 HB) hb); clear hb hbox hg; have hn28 := nn NB153_145; have hn29 := nn NB153_146; have hz30 := bc3 BK153) | ((with_reducible refine gate_callee (f := 29) rfl ?_); refine gL (some 42) Try.func29 #[.pointer (some ⟨gb146, 0, none⟩), .agg #[.int .i64 ((rd_T56 l0_1 x36_2).f0), .slice A152_1 ((rd_T56 l0_1 x36_2).f1).length c152_1, .slice A152_2 ((rd_T56 l0_1 x36_2).f2).length c152_2]] ?_; (with_reducible refine (codec_writer_way.calls k2 gb146 x147000_2 ((rd_T56 l0_1 x36_2).f0) _ _ ((rd_T56 l0_1 x36_2).f1) _ _ ((rd_T56 l0_1 x36_2).f2) t154 w _ (iS68 HI146) (iB68 HB) ?side3 ?side4 ?side5 ?side6 ?side7 A26.out).mono ?_); (case side3 => exact Kd.C_below HR152_1.out (iB68 HB)); (case side4 => exact HC152_1.out); (case side5 => exact Kd.far_C 0 HR152_1.out (IsS68.ge HI146.out)); (case side6 => exact Kd.C_foot_came k130_heap HR152_2.out (iB68 HB) (IsS68.ge HI146.out)); (case side7 => exact HC152_2.out); rintro e w31 ⟨rfl, hi, hb, hk⟩; refine ⟨_, rfl, ?_⟩; replace BK145 := aM (kb hk BK145 NB145_146 (.cells #[.slice A0_0 l0_0.length c0_0, .slice (some ad152) l0_1.length c0_1, .slice A0_2 l0_2.length c0_2] 26 (0, 0))); replace BK153 := aM (kb hk BK153 NB153_146 (.cells #[.int .i64 ((rd_T56 l0_1 x36_2).f0), .slice A152_1 ((rd_T56 l0_1 x36_2).f1).length c152_1, .slice A152_2 ((rd_T56 l0_1 x36_2).f2).length c152_2] 56 (0, 0))); replace HB := aM (hb); replace HI146 := aM (hi); (try clear hb); (try clear hk); (try clear hi)))
         go_roundg k2
         case measure => have := HK1.out; have := HK2.out; omega
         case rel => exact ⟨(wrap64 (x36_2 + 1)), (t154), (by first | rfl | (simp; done) | (simp [*]; done)), H', ⟨by have := HK1.out; have := HK2.out; omega⟩, ⟨kl BK145⟩, ⟨iS68 HI146⟩, ⟨iB68 HB⟩⟩
        ·rw [if_neg c25] at H; exact absurd H (by simp)
       ·rw [if_neg c24] at H; exact absurd H (by simp)
      ·rw [if_neg c23] at H; have c23b0 : decide (x36_2 < (l0_1.length : Int)) = false := decide_eq_false c23; clear c23; replace H := Option.bind_eq_some_iff.mp H; obtain ⟨t155, A320, H⟩ := H; (try dsimp only at H); have A32 := aM A320; clear A320; have H' := aM H; clear H; have hn33 := nn NB145_146; have hz34 := bc3 BK145
       go_wp2_with (first | ((with_reducible refine gate_callee (f := 27) rfl ?_); refine gL (some 48) Try.func27 #[.pointer (some ⟨gb146, 0, none⟩), .int .i64 (l0_2.length : Int)] ?_; (with_reducible refine (codec_writer_count.calls k2 gb146 x147000_2 (l0_2.length : Int) t155 w _ (iS68 HI146) (iB68 HB) A32.out).mono ?_); rintro e w35 ⟨rfl, hi, hb, hk⟩; refine ⟨_, rfl, ?_⟩; replace BK145 := aM (k0 hk BK145 NB145_146); replace HB := aM (hb); replace HI146 := aM (hi); (try clear hb); (try clear hk); (try clear hi); have hz36 := bc3 BK145))
       go_loopg [52] k2 (fun kq v52 w' => ∃ (x52_3 : Int) (x147000_3 : ByteArray), v52 = .int .i64 x52_3 ∧ Aside0 (codec_PutData.l2 kq l0_2 (l0_2.length : Int) x52_3 x147000_3 = some r) ∧ Aside0 (kq ≤ k2) ∧ Aside0 (w'.heap[gb145]? = some (.cells #[(.slice A0_0 l0_0.length c0_0), (.slice A0_1 l0_1.length c0_1), (.slice A0_2 l0_2.length c0_2)] 26 (0, 0))) ∧ Aside0 (IsS68 w w' gb146 x147000_3) ∧ Aside0 (Below w.heap.size w w'))
       case atStart => exact ⟨(0), (t155), (by first | rfl | (simp; done) | (simp [*]; done)), H', ⟨Nat.le_refl _⟩, ⟨kl BK145⟩, ⟨iS68 HI146⟩, ⟨iB68 HB⟩⟩
       case round =>
        clear H'; (try clear c9); (try clear c9b0); (try clear c10); (try clear c10b0); (try clear c11); (try clear c11b0); (try clear c23); (try clear c23b0); (try clear c24); (try clear c24b0); (try clear c25); (try clear c25b0); (try clear hz16); (try clear hz20); (try clear hz22); (try clear hz30); (try clear hz34); (try clear hz36); (try clear hz6); (try clear hz8); (try clear hx148_0); (try clear hx148_1); (try clear hx148_2); (try clear hx148_3); (try clear hx152_0); (try clear hx152_1); (try clear hx152_2); (try clear p148); (try clear p152); (try clear q148); (try clear q152); obtain ⟨x52_3, x147000_3, rfl, HA, HK3, BK145, HI146, HB⟩ := hrel
        cases gk with
        | zero => exact absurd HA.out (by simp [codec_PutData.l2])
        | succ k3 =>
         have H := HA.out; clear HA; simp only [codec_PutData.l2] at H
         by_cases c37 : x52_3 < (l0_2.length : Int)
         ·rw [if_pos c37] at H; have c37b0 : decide (x52_3 < (l0_2.length : Int)) = true := decide_eq_true c37; clear c37
          by_cases c38 : 0 ≤ x52_3
          ·rw [if_pos c38] at H; have c38b0 : decide (0 ≤ x52_3) = true := decide_eq_true c38; clear c38
           by_cases c39 : x52_3 < (l0_2.length : Int)
           ·rw [if_pos c39] at H; have c39b0 : decide (x52_3 < (l0_2.length : Int)) = true := decide_eq_true c39; clear c39; replace H := Option.bind_eq_some_iff.mp H; obtain ⟨t158, A400, H⟩ := H; (try dsimp only at H); have A40 := aM A400; clear A400; have H' := aM H; clear H; have p156 : 0 ≤ (x52_3 : Int) := oT; have q156 : x52_3 < (l0_2.length : Int) := oT; obtain ⟨ad156, A156_1, c156_1, A156_2, c156_2, e156, hx156_0, hx156_1, hx156_2, hl156_1, hi156_1, hl156_2, hi156_2⟩ := at_T59 HR0_2.out x52_3 p156 q156; cases e156
            replace hx156_0 := hs HB.out hx156_0; replace hx156_1 := hs HB.out hx156_1; replace hx156_2 := hs HB.out hx156_2; have HR156_1 := aM hi156_1; have HC156_1 := aM hl156_1; clear hi156_1 hl156_1; have HR156_2 := aM hi156_2; have HC156_2 := aM hl156_2; clear hi156_2 hl156_2; replace p156 := eq_true p156; replace q156 := eq_true q156
            go_wp2_with (first | ((with_reducible refine gate_dst (N := 9) rfl ?_); refine bx (N := 9) (cs := #[.int .i64 0, .slice none 0 0, .slice none 0 0]) (t := 59) ?_; intro gb157 hg w41 hbox hb; have BK157 := aM (hbox); have GE157 := aM ((by rw [hg]; exact (below_size (iB68 HB)) : w.heap.size ≤ gb157)); obtain ⟨NB145_157, NB157_145⟩ := n2 BK145 hg; have NB146_157 := aM (ni68 HI146 hg); have NB157_146 := aM (ni68 HI146 hg).symm; replace BK145 := aM (kB (kl BK145) hb); replace HI146 := aM (IsS68.below (iS68 HI146) hb); replace HB := aM (bS (iB68 HB) hb); clear hb hbox hg; have hn42 := nn NB157_145; have hn43 := nn NB157_146; have hz44 := bc3 BK157) | ((with_reducible refine gate_callee (f := 30) rfl ?_); refine gL (some 58) Try.func30 #[.pointer (some ⟨gb146, 0, none⟩), .agg #[.int .i64 ((rd_T59 l0_2 x52_3).f0), .slice A156_1 ((rd_T59 l0_2 x52_3).f1).length c156_1, .slice A156_2 ((rd_T59 l0_2 x52_3).f2).length c156_2]] ?_; (with_reducible refine (codec_writer_rel.calls k3 gb146 x147000_3 ((rd_T59 l0_2 x52_3).f0) _ _ ((rd_T59 l0_2 x52_3).f1) _ _ ((rd_T59 l0_2 x52_3).f2) t158 w _ (iS68 HI146) (iB68 HB) ?side3 ?side4 ?side5 ?side6 A40.out).mono ?_); (case side3 => exact Kd.C_foot_came k63_heap HR156_1.out (iB68 HB) (IsS68.ge HI146.out)); (case side4 => exact HC156_1.out); (case side5 => exact Kd.C_foot_came k130_heap HR156_2.out (iB68 HB) (IsS68.ge HI146.out)); (case side6 => exact HC156_2.out); rintro e w45 ⟨rfl, hi, hb, hk⟩; refine ⟨_, rfl, ?_⟩; replace BK145 := aM (kb hk BK145 NB145_146 (.cells #[.slice A0_0 l0_0.length c0_0, .slice A0_1 l0_1.length c0_1, .slice (some ad156) l0_2.length c0_2] 26 (0, 0))); replace BK157 := aM (kb hk BK157 NB157_146 (.cells #[.int .i64 ((rd_T59 l0_2 x52_3).f0), .slice A156_1 ((rd_T59 l0_2 x52_3).f1).length c156_1, .slice A156_2 ((rd_T59 l0_2 x52_3).f2).length c156_2] 59 (0, 0))); replace HB := aM (hb); replace HI146 := aM (hi); (try clear hb); (try clear hk); (try clear hi)))
            go_roundg k3
            case measure => have := HK1.out; have := HK2.out; have := HK3.out; omega
            case rel => exact ⟨(wrap64 (x52_3 + 1)), (t158), (by first | rfl | (simp; done) | (simp [*]; done)), H', ⟨by have := HK1.out; have := HK2.out; have := HK3.out; omega⟩, ⟨kl BK145⟩, ⟨iS68 HI146⟩, ⟨iB68 HB⟩⟩
           ·rw [if_neg c39] at H; exact absurd H (by simp)
          ·rw [if_neg c38] at H; exact absurd H (by simp)
         ·rw [if_neg c37] at H; have c37b0 : decide (x52_3 < (l0_2.length : Int)) = false := decide_eq_false c37; clear c37; obtain rfl := Option.some.inj H; obtain ⟨HGz46, hgz46⟩ := HI146.out; have hcz46_0 := cellS68_0 HGz46; have hfz46_0 := kF HGz46 0; clear HGz46 hgz46
          go_wp2
          go_ret; exact ⟨by first | rfl | (simp [errW_none, errW_some] <;> rfl) | (simp [*, errW_none, errW_some] <;> rfl), iB68 HB⟩
end Go.Proofs.Ytefambkodalomaa.PAll
