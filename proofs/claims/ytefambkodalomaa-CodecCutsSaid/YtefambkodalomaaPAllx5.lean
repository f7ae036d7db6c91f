-- out of a driver of this session's prover over the kit's print: Lean checks it
import Derived.Test.YtefambkodalomaaPAllx0
import Derived.Test.YtefambkodalomaaPAllx4
namespace Go.Proofs.Ytefambkodalomaa.PAll
open Go.Proofs.YtefambkodalomaaG Go.Shelf Go.Lib
open Go.RowKit Go.Proofs.YtefambkodalomaaW.PrintWords Go.Proofs.YtefambkodalomaaW.PrintLast Go.Proofs.YtefambkodalomaaW.PrintMore
attribute [local go_sem] max2_int min2_int max_two min_two max_three min_three max_four min_four   -- for this text's walks alone
set_option linter.unusedVariables false
set_option linter.unusedSimpArgs false
def codec_writer_rel.l0 : Nat → List (S63) → Int → Int → ByteArray → Int → List (S63) → List (S130) → Option (ByteArray)
 | 0, _, _, _, _, _, _, _ => none
 | k + 1, x17, x18, x19, x1000, x146000, x146001, x146002 => if x19 < x18 then (if 0 ≤ x19 then (if x19 < (x17.length : Int) then ((codec_writer_ints.f k x1000 (([(rd_T63 x17 x19).f0.f0, (rd_T63 x17 x19).f0.f1] : List Int))).bind fun t156 => ((wire_PutText.f k t156 ((rd_T63 x17 x19).f1)).bind fun t157 => (codec_writer_rel.l0 k x17 x18 (wrap64 (x19 + 1)) t157 x146000 x146001 x146002))) else (none)) else (none)) else ((codec_writer_tags.f k x1000 x146002).bind fun t158 => (some t158))
def codec_writer_rel.f (k : Nat) (s0_0 : ByteArray) (a1_0 : Int) (l1_1 : List (S63)) (l1_2 : List (S130)) : Option (ByteArray) := (codec_writer_ints.f k s0_0 (([a1_0] : List Int))).bind fun t149 => ((codec_writer_count.f k t149 (l1_1.length : Int)).bind fun t150 => (codec_writer_rel.l0 k l1_1 (l1_1.length : Int) 0 t150 a1_0 l1_1 l1_2))
theorem codec_writer_rel.mono_l : ∀ k, (∀ y0 y1 y2 y3 y4 y5 y6, LeO (codec_writer_rel.l0 k y0 y1 y2 y3 y4 y5 y6) (codec_writer_rel.l0 (k + 1) y0 y1 y2 y3 y4 y5 y6))
 | 0 => fun _ _ _ _ _ _ _ r h => by simp [codec_writer_rel.l0] at h
 | k + 1 => by
  have ih0 := codec_writer_rel.mono_l k
  ·intro y0 y1 y2 y3 y4 y5 y6
   unfold codec_writer_rel.l0
   repeat' first
   | (with_reducible exact ih0 _ _ _ _ _ _ _)
   | (with_reducible exact codec_writer_count.mono _ _ _)
   | (with_reducible exact codec_writer_ints.mono _ _ _)
   | (with_reducible exact codec_writer_tags.mono _ _ _)
   | (with_reducible exact wire_PutText.mono _ _ _)
   | (with_reducible exact LeO.refl _)
   | (with_reducible exact LeO.none _)
   | (with_reducible refine LeO.ite ?_ ?_)
   | (with_reducible refine LeO.eB ?_ (fun _ => ?_))
   | (with_reducible refine LeO.bind ?_ (fun _ => ?_))
   | exact ih0 _ _ _ _ _ _ _
   | exact codec_writer_count.mono _ _ _
   | exact codec_writer_ints.mono _ _ _
   | exact codec_writer_tags.mono _ _ _
   | exact wire_PutText.mono _ _ _
   | exact LeO.none _
   | refine LeO.ite ?_ ?_
   | refine LeO.bind ?_ (fun _ => ?_)
theorem codec_writer_rel.mono : ∀ a0 a1 a2 a3 k, LeO (codec_writer_rel.f k a0 a1 a2 a3) (codec_writer_rel.f (k + 1) a0 a1 a2 a3) := by
 intro a0 a1 a2 a3 k; have ih0 := codec_writer_rel.mono_l k; unfold codec_writer_rel.f
 repeat' first
   | (with_reducible exact ih0 _ _ _ _ _ _ _)
   | (with_reducible exact codec_writer_count.mono _ _ _)
   | (with_reducible exact codec_writer_ints.mono _ _ _)
   | (with_reducible exact codec_writer_tags.mono _ _ _)
   | (with_reducible exact wire_PutText.mono _ _ _)
   | (with_reducible exact LeO.refl _)
   | (with_reducible exact LeO.none _)
   | (with_reducible refine LeO.ite ?_ ?_)
   | (with_reducible refine LeO.eB ?_ (fun _ => ?_))
   | (with_reducible refine LeO.bind ?_ (fun _ => ?_))
   | exact ih0 _ _ _ _ _ _ _
   | exact codec_writer_count.mono _ _ _
   | exact codec_writer_ints.mono _ _ _
   | exact codec_writer_tags.mono _ _ _
   | exact wire_PutText.mono _ _ _
   | exact LeO.none _
   | refine LeO.ite ?_ ?_
   | refine LeO.bind ?_ (fun _ => ?_)
def codec_writer_rel.T7 : Bool × List (List Nat × List Nat) := (true, [([], []), ([], []), ([1], [1]), ([2], [2]), ([3], [3]), ([], []), ([5], [5]), ([4, 6], [4, 6]), ([0, 0, 1, 2, 3, 4, 5, 6, 7], [0]), ([8, 0, 1, 2, 3, 4, 5, 6, 7], [8]), ([9, 7, 7, 0, 1, 2, 3, 4, 5, 6, 7], [7, 9])])
def codec_writer_rel.B7 : List Nat := [0, 0, 2, 6, 14, 0, 32, 126, 255, 511, 1023]
theorem codec_writer_rel.tab7 : rtab .any (opsOf Try.f30 7) = codec_writer_rel.T7 := by kernel_rfl
theorem codec_writer_rel.bits7 : waitsOk codec_writer_rel.T7.2 codec_writer_rel.B7 = true := by kernel_rfl
set_option maxHeartbeats 8000000 in
set_option maxRecDepth 100000 in
theorem codec_writer_rel.calls (k : Nat) (g : Nat) (s0_0 : ByteArray) (a1_0 : Int) (A1_1 : Option Addr) (c1_1 : Nat) (l1_1 : List (S63)) (A1_2 : Option Addr) (c1_2 : Nat) (l1_2 : List (S130)) (r : ByteArray) (w0 w : World) (hI : IsS68 w0 w g s0_0) (hB : Below w0.heap.size w0 w) (hr1_1 : ∀ W_, KeepBut w W_ g none → Kd.C k63 W_ A1_1 l1_1.length l1_1) (hc1_1 : l1_1.length ≤ c1_1) (hr1_2 : ∀ W_, KeepBut w W_ g none → Kd.C k130 W_ A1_2 l1_2.length l1_2) (hc1_2 : l1_2.length ≤ c1_2) (h : codec_writer_rel.f k s0_0 a1_0 l1_1 l1_2 = some r) :
  Calls Try.prog 30 #[.pointer (some ⟨g, 0, none⟩), .agg #[.int .i64 a1_0, .slice A1_1 l1_1.length c1_1, .slice A1_2 l1_2.length c1_2]] w fun e w' => e = .returned (.tuple #[]) ∧ IsS68 w0 w' g r ∧ Below w0.heap.size w0 w' ∧ KeepBut w w' g none := by
 have hu59 := Try.underlying59; have hu63 := Try.underlying63; have HR1_1 := aM hr1_1; have HC1_1 := aM hc1_1; clear hr1_1 hc1_1; have HR1_2 := aM hr1_2; have HC1_2 := aM hc1_2; clear hr1_2 hc1_2; have HI0 := aM hI; have HK := aM (KeepBut.refl w g none); have HL := aM hB.size; clear hI; have HW0 := aM hB.size; have HB := aM hB; clear hB; have H : ((codec_writer_ints.f k s0_0 (([a1_0] : List Int))).bind fun t149 => ((codec_writer_count.f k t149 (l1_1.length : Int)).bind fun t150 => (codec_writer_rel.l0 k l1_1 (l1_1.length : Int) 0 t150 a1_0 l1_1 l1_2))) = some r := h; clear h; obtain ⟨y146, hy146⟩ : ∃ y_ : List Int, y_ = (([a1_0] : List Int)) := ⟨_, rfl⟩; replace H : ((codec_writer_ints.f k s0_0 y146).bind fun t149 => ((codec_writer_count.f k t149 (l1_1.length : Int)).bind fun t150 => (codec_writer_rel.l0 k l1_1 (l1_1.length : Int) 0 t150 a1_0 l1_1 l1_2))) = some r := by first | (rw [hy146]; with_reducible exact H) | (have H2_ := (Option.bind_some _ _).symm.trans H; rw [hy146]; with_reducible exact H2_) | (have H2_ := (Option.bind_some _ _).symm.trans H; with_reducible exact H2_) | with_reducible exact H | (rw [hy146]; exact H) | exact H
 have Ny146 := aM hy146; clear hy146; replace H := Option.bind_eq_some_iff.mp H; obtain ⟨t149, A30, H⟩ := H; (try dsimp only at H); have A3 := aM A30; clear A30; replace H := Option.bind_eq_some_iff.mp H; obtain ⟨t150, A40, H⟩ := H; (try dsimp only at H); have A4 := aM A40; clear A40; have H' := aM H; clear H; go_enter Try.func30, Try.ntmps30
 go_wp2_with (first | ((with_reducible refine gate_dst (N := 3) rfl ?_); refine bx (N := 3) (cs := #[.int .i64 a1_0, .slice A1_1 l1_1.length c1_1, .slice A1_2 l1_2.length c1_2]) (t := 59) ?_; intro gb145 hg w5 hbox hb; have BK145 := aM (hbox); have GW145 := aM (gk HK hg); have GE145 := aM (Nat.le_trans HW0.out (gk HK hg)); have NB0_145 := aM (ni68 HI0 hg); have NB145_0 := aM (ni68 HI0 hg).symm; replace HI0 := aM (IsS68.below (iS68 HI0) hb); replace HK := aM (kt HK hb); replace HB := aM (bS (iB68 HB) hb); clear hb hbox hg; have hn6 := nn NB145_0; have hz7 := bc3 BK145) | ((with_reducible refine gate_dst (N := 9) rfl ?_); refine Kd.R_lit (Kd.int .i64) _ 3 ?hg (N := 9) ?hd (xs := ([a1_0] : List Int)) (inner := [.int .i64 a1_0]) (ok := fun _ => True) (okp := fun _ => True) ?hr ?hp (fun _ hk => hk) trivial (Below.refl _ _) (Nat.le_refl _) (by simp) ?_; (case hd => rfl); (case hg => rfl); (case hr => first | (go_simp; done) | (go_simp; rfl)); (case hp => exact (Reps.one (show Kd.M (Kd.int .i64) _ _ _ a1_0 [.int .i64 a1_0] from rfl) (Reps.none _ _))); intro v147 w8 ho9 hb hg_ hnew_; clear hg_ hnew_; (first | rw [← Ny146.out] at ho9 | (simp only [Int.reduceToNat] at ho9; rw [← Ny146.out] at ho9)); have HO148 := aM (Kd.R_lower ho9 (keep_size (w := w) (g := g) (row := none) (kp HK))); replace HI0 := aM (IsS68.below (iS68 HI0) hb); replace BK145 := aM (kB (kl BK145) hb); replace HK := aM (kt HK hb); replace HB := aM (bS (iB68 HB) hb); clear hb ho9; obtain ⟨Ao10, co10, eo10⟩ := Kd.R_slice HO148.out; subst eo10) | ((with_reducible refine gate_callee (f := 50) rfl ?_); refine gL (some 10) Try.func50 #[.pointer (some ⟨g, 0, none⟩), .slice Ao10 y146.length co10] ?_; (with_reducible refine (codec_writer_ints.calls k g s0_0 _ _ y146 t149 w0 _ (iS68 HI0) (iB68 HB) ?side3 ?side4 ?side5 A3.out).mono ?_); (case side3 => repeat (first | exact (rR HO148.out).2.2 | (with_reducible refine cA ?_ _) | (with_reducible refine cN ?_ _) | (with_reducible refine cD ?_))); (case side4 => exact (rR HO148.out).2.1); (case side5 => exact far_slice (IsS68.own_ne HI0.out HO148.out (by decide))); rintro e w11 ⟨rfl, hi, hb, hk⟩; refine ⟨_, rfl, ?_⟩; replace BK145 := aM (k0 hk BK145 NB145_0); replace HO148 := aM (rM (Kd.R_keep (IsS68.apart (show IsS68 w0 _ g s0_0 from iS68 HI0) (rl HO148) (by decide)) hk (fun _ h => h.2)) (fun _ h => h.1)); replace HK := aM (ku HK hk); replace HB := aM (hb); replace HI0 := aM (hi); (try clear hb); (try clear hk); (try clear hi); have hz12 := bc3 BK145) | ((with_reducible refine gate_callee (f := 27) rfl ?_); refine gL (some 15) Try.func27 #[.pointer (some ⟨g, 0, none⟩), .int .i64 (l1_1.length : Int)] ?_; (with_reducible refine (codec_writer_count.calls k g t149 (l1_1.length : Int) t150 w0 _ (iS68 HI0) (iB68 HB) A4.out).mono ?_); rintro e w13 ⟨rfl, hi, hb, hk⟩; refine ⟨_, rfl, ?_⟩; replace BK145 := aM (k0 hk BK145 NB145_0); replace HO148 := aM (rM (Kd.R_keep (IsS68.apart (show IsS68 w0 _ g t149 from iS68 HI0) (rl HO148) (by decide)) hk (fun _ h => h.2)) (fun _ h => h.1)); replace HK := aM (ku HK hk); replace HB := aM (hb); replace HI0 := aM (hi); (try clear hb); (try clear hk); (try clear hi); have hz14 := bc3 BK145))
 go_loopg [19] k (fun kq v19 w' => ∃ (x19_1 : Int) (x1000_1 : ByteArray), v19 = .int .i64 x19_1 ∧ Aside0 (codec_writer_rel.l0 kq l1_1 (l1_1.length : Int) x19_1 x1000_1 a1_0 l1_1 l1_2 = some r) ∧ Aside0 (kq ≤ k) ∧ Aside0 (w'.heap[gb145]? = some (.cells #[.int .i64 a1_0, (.slice A1_1 l1_1.length c1_1), (.slice A1_2 l1_2.length c1_2)] 59 (0, 0))) ∧ Aside0 (IsS68 w0 w' g x1000_1) ∧ Aside0 (KeepBut w w' g none) ∧ Aside0 (Below w0.heap.size w0 w'))
 case atStart => exact ⟨(0), (t150), (by first | rfl | (simp; done) | (simp [*]; done)), H', ⟨Nat.le_refl _⟩, ⟨kl BK145⟩, ⟨iS68 HI0⟩, ⟨kp HK⟩, ⟨iB68 HB⟩⟩
 case round =>
  clear H'; (try clear hz12); (try clear hz14); (try clear hz7); obtain ⟨x19_1, x1000_1, rfl, HA, HK1, BK145, HI0, HK, HB⟩ := hrel
  cases gk with
  | zero => exact absurd HA.out (by simp [codec_writer_rel.l0])
  | succ k1 =>
   have H := HA.out; clear HA; simp only [codec_writer_rel.l0] at H
   by_cases c15 : x19_1 < (l1_1.length : Int)
   ·rw [if_pos c15] at H; have c15b0 : decide (x19_1 < (l1_1.length : Int)) = true := decide_eq_true c15; clear c15
    by_cases c16 : 0 ≤ x19_1
    ·rw [if_pos c16] at H; have c16b0 : decide (0 ≤ x19_1) = true := decide_eq_true c16; clear c16
     by_cases c17 : x19_1 < (l1_1.length : Int)
     ·rw [if_pos c17] at H; have c17b0 : decide (x19_1 < (l1_1.length : Int)) = true := decide_eq_true c17; clear c17; obtain ⟨y153, hy153⟩ : ∃ y_ : List Int, y_ = (([(rd_T63 l1_1 x19_1).f0.f0, (rd_T63 l1_1 x19_1).f0.f1] : List Int)) := ⟨_, rfl⟩; replace H : ((codec_writer_ints.f k1 x1000_1 y153).bind fun t156 => ((wire_PutText.f k1 t156 ((rd_T63 l1_1 x19_1).f1)).bind fun t157 => (codec_writer_rel.l0 k1 l1_1 (l1_1.length : Int) (wrap64 (x19_1 + 1)) t157 a1_0 l1_1 l1_2))) = some r := by first | (rw [hy153]; with_reducible exact H) | (have H2_ := (Option.bind_some _ _).symm.trans H; rw [hy153]; with_reducible exact H2_) | (have H2_ := (Option.bind_some _ _).symm.trans H; with_reducible exact H2_) | with_reducible exact H | (rw [hy153]; exact H) | exact H
      have Ny153 := aM hy153; clear hy153; replace H := Option.bind_eq_some_iff.mp H; obtain ⟨t156, A180, H⟩ := H; (try dsimp only at H); have A18 := aM A180; clear A180; replace H := Option.bind_eq_some_iff.mp H; obtain ⟨t157, A190, H⟩ := H; (try dsimp only at H); have A19 := aM A190; clear A190; have H' := aM H; clear H; have p151 : 0 ≤ (x19_1 : Int) := oT; have q151 : x19_1 < (l1_1.length : Int) := oT; obtain ⟨ad151, e151, hx151_0, hx151_1, hx151_2⟩ := at_T63 (Kd.C_foot_now HR1_1.out HK.out) x19_1 p151 q151; cases e151
      replace p151 := eq_true p151; replace q151 := eq_true q151
      try go_wp2_with (first | ((with_reducible refine gate_dst (N := 5) rfl ?_); refine bx (N := 5) (cs := #[.int .i64 0, .int .i64 0, .string (⟨#[]⟩ : ByteArray)]) (t := 63) ?_; intro gb152 hg w20 hbox hb; have BK152 := aM (hbox); have GW152 := aM (gk HK hg); have GE152 := aM (Nat.le_trans HW0.out (gk HK hg)); obtain ⟨NB145_152, NB152_145⟩ := n2 BK145 hg; have NB0_152 := aM (ni68 HI0 hg); have NB152_0 := aM (ni68 HI0 hg).symm; replace BK145 := aM (kB (kl BK145) hb); replace HI0 := aM (IsS68.below (iS68 HI0) hb); replace HK := aM (kt HK hb); replace HB := aM (bS (iB68 HB) hb); clear hb hbox hg; have hn21 := nn NB152_145; have hn22 := nn NB152_0; have hz23 := bc3 BK152) | ((with_reducible refine gate_dst (N := 30) rfl ?_); refine Kd.R_lit (Kd.int .i64) _ 3 ?hg (N := 30) ?hd (xs := ([(rd_T63 l1_1 x19_1).f0.f0, (rd_T63 l1_1 x19_1).f0.f1] : List Int)) (inner := [.int .i64 ((rd_T63 l1_1 x19_1).f0.f0), .int .i64 ((rd_T63 l1_1 x19_1).f0.f1)]) (ok := fun _ => True) (okp := fun _ => True) ?hr ?hp (fun _ hk => hk) trivial (Below.refl _ _) (Nat.le_refl _) (by simp) ?_; (case hd => rfl); (case hg => rfl); (case hr => first | (go_simp; done) | (go_simp; rfl)); (case hp => exact (Reps.one (show Kd.M (Kd.int .i64) _ _ _ ((rd_T63 l1_1 x19_1).f0.f0) [.int .i64 ((rd_T63 l1_1 x19_1).f0.f0)] from rfl) (Reps.one (show Kd.M (Kd.int .i64) _ _ _ ((rd_T63 l1_1 x19_1).f0.f1) [.int .i64 ((rd_T63 l1_1 x19_1).f0.f1)] from rfl) (Reps.none _ _)))); intro v154 w24 ho25 hb hg_ hnew_; clear hg_ hnew_; (first | rw [← Ny153.out] at ho25 | (simp only [Int.reduceToNat] at ho25; rw [← Ny153.out] at ho25)); have HO155 := aM (Kd.R_lower ho25 (keep_size (w := w) (g := g) (row := none) (kp HK))); replace BK145 := aM (kB (g := gb145) (o := .cells #[.int .i64 a1_0, .slice (some ad151) l1_1.length c1_1, .slice A1_2 l1_2.length c1_2] 59 (0, 0)) (bk BK145) hb); replace HI0 := aM (IsS68.below (show IsS68 w0 (((w20.setCell ⟨gb152, 0, none⟩ (.int .i64 ((rd_T63 l1_1 x19_1).f0.f0))).setCell ⟨gb152, 1, none⟩ (.int .i64 ((rd_T63 l1_1 x19_1).f0.f1))).setCell ⟨gb152, 2, none⟩ (.string ((rd_T63 l1_1 x19_1).f1))) g x1000_1 from iS68 HI0) hb); replace BK152 := aM (kB (g := gb152) (o := .cells #[.int .i64 ((rd_T63 l1_1 x19_1).f0.f0), .int .i64 ((rd_T63 l1_1 x19_1).f0.f1), .string ((rd_T63 l1_1 x19_1).f1)] 63 (0, 0)) (bk BK152) hb); replace HK := aM (kt HK hb); replace HB := aM (bS (iB68 HB) hb); clear hb ho25; obtain ⟨Ao26, co26, eo26⟩ := Kd.R_slice HO155.out; subst eo26) | ((with_reducible refine gate_callee (f := 50) rfl ?_); refine gL (some 31) Try.func50 #[.pointer (some ⟨g, 0, none⟩), .slice Ao26 y153.length co26] ?_; (with_reducible refine (codec_writer_ints.calls k1 g x1000_1 _ _ y153 t156 w0 _ (iS68 HI0) (iB68 HB) ?side3 ?side4 ?side5 A18.out).mono ?_); (case side3 => repeat (first | exact (rR HO155.out).2.2 | (with_reducible refine cA ?_ _) | (with_reducible refine cN ?_ _) | (with_reducible refine cD ?_))); (case side4 => exact (rR HO155.out).2.1); (case side5 => exact far_slice (IsS68.own_ne HI0.out HO155.out (by decide))); rintro e w27 ⟨rfl, hi, hb, hk⟩; refine ⟨_, rfl, ?_⟩; replace BK145 := aM (k0 hk BK145 NB145_0); replace BK152 := aM (k0 hk BK152 NB152_0); replace HO155 := aM (rM (Kd.R_keep (IsS68.apart (show IsS68 w0 _ g x1000_1 from iS68 HI0) (rl HO155) (by decide)) hk (fun _ h => h.2)) (fun _ h => h.1)); replace HK := aM (ku HK hk); replace HB := aM (hb); replace HI0 := aM (hi); (try clear hb); (try clear hk); (try clear hi)))
      replace BK145 := aM (kD BK145.out); replace BK152 := aM (kD BK152.out); replace HI0 := aM (IsS68.drew HI0.out); replace HK := aM (keep_drew HK.out); replace HB := aM (bD HB.out); clear HO155; refine start_ (n := 11) (S := fun w' => w'.cell? ⟨g, 0, none⟩ = some (.string t156) ∧ w'.cell? ⟨gb152, 0, none⟩ = some (.int .i64 ((rd_T63 l1_1 x19_1).f0.f0)) ∧ w'.cell? ⟨gb152, 1, none⟩ = some (.int .i64 ((rd_T63 l1_1 x19_1).f0.f1)) ∧ w'.cell? ⟨gb152, 2, none⟩ = some (.string ((rd_T63 l1_1 x19_1).f1))) (ds := [10]) #[false, false, false, false, false, false, false, false, false, false, false] (by kernel_rfl) rfl rfl ⟨(kC HI0.out.1 0).trans rfl, (kC BK152.out 0).trans rfl, (kC BK152.out 1).trans rfl, (kC BK152.out 2).trans rfl⟩ (fun hHeld => ?_); refine with_tabW codec_writer_rel.tab7 codec_writer_rel.bits7 (fun HT_ HW_ => ?_); generalize w27.drew = w28 at BK145 BK152 HI0 HK HB hHeld ⊢; refine pu 0 32 (ba 11 1) ?_; refine pu 1 33 (ba 11 3) ?_; refine pu 2 34 (ba 11 7) ?_; refine pu 3 35 (ba 11 15) ?_; refine pu 5 37 (ba 11 47) ?_; refine tk 4 36 (ba 11 63) ?_; refine tk 6 38 (ba 11 127) ?_; refine one_ (i := 7) (N := some 39) (ba 11 255) rfl rfl (one_of HT_.out (by kernel_rfl)) (by decide) (fun K hK => ?_); refine goes_ Try.func77 (by kernel_rfl) rfl #[.string t156, .string ((rd_T63 l1_1 x19_1).f1)] (by rfl) rfl rfl (by (try simp only [List.map_toArray, List.map_cons, List.map_nil]); first | done | rfl | (simp only [List.length_drop, List.length_take]; rfl)) ?_
      with_reducible refine (wire_PutText.calls k1 t156 ((rd_T63 l1_1 x19_1).f1) t157 _ A19.out).mono ?_
      rintro e w29 ⟨rfl, hb⟩; refine ⟨_, rfl, ?_⟩; replace BK145 := aM (kB (kl BK145) hb); replace HI0 := aM (IsS68.below (iS68 HI0) hb); replace BK152 := aM (kB (kl BK152) hb); replace HK := aM (kt HK hb); replace HB := aM (bS (iB68 HB) hb)
      (try clear hb)
      (try clear hb2)
      (try clear hk)
      (try clear hi)
      refine hK.out _ _ ⟨(kC HI0.out.1 0).trans rfl, (kC BK152.out 0).trans rfl, (kC BK152.out 1).trans rfl, (kC BK152.out 2).trans rfl⟩ (fun hHeld => ?_); clear hK K; refine norm_ (a' := ?_) ?_ ?_; rotate_left
      ·show Act.put _ (some 39) _ = _
       simp only [Act.put, sA, sB, sC, i64_w, i32_w]; rfl
      refine pu 8 40 (ba 11 511) ?_; refine pu 9 41 (ba 11 1023) ?_; have hcs_ := cellS68_0 HI0.out.1; have hfs_ := kF HI0.out.1 0; refine last_ (i := 10) (N := none) (ba 11 2047) rfl rfl (one_of HT_.out (by kernel_rfl)) (by decide) (fun K hK => ?_); refine skip_ (w1 := ?_) (by rfl) rfl ?_ ?_; rotate_left
      ·go_simp; rfl
      refine hK.out _ _ ?_; clear hK K; refine done_ (done_of HT_.out (by kernel_rfl)) ?_
      try go_wp2
      go_roundg k1
      case measure => have := HK1.out; omega
      case rel => exact ⟨(wrap64 (x19_1 + 1)), (t157), (by first | rfl | (simp; done) | (simp [*]; done)), H', ⟨by have := HK1.out; omega⟩, ⟨bk BK145⟩, ⟨iS68 HI0⟩, ⟨kp HK⟩, ⟨iB68 HB⟩⟩
     ·rw [if_neg c17] at H; exact absurd H (by simp)
    ·rw [if_neg c16] at H; exact absurd H (by simp)
   ·rw [if_neg c15] at H; have c15b0 : decide (x19_1 < (l1_1.length : Int)) = false := decide_eq_false c15; clear c15; replace H := Option.bind_eq_some_iff.mp H; obtain ⟨t158, A300, H⟩ := H; (try dsimp only at H); have A30 := aM A300; clear A300; obtain rfl := Option.some.inj H; have hn31 := nn NB145_0; have hz32 := bc3 BK145
    go_wp2_with (first | ((with_reducible refine gate_callee (f := 76) rfl ?_); refine gL (some 46) Try.func76 #[.pointer (some ⟨g, 0, none⟩), .slice A1_2 l1_2.length c1_2] ?_; (with_reducible refine (codec_writer_tags.calls k1 g x1000_1 _ _ l1_2 t158 w0 _ (iS68 HI0) (iB68 HB) ?side3 ?side4 A30.out).mono ?_); (case side3 => exact Kd.C_foot_step HR1_2.out (kp HK)); (case side4 => exact HC1_2.out); rintro e w33 ⟨rfl, hi, hb, hk⟩; refine ⟨_, rfl, ?_⟩; replace HK := aM (ku HK hk); replace HI0 := aM (hi); replace HB := aM (hb); clear BK145; (try clear hb); (try clear hk); (try clear hi)))
    first | go_end0 | ((try simp only [Exit.inBlock, Exit.then]); refine bodyPost_ret (results_none rfl _ _ _) rfl ?_)
    exact ⟨by first | rfl | (simp [errW_none, errW_some] <;> rfl) | (simp [*, errW_none, errW_some] <;> rfl), iS68 HI0, iB68 HB, kp HK⟩
mutual
def codec_PutData.l0 : Nat → List (S53) → Int → Int → List (S53) → List (S56) → List (S59) → ByteArray → Option (ByteArray)
 | 0, _, _, _, _, _, _, _ => none
 | k + 1, x18, x19, x20, x160000, x160001, x160002, x161000 => if x20 < x19 then (if 0 ≤ x20 then (if x20 < (x18.length : Int) then ((codec_writer_node.f k x161000 ((rd_T53 x18 x20).f0) ((rd_T53 x18 x20).f1.f0) ((rd_T53 x18 x20).f1.f1) ((rd_T53 x18 x20).f2)).bind fun t164 => (codec_PutData.l0 k x18 x19 (wrap64 (x20 + 1)) x160000 x160001 x160002 t164)) else (none)) else (none)) else ((codec_writer_count.f k x161000 (x160001.length : Int)).bind fun t165 => (codec_PutData.l1 k x160001 (x160001.length : Int) 0 x160000 x160001 x160002 t165))
def codec_PutData.l1 : Nat → List (S56) → Int → Int → List (S53) → List (S56) → List (S59) → ByteArray → Option (ByteArray)
 | 0, _, _, _, _, _, _, _ => none
 | k + 1, x34, x35, x36, x160000, x160001, x160002, x161000 => if x36 < x35 then (if 0 ≤ x36 then (if x36 < (x34.length : Int) then ((codec_writer_way.f k x161000 ((rd_T56 x34 x36).f0) ((rd_T56 x34 x36).f1) ((rd_T56 x34 x36).f2)).bind fun t168 => (codec_PutData.l1 k x34 x35 (wrap64 (x36 + 1)) x160000 x160001 x160002 t168)) else (none)) else (none)) else ((codec_writer_count.f k x161000 (x160002.length : Int)).bind fun t169 => (codec_PutData.l2 k x160002 (x160002.length : Int) 0 t169))
def codec_PutData.l2 : Nat → List (S59) → Int → Int → ByteArray → Option (ByteArray)
 | 0, _, _, _, _ => none
 | k + 1, x50, x51, x52, x161000 => if x52 < x51 then (if 0 ≤ x52 then (if x52 < (x50.length : Int) then ((codec_writer_rel.f k x161000 ((rd_T59 x50 x52).f0) ((rd_T59 x50 x52).f1) ((rd_T59 x50 x52).f2)).bind fun t172 => (codec_PutData.l2 k x50 x51 (wrap64 (x52 + 1)) t172)) else (none)) else (none)) else (some x161000)
end
def codec_PutData.f (k : Nat) (l0_0 : List (S53)) (l0_1 : List (S56)) (l0_2 : List (S59)) : Option (ByteArray) := (codec_writer_count.f k (⟨#[]⟩ : ByteArray) (l0_0.length : Int)).bind fun t161 => (codec_PutData.l0 k l0_0 (l0_0.length : Int) 0 l0_0 l0_1 l0_2 t161)
theorem codec_PutData.mono_l : ∀ k, (∀ y0 y1 y2 y3 y4 y5 y6, LeO (codec_PutData.l0 k y0 y1 y2 y3 y4 y5 y6) (codec_PutData.l0 (k + 1) y0 y1 y2 y3 y4 y5 y6)) ∧ (∀ y0 y1 y2 y3 y4 y5 y6, LeO (codec_PutData.l1 k y0 y1 y2 y3 y4 y5 y6) (codec_PutData.l1 (k + 1) y0 y1 y2 y3 y4 y5 y6)) ∧ (∀ y0 y1 y2 y3, LeO (codec_PutData.l2 k y0 y1 y2 y3) (codec_PutData.l2 (k + 1) y0 y1 y2 y3))
 | 0 => ⟨fun _ _ _ _ _ _ _ r h => by simp [codec_PutData.l0] at h, fun _ _ _ _ _ _ _ r h => by simp [codec_PutData.l1] at h, fun _ _ _ _ r h => by simp [codec_PutData.l2] at h⟩
 | k + 1 => by
  obtain ⟨ih0, ih1, ih2⟩ := codec_PutData.mono_l k
  refine ⟨?_, ?_, ?_⟩
  ·intro y0 y1 y2 y3 y4 y5 y6
   unfold codec_PutData.l0
   repeat' first
   | (with_reducible exact ih0 _ _ _ _ _ _ _)
   | (with_reducible exact ih1 _ _ _ _ _ _ _)
   | (with_reducible exact ih2 _ _ _ _)
   | (with_reducible exact codec_writer_count.mono _ _ _)
   | (with_reducible exact codec_writer_node.mono _ _ _ _ _ _)
   | (with_reducible exact codec_writer_rel.mono _ _ _ _ _)
   | (with_reducible exact codec_writer_way.mono _ _ _ _ _)
   | (with_reducible exact LeO.refl _)
   | (with_reducible exact LeO.none _)
   | (with_reducible refine LeO.ite ?_ ?_)
   | (with_reducible refine LeO.eB ?_ (fun _ => ?_))
   | (with_reducible refine LeO.bind ?_ (fun _ => ?_))
   | exact ih0 _ _ _ _ _ _ _
   | exact ih1 _ _ _ _ _ _ _
   | exact ih2 _ _ _ _
   | exact codec_writer_count.mono _ _ _
   | exact codec_writer_node.mono _ _ _ _ _ _
   | exact codec_writer_rel.mono _ _ _ _ _
   | exact codec_writer_way.mono _ _ _ _ _
   | exact LeO.none _
   | refine LeO.ite ?_ ?_
   | refine LeO.bind ?_ (fun _ => ?_)
  ·intro y0 y1 y2 y3 y4 y5 y6
   unfold codec_PutData.l1
   repeat' first
   | (with_reducible exact ih0 _ _ _ _ _ _ _)
   | (with_reducible exact ih1 _ _ _ _ _ _ _)
   | (with_reducible exact ih2 _ _ _ _)
   | (with_reducible exact codec_writer_count.mono _ _ _)
   | (with_reducible exact codec_writer_node.mono _ _ _ _ _ _)
   | (with_reducible exact codec_writer_rel.mono _ _ _ _ _)
   | (with_reducible exact codec_writer_way.mono _ _ _ _ _)
   | (with_reducible exact LeO.refl _)
   | (with_reducible exact LeO.none _)
   | (with_reducible refine LeO.ite ?_ ?_)
   | (with_reducible refine LeO.eB ?_ (fun _ => ?_))
   | (with_reducible refine LeO.bind ?_ (fun _ => ?_))
   | exact ih0 _ _ _ _ _ _ _
   | exact ih1 _ _ _ _ _ _ _
   | exact ih2 _ _ _ _
   | exact codec_writer_count.mono _ _ _
   | exact codec_writer_node.mono _ _ _ _ _ _
   | exact codec_writer_rel.mono _ _ _ _ _
   | exact codec_writer_way.mono _ _ _ _ _
   | exact LeO.none _
   | refine LeO.ite ?_ ?_
   | refine LeO.bind ?_ (fun _ => ?_)
  ·intro y0 y1 y2 y3
   unfold codec_PutData.l2
   repeat' first
   | (with_reducible exact ih0 _ _ _ _ _ _ _)
   | (with_reducible exact ih1 _ _ _ _ _ _ _)
   | (with_reducible exact ih2 _ _ _ _)
   | (with_reducible exact codec_writer_count.mono _ _ _)
   | (with_reducible exact codec_writer_node.mono _ _ _ _ _ _)
   | (with_reducible exact codec_writer_rel.mono _ _ _ _ _)
   | (with_reducible exact codec_writer_way.mono _ _ _ _ _)
   | (with_reducible exact LeO.refl _)
   | (with_reducible exact LeO.none _)
   | (with_reducible refine LeO.ite ?_ ?_)
   | (with_reducible refine LeO.eB ?_ (fun _ => ?_))
   | (with_reducible refine LeO.bind ?_ (fun _ => ?_))
   | exact ih0 _ _ _ _ _ _ _
   | exact ih1 _ _ _ _ _ _ _
   | exact ih2 _ _ _ _
   | exact codec_writer_count.mono _ _ _
   | exact codec_writer_node.mono _ _ _ _ _ _
   | exact codec_writer_rel.mono _ _ _ _ _
   | exact codec_writer_way.mono _ _ _ _ _
   | exact LeO.none _
   | refine LeO.ite ?_ ?_
   | refine LeO.bind ?_ (fun _ => ?_)
theorem codec_PutData.mono : ∀ a0 a1 a2 k, LeO (codec_PutData.f k a0 a1 a2) (codec_PutData.f (k + 1) a0 a1 a2) := by
 intro a0 a1 a2 k; obtain ⟨ih0, ih1, ih2⟩ := codec_PutData.mono_l k; unfold codec_PutData.f
 repeat' first
   | (with_reducible exact ih0 _ _ _ _ _ _ _)
   | (with_reducible exact ih1 _ _ _ _ _ _ _)
   | (with_reducible exact ih2 _ _ _ _)
   | (with_reducible exact codec_writer_count.mono _ _ _)
   | (with_reducible exact codec_writer_node.mono _ _ _ _ _ _)
   | (with_reducible exact codec_writer_rel.mono _ _ _ _ _)
   | (with_reducible exact codec_writer_way.mono _ _ _ _ _)
   | (with_reducible exact LeO.refl _)
   | (with_reducible exact LeO.none _)
   | (with_reducible refine LeO.ite ?_ ?_)
   | (with_reducible refine LeO.eB ?_ (fun _ => ?_))
   | (with_reducible refine LeO.bind ?_ (fun _ => ?_))
   | exact ih0 _ _ _ _ _ _ _
   | exact ih1 _ _ _ _ _ _ _
   | exact ih2 _ _ _ _
   | exact codec_writer_count.mono _ _ _
   | exact codec_writer_node.mono _ _ _ _ _ _
   | exact codec_writer_rel.mono _ _ _ _ _
   | exact codec_writer_way.mono _ _ _ _ _
   | exact LeO.none _
   | refine LeO.ite ?_ ?_
   | refine LeO.bind ?_ (fun _ => ?_)
set_option maxHeartbeats 8000000 in
set_option maxRecDepth 100000 in
theorem codec_PutData.calls (k : Nat) (A0_0 : Option Addr) (c0_0 : Nat) (l0_0 : List (S53)) (A0_1 : Option Addr) (c0_1 : Nat) (l0_1 : List (S56)) (A0_2 : Option Addr) (c0_2 : Nat) (l0_2 : List (S59)) (r : ByteArray) (w : World) (hr0_0 : Kd.C k53 w A0_0 l0_0.length l0_0) (hc0_0 : l0_0.length ≤ c0_0) (hr0_1 : Kd.C k56 w A0_1 l0_1.length l0_1) (hc0_1 : l0_1.length ≤ c0_1) (hr0_2 : Kd.C k59 w A0_2 l0_2.length l0_2) (hc0_2 : l0_2.length ≤ c0_2) (h : codec_PutData.f k l0_0 l0_1 l0_2 = some r) :
  Calls Try.prog 12 #[.agg #[.slice A0_0 l0_0.length c0_0, .slice A0_1 l0_1.length c0_1, .slice A0_2 l0_2.length c0_2]] w fun e w' => e = .returned (.string r) ∧ Below w.heap.size w w' := by
 have hu26 := Try.underlying26; have hu68 := Try.underlying68; have hu53 := Try.underlying53; have hu56 := Try.underlying56; have hu59 := Try.underlying59; have HR0_0 := aM hr0_0; have HC0_0 := aM hc0_0; clear hr0_0 hc0_0; have HR0_1 := aM hr0_1; have HC0_1 := aM hc0_1; clear hr0_1 hc0_1; have HR0_2 := aM hr0_2; have HC0_2 := aM hc0_2; clear hr0_2 hc0_2; have HB := aM (Below.refl w.heap.size w); have H : ((codec_writer_count.f k (⟨#[]⟩ : ByteArray) (l0_0.length : Int)).bind fun t161 => (codec_PutData.l0 k l0_0 (l0_0.length : Int) 0 l0_0 l0_1 l0_2 t161)) = some r := h; clear h; replace H := Option.bind_eq_some_iff.mp H; obtain ⟨t161, A20, H⟩ := H; (try dsimp only at H); have A2 := aM A20; clear A20; have H' := aM H; clear H; go_enter Try.func12, Try.ntmps12
 go_wp2_with (first | ((with_reducible refine gate_dst (N := 1) rfl ?_); refine bx (N := 1) (cs := #[.slice A0_0 l0_0.length c0_0, .slice A0_1 l0_1.length c0_1, .slice A0_2 l0_2.length c0_2]) (t := 26) ?_; intro gb159 hg w3 hbox hb; have BK159 := aM (hbox); have GE159 := aM (gw (w := w) hg); replace HB := aM (bS (bl) hb); clear hb hbox hg) | ((with_reducible refine gate_dst (N := 11) rfl ?_); refine bx (N := 11) (cs := #[.string (⟨#[]⟩ : ByteArray)]) (t := 68) ?_; intro gb160 hg w4 hbox hb; have HI160 := aM ((show IsS68 w w4 gb160 (⟨#[]⟩ : ByteArray) from ⟨hbox, (by rw [hg]; exact (below_size (bl)) : w.heap.size ≤ gb160)⟩)); obtain ⟨NB159_160, NB160_159⟩ := n2 BK159 hg; replace BK159 := aM (kB (kl BK159) hb); replace HB := aM (bS (bl) hb); clear hb hbox hg; have hn5 := nn NB159_160; have hz6 := bc3 BK159) | ((with_reducible refine gate_callee (f := 27) rfl ?_); refine gL (some 16) Try.func27 #[.pointer (some ⟨gb160, 0, none⟩), .int .i64 (l0_0.length : Int)] ?_; (with_reducible refine (codec_writer_count.calls k gb160 (⟨#[]⟩ : ByteArray) (l0_0.length : Int) t161 w _ (iS68 HI160) (iB68 HB) A2.out).mono ?_); rintro e w7 ⟨rfl, hi, hb, hk⟩; refine ⟨_, rfl, ?_⟩; replace BK159 := aM (k0 hk BK159 NB159_160); replace HB := aM (hb); replace HI160 := aM (hi); (try clear hb); (try clear hk); (try clear hi); have hz8 := bc3 BK159))
 go_loopg [20] k (fun kq v20 w' => ∃ (x20_1 : Int) (x161000_1 : ByteArray), v20 = .int .i64 x20_1 ∧ Aside0 (codec_PutData.l0 kq l0_0 (l0_0.length : Int) x20_1 l0_0 l0_1 l0_2 x161000_1 = some r) ∧ Aside0 (kq ≤ k) ∧ Aside0 (w'.heap[gb159]? = some (.cells #[(.slice A0_0 l0_0.length c0_0), (.slice A0_1 l0_1.length c0_1), (.slice A0_2 l0_2.length c0_2)] 26 (0, 0))) ∧ Aside0 (IsS68 w w' gb160 x161000_1) ∧ Aside0 (Below w.heap.size w w'))
 case atStart => exact ⟨(0), (t161), (by first | rfl | (simp; done) | (simp [*]; done)), H', ⟨Nat.le_refl _⟩, ⟨kl BK159⟩, ⟨iS68 HI160⟩, ⟨iB68 HB⟩⟩
 case round =>
  clear H'; (try clear hz6); (try clear hz8); obtain ⟨x20_1, x161000_1, rfl, HA, HK1, BK159, HI160, HB⟩ := hrel
  cases gk with
  | zero => exact absurd HA.out (by simp [codec_PutData.l0])
  | succ k1 =>
   have H := HA.out; clear HA; simp only [codec_PutData.l0] at H
   by_cases c9 : x20_1 < (l0_0.length : Int)
   ·rw [if_pos c9] at H; have c9b0 : decide (x20_1 < (l0_0.length : Int)) = true := decide_eq_true c9; clear c9
    by_cases c10 : 0 ≤ x20_1
    ·rw [if_pos c10] at H; have c10b0 : decide (0 ≤ x20_1) = true := decide_eq_true c10; clear c10
     by_cases c11 : x20_1 < (l0_0.length : Int)
     ·rw [if_pos c11] at H; have c11b0 : decide (x20_1 < (l0_0.length : Int)) = true := decide_eq_true c11; clear c11; replace H := Option.bind_eq_some_iff.mp H; obtain ⟨t164, A120, H⟩ := H; (try dsimp only at H); have A12 := aM A120; clear A120; have H' := aM H; clear H; have p162 : 0 ≤ (x20_1 : Int) := oT; have q162 : x20_1 < (l0_0.length : Int) := oT; obtain ⟨ad162, A162_3, c162_3, e162, hx162_0, hx162_1, hx162_2, hx162_3, hl162_3, hi162_3⟩ := at_T53 HR0_0.out x20_1 p162 q162; cases e162
      replace hx162_0 := hs HB.out hx162_0; replace hx162_1 := hs HB.out hx162_1; replace hx162_2 := hs HB.out hx162_2; replace hx162_3 := hs HB.out hx162_3; have HR162_3 := aM hi162_3; have HC162_3 := aM hl162_3; clear hi162_3 hl162_3; replace p162 := eq_true p162; replace q162 := eq_true q162
      go_wp2_with (first | ((with_reducible refine gate_dst (N := 5) rfl ?_); refine bx (N := 5) (cs := #[.int .i64 0, .int .i64 0, .int .i64 0, .slice none 0 0]) (t := 53) ?_; intro gb163 hg w13 hbox hb; have BK163 := aM (hbox); have GE163 := aM ((by rw [hg]; exact (below_size (iB68 HB)) : w.heap.size ≤ gb163)); obtain ⟨NB159_163, NB163_159⟩ := n2 BK159 hg; have NB160_163 := aM (ni68 HI160 hg); have NB163_160 := aM (ni68 HI160 hg).symm; replace BK159 := aM (kB (kl BK159) hb); replace HI160 := aM (IsS68.below (iS68 HI160) hb); replace HB := aM (bS (iB68 HB) hb); clear hb hbox hg; have hn14 := nn NB163_159; have hn15 := nn NB163_160; have hz16 := bc4 BK163) | ((with_reducible refine gate_callee (f := 28) rfl ?_); refine gL (some 26) Try.func28 #[.pointer (some ⟨gb160, 0, none⟩), .agg #[.int .i64 ((rd_T53 l0_0 x20_1).f0), .int .i64 ((rd_T53 l0_0 x20_1).f1.f0), .int .i64 ((rd_T53 l0_0 x20_1).f1.f1), .slice A162_3 ((rd_T53 l0_0 x20_1).f2).length c162_3]] ?_; (with_reducible refine (codec_writer_node.calls k1 gb160 x161000_1 ((rd_T53 l0_0 x20_1).f0) ((rd_T53 l0_0 x20_1).f1.f0) ((rd_T53 l0_0 x20_1).f1.f1) _ _ ((rd_T53 l0_0 x20_1).f2) t164 w _ (iS68 HI160) (iB68 HB) ?side3 ?side4 A12.out).mono ?_); (case side3 => exact Kd.C_foot_came k130_heap HR162_3.out (iB68 HB) (IsS68.ge HI160.out)); (case side4 => exact HC162_3.out); rintro e w17 ⟨rfl, hi, hb, hk⟩; refine ⟨_, rfl, ?_⟩; replace BK159 := aM (kb hk BK159 NB159_160 (.cells #[.slice (some ad162) l0_0.length c0_0, .slice A0_1 l0_1.length c0_1, .slice A0_2 l0_2.length c0_2] 26 (0, 0))); replace BK163 := aM (kb hk BK163 NB163_160 (.cells #[.int .i64 ((rd_T53 l0_0 x20_1).f0), .int .i64 ((rd_T53 l0_0 x20_1).f1.f0), .int .i64 ((rd_T53 l0_0 x20_1).f1.f1), .slice A162_3 ((rd_T53 l0_0 x20_1).f2).length c162_3] 53 (0, 0))); replace HB := aM (hb); replace HI160 := aM (hi); (try clear hb); (try clear hk); (try clear hi)))
      go_roundg k1
      case measure => have := HK1.out; omega
      case rel => exact ⟨(wrap64 (x20_1 + 1)), (t164), (by first | rfl | (simp; done) | (simp [*]; done)), H', ⟨by have := HK1.out; omega⟩, ⟨kl BK159⟩, ⟨iS68 HI160⟩, ⟨iB68 HB⟩⟩
     ·rw [if_neg c11] at H; exact absurd H (by simp)
    ·rw [if_neg c10] at H; exact absurd H (by simp)
   ·rw [if_neg c9] at H; have c9b0 : decide (x20_1 < (l0_0.length : Int)) = false := decide_eq_false c9; clear c9; replace H := Option.bind_eq_some_iff.mp H; obtain ⟨t165, A180, H⟩ := H; (try dsimp only at H); have A18 := aM A180; clear A180; have H' := aM H; clear H; have hn19 := nn NB159_160; have hz20 := bc3 BK159
    go_wp2_with (first | ((with_reducible refine gate_callee (f := 27) rfl ?_); refine gL (some 32) Try.func27 #[.pointer (some ⟨gb160, 0, none⟩), .int .i64 (l0_1.length : Int)] ?_; (with_reducible refine (codec_writer_count.calls k1 gb160 x161000_1 (l0_1.length : Int) t165 w _ (iS68 HI160) (iB68 HB) A18.out).mono ?_); rintro e w21 ⟨rfl, hi, hb, hk⟩; refine ⟨_, rfl, ?_⟩; replace BK159 := aM (k0 hk BK159 NB159_160); replace HB := aM (hb); replace HI160 := aM (hi); (try clear hb); (try clear hk); (try clear hi); have hz22 := bc3 BK159))
    go_loopg [36] k1 (fun kq v36 w' => ∃ (x36_2 : Int) (x161000_2 : ByteArray), v36 = .int .i64 x36_2 ∧ Aside0 (codec_PutData.l1 kq l0_1 (l0_1.length : Int) x36_2 l0_0 l0_1 l0_2 x161000_2 = some r) ∧ Aside0 (kq ≤ k1) ∧ Aside0 (w'.heap[gb159]? = some (.cells #[(.slice A0_0 l0_0.length c0_0), (.slice A0_1 l0_1.length c0_1), (.slice A0_2 l0_2.length c0_2)] 26 (0, 0))) ∧ Aside0 (IsS68 w w' gb160 x161000_2) ∧ Aside0 (Below w.heap.size w w'))
    case atStart => exact ⟨(0), (t165), (by first | rfl | (simp; done) | (simp [*]; done)), H', ⟨Nat.le_refl _⟩, ⟨kl BK159⟩, ⟨iS68 HI160⟩, ⟨iB68 HB⟩⟩
    case round =>
     clear H'; (try clear c9); (try clear c9b0); (try clear c10); (try clear c10b0); (try clear c11); (try clear c11b0); (try clear hz16); (try clear hz20); (try clear hz22); (try clear hz6); (try clear hz8); (try clear hx162_0); (try clear hx162_1); (try clear hx162_2); (try clear hx162_3); (try clear p162); (try clear q162); obtain ⟨x36_2, x161000_2, rfl, HA, HK2, BK159, HI160, HB⟩ := hrel
     cases gk with
     | zero => exact absurd HA.out (by simp [codec_PutData.l1])
     | succ k2 =>
      have H := HA.out; clear HA; simp only [codec_PutData.l1] at H
      by_cases c23 : x36_2 < (l0_1.length : Int)
      ·rw [if_pos c23] at H; have c23b0 : decide (x36_2 < (l0_1.length : Int)) = true := decide_eq_true c23; clear c23
       by_cases c24 : 0 ≤ x36_2
       ·rw [if_pos c24] at H; have c24b0 : decide (0 ≤ x36_2) = true := decide_eq_true c24; clear c24
        by_cases c25 : x36_2 < (l0_1.length : Int)
        ·rw [if_pos c25] at H; have c25b0 : decide (x36_2 < (l0_1.length : Int)) = true := decide_eq_true c25; clear c25; replace H := Option.bind_eq_some_iff.mp H; obtain ⟨t168, A260, H⟩ := H; (try dsimp only at H); have A26 := aM A260; clear A260; have H' := aM H; clear H; have p166 : 0 ≤ (x36_2 : Int) := oT; have q166 : x36_2 < (l0_1.length : Int) := oT; obtain ⟨ad166, A166_1, c166_1, A166_2, c166_2, e166, hx166_0, hx166_1, hx166_2, hl166_1, hi166_1, hl166_2, hi166_2⟩ := at_T56 HR0_1.out x36_2 p166 q166; cases e166
         replace hx166_0 := hs HB.out hx166_0; replace hx166_1 := hs HB.out hx166_1; replace hx166_2 := hs HB.out hx166_2; have HR166_1 := aM hi166_1; have HC166_1 := aM hl166_1; clear hi166_1 hl166_1; have HR166_2 := aM hi166_2; have HC166_2 := aM hl166_2; clear hi166_2 hl166_2; replace p166 := eq_true p166; replace q166 := eq_true q166
         go_wp2_with (first | ((with_reducible refine gate_dst (N := 7) rfl ?_); refine bx (N := 7) (cs := #[.int .i64 0, .slice none 0 0, .slice none 0 0]) (t := 56) ?_; intro gb167 hg w27 hbox hb; have BK167 := aM (hbox); have GE167 := aM ((by rw [hg]; exact (below_size (iB68 HB)) : w.heap.size ≤ gb167)); obtain ⟨NB159_167, NB167_159⟩ := n2 BK159 hg; have NB160_167 := aM (ni68 HI160 hg); have NB167_160 := aM (ni68 HI160 hg).symm; replace BK159 := aM (kB (kl BK159) hb); replace HI160 := aM (IsS68.below (iS68 HI160) hb); replace HB := aM (bS (iB68 HB) hb); clear hb hbox hg; have hn28 := nn NB167_159; have hn29 := nn NB167_160; have hz30 := bc3 BK167) | ((with_reducible refine gate_callee (f := 29) rfl ?_); refine gL (some 42) Try.func29 #[.pointer (some ⟨gb160, 0, none⟩), .agg #[.int .i64 ((rd_T56 l0_1 x36_2).f0), .slice A166_1 ((rd_T56 l0_1 x36_2).f1).length c166_1, .slice A166_2 ((rd_T56 l0_1 x36_2).f2).length c166_2]] ?_; (with_reducible refine (codec_writer_way.calls k2 gb160 x161000_2 ((rd_T56 l0_1 x36_2).f0) _ _ ((rd_T56 l0_1 x36_2).f1) _ _ ((rd_T56 l0_1 x36_2).f2) t168 w _ (iS68 HI160) (iB68 HB) ?side3 ?side4 ?side5 ?side6 ?side7 A26.out).mono ?_); (case side3 => exact Kd.C_below HR166_1.out (iB68 HB)); (case side4 => exact HC166_1.out); (case side5 => exact Kd.far_C 0 HR166_1.out (IsS68.ge HI160.out)); (case side6 => exact Kd.C_foot_came k130_heap HR166_2.out (iB68 HB) (IsS68.ge HI160.out)); (case side7 => exact HC166_2.out); rintro e w31 ⟨rfl, hi, hb, hk⟩; refine ⟨_, rfl, ?_⟩; replace BK159 := aM (kb hk BK159 NB159_160 (.cells #[.slice A0_0 l0_0.length c0_0, .slice (some ad166) l0_1.length c0_1, .slice A0_2 l0_2.length c0_2] 26 (0, 0))); replace BK167 := aM (kb hk BK167 NB167_160 (.cells #[.int .i64 ((rd_T56 l0_1 x36_2).f0), .slice A166_1 ((rd_T56 l0_1 x36_2).f1).length c166_1, .slice A166_2 ((rd_T56 l0_1 x36_2).f2).length c166_2] 56 (0, 0))); replace HB := aM (hb); replace HI160 := aM (hi); (try clear hb); (try clear hk); (try clear hi)))
         go_roundg k2
         case measure => have := HK1.out; have := HK2.out; omega
         case rel => exact ⟨(wrap64 (x36_2 + 1)), (t168), (by first | rfl | (simp; done) | (simp [*]; done)), H', ⟨by have := HK1.out; have := HK2.out; omega⟩, ⟨kl BK159⟩, ⟨iS68 HI160⟩, ⟨iB68 HB⟩⟩
        ·rw [if_neg c25] at H; exact absurd H (by simp)
       ·rw [if_neg c24] at H; exact absurd H (by simp)
      ·rw [if_neg c23] at H; have c23b0 : decide (x36_2 < (l0_1.length : Int)) = false := decide_eq_false c23; clear c23; replace H := Option.bind_eq_some_iff.mp H; obtain ⟨t169, A320, H⟩ := H; (try dsimp only at H); have A32 := aM A320; clear A320; have H' := aM H; clear H; have hn33 := nn NB159_160; have hz34 := bc3 BK159
       go_wp2_with (first | ((with_reducible refine gate_callee (f := 27) rfl ?_); refine gL (some 48) Try.func27 #[.pointer (some ⟨gb160, 0, none⟩), .int .i64 (l0_2.length : Int)] ?_; (with_reducible refine (codec_writer_count.calls k2 gb160 x161000_2 (l0_2.length : Int) t169 w _ (iS68 HI160) (iB68 HB) A32.out).mono ?_); rintro e w35 ⟨rfl, hi, hb, hk⟩; refine ⟨_, rfl, ?_⟩; replace BK159 := aM (k0 hk BK159 NB159_160); replace HB := aM (hb); replace HI160 := aM (hi); (try clear hb); (try clear hk); (try clear hi); have hz36 := bc3 BK159))
       go_loopg [52] k2 (fun kq v52 w' => ∃ (x52_3 : Int) (x161000_3 : ByteArray), v52 = .int .i64 x52_3 ∧ Aside0 (codec_PutData.l2 kq l0_2 (l0_2.length : Int) x52_3 x161000_3 = some r) ∧ Aside0 (kq ≤ k2) ∧ Aside0 (w'.heap[gb159]? = some (.cells #[(.slice A0_0 l0_0.length c0_0), (.slice A0_1 l0_1.length c0_1), (.slice A0_2 l0_2.length c0_2)] 26 (0, 0))) ∧ Aside0 (IsS68 w w' gb160 x161000_3) ∧ Aside0 (Below w.heap.size w w'))
       case atStart => exact ⟨(0), (t169), (by first | rfl | (simp; done) | (simp [*]; done)), H', ⟨Nat.le_refl _⟩, ⟨kl BK159⟩, ⟨iS68 HI160⟩, ⟨iB68 HB⟩⟩
       case round =>
        clear H'; (try clear c9); (try clear c9b0); (try clear c10); (try clear c10b0); (try clear c11); (try clear c11b0); (try clear c23); (try clear c23b0); (try clear c24); (try clear c24b0); (try clear c25); (try clear c25b0); (try clear hz16); (try clear hz20); (try clear hz22); (try clear hz30); (try clear hz34); (try clear hz36); (try clear hz6); (try clear hz8); (try clear hx162_0); (try clear hx162_1); (try clear hx162_2); (try clear hx162_3); (try clear hx166_0); (try clear hx166_1); (try clear hx166_2); (try clear p162); (try clear p166); (try clear q162); (try clear q166); obtain ⟨x52_3, x161000_3, rfl, HA, HK3, BK159, HI160, HB⟩ := hrel
        cases gk with
        | zero => exact absurd HA.out (by simp [codec_PutData.l2])
        | succ k3 =>
         have H := HA.out; clear HA; simp only [codec_PutData.l2] at H
         by_cases c37 : x52_3 < (l0_2.length : Int)
         ·rw [if_pos c37] at H; have c37b0 : decide (x52_3 < (l0_2.length : Int)) = true := decide_eq_true c37; clear c37
          by_cases c38 : 0 ≤ x52_3
          ·rw [if_pos c38] at H; have c38b0 : decide (0 ≤ x52_3) = true := decide_eq_true c38; clear c38
           by_cases c39 : x52_3 < (l0_2.length : Int)
           ·rw [if_pos c39] at H; have c39b0 : decide (x52_3 < (l0_2.length : Int)) = true := decide_eq_true c39; clear c39; replace H := Option.bind_eq_some_iff.mp H; obtain ⟨t172, A400, H⟩ := H; (try dsimp only at H); have A40 := aM A400; clear A400; have H' := aM H; clear H; have p170 : 0 ≤ (x52_3 : Int) := oT; have q170 : x52_3 < (l0_2.length : Int) := oT; obtain ⟨ad170, A170_1, c170_1, A170_2, c170_2, e170, hx170_0, hx170_1, hx170_2, hl170_1, hi170_1, hl170_2, hi170_2⟩ := at_T59 HR0_2.out x52_3 p170 q170; cases e170
            replace hx170_0 := hs HB.out hx170_0; replace hx170_1 := hs HB.out hx170_1; replace hx170_2 := hs HB.out hx170_2; have HR170_1 := aM hi170_1; have HC170_1 := aM hl170_1; clear hi170_1 hl170_1; have HR170_2 := aM hi170_2; have HC170_2 := aM hl170_2; clear hi170_2 hl170_2; replace p170 := eq_true p170; replace q170 := eq_true q170
            go_wp2_with (first | ((with_reducible refine gate_dst (N := 9) rfl ?_); refine bx (N := 9) (cs := #[.int .i64 0, .slice none 0 0, .slice none 0 0]) (t := 59) ?_; intro gb171 hg w41 hbox hb; have BK171 := aM (hbox); have GE171 := aM ((by rw [hg]; exact (below_size (iB68 HB)) : w.heap.size ≤ gb171)); obtain ⟨NB159_171, NB171_159⟩ := n2 BK159 hg; have NB160_171 := aM (ni68 HI160 hg); have NB171_160 := aM (ni68 HI160 hg).symm; replace BK159 := aM (kB (kl BK159) hb); replace HI160 := aM (IsS68.below (iS68 HI160) hb); replace HB := aM (bS (iB68 HB) hb); clear hb hbox hg; have hn42 := nn NB171_159; have hn43 := nn NB171_160; have hz44 := bc3 BK171) | ((with_reducible refine gate_callee (f := 30) rfl ?_); refine gL (some 58) Try.func30 #[.pointer (some ⟨gb160, 0, none⟩), .agg #[.int .i64 ((rd_T59 l0_2 x52_3).f0), .slice A170_1 ((rd_T59 l0_2 x52_3).f1).length c170_1, .slice A170_2 ((rd_T59 l0_2 x52_3).f2).length c170_2]] ?_; (with_reducible refine (codec_writer_rel.calls k3 gb160 x161000_3 ((rd_T59 l0_2 x52_3).f0) _ _ ((rd_T59 l0_2 x52_3).f1) _ _ ((rd_T59 l0_2 x52_3).f2) t172 w _ (iS68 HI160) (iB68 HB) ?side3 ?side4 ?side5 ?side6 A40.out).mono ?_); (case side3 => exact Kd.C_foot_came k63_heap HR170_1.out (iB68 HB) (IsS68.ge HI160.out)); (case side4 => exact HC170_1.out); (case side5 => exact Kd.C_foot_came k130_heap HR170_2.out (iB68 HB) (IsS68.ge HI160.out)); (case side6 => exact HC170_2.out); rintro e w45 ⟨rfl, hi, hb, hk⟩; refine ⟨_, rfl, ?_⟩; replace BK159 := aM (kb hk BK159 NB159_160 (.cells #[.slice A0_0 l0_0.length c0_0, .slice A0_1 l0_1.length c0_1, .slice (some ad170) l0_2.length c0_2] 26 (0, 0))); replace BK171 := aM (kb hk BK171 NB171_160 (.cells #[.int .i64 ((rd_T59 l0_2 x52_3).f0), .slice A170_1 ((rd_T59 l0_2 x52_3).f1).length c170_1, .slice A170_2 ((rd_T59 l0_2 x52_3).f2).length c170_2] 59 (0, 0))); replace HB := aM (hb); replace HI160 := aM (hi); (try clear hb); (try clear hk); (try clear hi)))
            go_roundg k3
            case measure => have := HK1.out; have := HK2.out; have := HK3.out; omega
            case rel => exact ⟨(wrap64 (x52_3 + 1)), (t172), (by first | rfl | (simp; done) | (simp [*]; done)), H', ⟨by have := HK1.out; have := HK2.out; have := HK3.out; omega⟩, ⟨kl BK159⟩, ⟨iS68 HI160⟩, ⟨iB68 HB⟩⟩
           ·rw [if_neg c39] at H; exact absurd H (by simp)
          ·rw [if_neg c38] at H; exact absurd H (by simp)
         ·rw [if_neg c37] at H; have c37b0 : decide (x52_3 < (l0_2.length : Int)) = false := decide_eq_false c37; clear c37; obtain rfl := Option.some.inj H; obtain ⟨HGz46, hgz46⟩ := HI160.out; have hcz46_0 := cellS68_0 HGz46; have hfz46_0 := kF HGz46 0; clear HGz46 hgz46
          go_wp2
          go_ret; exact ⟨by first | rfl | (simp [errW_none, errW_some] <;> rfl) | (simp [*, errW_none, errW_some] <;> rfl), iB68 HB⟩
end Go.Proofs.Ytefambkodalomaa.PAll
