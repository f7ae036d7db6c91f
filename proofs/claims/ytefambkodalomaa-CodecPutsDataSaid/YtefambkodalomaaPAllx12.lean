-- out of a driver of this session's prover over the kit's print: Lean checks it
import Derived.Test.YtefambkodalomaaPAllx0
import Derived.Test.YtefambkodalomaaPAllx6
import Derived.Test.YtefambkodalomaaPAllx7
import Derived.Test.YtefambkodalomaaPAllx8
import Derived.Test.YtefambkodalomaaPAllx10
namespace Go.Proofs.Ytefambkodalomaa.PAll
open Go.Proofs.YtefambkodalomaaG Go.Shelf Go.Lib
open Go.RowKit Go.Proofs.YtefambkodalomaaW.PrintWords Go.Proofs.YtefambkodalomaaW.PrintLast Go.Proofs.YtefambkodalomaaW.PrintMore
attribute [local go_sem] max2_int min2_int max_two min_two max_three min_three max_four min_four   -- for this text's walks alone
set_option linter.unusedVariables false
set_option linter.unusedSimpArgs false
mutual
def codec_reader_change.j0 : Nat → Bool → ByteArray → Int → Int → Int → Int → Int → Int → Int → Int → Int → Option (Except Int (Int × Int × Int × Int × Int × (List (S130)) × Int × List Int × (List (S130)) × Int × (List (S63)) × (List (S130)) × ByteArray × Int × Int))
 | 0, _, _, _, _, _, _, _, _, _, _, _ => none
 | k + 1, x18, x1000, x1001, x1002, x363000, x363001, x363002, x363003, x363004, x363006, x363009 => if x18 = true then (eB (codec_reader_node.f k x1000 x1001 x1002) fun bt371 => (some (.ok (x363000, x363001, bt371.1, bt371.2.1, bt371.2.2.1, bt371.2.2.2.1, x363006, ([] : List Int), ([] : List (S130)), x363009, ([] : List (S63)), ([] : List (S130)), bt371.2.2.2.2.1, bt371.2.2.2.2.2.1, bt371.2.2.2.2.2.2)))) else (if x363000 = 1 then (codec_reader_change.j1 k (x363001 == 2) x1000 x1001 x1002 x363000 x363001 x363002 x363003 x363004 x363006 x363009) else (codec_reader_change.j1 k false x1000 x1001 x1002 x363000 x363001 x363002 x363003 x363004 x363006 x363009))
def codec_reader_change.j1 : Nat → Bool → ByteArray → Int → Int → Int → Int → Int → Int → Int → Int → Int → Option (Except Int (Int × Int × Int × Int × Int × (List (S130)) × Int × List Int × (List (S130)) × Int × (List (S63)) × (List (S130)) × ByteArray × Int × Int))
 | 0, _, _, _, _, _, _, _, _, _, _, _ => none
 | k + 1, x30, x1000, x1001, x1002, x363000, x363001, x363002, x363003, x363004, x363006, x363009 => if x30 = true then (eB (codec_reader_way.f k x1000 x1001 x1002) fun bt380 => (some (.ok (x363000, x363001, x363002, x363003, x363004, ([] : List (S130)), bt380.1, bt380.2.1, bt380.2.2.1, x363009, ([] : List (S63)), ([] : List (S130)), bt380.2.2.2.1, bt380.2.2.2.2.1, bt380.2.2.2.2.2)))) else (if x363000 = 1 then (eB (codec_reader_rel.f k x1000 x1001 x1002) fun bt390 => (some (.ok (x363000, x363001, x363002, x363003, x363004, ([] : List (S130)), x363006, ([] : List Int), ([] : List (S130)), bt390.1, bt390.2.1, bt390.2.2.1, bt390.2.2.2.1, bt390.2.2.2.2.1, bt390.2.2.2.2.2)))) else (if x363001 = 1 then (eB (codec_reader_int.f k x1000 x1001 x1002) fun bt400 => (some (.ok (x363000, x363001, bt400.1, x363003, x363004, ([] : List (S130)), x363006, ([] : List Int), ([] : List (S130)), x363009, ([] : List (S63)), ([] : List (S130)), bt400.2.1, bt400.2.2.1, bt400.2.2.2)))) else (if x363001 = 2 then (eB (codec_reader_int.f k x1000 x1001 x1002) fun bt404 => (some (.ok (x363000, x363001, x363002, x363003, x363004, ([] : List (S130)), bt404.1, ([] : List Int), ([] : List (S130)), x363009, ([] : List (S63)), ([] : List (S130)), bt404.2.1, bt404.2.2.1, bt404.2.2.2)))) else (eB (codec_reader_int.f k x1000 x1001 x1002) fun bt408 => (some (.ok (x363000, x363001, x363002, x363003, x363004, ([] : List (S130)), x363006, ([] : List Int), ([] : List (S130)), bt408.1, ([] : List (S63)), ([] : List (S130)), bt408.2.1, bt408.2.2.1, bt408.2.2.2)))))))
end
def codec_reader_change.f (k : Nat) (s0_0 : ByteArray) (s0_1 : Int) (s0_2 : Int) : Option (Except Int (Int × Int × Int × Int × Int × (List (S130)) × Int × List Int × (List (S130)) × Int × (List (S63)) × (List (S130)) × ByteArray × Int × Int)) := eB (codec_reader_int.f k s0_0 s0_1 s0_2) fun bt358 => (eB (codec_reader_int.f k bt358.2.1 bt358.2.2.1 bt358.2.2.2) fun bt363 => ((change_Check.f bt358.1 bt363.1 0 0 0 ([] : List (S130)) 0 ([] : List Int) ([] : List (S130)) 0 ([] : List (S63)) ([] : List (S130))).bind fun t367 => (eB (codec_reader_check.f bt363.2.1 bt363.2.2.1 bt363.2.2.2 t367) fun bt368 => (if bt358.1 = 1 then (codec_reader_change.j0 k (bt363.1 == 1) bt368.1 bt368.2.1 bt368.2.2 bt358.1 bt363.1 0 0 0 0 0) else (codec_reader_change.j0 k false bt368.1 bt368.2.1 bt368.2.2 bt358.1 bt363.1 0 0 0 0 0)))))
theorem codec_reader_change.mono_l : ∀ k, (∀ y0 y1 y2 y3 y4 y5 y6 y7 y8 y9 y10, LeO (codec_reader_change.j0 k y0 y1 y2 y3 y4 y5 y6 y7 y8 y9 y10) (codec_reader_change.j0 (k + 1) y0 y1 y2 y3 y4 y5 y6 y7 y8 y9 y10)) ∧ (∀ y0 y1 y2 y3 y4 y5 y6 y7 y8 y9 y10, LeO (codec_reader_change.j1 k y0 y1 y2 y3 y4 y5 y6 y7 y8 y9 y10) (codec_reader_change.j1 (k + 1) y0 y1 y2 y3 y4 y5 y6 y7 y8 y9 y10))
 | 0 => ⟨fun _ _ _ _ _ _ _ _ _ _ _ r h => by simp [codec_reader_change.j0] at h, fun _ _ _ _ _ _ _ _ _ _ _ r h => by simp [codec_reader_change.j1] at h⟩
 | k + 1 => by
  obtain ⟨ih0, ih1⟩ := codec_reader_change.mono_l k
  refine ⟨?_, ?_⟩
  ·intro y0 y1 y2 y3 y4 y5 y6 y7 y8 y9 y10
   unfold codec_reader_change.j0
   repeat' first
   | (with_reducible exact ih0 _ _ _ _ _ _ _ _ _ _ _)
   | (with_reducible exact ih1 _ _ _ _ _ _ _ _ _ _ _)
   | (with_reducible exact codec_reader_int.mono _ _ _ _)
   | (with_reducible exact codec_reader_node.mono _ _ _ _)
   | (with_reducible exact codec_reader_rel.mono _ _ _ _)
   | (with_reducible exact codec_reader_way.mono _ _ _ _)
   | (with_reducible exact LeO.refl _)
   | (with_reducible exact LeO.none _)
   | (with_reducible refine LeO.ite ?_ ?_)
   | (with_reducible refine LeO.eB ?_ (fun _ => ?_))
   | (with_reducible refine LeO.bind ?_ (fun _ => ?_))
   | exact ih0 _ _ _ _ _ _ _ _ _ _ _
   | exact ih1 _ _ _ _ _ _ _ _ _ _ _
   | exact codec_reader_int.mono _ _ _ _
   | exact codec_reader_node.mono _ _ _ _
   | exact codec_reader_rel.mono _ _ _ _
   | exact codec_reader_way.mono _ _ _ _
   | exact LeO.none _
   | refine LeO.ite ?_ ?_
   | refine LeO.bind ?_ (fun _ => ?_)
  ·intro y0 y1 y2 y3 y4 y5 y6 y7 y8 y9 y10
   unfold codec_reader_change.j1
   repeat' first
   | (with_reducible exact ih0 _ _ _ _ _ _ _ _ _ _ _)
   | (with_reducible exact ih1 _ _ _ _ _ _ _ _ _ _ _)
   | (with_reducible exact codec_reader_int.mono _ _ _ _)
   | (with_reducible exact codec_reader_node.mono _ _ _ _)
   | (with_reducible exact codec_reader_rel.mono _ _ _ _)
   | (with_reducible exact codec_reader_way.mono _ _ _ _)
   | (with_reducible exact LeO.refl _)
   | (with_reducible exact LeO.none _)
   | (with_reducible refine LeO.ite ?_ ?_)
   | (with_reducible refine LeO.eB ?_ (fun _ => ?_))
   | (with_reducible refine LeO.bind ?_ (fun _ => ?_))
   | exact ih0 _ _ _ _ _ _ _ _ _ _ _
   | exact ih1 _ _ _ _ _ _ _ _ _ _ _
   | exact codec_reader_int.mono _ _ _ _
   | exact codec_reader_node.mono _ _ _ _
   | exact codec_reader_rel.mono _ _ _ _
   | exact codec_reader_way.mono _ _ _ _
   | exact LeO.none _
   | refine LeO.ite ?_ ?_
   | refine LeO.bind ?_ (fun _ => ?_)
theorem codec_reader_change.mono : ∀ a0 a1 a2 k, LeO (codec_reader_change.f k a0 a1 a2) (codec_reader_change.f (k + 1) a0 a1 a2) := by
 intro a0 a1 a2 k
 obtain ⟨ih0, ih1⟩ := codec_reader_change.mono_l k
 unfold codec_reader_change.f
 repeat' first
   | (with_reducible exact ih0 _ _ _ _ _ _ _ _ _ _ _)
   | (with_reducible exact ih1 _ _ _ _ _ _ _ _ _ _ _)
   | (with_reducible exact codec_reader_int.mono _ _ _ _)
   | (with_reducible exact codec_reader_node.mono _ _ _ _)
   | (with_reducible exact codec_reader_rel.mono _ _ _ _)
   | (with_reducible exact codec_reader_way.mono _ _ _ _)
   | (with_reducible exact LeO.refl _)
   | (with_reducible exact LeO.none _)
   | (with_reducible refine LeO.ite ?_ ?_)
   | (with_reducible refine LeO.eB ?_ (fun _ => ?_))
   | (with_reducible refine LeO.bind ?_ (fun _ => ?_))
   | exact ih0 _ _ _ _ _ _ _ _ _ _ _
   | exact ih1 _ _ _ _ _ _ _ _ _ _ _
   | exact codec_reader_int.mono _ _ _ _
   | exact codec_reader_node.mono _ _ _ _
   | exact codec_reader_rel.mono _ _ _ _
   | exact codec_reader_way.mono _ _ _ _
   | exact LeO.none _
   | refine LeO.ite ?_ ?_
   | refine LeO.bind ?_ (fun _ => ?_)
def codec_reader_change.Post (w0 w : World) (g : Nat) : Except Int (Int × Int × Int × Int × Int × (List (S130)) × Int × List Int × (List (S130)) × Int × (List (S63)) × (List (S130)) × ByteArray × Int × Int) → Ending → World → Prop
 | .ok (r1, r2, r3, r4, r5, r6, r7, r8, r9, r10, r11, r12, r13, r14, r15), e, w' => ∃ v5_ v7_ v8_ v10_ v11_ : Value, e = .returned (.agg #[.int .i64 r1, .int .i64 r2, .int .i64 r3, .int .i64 r4, .int .i64 r5, v5_, .int .i64 r7, v7_, v8_, .int .i64 r10, v10_, v11_]) ∧ Kd.R k130 130 w' w.heap.size (fun k_ => some k_ ≠ (v8_ : Value).ownBlock ∧ some k_ ≠ (v11_ : Value).ownBlock) v5_ r6 ∧ Kd.R (Kd.int .i64) 3 w' w.heap.size (fun _ => True) v7_ r8 ∧ Kd.R k130 130 w' w.heap.size (fun k_ => some k_ ≠ (v5_ : Value).ownBlock ∧ some k_ ≠ (v11_ : Value).ownBlock) v8_ r9 ∧ Kd.R k63 63 w' w.heap.size (fun _ => True) v10_ r11 ∧ Kd.R k130 130 w' w.heap.size (fun k_ => some k_ ≠ (v5_ : Value).ownBlock ∧ some k_ ≠ (v8_ : Value).ownBlock) v11_ r12 ∧ IsS164 w0 w' g r13 r14 r15 ∧ Below w0.heap.size w0 w' ∧ KeepBut w w' g none
 | .error xe_, e, w' => e = .panicked [{ v := .iface 139 (.int .i64 xe_), recovered := false }] ∧ Below w0.heap.size w0 w'
set_option maxHeartbeats 8000000 in
set_option maxRecDepth 100000 in
theorem codec_reader_change.calls (k : Nat) (g : Nat) (s0_0 : ByteArray) (s0_1 : Int) (s0_2 : Int) (r : Except Int (Int × Int × Int × Int × Int × (List (S130)) × Int × List Int × (List (S130)) × Int × (List (S63)) × (List (S130)) × ByteArray × Int × Int)) (w0 w : World) (hI : IsS164 w0 w g s0_0 s0_1 s0_2) (hB : Below w0.heap.size w0 w) (h : codec_reader_change.f k s0_0 s0_1 s0_2 = some r) :
  Calls Try.prog 58 #[.agg #[.pointer (some ⟨g, 0, none⟩)]] w (codec_reader_change.Post w0 w g r) := by
 have hu81 := Try.underlying81
 have hu65 := Try.underlying65
 have hu53 := Try.underlying53
 have hu56 := Try.underlying56
 have hu59 := Try.underlying59
 have HI0 := aM hI
 have HK := aM (KeepBut.refl w g none)
 have HL := aM hB.size
 clear hI
 have HW0 := aM hB.size
 have HB := aM hB
 clear hB
 have H : (eB (codec_reader_int.f k s0_0 s0_1 s0_2) fun bt358 => (eB (codec_reader_int.f k bt358.2.1 bt358.2.2.1 bt358.2.2.2) fun bt363 => ((change_Check.f bt358.1 bt363.1 0 0 0 ([] : List (S130)) 0 ([] : List Int) ([] : List (S130)) 0 ([] : List (S63)) ([] : List (S130))).bind fun t367 => (eB (codec_reader_check.f bt363.2.1 bt363.2.2.1 bt363.2.2.2 t367) fun bt368 => (if bt358.1 = 1 then (codec_reader_change.j0 k (bt363.1 == 1) bt368.1 bt368.2.1 bt368.2.2 bt358.1 bt363.1 0 0 0 0 0) else (codec_reader_change.j0 k false bt368.1 bt368.2.1 bt368.2.2 bt358.1 bt363.1 0 0 0 0 0)))))) = some r := h
 clear h
 rcases eB_cases H with ⟨xe_, A20, H⟩ | ⟨⟨t358, t359, t360, t361⟩, A20, H⟩
 ·subst H
  have A2 := aM A20
  clear A20
  go_enter Try.func58, Try.ntmps58
  go_wp2_with (first | ((with_reducible refine gate_dst (N := 1) rfl ?_); refine bx (N := 1) (cs := #[.pointer (some ⟨g, 0, none⟩)]) (t := 81) ?_; intro gb356 hg w3 hbox hb; have BK356 := aM (hbox); have GW356 := aM (gk HK hg); have GE356 := aM (Nat.le_trans HW0.out (gk HK hg)); have NB0_356 := aM (ni164 HI0 hg); have NB356_0 := aM (ni164 HI0 hg).symm; replace HI0 := aM (IsS164.below (iS164 HI0) hb); replace HK := aM (kt HK hb); replace HB := aM (bS (iB164 HB) hb); clear hb hbox hg) | ((with_reducible refine gate_dst (N := 2) rfl ?_); refine bx (N := 2) (cs := #[.int .i64 0, .int .i64 0, .int .i64 0, .int .i64 0, .int .i64 0, .slice none 0 0, .int .i64 0, .slice none 0 0, .slice none 0 0, .int .i64 0, .slice none 0 0, .slice none 0 0]) (t := 65) ?_; intro gb357 hg w4 hbox hb; have n0_ := aM (IsS164.below (iS164 HI0) hb); have n1_ := aM (kB (kl BK356) hb); have n2_ := aM (kt HK hb); have n3_ := aM (bS (iB164 HB) hb); have n6_ := aM (Nat.le_trans HW0.out (gk HK hg)); have n7_ := aM (nb BK356 hg); have n8_ := aM (nb BK356 hg).symm; have n9_ := aM (ni164 HI0 hg); (try clear HI0); (try clear BK356); (try clear HK); (try clear HB); have HI0 := n0_; have BK356 := n1_; have HK := n2_; have HB := n3_; have GE357 := n6_; have NB356_357 := n7_; have NB357_356 := n8_; have NB0_357 := n9_; clear n0_ n1_ n2_ n3_ n6_ n7_ n8_ n9_ hb hbox hg; obtain ⟨hnb5, hnc5⟩ := nn NB356_357; obtain ⟨hnb6, hnc6⟩ := nn NB356_0; obtain ⟨hcz7_0, hfz7_0⟩ := bc1 BK356) | (go_at_call 86; (with_reducible refine (codec_reader_int.calls k g s0_0 s0_1 s0_2 (.error xe_) w0 _ (iS164 HI0) (iB164 HB) A2.out).mono ?_); rintro e w8 ⟨rfl, hb⟩))
  (first | exact ⟨rfl, rfl, hb⟩ | exact ⟨rfl, hb⟩ | (go_simp; exact ⟨rfl, hb⟩) | (simp; exact ⟨rfl, hb⟩))
 ·replace H : (eB (codec_reader_int.f k t359 t360 t361) fun bt363 => ((change_Check.f t358 bt363.1 0 0 0 ([] : List (S130)) 0 ([] : List Int) ([] : List (S130)) 0 ([] : List (S63)) ([] : List (S130))).bind fun t367 => (eB (codec_reader_check.f bt363.2.1 bt363.2.2.1 bt363.2.2.2 t367) fun bt368 => (if t358 = 1 then (codec_reader_change.j0 k (bt363.1 == 1) bt368.1 bt368.2.1 bt368.2.2 t358 bt363.1 0 0 0 0 0) else (codec_reader_change.j0 k false bt368.1 bt368.2.1 bt368.2.2 t358 bt363.1 0 0 0 0 0))))) = some r := H
  have A2 := aM A20
  clear A20
  rcases eB_cases H with ⟨xe_, A90, H⟩ | ⟨⟨t363, t364, t365, t366⟩, A90, H⟩
  ·subst H
   have A9 := aM A90
   clear A90
   go_enter Try.func58, Try.ntmps58
   go_wp2_with (first | ((with_reducible refine gate_dst (N := 1) rfl ?_); refine bx (N := 1) (cs := #[.pointer (some ⟨g, 0, none⟩)]) (t := 81) ?_; intro gb356 hg w10 hbox hb; have BK356 := aM (hbox); have GW356 := aM (gk HK hg); have GE356 := aM (Nat.le_trans HW0.out (gk HK hg)); have NB0_356 := aM (ni164 HI0 hg); have NB356_0 := aM (ni164 HI0 hg).symm; replace HI0 := aM (IsS164.below (iS164 HI0) hb); replace HK := aM (kt HK hb); replace HB := aM (bS (iB164 HB) hb); clear hb hbox hg) | ((with_reducible refine gate_dst (N := 2) rfl ?_); refine bx (N := 2) (cs := #[.int .i64 0, .int .i64 0, .int .i64 0, .int .i64 0, .int .i64 0, .slice none 0 0, .int .i64 0, .slice none 0 0, .slice none 0 0, .int .i64 0, .slice none 0 0, .slice none 0 0]) (t := 65) ?_; intro gb357 hg w11 hbox hb; have BK357 := aM (hbox); have GW357 := aM (gk HK hg); have GE357 := aM (Nat.le_trans HW0.out (gk HK hg)); have NB356_357 := aM (nb BK356 hg); have NB357_356 := aM (nb BK356 hg).symm; have NB0_357 := aM (ni164 HI0 hg); have NB357_0 := aM (ni164 HI0 hg).symm; replace HI0 := aM (IsS164.below (iS164 HI0) hb); replace BK356 := aM (kB (kl BK356) hb); replace HK := aM (kt HK hb); replace HB := aM (bS (iB164 HB) hb); clear hb hbox hg; obtain ⟨hnb12, hnc12⟩ := nn NB356_357; obtain ⟨hnb13, hnc13⟩ := nn NB356_0; obtain ⟨hcz14_0, hfz14_0⟩ := bc1 BK356) | ((with_reducible refine gate_callee (f := 86) rfl ?_); refine gL (some 5) Try.func86 #[.agg #[.pointer (some ⟨g, 0, none⟩)]] ?_; (with_reducible refine (codec_reader_int.calls k g s0_0 s0_1 s0_2 (.ok (t358, t359, t360, t361)) w0 _ (iS164 HI0) (iB164 HB) A2.out).mono ?_); rintro e w15 ⟨rfl, hi, hb, hk⟩; refine ⟨_, rfl, ?_⟩; replace BK356 := aM (k0 hk BK356 NB356_0); replace BK357 := aM (k0 hk BK357 NB357_0); replace HK := aM (ku HK hk); replace HB := aM (hb); replace HI0 := aM (hi); (try clear hb); (try clear hk); (try clear hi)) | ((with_reducible refine gate_dst (N := 3) rfl ?_); refine bx (N := 3) (cs := #[.int .i64 0, .int .i64 0, .int .i64 0, .int .i64 0, .int .i64 0, .slice none 0 0, .int .i64 0, .slice none 0 0, .slice none 0 0, .int .i64 0, .slice none 0 0, .slice none 0 0]) (t := 65) ?_; intro gb362 hg w16 hbox hb; have n0_ := aM (IsS164.below (iS164 HI0) hb); have n1_ := aM (kB (kl BK356) hb); have n2_ := aM (kB (kl BK357) hb); have n3_ := aM (kt HK hb); have n4_ := aM (bS (iB164 HB) hb); have n5_ := aM (hbox); have n7_ := aM (Nat.le_trans HW0.out (gk HK hg)); have n8_ := aM (nb BK356 hg); have n9_ := aM (nb BK356 hg).symm; have n10_ := aM (nb BK357 hg); have n11_ := aM (nb BK357 hg).symm; have n12_ := aM (ni164 HI0 hg); have n13_ := aM (ni164 HI0 hg).symm; (try clear HI0); (try clear BK356); (try clear BK357); (try clear HK); (try clear HB); have HI0 := n0_; have BK356 := n1_; have BK357 := n2_; have HK := n3_; have HB := n4_; have BK362 := n5_; have GE362 := n7_; have NB356_362 := n8_; have NB362_356 := n9_; have NB357_362 := n10_; have NB362_357 := n11_; have NB0_362 := n12_; have NB362_0 := n13_; clear n0_ n1_ n2_ n3_ n4_ n5_ n7_ n8_ n9_ n10_ n11_ n12_ n13_ hb hbox hg; obtain ⟨hnb17, hnc17⟩ := nn NB362_356; obtain ⟨hnb18, hnc18⟩ := nn NB362_357; obtain ⟨hnb19, hnc19⟩ := nn NB362_0; obtain ⟨hcz20_0, hcz20_1, hcz20_2, hcz20_3, hcz20_4, hcz20_5, hcz20_6, hcz20_7, hcz20_8, hcz20_9, hcz20_10, hcz20_11, hfz20_0, hfz20_1, hfz20_2, hfz20_3, hfz20_4, hfz20_5, hfz20_6, hfz20_7, hfz20_8, hfz20_9, hfz20_10, hfz20_11⟩ := bc12 BK362; obtain ⟨hcz21_0, hfz21_0⟩ := bc1 BK356) | (go_at_call 86; (with_reducible refine (codec_reader_int.calls k g t359 t360 t361 (.error xe_) w0 _ (iS164 HI0) (iB164 HB) A9.out).mono ?_); rintro e w22 ⟨rfl, hb⟩))
   (first | exact ⟨rfl, rfl, hb⟩ | exact ⟨rfl, hb⟩ | (go_simp; exact ⟨rfl, hb⟩) | (simp; exact ⟨rfl, hb⟩))
  ·replace H : ((change_Check.f t358 t363 0 0 0 ([] : List (S130)) 0 ([] : List Int) ([] : List (S130)) 0 ([] : List (S63)) ([] : List (S130))).bind fun t367 => (eB (codec_reader_check.f t364 t365 t366 t367) fun bt368 => (if t358 = 1 then (codec_reader_change.j0 k (t363 == 1) bt368.1 bt368.2.1 bt368.2.2 t358 t363 0 0 0 0 0) else (codec_reader_change.j0 k false bt368.1 bt368.2.1 bt368.2.2 t358 t363 0 0 0 0 0)))) = some r := H
   have A9 := aM A90
   clear A90
   replace H := Option.bind_eq_some_iff.mp H
   obtain ⟨t367, A230, H⟩ := H
   try dsimp only at H
   have A23 := aM A230
   clear A230
   rcases eB_cases H with ⟨xe_, A240, H⟩ | ⟨⟨t368, t369, t370⟩, A240, H⟩
   ·subst H
    have A24 := aM A240
    clear A240
    go_enter Try.func58, Try.ntmps58
    try go_wp2_with (first | ((with_reducible refine gate_dst (N := 1) rfl ?_); refine bx (N := 1) (cs := #[.pointer (some ⟨g, 0, none⟩)]) (t := 81) ?_; intro gb356 hg w26 hbox hb; have BK356 := aM (hbox); have GW356 := aM (gk HK hg); have GE356 := aM (Nat.le_trans HW0.out (gk HK hg)); have NB0_356 := aM (ni164 HI0 hg); have NB356_0 := aM (ni164 HI0 hg).symm; replace HI0 := aM (IsS164.below (iS164 HI0) hb); replace HK := aM (kt HK hb); replace HB := aM (bS (iB164 HB) hb); clear hb hbox hg) | ((with_reducible refine gate_dst (N := 2) rfl ?_); refine bx (N := 2) (cs := #[.int .i64 0, .int .i64 0, .int .i64 0, .int .i64 0, .int .i64 0, .slice none 0 0, .int .i64 0, .slice none 0 0, .slice none 0 0, .int .i64 0, .slice none 0 0, .slice none 0 0]) (t := 65) ?_; intro gb357 hg w27 hbox hb; have BK357 := aM (hbox); have GW357 := aM (gk HK hg); have GE357 := aM (Nat.le_trans HW0.out (gk HK hg)); have NB356_357 := aM (nb BK356 hg); have NB357_356 := aM (nb BK356 hg).symm; have NB0_357 := aM (ni164 HI0 hg); have NB357_0 := aM (ni164 HI0 hg).symm; replace HI0 := aM (IsS164.below (iS164 HI0) hb); replace BK356 := aM (kB (kl BK356) hb); replace HK := aM (kt HK hb); replace HB := aM (bS (iB164 HB) hb); clear hb hbox hg; obtain ⟨hnb28, hnc28⟩ := nn NB356_357; obtain ⟨hnb29, hnc29⟩ := nn NB356_0; obtain ⟨hcz30_0, hfz30_0⟩ := bc1 BK356) | ((with_reducible refine gate_callee (f := 86) rfl ?_); refine gL (some 5) Try.func86 #[.agg #[.pointer (some ⟨g, 0, none⟩)]] ?_; (with_reducible refine (codec_reader_int.calls k g s0_0 s0_1 s0_2 (.ok (t358, t359, t360, t361)) w0 _ (iS164 HI0) (iB164 HB) A2.out).mono ?_); rintro e w31 ⟨rfl, hi, hb, hk⟩; refine ⟨_, rfl, ?_⟩; replace BK356 := aM (k0 hk BK356 NB356_0); replace BK357 := aM (k0 hk BK357 NB357_0); replace HK := aM (ku HK hk); replace HB := aM (hb); replace HI0 := aM (hi); (try clear hb); (try clear hk); (try clear hi)) | ((with_reducible refine gate_dst (N := 3) rfl ?_); refine bx (N := 3) (cs := #[.int .i64 0, .int .i64 0, .int .i64 0, .int .i64 0, .int .i64 0, .slice none 0 0, .int .i64 0, .slice none 0 0, .slice none 0 0, .int .i64 0, .slice none 0 0, .slice none 0 0]) (t := 65) ?_; intro gb362 hg w32 hbox hb; have BK362 := aM (hbox); have GW362 := aM (gk HK hg); have GE362 := aM (Nat.le_trans HW0.out (gk HK hg)); have NB356_362 := aM (nb BK356 hg); have NB362_356 := aM (nb BK356 hg).symm; have NB357_362 := aM (nb BK357 hg); have NB362_357 := aM (nb BK357 hg).symm; have NB0_362 := aM (ni164 HI0 hg); have NB362_0 := aM (ni164 HI0 hg).symm; replace HI0 := aM (IsS164.below (iS164 HI0) hb); replace BK356 := aM (kB (kl BK356) hb); replace BK357 := aM (kB (kl BK357) hb); replace HK := aM (kt HK hb); replace HB := aM (bS (iB164 HB) hb); clear hb hbox hg; obtain ⟨hnb33, hnc33⟩ := nn NB362_356; obtain ⟨hnb34, hnc34⟩ := nn NB362_357; obtain ⟨hnb35, hnc35⟩ := nn NB362_0; obtain ⟨hcz36_0, hcz36_1, hcz36_2, hcz36_3, hcz36_4, hcz36_5, hcz36_6, hcz36_7, hcz36_8, hcz36_9, hcz36_10, hcz36_11, hfz36_0, hfz36_1, hfz36_2, hfz36_3, hfz36_4, hfz36_5, hfz36_6, hfz36_7, hfz36_8, hfz36_9, hfz36_10, hfz36_11⟩ := bc12 BK362; obtain ⟨hcz37_0, hfz37_0⟩ := bc1 BK356) | ((with_reducible refine gate_callee (f := 86) rfl ?_); refine gL (some 8) Try.func86 #[.agg #[.pointer (some ⟨g, 0, none⟩)]] ?_; (with_reducible refine (codec_reader_int.calls k g t359 t360 t361 (.ok (t363, t364, t365, t366)) w0 _ (iS164 HI0) (iB164 HB) A9.out).mono ?_); rintro e w38 ⟨rfl, hi, hb, hk⟩; refine ⟨_, rfl, ?_⟩; replace BK356 := aM (kb hk BK356 NB356_0 (.cells #[.pointer (some ⟨g, 0, none⟩)] 81 (0, 0))); replace BK357 := aM (kb hk BK357 NB357_0 (.cells #[.int .i64 0, .int .i64 0, .int .i64 0, .int .i64 0, .int .i64 0, .slice none 0 0, .int .i64 0, .slice none 0 0, .slice none 0 0, .int .i64 0, .slice none 0 0, .slice none 0 0] 65 (0, 0))); replace BK362 := aM (kb hk BK362 NB362_0 (.cells #[.int .i64 t358, .int .i64 0, .int .i64 0, .int .i64 0, .int .i64 0, .slice none 0 0, .int .i64 0, .slice none 0 0, .slice none 0 0, .int .i64 0, .slice none 0 0, .slice none 0 0] 65 (0, 0))); replace HK := aM (ku HK hk); replace HB := aM (hb); replace HI0 := aM (hi); (try clear hb); (try clear hk); (try clear hi); obtain ⟨hcz39_0, hcz39_1, hcz39_2, hcz39_3, hcz39_4, hcz39_5, hcz39_6, hcz39_7, hcz39_8, hcz39_9, hcz39_10, hcz39_11, hfz39_0, hfz39_1, hfz39_2, hfz39_3, hfz39_4, hfz39_5, hfz39_6, hfz39_7, hfz39_8, hfz39_9, hfz39_10, hfz39_11⟩ := bc12 BK362))
    have n0_ : Aside0 ((w38.setCell ⟨gb362, 1, none⟩ (.int .i64 t363)).heap[gb356]? = some (.cells #[.pointer (some ⟨g, 0, none⟩)] 81 (0, 0))) := ⟨bk BK356⟩
    have n1_ : Aside0 ((w38.setCell ⟨gb362, 1, none⟩ (.int .i64 t363)).heap[gb357]? = some (.cells #[.int .i64 0, .int .i64 0, .int .i64 0, .int .i64 0, .int .i64 0, .slice none 0 0, .int .i64 0, .slice none 0 0, .slice none 0 0, .int .i64 0, .slice none 0 0, .slice none 0 0] 65 (0, 0))) := ⟨bk BK357⟩
    have n2_ : Aside0 ((w38.setCell ⟨gb362, 1, none⟩ (.int .i64 t363)).heap[gb362]? = some (.cells #[.int .i64 t358, .int .i64 t363, .int .i64 0, .int .i64 0, .int .i64 0, .slice none 0 0, .int .i64 0, .slice none 0 0, .slice none 0 0, .int .i64 0, .slice none 0 0, .slice none 0 0] 65 (0, 0))) := ⟨bk BK362⟩
    have n3_ : Aside0 (IsS164 w0 (w38.setCell ⟨gb362, 1, none⟩ (.int .i64 t363)) g t364 t365 t366) := ⟨iS164 HI0⟩
    have n4_ : Aside0 (KeepBut w (w38.setCell ⟨gb362, 1, none⟩ (.int .i64 t363)) g none) := ⟨kp HK⟩
    have n5_ : Aside0 (Below w0.heap.size w0 (w38.setCell ⟨gb362, 1, none⟩ (.int .i64 t363))) := ⟨iB164 HB⟩
    (try clear BK356)
    (try clear BK357)
    (try clear BK362)
    (try clear HI0)
    (try clear HK)
    (try clear HB)
    generalize (w38.setCell ⟨gb362, 1, none⟩ (.int .i64 t363)) = w40 at n0_ n1_ n2_ n3_ n4_ n5_ ⊢
    have BK356 := n0_
    have BK357 := n1_
    have BK362 := n2_
    have HI0 := n3_
    have HK := n4_
    have HB := n5_
    clear n0_ n1_ n2_ n3_ n4_ n5_
    replace BK356 := aM (kD BK356.out)
    replace BK362 := aM (kD BK362.out)
    replace HI0 := aM (IsS164.drew HI0.out)
    replace HB := aM (bD HB.out)
    clear BK357 HK
    refine start_ (n := 4) (S := fun w' => w'.cell? ⟨gb356, 0, none⟩ = some (.pointer (some ⟨g, 0, none⟩)) ∧ w'.cell? ⟨gb362, 0, none⟩ = some (.int .i64 t358) ∧ w'.cell? ⟨gb362, 1, none⟩ = some (.int .i64 t363) ∧ w'.cell? ⟨gb362, 2, none⟩ = some (.int .i64 0) ∧ w'.cell? ⟨gb362, 3, none⟩ = some (.int .i64 0) ∧ w'.cell? ⟨gb362, 4, none⟩ = some (.int .i64 0) ∧ w'.cell? ⟨gb362, 5, none⟩ = some (.slice none 0 0) ∧ w'.cell? ⟨gb362, 6, none⟩ = some (.int .i64 0) ∧ w'.cell? ⟨gb362, 7, none⟩ = some (.slice none 0 0) ∧ w'.cell? ⟨gb362, 8, none⟩ = some (.slice none 0 0) ∧ w'.cell? ⟨gb362, 9, none⟩ = some (.int .i64 0) ∧ w'.cell? ⟨gb362, 10, none⟩ = some (.slice none 0 0) ∧ w'.cell? ⟨gb362, 11, none⟩ = some (.slice none 0 0)) (ds := []) #[false, false, false, false] (by kernel_rfl) rfl rfl ⟨(kC BK356.out 0).trans rfl, (kC BK362.out 0).trans rfl, (kC BK362.out 1).trans rfl, (kC BK362.out 2).trans rfl, (kC BK362.out 3).trans rfl, (kC BK362.out 4).trans rfl, (kC BK362.out 5).trans rfl, (kC BK362.out 6).trans rfl, (kC BK362.out 7).trans rfl, (kC BK362.out 8).trans rfl, (kC BK362.out 9).trans rfl, (kC BK362.out 10).trans rfl, (kC BK362.out 11).trans rfl⟩ (fun hHeld => ?_)
    generalize w40.drew = w41 at BK356 BK362 HI0 HB hHeld ⊢
    refine take_ (i := 0) (N := some 10) (v := ?_) (a' := ?_) (ba 4 1) rfl rfl (by kernel_rfl) (fun _ _ _ h => h) (Or.inl ⟨by rfl, ?_⟩) hHeld ?_ ?_
    rotate_left
    ·rintro w' ⟨s0, s1, s2, s3, s4, s5, s6, s7, s8, s9, s10, s11, s12⟩
     go_simp
     with_reducible rfl
    rotate_left
    ·simp only [Act.put, sA, sB, sC, i64_w, i32_w]
     rfl
    refine take_ (i := 1) (N := some 11) (v := ?_) (a' := ?_) (ba 4 3) rfl rfl (by kernel_rfl) (fun _ _ _ h => h) (Or.inl ⟨by rfl, ?_⟩) hHeld ?_ ?_
    rotate_left
    ·rintro w' ⟨s0, s1, s2, s3, s4, s5, s6, s7, s8, s9, s10, s11, s12⟩
     go_simp
     with_reducible rfl
    rotate_left
    ·simp only [Act.put, sA, sB, sC, i64_w, i32_w]
     rfl
    refine one_ (i := 2) (N := some 12) (ba 4 7) rfl rfl (by kernel_rfl) (by decide) (fun K hK => ?_)
    refine goes_ Try.func51 (by kernel_rfl) rfl #[.agg #[.int .i64 t358, .int .i64 t363, .int .i64 0, .int .i64 0, .int .i64 0, .slice none 0 0, .int .i64 0, .slice none 0 0, .slice none 0 0, .int .i64 0, .slice none 0 0, .slice none 0 0]] (by rfl) rfl rfl (by (try simp only [List.map_toArray, List.map_cons, List.map_nil]); first | done | rfl | (simp only [List.length_drop, List.length_take]; rfl)) ?_
    refine (change_Check.calls t358 t363 0 0 0 _ _ ([] : List (S130)) 0 _ _ ([] : List Int) _ _ ([] : List (S130)) 0 _ _ ([] : List (S63)) _ _ ([] : List (S130)) t367 _ ?side1 ?side2 ?side3 ?side4 ?side5 ?side6 ?side7 ?side8 ?side9 ?side10 A23.out).mono ?_
    (case side1 => exact Kd.C_nil _ _)
    (case side2 => exact Nat.le_refl _)
    (case side3 => exact Kd.C_nil _ _)
    (case side4 => exact Nat.le_refl _)
    (case side5 => exact Kd.C_nil _ _)
    (case side6 => exact Nat.le_refl _)
    (case side7 => exact Kd.C_nil _ _)
    (case side8 => exact Nat.le_refl _)
    (case side9 => exact Kd.C_nil _ _)
    (case side10 => exact Nat.le_refl _)
    rintro e w42 ⟨rfl, hb⟩
    refine ⟨_, rfl, ?_⟩
    replace HI0 := aM (IsS164.below (iS164 HI0) hb)
    replace BK356 := aM (kB (kl BK356) hb)
    replace BK362 := aM (kB (kl BK362) hb)
    replace HB := aM (bS (iB164 HB) hb)
    (try clear hb)
    (try clear hb2)
    (try clear hk)
    (try clear hi)
    refine hK.out _ _ ⟨(kC BK356.out 0).trans rfl, (kC BK362.out 0).trans rfl, (kC BK362.out 1).trans rfl, (kC BK362.out 2).trans rfl, (kC BK362.out 3).trans rfl, (kC BK362.out 4).trans rfl, (kC BK362.out 5).trans rfl, (kC BK362.out 6).trans rfl, (kC BK362.out 7).trans rfl, (kC BK362.out 8).trans rfl, (kC BK362.out 9).trans rfl, (kC BK362.out 10).trans rfl, (kC BK362.out 11).trans rfl⟩ (fun hHeld => ?_)
    clear hK K
    refine norm_ (a' := ?_) ?_ ?_
    rotate_left
    ·show Act.put _ (some 12) _ = _
     simp only [Act.put, sA, sB, sC, i64_w, i32_w]
     rfl
    refine one_ (i := 3) (N := some 13) (ba 4 15) rfl rfl (by kernel_rfl) (by decide) (fun K hK => ?_)
    refine goesP_ Try.func82 (by kernel_rfl) rfl #[.agg #[.pointer (some ⟨g, 0, none⟩)], .int .i64 t367] (by rfl) rfl rfl (by (try simp only [List.map_toArray, List.map_cons, List.map_nil]); first | done | rfl | (simp only [List.length_drop, List.length_take]; rfl)) ?_
    with_reducible refine (codec_reader_check.calls g t364 t365 t366 t367 (.error xe_) w0 _ ?side1 ?side2 A24.out).mono ?_
    (case side1 => repeat (first | (with_reducible first | exact HI0.out | apply IsS164.alloc | apply IsS164.drewN | apply IsS164.drew | apply IsS164.set_0 | apply IsS164.set_1 | apply IsS164.set_2 | refine IsS164.far ?_ NB0_356.out _ | refine IsS164.far ?_ NB0_357.out _ | refine IsS164.far ?_ NB0_362.out _) | exact HI0.out))
    (case side2 => repeat (first | (with_reducible first | exact HB.out | apply bA | apply bN | apply bD | refine bT ?_ (IsS164.ge HI0.out) | refine bT ?_ GE356.out | refine bT ?_ GE357.out | refine bT ?_ GE362.out) | exact HB.out))
    rintro e wP_ ⟨rfl, hb⟩
    refine ⟨_, rfl, ?_⟩
    (first | exact ⟨rfl, rfl, hb⟩ | exact ⟨rfl, hb⟩ | (go_simp; exact ⟨rfl, hb⟩) | (simp; exact ⟨rfl, hb⟩))
   ·replace H : (if t358 = 1 then (codec_reader_change.j0 k (t363 == 1) t368 t369 t370 t358 t363 0 0 0 0 0) else (codec_reader_change.j0 k false t368 t369 t370 t358 t363 0 0 0 0 0)) = some r := H
    have A24 := aM A240
    clear A240
    have HC44 := aM H
    clear H
    go_enter Try.func58, Try.ntmps58
    try go_wp2_with (first | ((with_reducible refine gate_dst (N := 1) rfl ?_); refine bx (N := 1) (cs := #[.pointer (some ⟨g, 0, none⟩)]) (t := 81) ?_; intro gb356 hg w45 hbox hb; have BK356 := aM (hbox); have GW356 := aM (gk HK hg); have GE356 := aM (Nat.le_trans HW0.out (gk HK hg)); have NB0_356 := aM (ni164 HI0 hg); have NB356_0 := aM (ni164 HI0 hg).symm; replace HI0 := aM (IsS164.below (iS164 HI0) hb); replace HK := aM (kt HK hb); replace HB := aM (bS (iB164 HB) hb); clear hb hbox hg) | ((with_reducible refine gate_dst (N := 2) rfl ?_); refine bx (N := 2) (cs := #[.int .i64 0, .int .i64 0, .int .i64 0, .int .i64 0, .int .i64 0, .slice none 0 0, .int .i64 0, .slice none 0 0, .slice none 0 0, .int .i64 0, .slice none 0 0, .slice none 0 0]) (t := 65) ?_; intro gb357 hg w46 hbox hb; have BK357 := aM (hbox); have GW357 := aM (gk HK hg); have GE357 := aM (Nat.le_trans HW0.out (gk HK hg)); have NB356_357 := aM (nb BK356 hg); have NB357_356 := aM (nb BK356 hg).symm; have NB0_357 := aM (ni164 HI0 hg); have NB357_0 := aM (ni164 HI0 hg).symm; replace HI0 := aM (IsS164.below (iS164 HI0) hb); replace BK356 := aM (kB (kl BK356) hb); replace HK := aM (kt HK hb); replace HB := aM (bS (iB164 HB) hb); clear hb hbox hg; obtain ⟨hnb47, hnc47⟩ := nn NB356_357; obtain ⟨hnb48, hnc48⟩ := nn NB356_0; obtain ⟨hcz49_0, hfz49_0⟩ := bc1 BK356) | ((with_reducible refine gate_callee (f := 86) rfl ?_); refine gL (some 5) Try.func86 #[.agg #[.pointer (some ⟨g, 0, none⟩)]] ?_; (with_reducible refine (codec_reader_int.calls k g s0_0 s0_1 s0_2 (.ok (t358, t359, t360, t361)) w0 _ (iS164 HI0) (iB164 HB) A2.out).mono ?_); rintro e w50 ⟨rfl, hi, hb, hk⟩; refine ⟨_, rfl, ?_⟩; replace BK356 := aM (k0 hk BK356 NB356_0); replace BK357 := aM (k0 hk BK357 NB357_0); replace HK := aM (ku HK hk); replace HB := aM (hb); replace HI0 := aM (hi); (try clear hb); (try clear hk); (try clear hi)) | ((with_reducible refine gate_dst (N := 3) rfl ?_); refine bx (N := 3) (cs := #[.int .i64 0, .int .i64 0, .int .i64 0, .int .i64 0, .int .i64 0, .slice none 0 0, .int .i64 0, .slice none 0 0, .slice none 0 0, .int .i64 0, .slice none 0 0, .slice none 0 0]) (t := 65) ?_; intro gb362 hg w51 hbox hb; have BK362 := aM (hbox); have GW362 := aM (gk HK hg); have GE362 := aM (Nat.le_trans HW0.out (gk HK hg)); have NB356_362 := aM (nb BK356 hg); have NB362_356 := aM (nb BK356 hg).symm; have NB357_362 := aM (nb BK357 hg); have NB362_357 := aM (nb BK357 hg).symm; have NB0_362 := aM (ni164 HI0 hg); have NB362_0 := aM (ni164 HI0 hg).symm; replace HI0 := aM (IsS164.below (iS164 HI0) hb); replace BK356 := aM (kB (kl BK356) hb); replace BK357 := aM (kB (kl BK357) hb); replace HK := aM (kt HK hb); replace HB := aM (bS (iB164 HB) hb); clear hb hbox hg; obtain ⟨hnb52, hnc52⟩ := nn NB362_356; obtain ⟨hnb53, hnc53⟩ := nn NB362_357; obtain ⟨hnb54, hnc54⟩ := nn NB362_0; obtain ⟨hcz55_0, hcz55_1, hcz55_2, hcz55_3, hcz55_4, hcz55_5, hcz55_6, hcz55_7, hcz55_8, hcz55_9, hcz55_10, hcz55_11, hfz55_0, hfz55_1, hfz55_2, hfz55_3, hfz55_4, hfz55_5, hfz55_6, hfz55_7, hfz55_8, hfz55_9, hfz55_10, hfz55_11⟩ := bc12 BK362; obtain ⟨hcz56_0, hfz56_0⟩ := bc1 BK356) | ((with_reducible refine gate_callee (f := 86) rfl ?_); refine gL (some 8) Try.func86 #[.agg #[.pointer (some ⟨g, 0, none⟩)]] ?_; (with_reducible refine (codec_reader_int.calls k g t359 t360 t361 (.ok (t363, t364, t365, t366)) w0 _ (iS164 HI0) (iB164 HB) A9.out).mono ?_); rintro e w57 ⟨rfl, hi, hb, hk⟩; refine ⟨_, rfl, ?_⟩; replace BK356 := aM (kb hk BK356 NB356_0 (.cells #[.pointer (some ⟨g, 0, none⟩)] 81 (0, 0))); replace BK357 := aM (kb hk BK357 NB357_0 (.cells #[.int .i64 0, .int .i64 0, .int .i64 0, .int .i64 0, .int .i64 0, .slice none 0 0, .int .i64 0, .slice none 0 0, .slice none 0 0, .int .i64 0, .slice none 0 0, .slice none 0 0] 65 (0, 0))); replace BK362 := aM (kb hk BK362 NB362_0 (.cells #[.int .i64 t358, .int .i64 0, .int .i64 0, .int .i64 0, .int .i64 0, .slice none 0 0, .int .i64 0, .slice none 0 0, .slice none 0 0, .int .i64 0, .slice none 0 0, .slice none 0 0] 65 (0, 0))); replace HK := aM (ku HK hk); replace HB := aM (hb); replace HI0 := aM (hi); (try clear hb); (try clear hk); (try clear hi); obtain ⟨hcz58_0, hcz58_1, hcz58_2, hcz58_3, hcz58_4, hcz58_5, hcz58_6, hcz58_7, hcz58_8, hcz58_9, hcz58_10, hcz58_11, hfz58_0, hfz58_1, hfz58_2, hfz58_3, hfz58_4, hfz58_5, hfz58_6, hfz58_7, hfz58_8, hfz58_9, hfz58_10, hfz58_11⟩ := bc12 BK362))
    have n0_ : Aside0 ((w57.setCell ⟨gb362, 1, none⟩ (.int .i64 t363)).heap[gb356]? = some (.cells #[.pointer (some ⟨g, 0, none⟩)] 81 (0, 0))) := ⟨bk BK356⟩
    have n1_ : Aside0 ((w57.setCell ⟨gb362, 1, none⟩ (.int .i64 t363)).heap[gb357]? = some (.cells #[.int .i64 0, .int .i64 0, .int .i64 0, .int .i64 0, .int .i64 0, .slice none 0 0, .int .i64 0, .slice none 0 0, .slice none 0 0, .int .i64 0, .slice none 0 0, .slice none 0 0] 65 (0, 0))) := ⟨bk BK357⟩
    have n2_ : Aside0 ((w57.setCell ⟨gb362, 1, none⟩ (.int .i64 t363)).heap[gb362]? = some (.cells #[.int .i64 t358, .int .i64 t363, .int .i64 0, .int .i64 0, .int .i64 0, .slice none 0 0, .int .i64 0, .slice none 0 0, .slice none 0 0, .int .i64 0, .slice none 0 0, .slice none 0 0] 65 (0, 0))) := ⟨bk BK362⟩
    have n3_ : Aside0 (IsS164 w0 (w57.setCell ⟨gb362, 1, none⟩ (.int .i64 t363)) g t364 t365 t366) := ⟨iS164 HI0⟩
    have n4_ : Aside0 (KeepBut w (w57.setCell ⟨gb362, 1, none⟩ (.int .i64 t363)) g none) := ⟨kp HK⟩
    have n5_ : Aside0 (Below w0.heap.size w0 (w57.setCell ⟨gb362, 1, none⟩ (.int .i64 t363))) := ⟨iB164 HB⟩
    (try clear BK356)
    (try clear BK357)
    (try clear BK362)
    (try clear HI0)
    (try clear HK)
    (try clear HB)
    generalize (w57.setCell ⟨gb362, 1, none⟩ (.int .i64 t363)) = w59 at n0_ n1_ n2_ n3_ n4_ n5_ ⊢
    have BK356 := n0_
    have BK357 := n1_
    have BK362 := n2_
    have HI0 := n3_
    have HK := n4_
    have HB := n5_
    clear n0_ n1_ n2_ n3_ n4_ n5_
    replace BK356 := aM (kD BK356.out)
    replace BK357 := aM (kD BK357.out)
    replace BK362 := aM (kD BK362.out)
    replace HI0 := aM (IsS164.drew HI0.out)
    replace HK := aM (keep_drew HK.out)
    replace HB := aM (bD HB.out)
    refine start_ (n := 4) (S := fun w' => w'.cell? ⟨gb356, 0, none⟩ = some (.pointer (some ⟨g, 0, none⟩)) ∧ w'.cell? ⟨gb362, 0, none⟩ = some (.int .i64 t358) ∧ w'.cell? ⟨gb362, 1, none⟩ = some (.int .i64 t363) ∧ w'.cell? ⟨gb362, 2, none⟩ = some (.int .i64 0) ∧ w'.cell? ⟨gb362, 3, none⟩ = some (.int .i64 0) ∧ w'.cell? ⟨gb362, 4, none⟩ = some (.int .i64 0) ∧ w'.cell? ⟨gb362, 5, none⟩ = some (.slice none 0 0) ∧ w'.cell? ⟨gb362, 6, none⟩ = some (.int .i64 0) ∧ w'.cell? ⟨gb362, 7, none⟩ = some (.slice none 0 0) ∧ w'.cell? ⟨gb362, 8, none⟩ = some (.slice none 0 0) ∧ w'.cell? ⟨gb362, 9, none⟩ = some (.int .i64 0) ∧ w'.cell? ⟨gb362, 10, none⟩ = some (.slice none 0 0) ∧ w'.cell? ⟨gb362, 11, none⟩ = some (.slice none 0 0)) (ds := []) #[false, false, false, false] (by kernel_rfl) rfl rfl ⟨(kC BK356.out 0).trans rfl, (kC BK362.out 0).trans rfl, (kC BK362.out 1).trans rfl, (kC BK362.out 2).trans rfl, (kC BK362.out 3).trans rfl, (kC BK362.out 4).trans rfl, (kC BK362.out 5).trans rfl, (kC BK362.out 6).trans rfl, (kC BK362.out 7).trans rfl, (kC BK362.out 8).trans rfl, (kC BK362.out 9).trans rfl, (kC BK362.out 10).trans rfl, (kC BK362.out 11).trans rfl⟩ (fun hHeld => ?_)
    generalize w59.drew = w60 at BK356 BK357 BK362 HI0 HK HB hHeld ⊢
    refine take_ (i := 0) (N := some 10) (v := ?_) (a' := ?_) (ba 4 1) rfl rfl (by kernel_rfl) (fun _ _ _ h => h) (Or.inl ⟨by rfl, ?_⟩) hHeld ?_ ?_
    rotate_left
    ·rintro w' ⟨s0, s1, s2, s3, s4, s5, s6, s7, s8, s9, s10, s11, s12⟩
     go_simp
     with_reducible rfl
    rotate_left
    ·simp only [Act.put, sA, sB, sC, i64_w, i32_w]
     rfl
    refine take_ (i := 1) (N := some 11) (v := ?_) (a' := ?_) (ba 4 3) rfl rfl (by kernel_rfl) (fun _ _ _ h => h) (Or.inl ⟨by rfl, ?_⟩) hHeld ?_ ?_
    rotate_left
    ·rintro w' ⟨s0, s1, s2, s3, s4, s5, s6, s7, s8, s9, s10, s11, s12⟩
     go_simp
     with_reducible rfl
    rotate_left
    ·simp only [Act.put, sA, sB, sC, i64_w, i32_w]
     rfl
    refine one_ (i := 2) (N := some 12) (ba 4 7) rfl rfl (by kernel_rfl) (by decide) (fun K hK => ?_)
    refine goes_ Try.func51 (by kernel_rfl) rfl #[.agg #[.int .i64 t358, .int .i64 t363, .int .i64 0, .int .i64 0, .int .i64 0, .slice none 0 0, .int .i64 0, .slice none 0 0, .slice none 0 0, .int .i64 0, .slice none 0 0, .slice none 0 0]] (by rfl) rfl rfl (by (try simp only [List.map_toArray, List.map_cons, List.map_nil]); first | done | rfl | (simp only [List.length_drop, List.length_take]; rfl)) ?_
    refine (change_Check.calls t358 t363 0 0 0 _ _ ([] : List (S130)) 0 _ _ ([] : List Int) _ _ ([] : List (S130)) 0 _ _ ([] : List (S63)) _ _ ([] : List (S130)) t367 _ ?side1 ?side2 ?side3 ?side4 ?side5 ?side6 ?side7 ?side8 ?side9 ?side10 A23.out).mono ?_
    (case side1 => exact Kd.C_nil _ _)
    (case side2 => exact Nat.le_refl _)
    (case side3 => exact Kd.C_nil _ _)
    (case side4 => exact Nat.le_refl _)
    (case side5 => exact Kd.C_nil _ _)
    (case side6 => exact Nat.le_refl _)
    (case side7 => exact Kd.C_nil _ _)
    (case side8 => exact Nat.le_refl _)
    (case side9 => exact Kd.C_nil _ _)
    (case side10 => exact Nat.le_refl _)
    rintro e w61 ⟨rfl, hb⟩
    refine ⟨_, rfl, ?_⟩
    replace HI0 := aM (IsS164.below (iS164 HI0) hb)
    replace BK356 := aM (kB (kl BK356) hb)
    replace BK357 := aM (kB (kl BK357) hb)
    replace BK362 := aM (kB (kl BK362) hb)
    replace HK := aM (kt HK hb)
    replace HB := aM (bS (iB164 HB) hb)
    (try clear hb)
    (try clear hb2)
    (try clear hk)
    (try clear hi)
    refine hK.out _ _ ⟨(kC BK356.out 0).trans rfl, (kC BK362.out 0).trans rfl, (kC BK362.out 1).trans rfl, (kC BK362.out 2).trans rfl, (kC BK362.out 3).trans rfl, (kC BK362.out 4).trans rfl, (kC BK362.out 5).trans rfl, (kC BK362.out 6).trans rfl, (kC BK362.out 7).trans rfl, (kC BK362.out 8).trans rfl, (kC BK362.out 9).trans rfl, (kC BK362.out 10).trans rfl, (kC BK362.out 11).trans rfl⟩ (fun hHeld => ?_)
    clear hK K
    refine norm_ (a' := ?_) ?_ ?_
    rotate_left
    ·show Act.put _ (some 12) _ = _
     simp only [Act.put, sA, sB, sC, i64_w, i32_w]
     rfl
    refine one_ (i := 3) (N := some 13) (ba 4 15) rfl rfl (by kernel_rfl) (by decide) (fun K hK => ?_)
    refine goes_ Try.func82 (by kernel_rfl) rfl #[.agg #[.pointer (some ⟨g, 0, none⟩)], .int .i64 t367] (by rfl) rfl rfl (by (try simp only [List.map_toArray, List.map_cons, List.map_nil]); first | done | rfl | (simp only [List.length_drop, List.length_take]; rfl)) ?_
    with_reducible refine (codec_reader_check.calls g t364 t365 t366 t367 (.ok (t368, t369, t370)) w0 _ ?side1 ?side2 A24.out).mono ?_
    (case side1 => repeat (first | (with_reducible first | exact HI0.out | apply IsS164.alloc | apply IsS164.drewN | apply IsS164.drew | apply IsS164.set_0 | apply IsS164.set_1 | apply IsS164.set_2 | refine IsS164.far ?_ NB0_356.out _ | refine IsS164.far ?_ NB0_357.out _ | refine IsS164.far ?_ NB0_362.out _) | exact HI0.out))
    (case side2 => repeat (first | (with_reducible first | exact HB.out | apply bA | apply bN | apply bD | refine bT ?_ (IsS164.ge HI0.out) | refine bT ?_ GE356.out | refine bT ?_ GE357.out | refine bT ?_ GE362.out) | exact HB.out))
    rintro e w62 ⟨rfl, hi, hb, hk⟩
    refine ⟨_, rfl, ?_⟩
    replace BK356 := aM (k0 hk BK356 NB356_0)
    replace BK357 := aM (k0 hk BK357 NB357_0)
    replace BK362 := aM (k0 hk BK362 NB362_0)
    replace HK := aM (ku HK hk)
    replace HB := aM (hb)
    replace HI0 := aM (hi)
    (try clear hb)
    (try clear hb2)
    (try clear hk)
    (try clear hi)
    refine hK.out _ _ ⟨(kC BK356.out 0).trans rfl, (kC BK362.out 0).trans rfl, (kC BK362.out 1).trans rfl, (kC BK362.out 2).trans rfl, (kC BK362.out 3).trans rfl, (kC BK362.out 4).trans rfl, (kC BK362.out 5).trans rfl, (kC BK362.out 6).trans rfl, (kC BK362.out 7).trans rfl, (kC BK362.out 8).trans rfl, (kC BK362.out 9).trans rfl, (kC BK362.out 10).trans rfl, (kC BK362.out 11).trans rfl⟩ (fun hHeld => ?_)
    clear hK K
    refine norm_ (a' := ?_) ?_ ?_
    rotate_left
    ·show Act.put _ (some 13) _ = _
     simp only [Act.put, sA, sB, sC, i64_w, i32_w]
     rfl
    refine done_ (by kernel_rfl) ?_
    go_upto_region 5 with (fail)
    go_cut [18] (fun v18 wc => ∃ (kq : Nat) (x18_43 : Bool), v18 = .bool x18_43 ∧ Aside0 (codec_reader_change.j0 kq x18_43 t368 t369 t370 t358 t363 0 0 0 0 0 = some r) ∧ Aside0 (kq ≤ k) ∧ Aside0 (wc.heap[gb356]? = some (.cells #[.pointer (some ⟨g, 0, none⟩)] 81 (0, 0))) ∧ Aside0 (wc.heap[gb357]? = some (.cells #[.int .i64 0, .int .i64 0, .int .i64 0, .int .i64 0, .int .i64 0, (.slice none 0 0), .int .i64 0, (.slice none 0 0), (.slice none 0 0), .int .i64 0, (.slice none 0 0), (.slice none 0 0)] 65 (0, 0))) ∧ Aside0 (wc.heap[gb362]? = some (.cells #[.int .i64 t358, .int .i64 t363, .int .i64 0, .int .i64 0, .int .i64 0, (.slice none 0 0), .int .i64 0, (.slice none 0 0), (.slice none 0 0), .int .i64 0, (.slice none 0 0), (.slice none 0 0)] 65 (0, 0))) ∧ Aside0 (IsS164 w0 wc g t368 t369 t370) ∧ Aside0 (KeepBut w wc g none) ∧ Aside0 (Below w0.heap.size w0 wc))
    case first =>
     have H := HC44.out
     clear HC44
     by_cases c63 : t358 = 1
     ·rw [if_pos c63] at H
      have c63b0 : (t358 == 1) = true := beq_iff_eq.mpr c63
      have c63b1 : (t358 != 1) = false := bne_eq_false_iff_eq.mpr c63
      clear c63
      (first | rw [c63b0] | (simp only [i64_w, i32_w]; rw [c63b0]) | skip)
      have H' := aM H
      clear H
      obtain ⟨hnb64, hnc64⟩ := nn NB362_356
      obtain ⟨hnb65, hnc65⟩ := nn NB362_357
      obtain ⟨hnb66, hnc66⟩ := nn NB362_0
      obtain ⟨hcz67_0, hcz67_1, hcz67_2, hcz67_3, hcz67_4, hcz67_5, hcz67_6, hcz67_7, hcz67_8, hcz67_9, hcz67_10, hcz67_11, hfz67_0, hfz67_1, hfz67_2, hfz67_3, hfz67_4, hfz67_5, hfz67_6, hfz67_7, hfz67_8, hfz67_9, hfz67_10, hfz67_11⟩ := bc12 BK362
      go_wp2
      go_meet
      case rel => exact ⟨_, ((t363 == 1)), (by first | rfl | (simp; done) | (simp [*]; done)), H', ⟨by first | omega | exact Nat.le_refl _⟩, ⟨kl BK356⟩, ⟨kl BK357⟩, ⟨kl BK362⟩, ⟨iS164 HI0⟩, ⟨kp HK⟩, ⟨iB164 HB⟩⟩
     ·rw [if_neg c63] at H
      have c63b0 : (t358 == 1) = false := beq_eq_false_iff_ne.mpr c63
      have c63b1 : (t358 != 1) = true := bne_iff_ne.mpr c63
      (first | rw [c63b0] | (simp only [i64_w, i32_w]; rw [c63b0]) | skip)
      have H' := aM H
      clear H
      obtain ⟨hnb68, hnc68⟩ := nn NB362_356
      obtain ⟨hnb69, hnc69⟩ := nn NB362_357
      obtain ⟨hnb70, hnc70⟩ := nn NB362_0
      obtain ⟨hcz71_0, hcz71_1, hcz71_2, hcz71_3, hcz71_4, hcz71_5, hcz71_6, hcz71_7, hcz71_8, hcz71_9, hcz71_10, hcz71_11, hfz71_0, hfz71_1, hfz71_2, hfz71_3, hfz71_4, hfz71_5, hfz71_6, hfz71_7, hfz71_8, hfz71_9, hfz71_10, hfz71_11⟩ := bc12 BK362
      go_wp2
      go_meet
      case rel => exact ⟨_, (false), (by first | rfl | (simp; done) | (simp [*]; done)), H', ⟨by first | omega | exact Nat.le_refl _⟩, ⟨kl BK356⟩, ⟨kl BK357⟩, ⟨kl BK362⟩, ⟨iS164 HI0⟩, ⟨kp HK⟩, ⟨iB164 HB⟩⟩
    case rest =>
     clear HC44
     try clear c1
     try clear c2
     try clear p2
     try clear c3
     try clear c4
     try clear c5
     try clear c6
     try clear c7
     try clear c8
     try clear c12
     try clear c13
     try clear c17
     try clear c18
     try clear c19
     try clear c28
     try clear c29
     try clear c33
     try clear c34
     try clear c35
     try clear c47
     try clear c48
     try clear c51
     try clear c52
     try clear c53
     try clear c54
     try clear c58
     try clear c63
     try clear c63b0
     try clear c63b1
     try clear c64
     try clear c65
     try clear c66
     try clear c68
     try clear c69
     try clear c70
     try clear hcz14_0 hfz14_0
     try clear hcz20_0 hcz20_1 hcz20_10 hcz20_11 hcz20_2 hcz20_3 hcz20_4 hcz20_5 hcz20_6 hcz20_7 hcz20_8 hcz20_9 hfz20_0 hfz20_1 hfz20_10 hfz20_11 hfz20_2 hfz20_3 hfz20_4 hfz20_5 hfz20_6 hfz20_7 hfz20_8 hfz20_9
     try clear hcz21_0 hfz21_0
     try clear hcz30_0 hfz30_0
     try clear hcz36_0 hcz36_1 hcz36_10 hcz36_11 hcz36_2 hcz36_3 hcz36_4 hcz36_5 hcz36_6 hcz36_7 hcz36_8 hcz36_9 hfz36_0 hfz36_1 hfz36_10 hfz36_11 hfz36_2 hfz36_3 hfz36_4 hfz36_5 hfz36_6 hfz36_7 hfz36_8 hfz36_9
     try clear hcz37_0 hfz37_0
     try clear hcz39_0 hcz39_1 hcz39_10 hcz39_11 hcz39_2 hcz39_3 hcz39_4 hcz39_5 hcz39_6 hcz39_7 hcz39_8 hcz39_9 hfz39_0 hfz39_1 hfz39_10 hfz39_11 hfz39_2 hfz39_3 hfz39_4 hfz39_5 hfz39_6 hfz39_7 hfz39_8 hfz39_9
     try clear hcz49_0 hfz49_0
     try clear hcz55_0 hcz55_1 hcz55_10 hcz55_11 hcz55_2 hcz55_3 hcz55_4 hcz55_5 hcz55_6 hcz55_7 hcz55_8 hcz55_9 hfz55_0 hfz55_1 hfz55_10 hfz55_11 hfz55_2 hfz55_3 hfz55_4 hfz55_5 hfz55_6 hfz55_7 hfz55_8 hfz55_9
     try clear hcz56_0 hfz56_0
     try clear hcz58_0 hcz58_1 hcz58_10 hcz58_11 hcz58_2 hcz58_3 hcz58_4 hcz58_5 hcz58_6 hcz58_7 hcz58_8 hcz58_9 hfz58_0 hfz58_1 hfz58_10 hfz58_11 hfz58_2 hfz58_3 hfz58_4 hfz58_5 hfz58_6 hfz58_7 hfz58_8 hfz58_9
     try clear hcz67_0 hcz67_1 hcz67_10 hcz67_11 hcz67_2 hcz67_3 hcz67_4 hcz67_5 hcz67_6 hcz67_7 hcz67_8 hcz67_9 hfz67_0 hfz67_1 hfz67_10 hfz67_11 hfz67_2 hfz67_3 hfz67_4 hfz67_5 hfz67_6 hfz67_7 hfz67_8 hfz67_9
     try clear hcz71_0 hcz71_1 hcz71_10 hcz71_11 hcz71_2 hcz71_3 hcz71_4 hcz71_5 hcz71_6 hcz71_7 hcz71_8 hcz71_9 hfz71_0 hfz71_1 hfz71_10 hfz71_11 hfz71_2 hfz71_3 hfz71_4 hfz71_5 hfz71_6 hfz71_7 hfz71_8 hfz71_9
     try clear hcz7_0 hfz7_0
     obtain ⟨kq, x18_43, rfl, HA, HJ43, BK356, BK357, BK362, HI0, HK, HB⟩ := hcut
     cases kq with
     | zero => exact absurd HA.out (by simp [codec_reader_change.j0])
     | succ kj43 =>
      have H := HA.out
      clear HA
      simp only [codec_reader_change.j0] at H
      by_cases c72 : x18_43 = true
      ·subst c72
       have H1 : (eB (codec_reader_node.f kj43 t368 t369 t370) fun bt371 => (some (.ok (t358, t363, bt371.1, bt371.2.1, bt371.2.2.1, bt371.2.2.2.1, 0, ([] : List Int), ([] : List (S130)), 0, ([] : List (S63)), ([] : List (S130)), bt371.2.2.2.2.1, bt371.2.2.2.2.2.1, bt371.2.2.2.2.2.2)))) = some r := by rw [if_pos rfl] at H; exact H
       clear H
       have H := H1
       clear H1
       rcases eB_cases H with ⟨xe_, A730, H⟩ | ⟨⟨t371, t372, t373, t374, t377, t378, t379⟩, A730, H⟩
       ·subst H
        have A73 := aM A730
        clear A730
        obtain ⟨hnb74, hnc74⟩ := nn NB356_357
        obtain ⟨hnb75, hnc75⟩ := nn NB356_362
        obtain ⟨hnb76, hnc76⟩ := nn NB356_0
        obtain ⟨hcz77_0, hfz77_0⟩ := bc1 BK356
        go_wp2_with (first | (go_at_call 38; (with_reducible refine (codec_reader_node.calls kj43 g t368 t369 t370 (.error xe_) w0 _ (iS164 HI0) (iB164 HB) A73.out).mono ?_); rintro e w78 ⟨rfl, hb⟩))
        (first | exact ⟨rfl, rfl, hb⟩ | exact ⟨rfl, hb⟩ | (go_simp; exact ⟨rfl, hb⟩) | (simp; exact ⟨rfl, hb⟩))
       ·replace H : (some (.ok (t358, t363, t371, t372, t373, t374, 0, ([] : List Int), ([] : List (S130)), 0, ([] : List (S63)), ([] : List (S130)), t377, t378, t379))) = some r := H
        have A73 := aM A730
        clear A730
        obtain rfl := Option.some.inj H
        obtain ⟨hnb79, hnc79⟩ := nn NB356_357
        obtain ⟨hnb80, hnc80⟩ := nn NB356_362
        obtain ⟨hnb81, hnc81⟩ := nn NB356_0
        obtain ⟨hcz82_0, hfz82_0⟩ := bc1 BK356
        go_wp2_with (first | ((with_reducible refine gate_callee (f := 38) rfl ?_); refine gL (some 28) Try.func38 #[.agg #[.pointer (some ⟨g, 0, none⟩)]] ?_; (with_reducible refine (codec_reader_node.calls kj43 g t368 t369 t370 (.ok (t371, t372, t373, t374, t377, t378, t379)) w0 _ (iS164 HI0) (iB164 HB) A73.out).mono ?_); rintro e w83 ⟨v375, rfl, ho0, hi, hb, hk⟩; refine ⟨_, rfl, ?_⟩; have HO376 := aM (Kd.R_lower ho0 (keep_size (w := w) (g := g) (row := none) (kp HK))); replace BK357 := aM (k0 hk BK357 NB357_0); replace BK362 := aM (k0 hk BK362 NB362_0); replace HK := aM (ku HK hk); replace HI0 := aM (hi); replace HB := aM (hb); clear BK356; (try clear hb); (try clear hk); (try clear hi); (try clear ho0); obtain ⟨hnb84, hnc84⟩ := nn NB362_357; obtain ⟨hnb85, hnc85⟩ := nn NB362_0; obtain ⟨hcz86_0, hcz86_1, hcz86_2, hcz86_3, hcz86_4, hcz86_5, hcz86_6, hcz86_7, hcz86_8, hcz86_9, hcz86_10, hcz86_11, hfz86_0, hfz86_1, hfz86_2, hfz86_3, hfz86_4, hfz86_5, hfz86_6, hfz86_7, hfz86_8, hfz86_9, hfz86_10, hfz86_11⟩ := bc12 BK362; obtain ⟨Ao87, co87, eo87⟩ := Kd.R_slice HO376.out; subst eo87; obtain ⟨hnb88, hnc88⟩ := nn NB357_0; obtain ⟨hcz89_0, hcz89_1, hcz89_2, hcz89_3, hcz89_4, hcz89_5, hcz89_6, hcz89_7, hcz89_8, hcz89_9, hcz89_10, hcz89_11, hfz89_0, hfz89_1, hfz89_2, hfz89_3, hfz89_4, hfz89_5, hfz89_6, hfz89_7, hfz89_8, hfz89_9, hfz89_10, hfz89_11⟩ := bc12 BK357))
        refine bodyPost_ret (results_cell_row rfl _ _ gb357 65 #[.int .i64 t358, .int .i64 t363, .int .i64 t371, .int .i64 t372, .int .i64 t373, .slice Ao87 t374.length co87, .int .i64 0, .slice none 0 0, .slice none 0 0, .int .i64 0, .slice none 0 0, .slice none 0 0] (0, 0) _ rfl (bk BK357) Try.underlying65 rfl (by kernel_rfl)) rfl ?_
        exact ⟨_, _, _, _, _, by first | rfl | (simp [errW_none, errW_some] <;> rfl) | (simp [*, errW_none, errW_some] <;> rfl), by (with_reducible repeat (first | apply rA | apply rN | apply rD)); exact rM (Kd.R_far (p := ⟨gb357, 11, none⟩) (Kd.R_far (p := ⟨gb357, 10, none⟩) (Kd.R_far (p := ⟨gb357, 9, none⟩) (Kd.R_far (p := ⟨gb357, 8, none⟩) (Kd.R_far (p := ⟨gb357, 7, none⟩) (Kd.R_far (p := ⟨gb357, 6, none⟩) (Kd.R_far (p := ⟨gb357, 5, none⟩) (Kd.R_far (p := ⟨gb357, 4, none⟩) (Kd.R_far (p := ⟨gb357, 3, none⟩) (Kd.R_far (p := ⟨gb357, 2, none⟩) (Kd.R_far (p := ⟨gb357, 1, none⟩) (Kd.R_far (p := ⟨gb357, 0, none⟩) (Kd.R_far (p := ⟨gb362, 5, none⟩) (Kd.R_far (p := ⟨gb362, 4, none⟩) (Kd.R_far (p := ⟨gb362, 3, none⟩) (Kd.R_far (p := ⟨gb362, 2, none⟩) (Kd.R_types (Kd.R_types HO376.out BK362.out (by decide)) BK357.out (by decide)) (fun _ hk => hk.1.2) (.int .i64 t371)) (fun _ hk => hk.1.2) (.int .i64 t372)) (fun _ hk => hk.1.2) (.int .i64 t373)) (fun _ hk => hk.1.2) (.slice Ao87 t374.length co87)) (fun _ hk => hk.2) (.int .i64 t358)) (fun _ hk => hk.2) (.int .i64 t363)) (fun _ hk => hk.2) (.int .i64 t371)) (fun _ hk => hk.2) (.int .i64 t372)) (fun _ hk => hk.2) (.int .i64 t373)) (fun _ hk => hk.2) (.slice Ao87 t374.length co87)) (fun _ hk => hk.2) (.int .i64 0)) (fun _ hk => hk.2) (.slice none 0 0)) (fun _ hk => hk.2) (.slice none 0 0)) (fun _ hk => hk.2) (.int .i64 0)) (fun _ hk => hk.2) (.slice none 0 0)) (fun _ hk => hk.2) (.slice none 0 0)) (fun _ hk => ⟨(by simp [Value.ownBlock]), (by simp [Value.ownBlock])⟩), by first | exact Kd.R_nil _ _ _ _ _ | exact Kd.N_nil _ _ _ _ _ | exact Kd.V_nil _ _ _ _ _ | exact Kd.Q_nil _ _ _ _ _ | exact Kd.S_nil _ _ _ _ _, by first | exact Kd.R_nil _ _ _ _ _ | exact Kd.N_nil _ _ _ _ _ | exact Kd.V_nil _ _ _ _ _ | exact Kd.Q_nil _ _ _ _ _ | exact Kd.S_nil _ _ _ _ _, by first | exact Kd.R_nil _ _ _ _ _ | exact Kd.N_nil _ _ _ _ _ | exact Kd.V_nil _ _ _ _ _ | exact Kd.Q_nil _ _ _ _ _ | exact Kd.S_nil _ _ _ _ _, by first | exact Kd.R_nil _ _ _ _ _ | exact Kd.N_nil _ _ _ _ _ | exact Kd.V_nil _ _ _ _ _ | exact Kd.Q_nil _ _ _ _ _ | exact Kd.S_nil _ _ _ _ _, iS164 HI0, iB164 HB, kp HK⟩
      ·replace c72 := Bool.eq_false_iff.mpr c72
       subst c72
       have H1 : (if t358 = 1 then (codec_reader_change.j1 kj43 (t363 == 2) t368 t369 t370 t358 t363 0 0 0 0 0) else (codec_reader_change.j1 kj43 false t368 t369 t370 t358 t363 0 0 0 0 0)) = some r := by rw [if_neg (show ¬ (false = true) by decide)] at H; exact H
       clear H
       have H := H1
       clear H1
       have HC90 := aM H
       clear H
       go_upto_region 7 with (fail)
       go_cut [30] (fun v30 wc => ∃ (kq : Nat) (x30_89 : Bool), v30 = .bool x30_89 ∧ Aside0 (codec_reader_change.j1 kq x30_89 t368 t369 t370 t358 t363 0 0 0 0 0 = some r) ∧ Aside0 (kq ≤ kj43) ∧ Aside0 (wc.heap[gb356]? = some (.cells #[.pointer (some ⟨g, 0, none⟩)] 81 (0, 0))) ∧ Aside0 (wc.heap[gb357]? = some (.cells #[.int .i64 0, .int .i64 0, .int .i64 0, .int .i64 0, .int .i64 0, (.slice none 0 0), .int .i64 0, (.slice none 0 0), (.slice none 0 0), .int .i64 0, (.slice none 0 0), (.slice none 0 0)] 65 (0, 0))) ∧ Aside0 (wc.heap[gb362]? = some (.cells #[.int .i64 t358, .int .i64 t363, .int .i64 0, .int .i64 0, .int .i64 0, (.slice none 0 0), .int .i64 0, (.slice none 0 0), (.slice none 0 0), .int .i64 0, (.slice none 0 0), (.slice none 0 0)] 65 (0, 0))) ∧ Aside0 (IsS164 w0 wc g t368 t369 t370) ∧ Aside0 (KeepBut w wc g none) ∧ Aside0 (Below w0.heap.size w0 wc))
       case first =>
        have H := HC90.out
        clear HC90
        by_cases c91 : t358 = 1
        ·rw [if_pos c91] at H
         have c91b0 : (t358 == 1) = true := beq_iff_eq.mpr c91
         have c91b1 : (t358 != 1) = false := bne_eq_false_iff_eq.mpr c91
         clear c91
         (first | rw [c91b0] | (simp only [i64_w, i32_w]; rw [c91b0]) | skip)
         have H' := aM H
         clear H
         obtain ⟨hnb92, hnc92⟩ := nn NB362_356
         obtain ⟨hnb93, hnc93⟩ := nn NB362_357
         obtain ⟨hnb94, hnc94⟩ := nn NB362_0
         obtain ⟨hcz95_0, hcz95_1, hcz95_2, hcz95_3, hcz95_4, hcz95_5, hcz95_6, hcz95_7, hcz95_8, hcz95_9, hcz95_10, hcz95_11, hfz95_0, hfz95_1, hfz95_2, hfz95_3, hfz95_4, hfz95_5, hfz95_6, hfz95_7, hfz95_8, hfz95_9, hfz95_10, hfz95_11⟩ := bc12 BK362
         go_wp2
         go_meet
         case rel => exact ⟨_, ((t363 == 2)), (by first | rfl | (simp; done) | (simp [*]; done)), H', ⟨by have := HJ43.out; first | omega | exact Nat.le_refl _⟩, ⟨kl BK356⟩, ⟨kl BK357⟩, ⟨kl BK362⟩, ⟨iS164 HI0⟩, ⟨kp HK⟩, ⟨iB164 HB⟩⟩
        ·rw [if_neg c91] at H
         have c91b0 : (t358 == 1) = false := beq_eq_false_iff_ne.mpr c91
         have c91b1 : (t358 != 1) = true := bne_iff_ne.mpr c91
         (first | rw [c91b0] | (simp only [i64_w, i32_w]; rw [c91b0]) | skip)
         have H' := aM H
         clear H
         obtain ⟨hnb96, hnc96⟩ := nn NB362_356
         obtain ⟨hnb97, hnc97⟩ := nn NB362_357
         obtain ⟨hnb98, hnc98⟩ := nn NB362_0
         obtain ⟨hcz99_0, hcz99_1, hcz99_2, hcz99_3, hcz99_4, hcz99_5, hcz99_6, hcz99_7, hcz99_8, hcz99_9, hcz99_10, hcz99_11, hfz99_0, hfz99_1, hfz99_2, hfz99_3, hfz99_4, hfz99_5, hfz99_6, hfz99_7, hfz99_8, hfz99_9, hfz99_10, hfz99_11⟩ := bc12 BK362
         go_wp2
         go_meet
         case rel => exact ⟨_, (false), (by first | rfl | (simp; done) | (simp [*]; done)), H', ⟨by have := HJ43.out; first | omega | exact Nat.le_refl _⟩, ⟨kl BK356⟩, ⟨kl BK357⟩, ⟨kl BK362⟩, ⟨iS164 HI0⟩, ⟨kp HK⟩, ⟨iB164 HB⟩⟩
       case rest =>
        clear HC90
        try clear c1
        try clear c2
        try clear p2
        try clear c3
        try clear c4
        try clear c5
        try clear c6
        try clear c7
        try clear c8
        try clear c9
        try clear c12
        try clear c13
        try clear c17
        try clear c18
        try clear c19
        try clear c28
        try clear c29
        try clear c33
        try clear c34
        try clear c35
        try clear c38
        try clear c47
        try clear c48
        try clear c51
        try clear c52
        try clear c53
        try clear c54
        try clear c58
        try clear c63
        try clear c63b0
        try clear c63b1
        try clear c64
        try clear c65
        try clear c66
        try clear c68
        try clear c69
        try clear c70
        try clear c72
        try clear c74
        try clear c75
        try clear c76
        try clear c79
        try clear c80
        try clear c81
        try clear c82
        try clear c84
        try clear c85
        try clear c86
        try clear c88
        try clear c91
        try clear c91b0
        try clear c91b1
        try clear c92
        try clear c93
        try clear c94
        try clear c96
        try clear c97
        try clear c98
        try clear hcz14_0 hfz14_0
        try clear hcz20_0 hcz20_1 hcz20_10 hcz20_11 hcz20_2 hcz20_3 hcz20_4 hcz20_5 hcz20_6 hcz20_7 hcz20_8 hcz20_9 hfz20_0 hfz20_1 hfz20_10 hfz20_11 hfz20_2 hfz20_3 hfz20_4 hfz20_5 hfz20_6 hfz20_7 hfz20_8 hfz20_9
        try clear hcz21_0 hfz21_0
        try clear hcz30_0 hfz30_0
        try clear hcz36_0 hcz36_1 hcz36_10 hcz36_11 hcz36_2 hcz36_3 hcz36_4 hcz36_5 hcz36_6 hcz36_7 hcz36_8 hcz36_9 hfz36_0 hfz36_1 hfz36_10 hfz36_11 hfz36_2 hfz36_3 hfz36_4 hfz36_5 hfz36_6 hfz36_7 hfz36_8 hfz36_9
        try clear hcz37_0 hfz37_0
        try clear hcz39_0 hcz39_1 hcz39_10 hcz39_11 hcz39_2 hcz39_3 hcz39_4 hcz39_5 hcz39_6 hcz39_7 hcz39_8 hcz39_9 hfz39_0 hfz39_1 hfz39_10 hfz39_11 hfz39_2 hfz39_3 hfz39_4 hfz39_5 hfz39_6 hfz39_7 hfz39_8 hfz39_9
        try clear hcz49_0 hfz49_0
        try clear hcz55_0 hcz55_1 hcz55_10 hcz55_11 hcz55_2 hcz55_3 hcz55_4 hcz55_5 hcz55_6 hcz55_7 hcz55_8 hcz55_9 hfz55_0 hfz55_1 hfz55_10 hfz55_11 hfz55_2 hfz55_3 hfz55_4 hfz55_5 hfz55_6 hfz55_7 hfz55_8 hfz55_9
        try clear hcz56_0 hfz56_0
        try clear hcz58_0 hcz58_1 hcz58_10 hcz58_11 hcz58_2 hcz58_3 hcz58_4 hcz58_5 hcz58_6 hcz58_7 hcz58_8 hcz58_9 hfz58_0 hfz58_1 hfz58_10 hfz58_11 hfz58_2 hfz58_3 hfz58_4 hfz58_5 hfz58_6 hfz58_7 hfz58_8 hfz58_9
        try clear hcz67_0 hcz67_1 hcz67_10 hcz67_11 hcz67_2 hcz67_3 hcz67_4 hcz67_5 hcz67_6 hcz67_7 hcz67_8 hcz67_9 hfz67_0 hfz67_1 hfz67_10 hfz67_11 hfz67_2 hfz67_3 hfz67_4 hfz67_5 hfz67_6 hfz67_7 hfz67_8 hfz67_9
        try clear hcz71_0 hcz71_1 hcz71_10 hcz71_11 hcz71_2 hcz71_3 hcz71_4 hcz71_5 hcz71_6 hcz71_7 hcz71_8 hcz71_9 hfz71_0 hfz71_1 hfz71_10 hfz71_11 hfz71_2 hfz71_3 hfz71_4 hfz71_5 hfz71_6 hfz71_7 hfz71_8 hfz71_9
        try clear hcz77_0 hfz77_0
        try clear hcz7_0 hfz7_0
        try clear hcz82_0 hfz82_0
        try clear hcz86_0 hcz86_1 hcz86_10 hcz86_11 hcz86_2 hcz86_3 hcz86_4 hcz86_5 hcz86_6 hcz86_7 hcz86_8 hcz86_9 hfz86_0 hfz86_1 hfz86_10 hfz86_11 hfz86_2 hfz86_3 hfz86_4 hfz86_5 hfz86_6 hfz86_7 hfz86_8 hfz86_9
        try clear hcz89_0 hcz89_1 hcz89_10 hcz89_11 hcz89_2 hcz89_3 hcz89_4 hcz89_5 hcz89_6 hcz89_7 hcz89_8 hcz89_9 hfz89_0 hfz89_1 hfz89_10 hfz89_11 hfz89_2 hfz89_3 hfz89_4 hfz89_5 hfz89_6 hfz89_7 hfz89_8 hfz89_9
        try clear hcz95_0 hcz95_1 hcz95_10 hcz95_11 hcz95_2 hcz95_3 hcz95_4 hcz95_5 hcz95_6 hcz95_7 hcz95_8 hcz95_9 hfz95_0 hfz95_1 hfz95_10 hfz95_11 hfz95_2 hfz95_3 hfz95_4 hfz95_5 hfz95_6 hfz95_7 hfz95_8 hfz95_9
        try clear hcz99_0 hcz99_1 hcz99_10 hcz99_11 hcz99_2 hcz99_3 hcz99_4 hcz99_5 hcz99_6 hcz99_7 hcz99_8 hcz99_9 hfz99_0 hfz99_1 hfz99_10 hfz99_11 hfz99_2 hfz99_3 hfz99_4 hfz99_5 hfz99_6 hfz99_7 hfz99_8 hfz99_9
        try clear p2
        obtain ⟨kq, x30_89, rfl, HA, HJ89, BK356, BK357, BK362, HI0, HK, HB⟩ := hcut
        cases kq with
        | zero => exact absurd HA.out (by simp [codec_reader_change.j1])
        | succ kj89 =>
         have H := HA.out
         clear HA
         simp only [codec_reader_change.j1] at H
         by_cases c100 : x30_89 = true
         ·subst c100
          have H1 : (eB (codec_reader_way.f kj89 t368 t369 t370) fun bt380 => (some (.ok (t358, t363, 0, 0, 0, ([] : List (S130)), bt380.1, bt380.2.1, bt380.2.2.1, 0, ([] : List (S63)), ([] : List (S130)), bt380.2.2.2.1, bt380.2.2.2.2.1, bt380.2.2.2.2.2)))) = some r := by rw [if_pos rfl] at H; exact H
          clear H
          have H := H1
          clear H1
          rcases eB_cases H with ⟨xe_, A1010, H⟩ | ⟨⟨t380, t381, t384, t387, t388, t389⟩, A1010, H⟩
          ·subst H
           have A101 := aM A1010
           clear A1010
           obtain ⟨hnb102, hnc102⟩ := nn NB356_357
           obtain ⟨hnb103, hnc103⟩ := nn NB356_362
           obtain ⟨hnb104, hnc104⟩ := nn NB356_0
           obtain ⟨hcz105_0, hfz105_0⟩ := bc1 BK356
           go_wp2_with (first | (go_at_call 39; (with_reducible refine (codec_reader_way.calls kj89 g t368 t369 t370 (.error xe_) w0 _ (iS164 HI0) (iB164 HB) A101.out).mono ?_); rintro e w106 ⟨rfl, hb⟩))
           (first | exact ⟨rfl, rfl, hb⟩ | exact ⟨rfl, hb⟩ | (go_simp; exact ⟨rfl, hb⟩) | (simp; exact ⟨rfl, hb⟩))
          ·replace H : (some (.ok (t358, t363, 0, 0, 0, ([] : List (S130)), t380, t381, t384, 0, ([] : List (S63)), ([] : List (S130)), t387, t388, t389))) = some r := H
           have A101 := aM A1010
           clear A1010
           obtain rfl := Option.some.inj H
           obtain ⟨hnb107, hnc107⟩ := nn NB356_357
           obtain ⟨hnb108, hnc108⟩ := nn NB356_362
           obtain ⟨hnb109, hnc109⟩ := nn NB356_0
           obtain ⟨hcz110_0, hfz110_0⟩ := bc1 BK356
           go_wp2_with (first | ((with_reducible refine gate_callee (f := 39) rfl ?_); refine gL (some 40) Try.func39 #[.agg #[.pointer (some ⟨g, 0, none⟩)]] ?_; (with_reducible refine (codec_reader_way.calls kj89 g t368 t369 t370 (.ok (t380, t381, t384, t387, t388, t389)) w0 _ (iS164 HI0) (iB164 HB) A101.out).mono ?_); rintro e w111 ⟨v382, v385, rfl, ho0, ho1, hi, hb, hk⟩; refine ⟨_, rfl, ?_⟩; have HO383 := aM (Kd.R_lower ho0 (keep_size (w := w) (g := g) (row := none) (kp HK))); have HO386 := aM (Kd.R_lower ho1 (keep_size (w := w) (g := g) (row := none) (kp HK))); replace BK357 := aM (k0 hk BK357 NB357_0); replace BK362 := aM (k0 hk BK362 NB362_0); replace HK := aM (ku HK hk); replace HI0 := aM (hi); replace HB := aM (hb); clear BK356; (try clear hb); (try clear hk); (try clear hi); (try clear ho0); (try clear ho1); obtain ⟨hnb112, hnc112⟩ := nn NB362_357; obtain ⟨hnb113, hnc113⟩ := nn NB362_0; obtain ⟨hcz114_0, hcz114_1, hcz114_2, hcz114_3, hcz114_4, hcz114_5, hcz114_6, hcz114_7, hcz114_8, hcz114_9, hcz114_10, hcz114_11, hfz114_0, hfz114_1, hfz114_2, hfz114_3, hfz114_4, hfz114_5, hfz114_6, hfz114_7, hfz114_8, hfz114_9, hfz114_10, hfz114_11⟩ := bc12 BK362; obtain ⟨Ao115, co115, eo115⟩ := Kd.R_slice HO383.out; subst eo115; obtain ⟨Ao116, co116, eo116⟩ := Kd.R_slice HO386.out; subst eo116; obtain ⟨hnb117, hnc117⟩ := nn NB357_0; obtain ⟨hcz118_0, hcz118_1, hcz118_2, hcz118_3, hcz118_4, hcz118_5, hcz118_6, hcz118_7, hcz118_8, hcz118_9, hcz118_10, hcz118_11, hfz118_0, hfz118_1, hfz118_2, hfz118_3, hfz118_4, hfz118_5, hfz118_6, hfz118_7, hfz118_8, hfz118_9, hfz118_10, hfz118_11⟩ := bc12 BK357))
           refine bodyPost_ret (results_cell_row rfl _ _ gb357 65 #[.int .i64 t358, .int .i64 t363, .int .i64 0, .int .i64 0, .int .i64 0, .slice none 0 0, .int .i64 t380, .slice Ao115 t381.length co115, .slice Ao116 t384.length co116, .int .i64 0, .slice none 0 0, .slice none 0 0] (0, 0) _ rfl (bk BK357) Try.underlying65 rfl (by kernel_rfl)) rfl ?_
           exact ⟨_, _, _, _, _, by first | rfl | (simp [errW_none, errW_some] <;> rfl) | (simp [*, errW_none, errW_some] <;> rfl), by first | exact Kd.R_nil _ _ _ _ _ | exact Kd.N_nil _ _ _ _ _ | exact Kd.V_nil _ _ _ _ _ | exact Kd.Q_nil _ _ _ _ _ | exact Kd.S_nil _ _ _ _ _, by (with_reducible repeat (first | apply rA | apply rN | apply rD)); exact rM (Kd.R_far (p := ⟨gb357, 11, none⟩) (Kd.R_far (p := ⟨gb357, 10, none⟩) (Kd.R_far (p := ⟨gb357, 9, none⟩) (Kd.R_far (p := ⟨gb357, 8, none⟩) (Kd.R_far (p := ⟨gb357, 7, none⟩) (Kd.R_far (p := ⟨gb357, 6, none⟩) (Kd.R_far (p := ⟨gb357, 5, none⟩) (Kd.R_far (p := ⟨gb357, 4, none⟩) (Kd.R_far (p := ⟨gb357, 3, none⟩) (Kd.R_far (p := ⟨gb357, 2, none⟩) (Kd.R_far (p := ⟨gb357, 1, none⟩) (Kd.R_far (p := ⟨gb357, 0, none⟩) (Kd.R_far (p := ⟨gb362, 8, none⟩) (Kd.R_far (p := ⟨gb362, 7, none⟩) (Kd.R_far (p := ⟨gb362, 6, none⟩) (Kd.R_types (Kd.R_types HO383.out BK362.out (by decide)) BK357.out (by decide)) (fun _ hk => hk.1.2) (.int .i64 t380)) (fun _ hk => hk.1.2) (.slice Ao115 t381.length co115)) (fun _ hk => hk.1.2) (.slice Ao116 t384.length co116)) (fun _ hk => hk.2) (.int .i64 t358)) (fun _ hk => hk.2) (.int .i64 t363)) (fun _ hk => hk.2) (.int .i64 0)) (fun _ hk => hk.2) (.int .i64 0)) (fun _ hk => hk.2) (.int .i64 0)) (fun _ hk => hk.2) (.slice none 0 0)) (fun _ hk => hk.2) (.int .i64 t380)) (fun _ hk => hk.2) (.slice Ao115 t381.length co115)) (fun _ hk => hk.2) (.slice Ao116 t384.length co116)) (fun _ hk => hk.2) (.int .i64 0)) (fun _ hk => hk.2) (.slice none 0 0)) (fun _ hk => hk.2) (.slice none 0 0)) (fun _ hk => trivial), by (with_reducible repeat (first | apply rA | apply rN | apply rD)); exact rM (Kd.R_far (p := ⟨gb357, 11, none⟩) (Kd.R_far (p := ⟨gb357, 10, none⟩) (Kd.R_far (p := ⟨gb357, 9, none⟩) (Kd.R_far (p := ⟨gb357, 8, none⟩) (Kd.R_far (p := ⟨gb357, 7, none⟩) (Kd.R_far (p := ⟨gb357, 6, none⟩) (Kd.R_far (p := ⟨gb357, 5, none⟩) (Kd.R_far (p := ⟨gb357, 4, none⟩) (Kd.R_far (p := ⟨gb357, 3, none⟩) (Kd.R_far (p := ⟨gb357, 2, none⟩) (Kd.R_far (p := ⟨gb357, 1, none⟩) (Kd.R_far (p := ⟨gb357, 0, none⟩) (Kd.R_far (p := ⟨gb362, 8, none⟩) (Kd.R_far (p := ⟨gb362, 7, none⟩) (Kd.R_far (p := ⟨gb362, 6, none⟩) (Kd.R_types (Kd.R_types HO386.out BK362.out (by decide)) BK357.out (by decide)) (fun _ hk => hk.1.2) (.int .i64 t380)) (fun _ hk => hk.1.2) (.slice Ao115 t381.length co115)) (fun _ hk => hk.1.2) (.slice Ao116 t384.length co116)) (fun _ hk => hk.2) (.int .i64 t358)) (fun _ hk => hk.2) (.int .i64 t363)) (fun _ hk => hk.2) (.int .i64 0)) (fun _ hk => hk.2) (.int .i64 0)) (fun _ hk => hk.2) (.int .i64 0)) (fun _ hk => hk.2) (.slice none 0 0)) (fun _ hk => hk.2) (.int .i64 t380)) (fun _ hk => hk.2) (.slice Ao115 t381.length co115)) (fun _ hk => hk.2) (.slice Ao116 t384.length co116)) (fun _ hk => hk.2) (.int .i64 0)) (fun _ hk => hk.2) (.slice none 0 0)) (fun _ hk => hk.2) (.slice none 0 0)) (fun _ hk => ⟨(by simp [Value.ownBlock]), (by simp [Value.ownBlock])⟩), by first | exact Kd.R_nil _ _ _ _ _ | exact Kd.N_nil _ _ _ _ _ | exact Kd.V_nil _ _ _ _ _ | exact Kd.Q_nil _ _ _ _ _ | exact Kd.S_nil _ _ _ _ _, by first | exact Kd.R_nil _ _ _ _ _ | exact Kd.N_nil _ _ _ _ _ | exact Kd.V_nil _ _ _ _ _ | exact Kd.Q_nil _ _ _ _ _ | exact Kd.S_nil _ _ _ _ _, iS164 HI0, iB164 HB, kp HK⟩
         ·replace c100 := Bool.eq_false_iff.mpr c100
          subst c100
          have H1 : (if t358 = 1 then (eB (codec_reader_rel.f kj89 t368 t369 t370) fun bt390 => (some (.ok (t358, t363, 0, 0, 0, ([] : List (S130)), 0, ([] : List Int), ([] : List (S130)), bt390.1, bt390.2.1, bt390.2.2.1, bt390.2.2.2.1, bt390.2.2.2.2.1, bt390.2.2.2.2.2)))) else (if t363 = 1 then (eB (codec_reader_int.f kj89 t368 t369 t370) fun bt400 => (some (.ok (t358, t363, bt400.1, 0, 0, ([] : List (S130)), 0, ([] : List Int), ([] : List (S130)), 0, ([] : List (S63)), ([] : List (S130)), bt400.2.1, bt400.2.2.1, bt400.2.2.2)))) else (if t363 = 2 then (eB (codec_reader_int.f kj89 t368 t369 t370) fun bt404 => (some (.ok (t358, t363, 0, 0, 0, ([] : List (S130)), bt404.1, ([] : List Int), ([] : List (S130)), 0, ([] : List (S63)), ([] : List (S130)), bt404.2.1, bt404.2.2.1, bt404.2.2.2)))) else (eB (codec_reader_int.f kj89 t368 t369 t370) fun bt408 => (some (.ok (t358, t363, 0, 0, 0, ([] : List (S130)), 0, ([] : List Int), ([] : List (S130)), bt408.1, ([] : List (S63)), ([] : List (S130)), bt408.2.1, bt408.2.2.1, bt408.2.2.2))))))) = some r := by rw [if_neg (show ¬ (false = true) by decide)] at H; exact H
          clear H
          have H := H1
          clear H1
          by_cases c119 : t358 = 1
          ·rw [if_pos c119] at H
           have c119b0 : (t358 == 1) = true := beq_iff_eq.mpr c119
           have c119b1 : (t358 != 1) = false := bne_eq_false_iff_eq.mpr c119
           clear c119
           rcases eB_cases H with ⟨xe_, A1200, H⟩ | ⟨⟨t390, t391, t394, t397, t398, t399⟩, A1200, H⟩
           ·subst H
            have A120 := aM A1200
            clear A1200
            obtain ⟨hnb121, hnc121⟩ := nn NB362_356
            obtain ⟨hnb122, hnc122⟩ := nn NB362_357
            obtain ⟨hnb123, hnc123⟩ := nn NB362_0
            obtain ⟨hcz124_0, hcz124_1, hcz124_2, hcz124_3, hcz124_4, hcz124_5, hcz124_6, hcz124_7, hcz124_8, hcz124_9, hcz124_10, hcz124_11, hfz124_0, hfz124_1, hfz124_2, hfz124_3, hfz124_4, hfz124_5, hfz124_6, hfz124_7, hfz124_8, hfz124_9, hfz124_10, hfz124_11⟩ := bc12 BK362
            obtain ⟨hnb125, hnc125⟩ := nn NB356_357
            obtain ⟨hnb126, hnc126⟩ := nn NB356_0
            obtain ⟨hcz127_0, hfz127_0⟩ := bc1 BK356
            go_wp2_with (first | (go_at_call 40; (with_reducible refine (codec_reader_rel.calls kj89 g t368 t369 t370 (.error xe_) w0 _ (iS164 HI0) (iB164 HB) A120.out).mono ?_); rintro e w128 ⟨rfl, hb⟩))
            (first | exact ⟨rfl, rfl, hb⟩ | exact ⟨rfl, hb⟩ | (go_simp; exact ⟨rfl, hb⟩) | (simp; exact ⟨rfl, hb⟩))
           ·replace H : (some (.ok (t358, t363, 0, 0, 0, ([] : List (S130)), 0, ([] : List Int), ([] : List (S130)), t390, t391, t394, t397, t398, t399))) = some r := H
            have A120 := aM A1200
            clear A1200
            obtain rfl := Option.some.inj H
            obtain ⟨hnb129, hnc129⟩ := nn NB362_356
            obtain ⟨hnb130, hnc130⟩ := nn NB362_357
            obtain ⟨hnb131, hnc131⟩ := nn NB362_0
            obtain ⟨hcz132_0, hcz132_1, hcz132_2, hcz132_3, hcz132_4, hcz132_5, hcz132_6, hcz132_7, hcz132_8, hcz132_9, hcz132_10, hcz132_11, hfz132_0, hfz132_1, hfz132_2, hfz132_3, hfz132_4, hfz132_5, hfz132_6, hfz132_7, hfz132_8, hfz132_9, hfz132_10, hfz132_11⟩ := bc12 BK362
            obtain ⟨hnb133, hnc133⟩ := nn NB356_357
            obtain ⟨hnb134, hnc134⟩ := nn NB356_0
            obtain ⟨hcz135_0, hfz135_0⟩ := bc1 BK356
            go_wp2_with (first | ((with_reducible refine gate_callee (f := 40) rfl ?_); refine gL (some 47) Try.func40 #[.agg #[.pointer (some ⟨g, 0, none⟩)]] ?_; (with_reducible refine (codec_reader_rel.calls kj89 g t368 t369 t370 (.ok (t390, t391, t394, t397, t398, t399)) w0 _ (iS164 HI0) (iB164 HB) A120.out).mono ?_); rintro e w136 ⟨v392, v395, rfl, ho0, ho1, hi, hb, hk⟩; refine ⟨_, rfl, ?_⟩; have HO393 := aM (Kd.R_lower ho0 (keep_size (w := w) (g := g) (row := none) (kp HK))); have HO396 := aM (Kd.R_lower ho1 (keep_size (w := w) (g := g) (row := none) (kp HK))); replace BK357 := aM (k0 hk BK357 NB357_0); replace BK362 := aM (k0 hk BK362 NB362_0); replace HK := aM (ku HK hk); replace HI0 := aM (hi); replace HB := aM (hb); clear BK356; (try clear hb); (try clear hk); (try clear hi); (try clear ho0); (try clear ho1); obtain ⟨hcz137_0, hcz137_1, hcz137_2, hcz137_3, hcz137_4, hcz137_5, hcz137_6, hcz137_7, hcz137_8, hcz137_9, hcz137_10, hcz137_11, hfz137_0, hfz137_1, hfz137_2, hfz137_3, hfz137_4, hfz137_5, hfz137_6, hfz137_7, hfz137_8, hfz137_9, hfz137_10, hfz137_11⟩ := bc12 BK362; obtain ⟨Ao138, co138, eo138⟩ := Kd.R_slice HO393.out; subst eo138; obtain ⟨Ao139, co139, eo139⟩ := Kd.R_slice HO396.out; subst eo139; obtain ⟨hnb140, hnc140⟩ := nn NB357_0; obtain ⟨hcz141_0, hcz141_1, hcz141_2, hcz141_3, hcz141_4, hcz141_5, hcz141_6, hcz141_7, hcz141_8, hcz141_9, hcz141_10, hcz141_11, hfz141_0, hfz141_1, hfz141_2, hfz141_3, hfz141_4, hfz141_5, hfz141_6, hfz141_7, hfz141_8, hfz141_9, hfz141_10, hfz141_11⟩ := bc12 BK357))
            refine bodyPost_ret (results_cell_row rfl _ _ gb357 65 #[.int .i64 t358, .int .i64 t363, .int .i64 0, .int .i64 0, .int .i64 0, .slice none 0 0, .int .i64 0, .slice none 0 0, .slice none 0 0, .int .i64 t390, .slice Ao138 t391.length co138, .slice Ao139 t394.length co139] (0, 0) _ rfl (bk BK357) Try.underlying65 rfl (by kernel_rfl)) rfl ?_
            exact ⟨_, _, _, _, _, by first | rfl | (simp [errW_none, errW_some] <;> rfl) | (simp [*, errW_none, errW_some] <;> rfl), by first | exact Kd.R_nil _ _ _ _ _ | exact Kd.N_nil _ _ _ _ _ | exact Kd.V_nil _ _ _ _ _ | exact Kd.Q_nil _ _ _ _ _ | exact Kd.S_nil _ _ _ _ _, by first | exact Kd.R_nil _ _ _ _ _ | exact Kd.N_nil _ _ _ _ _ | exact Kd.V_nil _ _ _ _ _ | exact Kd.Q_nil _ _ _ _ _ | exact Kd.S_nil _ _ _ _ _, by first | exact Kd.R_nil _ _ _ _ _ | exact Kd.N_nil _ _ _ _ _ | exact Kd.V_nil _ _ _ _ _ | exact Kd.Q_nil _ _ _ _ _ | exact Kd.S_nil _ _ _ _ _, by (with_reducible repeat (first | apply rA | apply rN | apply rD)); exact rM (Kd.R_far (p := ⟨gb357, 11, none⟩) (Kd.R_far (p := ⟨gb357, 10, none⟩) (Kd.R_far (p := ⟨gb357, 9, none⟩) (Kd.R_far (p := ⟨gb357, 8, none⟩) (Kd.R_far (p := ⟨gb357, 7, none⟩) (Kd.R_far (p := ⟨gb357, 6, none⟩) (Kd.R_far (p := ⟨gb357, 5, none⟩) (Kd.R_far (p := ⟨gb357, 4, none⟩) (Kd.R_far (p := ⟨gb357, 3, none⟩) (Kd.R_far (p := ⟨gb357, 2, none⟩) (Kd.R_far (p := ⟨gb357, 1, none⟩) (Kd.R_far (p := ⟨gb357, 0, none⟩) (Kd.R_far (p := ⟨gb362, 11, none⟩) (Kd.R_far (p := ⟨gb362, 10, none⟩) (Kd.R_far (p := ⟨gb362, 9, none⟩) (Kd.R_types (Kd.R_types HO393.out BK362.out (by decide)) BK357.out (by decide)) (fun _ hk => hk.1.2) (.int .i64 t390)) (fun _ hk => hk.1.2) (.slice Ao138 t391.length co138)) (fun _ hk => hk.1.2) (.slice Ao139 t394.length co139)) (fun _ hk => hk.2) (.int .i64 t358)) (fun _ hk => hk.2) (.int .i64 t363)) (fun _ hk => hk.2) (.int .i64 0)) (fun _ hk => hk.2) (.int .i64 0)) (fun _ hk => hk.2) (.int .i64 0)) (fun _ hk => hk.2) (.slice none 0 0)) (fun _ hk => hk.2) (.int .i64 0)) (fun _ hk => hk.2) (.slice none 0 0)) (fun _ hk => hk.2) (.slice none 0 0)) (fun _ hk => hk.2) (.int .i64 t390)) (fun _ hk => hk.2) (.slice Ao138 t391.length co138)) (fun _ hk => hk.2) (.slice Ao139 t394.length co139)) (fun _ hk => trivial), by (with_reducible repeat (first | apply rA | apply rN | apply rD)); exact rM (Kd.R_far (p := ⟨gb357, 11, none⟩) (Kd.R_far (p := ⟨gb357, 10, none⟩) (Kd.R_far (p := ⟨gb357, 9, none⟩) (Kd.R_far (p := ⟨gb357, 8, none⟩) (Kd.R_far (p := ⟨gb357, 7, none⟩) (Kd.R_far (p := ⟨gb357, 6, none⟩) (Kd.R_far (p := ⟨gb357, 5, none⟩) (Kd.R_far (p := ⟨gb357, 4, none⟩) (Kd.R_far (p := ⟨gb357, 3, none⟩) (Kd.R_far (p := ⟨gb357, 2, none⟩) (Kd.R_far (p := ⟨gb357, 1, none⟩) (Kd.R_far (p := ⟨gb357, 0, none⟩) (Kd.R_far (p := ⟨gb362, 11, none⟩) (Kd.R_far (p := ⟨gb362, 10, none⟩) (Kd.R_far (p := ⟨gb362, 9, none⟩) (Kd.R_types (Kd.R_types HO396.out BK362.out (by decide)) BK357.out (by decide)) (fun _ hk => hk.1.2) (.int .i64 t390)) (fun _ hk => hk.1.2) (.slice Ao138 t391.length co138)) (fun _ hk => hk.1.2) (.slice Ao139 t394.length co139)) (fun _ hk => hk.2) (.int .i64 t358)) (fun _ hk => hk.2) (.int .i64 t363)) (fun _ hk => hk.2) (.int .i64 0)) (fun _ hk => hk.2) (.int .i64 0)) (fun _ hk => hk.2) (.int .i64 0)) (fun _ hk => hk.2) (.slice none 0 0)) (fun _ hk => hk.2) (.int .i64 0)) (fun _ hk => hk.2) (.slice none 0 0)) (fun _ hk => hk.2) (.slice none 0 0)) (fun _ hk => hk.2) (.int .i64 t390)) (fun _ hk => hk.2) (.slice Ao138 t391.length co138)) (fun _ hk => hk.2) (.slice Ao139 t394.length co139)) (fun _ hk => ⟨(by simp [Value.ownBlock]), (by simp [Value.ownBlock])⟩), iS164 HI0, iB164 HB, kp HK⟩
          ·rw [if_neg c119] at H
           have c119b0 : (t358 == 1) = false := beq_eq_false_iff_ne.mpr c119
           have c119b1 : (t358 != 1) = true := bne_iff_ne.mpr c119
           by_cases c142 : t363 = 1
           ·rw [if_pos c142] at H
            have c142b0 : (t363 == 1) = true := beq_iff_eq.mpr c142
            have c142b1 : (t363 != 1) = false := bne_eq_false_iff_eq.mpr c142
            clear c142
            rcases eB_cases H with ⟨xe_, A1430, H⟩ | ⟨⟨t400, t401, t402, t403⟩, A1430, H⟩
            ·subst H
             have A143 := aM A1430
             clear A1430
             obtain ⟨hnb144, hnc144⟩ := nn NB362_356
             obtain ⟨hnb145, hnc145⟩ := nn NB362_357
             obtain ⟨hnb146, hnc146⟩ := nn NB362_0
             obtain ⟨hcz147_0, hcz147_1, hcz147_2, hcz147_3, hcz147_4, hcz147_5, hcz147_6, hcz147_7, hcz147_8, hcz147_9, hcz147_10, hcz147_11, hfz147_0, hfz147_1, hfz147_2, hfz147_3, hfz147_4, hfz147_5, hfz147_6, hfz147_7, hfz147_8, hfz147_9, hfz147_10, hfz147_11⟩ := bc12 BK362
             obtain ⟨hnb148, hnc148⟩ := nn NB356_357
             obtain ⟨hnb149, hnc149⟩ := nn NB356_0
             obtain ⟨hcz150_0, hfz150_0⟩ := bc1 BK356
             go_wp2_with (first | (go_at_call 86; (with_reducible refine (codec_reader_int.calls kj89 g t368 t369 t370 (.error xe_) w0 _ (iS164 HI0) (iB164 HB) A143.out).mono ?_); rintro e w151 ⟨rfl, hb⟩))
             (first | exact ⟨rfl, rfl, hb⟩ | exact ⟨rfl, hb⟩ | (go_simp; exact ⟨rfl, hb⟩) | (simp; exact ⟨rfl, hb⟩))
            ·replace H : (some (.ok (t358, t363, t400, 0, 0, ([] : List (S130)), 0, ([] : List Int), ([] : List (S130)), 0, ([] : List (S63)), ([] : List (S130)), t401, t402, t403))) = some r := H
             have A143 := aM A1430
             clear A1430
             obtain rfl := Option.some.inj H
             obtain ⟨hnb152, hnc152⟩ := nn NB362_356
             obtain ⟨hnb153, hnc153⟩ := nn NB362_357
             obtain ⟨hnb154, hnc154⟩ := nn NB362_0
             obtain ⟨hcz155_0, hcz155_1, hcz155_2, hcz155_3, hcz155_4, hcz155_5, hcz155_6, hcz155_7, hcz155_8, hcz155_9, hcz155_10, hcz155_11, hfz155_0, hfz155_1, hfz155_2, hfz155_3, hfz155_4, hfz155_5, hfz155_6, hfz155_7, hfz155_8, hfz155_9, hfz155_10, hfz155_11⟩ := bc12 BK362
             obtain ⟨hnb156, hnc156⟩ := nn NB356_357
             obtain ⟨hnb157, hnc157⟩ := nn NB356_0
             obtain ⟨hcz158_0, hfz158_0⟩ := bc1 BK356
             go_wp2_with (first | ((with_reducible refine gate_callee (f := 86) rfl ?_); refine gL (some 54) Try.func86 #[.agg #[.pointer (some ⟨g, 0, none⟩)]] ?_; (with_reducible refine (codec_reader_int.calls kj89 g t368 t369 t370 (.ok (t400, t401, t402, t403)) w0 _ (iS164 HI0) (iB164 HB) A143.out).mono ?_); rintro e w159 ⟨rfl, hi, hb, hk⟩; refine ⟨_, rfl, ?_⟩; replace BK357 := aM (k0 hk BK357 NB357_0); replace BK362 := aM (k0 hk BK362 NB362_0); replace HK := aM (ku HK hk); replace HI0 := aM (hi); replace HB := aM (hb); clear BK356; (try clear hb); (try clear hk); (try clear hi); obtain ⟨hcz160_0, hcz160_1, hcz160_2, hcz160_3, hcz160_4, hcz160_5, hcz160_6, hcz160_7, hcz160_8, hcz160_9, hcz160_10, hcz160_11, hfz160_0, hfz160_1, hfz160_2, hfz160_3, hfz160_4, hfz160_5, hfz160_6, hfz160_7, hfz160_8, hfz160_9, hfz160_10, hfz160_11⟩ := bc12 BK362; obtain ⟨hnb161, hnc161⟩ := nn NB357_0; obtain ⟨hcz162_0, hcz162_1, hcz162_2, hcz162_3, hcz162_4, hcz162_5, hcz162_6, hcz162_7, hcz162_8, hcz162_9, hcz162_10, hcz162_11, hfz162_0, hfz162_1, hfz162_2, hfz162_3, hfz162_4, hfz162_5, hfz162_6, hfz162_7, hfz162_8, hfz162_9, hfz162_10, hfz162_11⟩ := bc12 BK357))
             refine bodyPost_ret (results_cell_row rfl _ _ gb357 65 #[.int .i64 t358, .int .i64 t363, .int .i64 t400, .int .i64 0, .int .i64 0, .slice none 0 0, .int .i64 0, .slice none 0 0, .slice none 0 0, .int .i64 0, .slice none 0 0, .slice none 0 0] (0, 0) _ rfl (bk BK357) Try.underlying65 rfl (by kernel_rfl)) rfl ?_
             exact ⟨_, _, _, _, _, by first | rfl | (simp [errW_none, errW_some] <;> rfl) | (simp [*, errW_none, errW_some] <;> rfl), by first | exact Kd.R_nil _ _ _ _ _ | exact Kd.N_nil _ _ _ _ _ | exact Kd.V_nil _ _ _ _ _ | exact Kd.Q_nil _ _ _ _ _ | exact Kd.S_nil _ _ _ _ _, by first | exact Kd.R_nil _ _ _ _ _ | exact Kd.N_nil _ _ _ _ _ | exact Kd.V_nil _ _ _ _ _ | exact Kd.Q_nil _ _ _ _ _ | exact Kd.S_nil _ _ _ _ _, by first | exact Kd.R_nil _ _ _ _ _ | exact Kd.N_nil _ _ _ _ _ | exact Kd.V_nil _ _ _ _ _ | exact Kd.Q_nil _ _ _ _ _ | exact Kd.S_nil _ _ _ _ _, by first | exact Kd.R_nil _ _ _ _ _ | exact Kd.N_nil _ _ _ _ _ | exact Kd.V_nil _ _ _ _ _ | exact Kd.Q_nil _ _ _ _ _ | exact Kd.S_nil _ _ _ _ _, by first | exact Kd.R_nil _ _ _ _ _ | exact Kd.N_nil _ _ _ _ _ | exact Kd.V_nil _ _ _ _ _ | exact Kd.Q_nil _ _ _ _ _ | exact Kd.S_nil _ _ _ _ _, iS164 HI0, iB164 HB, kp HK⟩
           ·rw [if_neg c142] at H
            have c142b0 : (t363 == 1) = false := beq_eq_false_iff_ne.mpr c142
            have c142b1 : (t363 != 1) = true := bne_iff_ne.mpr c142
            by_cases c163 : t363 = 2
            ·rw [if_pos c163] at H
             have c163b0 : (t363 == 2) = true := beq_iff_eq.mpr c163
             have c163b1 : (t363 != 2) = false := bne_eq_false_iff_eq.mpr c163
             clear c163
             rcases eB_cases H with ⟨xe_, A1640, H⟩ | ⟨⟨t404, t405, t406, t407⟩, A1640, H⟩
             ·subst H
              have A164 := aM A1640
              clear A1640
              obtain ⟨hnb165, hnc165⟩ := nn NB362_356
              obtain ⟨hnb166, hnc166⟩ := nn NB362_357
              obtain ⟨hnb167, hnc167⟩ := nn NB362_0
              obtain ⟨hcz168_0, hcz168_1, hcz168_2, hcz168_3, hcz168_4, hcz168_5, hcz168_6, hcz168_7, hcz168_8, hcz168_9, hcz168_10, hcz168_11, hfz168_0, hfz168_1, hfz168_2, hfz168_3, hfz168_4, hfz168_5, hfz168_6, hfz168_7, hfz168_8, hfz168_9, hfz168_10, hfz168_11⟩ := bc12 BK362
              obtain ⟨hnb169, hnc169⟩ := nn NB356_357
              obtain ⟨hnb170, hnc170⟩ := nn NB356_0
              obtain ⟨hcz171_0, hfz171_0⟩ := bc1 BK356
              go_wp2_with (first | (go_at_call 86; (with_reducible refine (codec_reader_int.calls kj89 g t368 t369 t370 (.error xe_) w0 _ (iS164 HI0) (iB164 HB) A164.out).mono ?_); rintro e w172 ⟨rfl, hb⟩))
              (first | exact ⟨rfl, rfl, hb⟩ | exact ⟨rfl, hb⟩ | (go_simp; exact ⟨rfl, hb⟩) | (simp; exact ⟨rfl, hb⟩))
             ·replace H : (some (.ok (t358, t363, 0, 0, 0, ([] : List (S130)), t404, ([] : List Int), ([] : List (S130)), 0, ([] : List (S63)), ([] : List (S130)), t405, t406, t407))) = some r := H
              have A164 := aM A1640
              clear A1640
              obtain rfl := Option.some.inj H
              obtain ⟨hnb173, hnc173⟩ := nn NB362_356
              obtain ⟨hnb174, hnc174⟩ := nn NB362_357
              obtain ⟨hnb175, hnc175⟩ := nn NB362_0
              obtain ⟨hcz176_0, hcz176_1, hcz176_2, hcz176_3, hcz176_4, hcz176_5, hcz176_6, hcz176_7, hcz176_8, hcz176_9, hcz176_10, hcz176_11, hfz176_0, hfz176_1, hfz176_2, hfz176_3, hfz176_4, hfz176_5, hfz176_6, hfz176_7, hfz176_8, hfz176_9, hfz176_10, hfz176_11⟩ := bc12 BK362
              obtain ⟨hnb177, hnc177⟩ := nn NB356_357
              obtain ⟨hnb178, hnc178⟩ := nn NB356_0
              obtain ⟨hcz179_0, hfz179_0⟩ := bc1 BK356
              go_wp2_with (first | ((with_reducible refine gate_callee (f := 86) rfl ?_); refine gL (some 62) Try.func86 #[.agg #[.pointer (some ⟨g, 0, none⟩)]] ?_; (with_reducible refine (codec_reader_int.calls kj89 g t368 t369 t370 (.ok (t404, t405, t406, t407)) w0 _ (iS164 HI0) (iB164 HB) A164.out).mono ?_); rintro e w180 ⟨rfl, hi, hb, hk⟩; refine ⟨_, rfl, ?_⟩; replace BK357 := aM (k0 hk BK357 NB357_0); replace BK362 := aM (k0 hk BK362 NB362_0); replace HK := aM (ku HK hk); replace HI0 := aM (hi); replace HB := aM (hb); clear BK356; (try clear hb); (try clear hk); (try clear hi); obtain ⟨hcz181_0, hcz181_1, hcz181_2, hcz181_3, hcz181_4, hcz181_5, hcz181_6, hcz181_7, hcz181_8, hcz181_9, hcz181_10, hcz181_11, hfz181_0, hfz181_1, hfz181_2, hfz181_3, hfz181_4, hfz181_5, hfz181_6, hfz181_7, hfz181_8, hfz181_9, hfz181_10, hfz181_11⟩ := bc12 BK362; obtain ⟨hnb182, hnc182⟩ := nn NB357_0; obtain ⟨hcz183_0, hcz183_1, hcz183_2, hcz183_3, hcz183_4, hcz183_5, hcz183_6, hcz183_7, hcz183_8, hcz183_9, hcz183_10, hcz183_11, hfz183_0, hfz183_1, hfz183_2, hfz183_3, hfz183_4, hfz183_5, hfz183_6, hfz183_7, hfz183_8, hfz183_9, hfz183_10, hfz183_11⟩ := bc12 BK357))
              refine bodyPost_ret (results_cell_row rfl _ _ gb357 65 #[.int .i64 t358, .int .i64 t363, .int .i64 0, .int .i64 0, .int .i64 0, .slice none 0 0, .int .i64 t404, .slice none 0 0, .slice none 0 0, .int .i64 0, .slice none 0 0, .slice none 0 0] (0, 0) _ rfl (bk BK357) Try.underlying65 rfl (by kernel_rfl)) rfl ?_
              exact ⟨_, _, _, _, _, by first | rfl | (simp [errW_none, errW_some] <;> rfl) | (simp [*, errW_none, errW_some] <;> rfl), by first | exact Kd.R_nil _ _ _ _ _ | exact Kd.N_nil _ _ _ _ _ | exact Kd.V_nil _ _ _ _ _ | exact Kd.Q_nil _ _ _ _ _ | exact Kd.S_nil _ _ _ _ _, by first | exact Kd.R_nil _ _ _ _ _ | exact Kd.N_nil _ _ _ _ _ | exact Kd.V_nil _ _ _ _ _ | exact Kd.Q_nil _ _ _ _ _ | exact Kd.S_nil _ _ _ _ _, by first | exact Kd.R_nil _ _ _ _ _ | exact Kd.N_nil _ _ _ _ _ | exact Kd.V_nil _ _ _ _ _ | exact Kd.Q_nil _ _ _ _ _ | exact Kd.S_nil _ _ _ _ _, by first | exact Kd.R_nil _ _ _ _ _ | exact Kd.N_nil _ _ _ _ _ | exact Kd.V_nil _ _ _ _ _ | exact Kd.Q_nil _ _ _ _ _ | exact Kd.S_nil _ _ _ _ _, by first | exact Kd.R_nil _ _ _ _ _ | exact Kd.N_nil _ _ _ _ _ | exact Kd.V_nil _ _ _ _ _ | exact Kd.Q_nil _ _ _ _ _ | exact Kd.S_nil _ _ _ _ _, iS164 HI0, iB164 HB, kp HK⟩
            ·rw [if_neg c163] at H
             have c163b0 : (t363 == 2) = false := beq_eq_false_iff_ne.mpr c163
             have c163b1 : (t363 != 2) = true := bne_iff_ne.mpr c163
             rcases eB_cases H with ⟨xe_, A1840, H⟩ | ⟨⟨t408, t409, t410, t411⟩, A1840, H⟩
             ·subst H
              have A184 := aM A1840
              clear A1840
              obtain ⟨hnb185, hnc185⟩ := nn NB362_356
              obtain ⟨hnb186, hnc186⟩ := nn NB362_357
              obtain ⟨hnb187, hnc187⟩ := nn NB362_0
              obtain ⟨hcz188_0, hcz188_1, hcz188_2, hcz188_3, hcz188_4, hcz188_5, hcz188_6, hcz188_7, hcz188_8, hcz188_9, hcz188_10, hcz188_11, hfz188_0, hfz188_1, hfz188_2, hfz188_3, hfz188_4, hfz188_5, hfz188_6, hfz188_7, hfz188_8, hfz188_9, hfz188_10, hfz188_11⟩ := bc12 BK362
              obtain ⟨hnb189, hnc189⟩ := nn NB356_357
              obtain ⟨hnb190, hnc190⟩ := nn NB356_0
              obtain ⟨hcz191_0, hfz191_0⟩ := bc1 BK356
              go_wp2_with (first | (go_at_call 86; (with_reducible refine (codec_reader_int.calls kj89 g t368 t369 t370 (.error xe_) w0 _ (iS164 HI0) (iB164 HB) A184.out).mono ?_); rintro e w192 ⟨rfl, hb⟩))
              (first | exact ⟨rfl, rfl, hb⟩ | exact ⟨rfl, hb⟩ | (go_simp; exact ⟨rfl, hb⟩) | (simp; exact ⟨rfl, hb⟩))
             ·replace H : (some (.ok (t358, t363, 0, 0, 0, ([] : List (S130)), 0, ([] : List Int), ([] : List (S130)), t408, ([] : List (S63)), ([] : List (S130)), t409, t410, t411))) = some r := H
              have A184 := aM A1840
              clear A1840
              obtain rfl := Option.some.inj H
              obtain ⟨hnb193, hnc193⟩ := nn NB362_356
              obtain ⟨hnb194, hnc194⟩ := nn NB362_357
              obtain ⟨hnb195, hnc195⟩ := nn NB362_0
              obtain ⟨hcz196_0, hcz196_1, hcz196_2, hcz196_3, hcz196_4, hcz196_5, hcz196_6, hcz196_7, hcz196_8, hcz196_9, hcz196_10, hcz196_11, hfz196_0, hfz196_1, hfz196_2, hfz196_3, hfz196_4, hfz196_5, hfz196_6, hfz196_7, hfz196_8, hfz196_9, hfz196_10, hfz196_11⟩ := bc12 BK362
              obtain ⟨hnb197, hnc197⟩ := nn NB356_357
              obtain ⟨hnb198, hnc198⟩ := nn NB356_0
              obtain ⟨hcz199_0, hfz199_0⟩ := bc1 BK356
              go_wp2_with (first | ((with_reducible refine gate_callee (f := 86) rfl ?_); refine gL (some 15) Try.func86 #[.agg #[.pointer (some ⟨g, 0, none⟩)]] ?_; (with_reducible refine (codec_reader_int.calls kj89 g t368 t369 t370 (.ok (t408, t409, t410, t411)) w0 _ (iS164 HI0) (iB164 HB) A184.out).mono ?_); rintro e w200 ⟨rfl, hi, hb, hk⟩; refine ⟨_, rfl, ?_⟩; replace BK357 := aM (k0 hk BK357 NB357_0); replace BK362 := aM (k0 hk BK362 NB362_0); replace HK := aM (ku HK hk); replace HI0 := aM (hi); replace HB := aM (hb); clear BK356; (try clear hb); (try clear hk); (try clear hi); obtain ⟨hcz201_0, hcz201_1, hcz201_2, hcz201_3, hcz201_4, hcz201_5, hcz201_6, hcz201_7, hcz201_8, hcz201_9, hcz201_10, hcz201_11, hfz201_0, hfz201_1, hfz201_2, hfz201_3, hfz201_4, hfz201_5, hfz201_6, hfz201_7, hfz201_8, hfz201_9, hfz201_10, hfz201_11⟩ := bc12 BK362; obtain ⟨hnb202, hnc202⟩ := nn NB357_0; obtain ⟨hcz203_0, hcz203_1, hcz203_2, hcz203_3, hcz203_4, hcz203_5, hcz203_6, hcz203_7, hcz203_8, hcz203_9, hcz203_10, hcz203_11, hfz203_0, hfz203_1, hfz203_2, hfz203_3, hfz203_4, hfz203_5, hfz203_6, hfz203_7, hfz203_8, hfz203_9, hfz203_10, hfz203_11⟩ := bc12 BK357))
              refine bodyPost_ret (results_cell_row rfl _ _ gb357 65 #[.int .i64 t358, .int .i64 t363, .int .i64 0, .int .i64 0, .int .i64 0, .slice none 0 0, .int .i64 0, .slice none 0 0, .slice none 0 0, .int .i64 t408, .slice none 0 0, .slice none 0 0] (0, 0) _ rfl (bk BK357) Try.underlying65 rfl (by kernel_rfl)) rfl ?_
              exact ⟨_, _, _, _, _, by first | rfl | (simp [errW_none, errW_some] <;> rfl) | (simp [*, errW_none, errW_some] <;> rfl), by first | exact Kd.R_nil _ _ _ _ _ | exact Kd.N_nil _ _ _ _ _ | exact Kd.V_nil _ _ _ _ _ | exact Kd.Q_nil _ _ _ _ _ | exact Kd.S_nil _ _ _ _ _, by first | exact Kd.R_nil _ _ _ _ _ | exact Kd.N_nil _ _ _ _ _ | exact Kd.V_nil _ _ _ _ _ | exact Kd.Q_nil _ _ _ _ _ | exact Kd.S_nil _ _ _ _ _, by first | exact Kd.R_nil _ _ _ _ _ | exact Kd.N_nil _ _ _ _ _ | exact Kd.V_nil _ _ _ _ _ | exact Kd.Q_nil _ _ _ _ _ | exact Kd.S_nil _ _ _ _ _, by first | exact Kd.R_nil _ _ _ _ _ | exact Kd.N_nil _ _ _ _ _ | exact Kd.V_nil _ _ _ _ _ | exact Kd.Q_nil _ _ _ _ _ | exact Kd.S_nil _ _ _ _ _, by first | exact Kd.R_nil _ _ _ _ _ | exact Kd.N_nil _ _ _ _ _ | exact Kd.V_nil _ _ _ _ _ | exact Kd.Q_nil _ _ _ _ _ | exact Kd.S_nil _ _ _ _ _, iS164 HI0, iB164 HB, kp HK⟩
end Go.Proofs.Ytefambkodalomaa.PAll
