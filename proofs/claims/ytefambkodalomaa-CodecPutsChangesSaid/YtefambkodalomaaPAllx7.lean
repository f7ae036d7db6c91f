-- out of a driver of this session's prover over the kit's print: Lean checks it
import Derived.Test.YtefambkodalomaaPAllx0
import Derived.Test.YtefambkodalomaaPAllx6
namespace Go.Proofs.Ytefambkodalomaa.PAll
open Go.Proofs.YtefambkodalomaaG Go.Shelf Go.Lib
open Go.RowKit Go.Proofs.YtefambkodalomaaW.PrintWords Go.Proofs.YtefambkodalomaaW.PrintLast Go.Proofs.YtefambkodalomaaW.PrintMore
attribute [local go_sem] max2_int min2_int max_two min_two max_three min_three max_four min_four   -- for this text's walks alone
set_option linter.unusedVariables false
set_option linter.unusedSimpArgs false
def codec_reader_count.f (k : Nat) (s0 : ByteArray) (s1 s2 a1 : Int) : Option (Except Int (Int × ByteArray × Int × Int)) := (wire_Reader_Count.f k s0 s1 s2 a1).bind fun b => if b.2.2.2 = 0 then some (.ok b) else some (.error b.2.2.2)
theorem codec_reader_count.mono : ∀ a0 a1 a2 a3 k, LeO (codec_reader_count.f k a0 a1 a2 a3) (codec_reader_count.f (k + 1) a0 a1 a2 a3) := by
 intro a0 a1 a2 a3 k; unfold codec_reader_count.f; exact LeO.bind (wire_Reader_Count.mono _ _ _ _ _) (fun _ => LeO.refl _)
def codec_reader_count.Post (w0 w : World) (g : Nat) : Except Int (Int × ByteArray × Int × Int) → Ending → World → Prop
 | .ok (r1, r2, r3, r4), e, w' => e = .returned (.int .i64 r1) ∧ IsS164 w0 w' g r2 r3 r4 ∧ Below w0.heap.size w0 w' ∧ KeepBut w w' g none
 | .error xe_, e, w' => e = .panicked [{ v := .iface 139 (.int .i64 xe_), recovered := false }] ∧ Below w0.heap.size w0 w'
set_option maxHeartbeats 8000000 in
set_option maxRecDepth 100000 in
theorem codec_reader_count.calls (k : Nat) (g : Nat) (s0_0 : ByteArray) (s0_1 s0_2 a1 : Int) (r : Except Int (Int × ByteArray × Int × Int)) (w0 w : World) (hI : IsS164 w0 w g s0_0 s0_1 s0_2) (hB : Below w0.heap.size w0 w) (h : codec_reader_count.f k s0_0 s0_1 s0_2 a1 = some r) :
  Calls Try.prog 37 #[.agg #[.pointer (some ⟨g, 0, none⟩)], .int .i64 a1] w (codec_reader_count.Post w0 w g r) := by
 have HI0 := aM hI; have HB0 := aM hB; have hlt := hI.lt; have hu81 := Try.underlying81; clear hI hB; obtain ⟨⟨v, s, p, er⟩, hf, h⟩ := Option.bind_eq_some_iff.mp h; dsimp only at h; have HF := aM hf; clear hf
 by_cases h0 : er = 0
 ·rw [if_pos h0] at h; obtain rfl := Option.some.inj h; go_enter Try.func37, Try.ntmps37
  go_wp2_with (go_at_call 84; (with_reducible refine (wire_Reader_Count.calls k g s0_0 s0_1 s0_2 a1 v s p er w0 _ ?side1 ?side2 HF.out).mono ?_); (case side1 => exact HI0.out.alloc _); (case side2 => exact bA HB0.out _); rintro e w1 ⟨rfl, hi, hb, hk⟩; have HI := aM hi; have HB := aM hb; have HK := aM (KeepBut.trans (keep_alloc (KeepBut.refl w g none) _) hk (.inl rfl)); have HN := aM (KeepBut.blk hk (heap_alloc_new w _) (Nat.ne_of_gt hlt) (by simp)); clear hi hb hk)
  go_upto_region 2 with (fail)
  replace HI := aM (IsS164.drew HI.out); replace HB := aM (bD HB.out); replace HK := aM (keep_drew HK.out); replace HN := aM (kD HN.out); refine start_ (n := 5) (S := fun w' => w'.cell? ⟨w.heap.size, 0, none⟩ = some (.pointer (some ⟨g, 0, none⟩))) (ds := []) #[false, false, false, false, false] (by kernel_rfl) rfl rfl ((kC HN.out 0).trans rfl) (fun hHeld => ?_); generalize w1.drew = w2 at HI HB HK HN hHeld ⊢; refine tk 0 10 (ba 5 1) ?_; refine tk 1 11 (ba 5 3) ?_; refine tk 2 12 (ba 5 7) ?_; refine one_ (i := 3) (N := some 13) (ba 5 15) rfl rfl (by kernel_rfl) (by decide) (fun K hK => ?_); refine goes_ Try.func85 (by kernel_rfl) rfl #[.pointer (some ⟨g, 0, none⟩)] (by rfl) rfl rfl (by (try simp only [List.map_toArray, List.map_cons, List.map_nil]); first | done | rfl) ?_
  with_reducible refine (wire_Reader_Err.calls g s p er er s p er w0 _ HI.out HB.out rfl).mono ?_
  rintro e w3 ⟨rfl, hi, hb, hk⟩; refine ⟨_, rfl, ?_⟩; have HI1 := aM hi; have HB1 := aM hb; have HK1 := aM (HK.out.trans hk (.inl rfl)); have HN1 := aM (KeepBut.blk hk HN.out (Nat.ne_of_gt hlt) (by simp)); clear hi hb hk HI HB HK HN; refine hK.out _ _ ((kC HN1.out 0).trans rfl) (fun hHeld => ?_); clear hK K; refine norm_ (a' := ?_) ?_ ?_; rotate_left
  ·show Act.put _ (some 13) _ = _
   simp only [Act.put, sA, sB, sC, i64_w, i32_w]; rfl
  refine one_ (i := 4) (N := some 14) (ba 5 31) rfl rfl (by kernel_rfl) (by decide) (fun K hK => ?_); refine goes_ Try.func82 (by kernel_rfl) rfl #[.agg #[.pointer (some ⟨g, 0, none⟩)], .int .i64 er] (by rfl) rfl rfl (by (try simp only [List.map_toArray, List.map_cons, List.map_nil]); first | done | rfl) ?_
  with_reducible refine (codec_reader_check.calls g s p er er (.ok (s, p, er)) w0 _ HI1.out HB1.out (by unfold codec_reader_check.f; exact if_pos h0)).mono ?_
  rintro e w4 ⟨rfl, hi, hb, hk⟩; refine ⟨_, rfl, ?_⟩; have HI2 := aM hi; have HB2 := aM hb; have HK2 := aM (HK1.out.trans hk (.inl rfl)); have HN2 := aM (KeepBut.blk hk HN1.out (Nat.ne_of_gt hlt) (by simp)); clear hi hb hk HI1 HB1 HK1 HN1; refine hK.out _ _ ((kC HN2.out 0).trans rfl) (fun hHeld => ?_); clear hK K; refine norm_ (a' := ?_) ?_ ?_; rotate_left
  ·show Act.put _ (some 14) _ = _
   simp only [Act.put, sA, sB, sC, i64_w, i32_w]; rfl
  refine done_ (by kernel_rfl) ?_
  go_wp2_with (fail)
  go_ret; exact ⟨rfl, HI2.out, HB2.out, HK2.out⟩
 ·rw [if_neg h0] at h; obtain rfl := Option.some.inj h; go_enter Try.func37, Try.ntmps37
  go_wp2_with (go_at_call 84; (with_reducible refine (wire_Reader_Count.calls k g s0_0 s0_1 s0_2 a1 v s p er w0 _ ?side1 ?side2 HF.out).mono ?_); (case side1 => exact HI0.out.alloc _); (case side2 => exact bA HB0.out _); rintro e w1 ⟨rfl, hi, hb, hk⟩; have HI := aM hi; have HB := aM hb; have HK := aM (KeepBut.trans (keep_alloc (KeepBut.refl w g none) _) hk (.inl rfl)); have HN := aM (KeepBut.blk hk (heap_alloc_new w _) (Nat.ne_of_gt hlt) (by simp)); clear hi hb hk)
  go_upto_region 2 with (fail)
  replace HI := aM (IsS164.drew HI.out); replace HB := aM (bD HB.out); replace HK := aM (keep_drew HK.out); replace HN := aM (kD HN.out); refine start_ (n := 5) (S := fun w' => w'.cell? ⟨w.heap.size, 0, none⟩ = some (.pointer (some ⟨g, 0, none⟩))) (ds := []) #[false, false, false, false, false] (by kernel_rfl) rfl rfl ((kC HN.out 0).trans rfl) (fun hHeld => ?_); generalize w1.drew = w2 at HI HB HK HN hHeld ⊢; refine tk 0 10 (ba 5 1) ?_; refine tk 1 11 (ba 5 3) ?_; refine tk 2 12 (ba 5 7) ?_; refine one_ (i := 3) (N := some 13) (ba 5 15) rfl rfl (by kernel_rfl) (by decide) (fun K hK => ?_); refine goes_ Try.func85 (by kernel_rfl) rfl #[.pointer (some ⟨g, 0, none⟩)] (by rfl) rfl rfl (by (try simp only [List.map_toArray, List.map_cons, List.map_nil]); first | done | rfl) ?_
  with_reducible refine (wire_Reader_Err.calls g s p er er s p er w0 _ HI.out HB.out rfl).mono ?_
  rintro e w3 ⟨rfl, hi, hb, hk⟩; refine ⟨_, rfl, ?_⟩; have HI1 := aM hi; have HB1 := aM hb; have HK1 := aM (HK.out.trans hk (.inl rfl)); have HN1 := aM (KeepBut.blk hk HN.out (Nat.ne_of_gt hlt) (by simp)); clear hi hb hk HI HB HK HN; refine hK.out _ _ ((kC HN1.out 0).trans rfl) (fun hHeld => ?_); clear hK K; refine norm_ (a' := ?_) ?_ ?_; rotate_left
  ·show Act.put _ (some 13) _ = _
   simp only [Act.put, sA, sB, sC, i64_w, i32_w]; rfl
  refine one_ (i := 4) (N := some 14) (ba 5 31) rfl rfl (by kernel_rfl) (by decide) (fun K hK => ?_); refine goesP_ Try.func82 (by kernel_rfl) rfl #[.agg #[.pointer (some ⟨g, 0, none⟩)], .int .i64 er] (by rfl) rfl rfl (by (try simp only [List.map_toArray, List.map_cons, List.map_nil]); first | done | rfl) ?_
  with_reducible refine (codec_reader_check.calls g s p er er (.error er) w0 _ HI1.out HB1.out (by unfold codec_reader_check.f; exact if_neg h0)).mono ?_
  rintro e w4 ⟨rfl, hb⟩; exact ⟨_, rfl, rfl, rfl, hb⟩
def wire_Reader_Int.f (k : Nat) (s0_0 : ByteArray) (s0_1 : Int) (s0_2 : Int) : Option (Int × ByteArray × Int × Int) := (wire_Reader_Uint.f k s0_0 s0_1 s0_2).bind fun bt164 => (some (Go.bits .xor .i64 (wrap64 (bt164.1 / 2)) (wrap64 (-(wrap64 (Go.bits .and .u64 bt164.1 1)))), bt164.2.1, bt164.2.2.1, bt164.2.2.2))
theorem wire_Reader_Int.mono : ∀ a0 a1 a2 k, LeO (wire_Reader_Int.f k a0 a1 a2) (wire_Reader_Int.f (k + 1) a0 a1 a2) := by
 intro a0 a1 a2 k; unfold wire_Reader_Int.f
 repeat' first
   | (with_reducible exact wire_Reader_Uint.mono _ _ _ _)
   | (with_reducible exact LeO.refl _)
   | (with_reducible exact LeO.none _)
   | (with_reducible refine LeO.ite ?_ ?_)
   | (with_reducible refine LeO.eB ?_ (fun _ => ?_))
   | (with_reducible refine LeO.bind ?_ (fun _ => ?_))
   | exact wire_Reader_Uint.mono _ _ _ _
   | exact LeO.none _
   | refine LeO.ite ?_ ?_
   | refine LeO.bind ?_ (fun _ => ?_)
set_option maxHeartbeats 8000000 in
set_option maxRecDepth 100000 in
theorem wire_Reader_Int.calls (k : Nat) (g : Nat) (s0_0 : ByteArray) (s0_1 : Int) (s0_2 : Int) (r1 : Int) (r2 : ByteArray) (r3 : Int) (r4 : Int) (w0 w : World) (hI : IsS164 w0 w g s0_0 s0_1 s0_2) (hB : Below w0.heap.size w0 w) (h : wire_Reader_Int.f k s0_0 s0_1 s0_2 = some (r1, r2, r3, r4)) :
  Calls Try.prog 112 #[.pointer (some ⟨g, 0, none⟩)] w fun e w' => e = .returned (.int .i64 r1) ∧ IsS164 w0 w' g r2 r3 r4 ∧ Below w0.heap.size w0 w' ∧ KeepBut w w' g none := by
 have HI0 := aM hI; have HK := aM (KeepBut.refl w g none); have HL := aM hB.size; clear hI; have HW0 := aM hB.size; have HB := aM hB; clear hB; have H : ((wire_Reader_Uint.f k s0_0 s0_1 s0_2).bind fun bt164 => (some (Go.bits .xor .i64 (wrap64 (bt164.1 / 2)) (wrap64 (-(wrap64 (Go.bits .and .u64 bt164.1 1)))), bt164.2.1, bt164.2.2.1, bt164.2.2.2))) = some (r1, r2, r3, r4) := h; clear h; replace H := Option.bind_eq_some_iff.mp H; obtain ⟨⟨t164, t165, t166, t167⟩, A20, H⟩ := H; replace H : (some (Go.bits .xor .i64 (wrap64 (t164 / 2)) (wrap64 (-(wrap64 (Go.bits .and .u64 t164 1)))), t165, t166, t167)) = some (r1, r2, r3, r4) := H; have A2 := aM A20; clear A20; simp only [Option.some.injEq, Prod.mk.injEq] at H; obtain ⟨rfl, rfl, rfl, rfl⟩ := H; go_enter Try.func112, Try.ntmps112
 go_wp2_with (first | ((with_reducible refine gate_callee (f := 120) rfl ?_); refine gL (some 5) Try.func120 #[.pointer (some ⟨g, 0, none⟩)] ?_; (with_reducible refine (wire_Reader_Uint.calls k g s0_0 s0_1 s0_2 t164 t165 t166 t167 w0 _ (iS164 HI0) (iB164 HB) A2.out).mono ?_); rintro e w3 ⟨rfl, hi, hb, hk⟩; refine ⟨_, rfl, ?_⟩; replace HK := aM (ku HK hk); replace HB := aM (hb); replace HI0 := aM (hi); (try clear hb); (try clear hk); (try clear hi)))
 go_ret; exact ⟨by first | rfl | (simp [errW_none, errW_some] <;> rfl) | (simp [*, errW_none, errW_some] <;> rfl), iS164 HI0, iB164 HB, kp HK⟩
def codec_reader_int.f (k : Nat) (s0 : ByteArray) (s1 s2 : Int) : Option (Except Int (Int × ByteArray × Int × Int)) := (wire_Reader_Int.f k s0 s1 s2).bind fun b => if b.2.2.2 = 0 then some (.ok b) else some (.error b.2.2.2)
theorem codec_reader_int.mono : ∀ a0 a1 a2 k, LeO (codec_reader_int.f k a0 a1 a2) (codec_reader_int.f (k + 1) a0 a1 a2) := by
 intro a0 a1 a2 k; unfold codec_reader_int.f; exact LeO.bind (wire_Reader_Int.mono _ _ _ _) (fun _ => LeO.refl _)
def codec_reader_int.Post (w0 w : World) (g : Nat) : Except Int (Int × ByteArray × Int × Int) → Ending → World → Prop
 | .ok (r1, r2, r3, r4), e, w' => e = .returned (.int .i64 r1) ∧ IsS164 w0 w' g r2 r3 r4 ∧ Below w0.heap.size w0 w' ∧ KeepBut w w' g none
 | .error xe_, e, w' => e = .panicked [{ v := .iface 139 (.int .i64 xe_), recovered := false }] ∧ Below w0.heap.size w0 w'
set_option maxHeartbeats 8000000 in
set_option maxRecDepth 100000 in
theorem codec_reader_int.calls (k : Nat) (g : Nat) (s0_0 : ByteArray) (s0_1 s0_2 : Int) (r : Except Int (Int × ByteArray × Int × Int)) (w0 w : World) (hI : IsS164 w0 w g s0_0 s0_1 s0_2) (hB : Below w0.heap.size w0 w) (h : codec_reader_int.f k s0_0 s0_1 s0_2 = some r) :
  Calls Try.prog 86 #[.agg #[.pointer (some ⟨g, 0, none⟩)]] w (codec_reader_int.Post w0 w g r) := by
 have HI0 := aM hI; have HB0 := aM hB; have hlt := hI.lt; have hu81 := Try.underlying81; clear hI hB; obtain ⟨⟨v, s, p, er⟩, hf, h⟩ := Option.bind_eq_some_iff.mp h; dsimp only at h; have HF := aM hf; clear hf
 by_cases h0 : er = 0
 ·rw [if_pos h0] at h; obtain rfl := Option.some.inj h; go_enter Try.func86, Try.ntmps86
  go_wp2_with (go_at_call 112; (with_reducible refine (wire_Reader_Int.calls k g s0_0 s0_1 s0_2 v s p er w0 _ ?side1 ?side2 HF.out).mono ?_); (case side1 => exact HI0.out.alloc _); (case side2 => exact bA HB0.out _); rintro e w1 ⟨rfl, hi, hb, hk⟩; have HI := aM hi; have HB := aM hb; have HK := aM (KeepBut.trans (keep_alloc (KeepBut.refl w g none) _) hk (.inl rfl)); have HN := aM (KeepBut.blk hk (heap_alloc_new w _) (Nat.ne_of_gt hlt) (by simp)); clear hi hb hk)
  go_upto_region 2 with (fail)
  replace HI := aM (IsS164.drew HI.out); replace HB := aM (bD HB.out); replace HK := aM (keep_drew HK.out); replace HN := aM (kD HN.out); refine start_ (n := 5) (S := fun w' => w'.cell? ⟨w.heap.size, 0, none⟩ = some (.pointer (some ⟨g, 0, none⟩))) (ds := []) #[false, false, false, false, false] (by kernel_rfl) rfl rfl ((kC HN.out 0).trans rfl) (fun hHeld => ?_); generalize w1.drew = w2 at HI HB HK HN hHeld ⊢; refine tk 0 7 (ba 5 1) ?_; refine tk 1 8 (ba 5 3) ?_; refine tk 2 9 (ba 5 7) ?_; refine one_ (i := 3) (N := some 10) (ba 5 15) rfl rfl (by kernel_rfl) (by decide) (fun K hK => ?_); refine goes_ Try.func85 (by kernel_rfl) rfl #[.pointer (some ⟨g, 0, none⟩)] (by rfl) rfl rfl (by (try simp only [List.map_toArray, List.map_cons, List.map_nil]); first | done | rfl) ?_
  with_reducible refine (wire_Reader_Err.calls g s p er er s p er w0 _ HI.out HB.out rfl).mono ?_
  rintro e w3 ⟨rfl, hi, hb, hk⟩; refine ⟨_, rfl, ?_⟩; have HI1 := aM hi; have HB1 := aM hb; have HK1 := aM (HK.out.trans hk (.inl rfl)); have HN1 := aM (KeepBut.blk hk HN.out (Nat.ne_of_gt hlt) (by simp)); clear hi hb hk HI HB HK HN; refine hK.out _ _ ((kC HN1.out 0).trans rfl) (fun hHeld => ?_); clear hK K; refine norm_ (a' := ?_) ?_ ?_; rotate_left
  ·show Act.put _ (some 10) _ = _
   simp only [Act.put, sA, sB, sC, i64_w, i32_w]; rfl
  refine one_ (i := 4) (N := some 11) (ba 5 31) rfl rfl (by kernel_rfl) (by decide) (fun K hK => ?_); refine goes_ Try.func82 (by kernel_rfl) rfl #[.agg #[.pointer (some ⟨g, 0, none⟩)], .int .i64 er] (by rfl) rfl rfl (by (try simp only [List.map_toArray, List.map_cons, List.map_nil]); first | done | rfl) ?_
  with_reducible refine (codec_reader_check.calls g s p er er (.ok (s, p, er)) w0 _ HI1.out HB1.out (by unfold codec_reader_check.f; exact if_pos h0)).mono ?_
  rintro e w4 ⟨rfl, hi, hb, hk⟩; refine ⟨_, rfl, ?_⟩; have HI2 := aM hi; have HB2 := aM hb; have HK2 := aM (HK1.out.trans hk (.inl rfl)); have HN2 := aM (KeepBut.blk hk HN1.out (Nat.ne_of_gt hlt) (by simp)); clear hi hb hk HI1 HB1 HK1 HN1; refine hK.out _ _ ((kC HN2.out 0).trans rfl) (fun hHeld => ?_); clear hK K; refine norm_ (a' := ?_) ?_ ?_; rotate_left
  ·show Act.put _ (some 11) _ = _
   simp only [Act.put, sA, sB, sC, i64_w, i32_w]; rfl
  refine done_ (by kernel_rfl) ?_
  go_wp2_with (fail)
  go_ret; exact ⟨rfl, HI2.out, HB2.out, HK2.out⟩
 ·rw [if_neg h0] at h; obtain rfl := Option.some.inj h; go_enter Try.func86, Try.ntmps86
  go_wp2_with (go_at_call 112; (with_reducible refine (wire_Reader_Int.calls k g s0_0 s0_1 s0_2 v s p er w0 _ ?side1 ?side2 HF.out).mono ?_); (case side1 => exact HI0.out.alloc _); (case side2 => exact bA HB0.out _); rintro e w1 ⟨rfl, hi, hb, hk⟩; have HI := aM hi; have HB := aM hb; have HK := aM (KeepBut.trans (keep_alloc (KeepBut.refl w g none) _) hk (.inl rfl)); have HN := aM (KeepBut.blk hk (heap_alloc_new w _) (Nat.ne_of_gt hlt) (by simp)); clear hi hb hk)
  go_upto_region 2 with (fail)
  replace HI := aM (IsS164.drew HI.out); replace HB := aM (bD HB.out); replace HK := aM (keep_drew HK.out); replace HN := aM (kD HN.out); refine start_ (n := 5) (S := fun w' => w'.cell? ⟨w.heap.size, 0, none⟩ = some (.pointer (some ⟨g, 0, none⟩))) (ds := []) #[false, false, false, false, false] (by kernel_rfl) rfl rfl ((kC HN.out 0).trans rfl) (fun hHeld => ?_); generalize w1.drew = w2 at HI HB HK HN hHeld ⊢; refine tk 0 7 (ba 5 1) ?_; refine tk 1 8 (ba 5 3) ?_; refine tk 2 9 (ba 5 7) ?_; refine one_ (i := 3) (N := some 10) (ba 5 15) rfl rfl (by kernel_rfl) (by decide) (fun K hK => ?_); refine goes_ Try.func85 (by kernel_rfl) rfl #[.pointer (some ⟨g, 0, none⟩)] (by rfl) rfl rfl (by (try simp only [List.map_toArray, List.map_cons, List.map_nil]); first | done | rfl) ?_
  with_reducible refine (wire_Reader_Err.calls g s p er er s p er w0 _ HI.out HB.out rfl).mono ?_
  rintro e w3 ⟨rfl, hi, hb, hk⟩; refine ⟨_, rfl, ?_⟩; have HI1 := aM hi; have HB1 := aM hb; have HK1 := aM (HK.out.trans hk (.inl rfl)); have HN1 := aM (KeepBut.blk hk HN.out (Nat.ne_of_gt hlt) (by simp)); clear hi hb hk HI HB HK HN; refine hK.out _ _ ((kC HN1.out 0).trans rfl) (fun hHeld => ?_); clear hK K; refine norm_ (a' := ?_) ?_ ?_; rotate_left
  ·show Act.put _ (some 10) _ = _
   simp only [Act.put, sA, sB, sC, i64_w, i32_w]; rfl
  refine one_ (i := 4) (N := some 11) (ba 5 31) rfl rfl (by kernel_rfl) (by decide) (fun K hK => ?_); refine goesP_ Try.func82 (by kernel_rfl) rfl #[.agg #[.pointer (some ⟨g, 0, none⟩)], .int .i64 er] (by rfl) rfl rfl (by (try simp only [List.map_toArray, List.map_cons, List.map_nil]); first | done | rfl) ?_
  with_reducible refine (codec_reader_check.calls g s p er er (.error er) w0 _ HI1.out HB1.out (by unfold codec_reader_check.f; exact if_neg h0)).mono ?_
  rintro e w4 ⟨rfl, hb⟩; exact ⟨_, rfl, rfl, rfl, hb⟩
def wire_Reader_Text.f (k : Nat) (s0_0 : ByteArray) (s0_1 s0_2 : Int) (a1 : Int) : Option (ByteArray × ByteArray × Int × Int) :=
 if s0_2 = 0 then (wire_Reader_count.f k s0_0 s0_1 s0_2 a1).bind fun b => (if b.2.2.2.2 = 0 then (if b.2.1 = 0 then (if 0 ≤ b.2.2.2.1 ∧ b.2.2.2.1 ≤ (b.2.2.1.size : Int) ∧ 0 ≤ b.1 ∧ (b.2.2.1.size : Int) ≤ 1000000000000000000 ∧ b.1 ≤ 1000000000000000000 then (if (b.2.2.1.size : Int) < b.2.2.2.1 + b.1 then some (⟨#[]⟩, b.2.2.1, s0_1, 3) else some (b.2.2.1.extract b.2.2.2.1.toNat (b.2.2.2.1 + b.1).toNat, b.2.2.1, b.2.2.2.1 + b.1, 0)) else none) else some (⟨#[]⟩, b.2.2.1, s0_1, b.2.1)) else none) else none
theorem wire_Reader_Text.mono : ∀ a0 a1 a2 a3 k, LeO (wire_Reader_Text.f k a0 a1 a2 a3) (wire_Reader_Text.f (k + 1) a0 a1 a2 a3) := by
 intro a0 a1 a2 a3 k; unfold wire_Reader_Text.f; exact LeO.ite (LeO.bind (wire_Reader_count.mono _ _ _ _ _) (fun _ => LeO.refl _)) (LeO.refl _)
set_option maxHeartbeats 4000000 in
theorem text1_fail (k : Nat) (g br bm nb : Nat) (s s' : ByteArray) (at_ at' most n e : Int) (he : e ≠ 0) (v : Value) (w0 W : World) (hI : IsS164 w0 W g s at_ 0) (hB : Below w0.heap.size w0 W) (hge : w0.heap.size ≤ nb) (hng : nb ≠ g)
  (hbr : W.heap[br]? = some (.cells #[.pointer (some ⟨g, 0, none⟩)] 79 (0, 0))) (hbm : W.heap[bm]? = some (.cells #[.int .i64 most] 3 (0, 0))) (hnb : W.heap[nb]? = some (.cells #[v] 9 (0, 0))) (h : wire_Reader_count.f k s at_ 0 most = some (n, e, s', at', 0)) :
  Calls Try.prog 121 #[.pointer (some ⟨br, 0, none⟩), .pointer (some ⟨bm, 0, none⟩), .pointer (some ⟨nb, 0, none⟩)] W fun e' w' => e' = .returned (.int .i64 e) ∧ IsS164 w0 w' g s' at' 0 ∧ w'.heap[nb]? = some (.cells #[v] 9 (0, 0)) ∧ Below w0.heap.size w0 w' ∧ Alike0 g nb W w' := by
 have HI := aM hI; have HB := aM hB; have HN := aM hnb; have HG := aM hge; have HH := aM h; have HNG := aM hng; have c0 := (kC hbr 0).trans (show _ = some (Value.pointer (some ⟨g, 0, none⟩)) from rfl); have cm := (kC hbm 0).trans (show _ = some (Value.int .i64 most) from rfl); have he1 : (e != 0) = true := bne_iff_ne.mpr he; clear hI hB hnb hge h hbr hng hbm he; go_enter Try.func121, Try.ntmps121
 go_wp2_with (go_at_call 111; (with_reducible refine (wire_Reader_count.calls k g s at_ 0 most n e s' at' 0 w0 _ HI.out HB.out HH.out).mono ?_); rintro e1 w1 ⟨rfl, hi, hb, hk⟩; have HI1 := aM hi; have HB1 := aM hb; have HK := aM hk; have HN1 := aM (KeepBut.blk hk HN.out HNG.out (by simp)); clear hi hb hk c0 cm)
 go_ret; exact ⟨rfl, HI1.out, HN1.out, HB1.out, HK.out.1, fun i hi h1 _ => HK.out.2 i hi h1 (by simp)⟩
set_option maxRecDepth 100000 in
set_option maxHeartbeats 8000000 in
theorem text1_ok (k : Nat) (g br bm nb : Nat) (s s' : ByteArray) (at_ at' most n : Int) (v : Value) (w0 W : World) (hI : IsS164 w0 W g s at_ 0) (hB : Below w0.heap.size w0 W) (hge : w0.heap.size ≤ nb) (hng : nb ≠ g) (hbg : br ≠ g) (hbn : br ≠ nb)
  (hbr : W.heap[br]? = some (.cells #[.pointer (some ⟨g, 0, none⟩)] 79 (0, 0))) (hbm : W.heap[bm]? = some (.cells #[.int .i64 most] 3 (0, 0))) (hnb : W.heap[nb]? = some (.cells #[v] 9 (0, 0))) (h : wire_Reader_count.f k s at_ 0 most = some (n, 0, s', at', 0))
  (a0 : 0 ≤ at') (a1 : at' ≤ (s'.size : Int)) (a2 : 0 ≤ n) (a3 : (s'.size : Int) ≤ 1000000000000000000) (a4 : at' + n ≤ (s'.size : Int)) :
  Calls Try.prog 121 #[.pointer (some ⟨br, 0, none⟩), .pointer (some ⟨bm, 0, none⟩), .pointer (some ⟨nb, 0, none⟩)] W fun e' w' => e' = .returned (.int .i64 0) ∧ IsS164 w0 w' g s' (at' + n) 0 ∧ w'.heap[nb]? = some (.cells #[.string (s'.extract at'.toNat (at' + n).toNat)] 9 (0, 0)) ∧ Below w0.heap.size w0 w' ∧ Alike0 g nb W w' := by
 have HI := aM hI; have HB := aM hB; have HN := aM hnb; have HG := aM hge; have HH := aM h; have HNG := aM hng; have HBR := aM hbr; have HBG := aM hbg; have HBN := aM hbn; have c0 := (kC hbr 0).trans (show _ = some (Value.pointer (some ⟨g, 0, none⟩)) from rfl); have cm := (kC hbm 0).trans (show _ = some (Value.int .i64 most) from rfl); clear hI hB hnb hge h hbr hng hbm hbg hbn; go_enter Try.func121, Try.ntmps121
 go_wp2_with (go_at_call 111; (with_reducible refine (wire_Reader_count.calls k g s at_ 0 most n 0 s' at' 0 w0 _ HI.out HB.out HH.out).mono ?_); rintro e1 w1 ⟨rfl, hi, hb, hk⟩; have HI1 := aM hi; have HB1 := aM hb; have HK := aM hk; have HN1 := aM (KeepBut.blk hk HN.out HNG.out (by simp)); have HBR1 := aM (KeepBut.blk hk HBR.out HBG.out (by simp)); have g0 := cellS164_0 hi.1; have g1 := cellS164_1 hi.1; have cr := (kC HBR1.out 0).trans (show _ = some (Value.pointer (some ⟨g, 0, none⟩)) from rfl); have cn := (kC HN1.out 0).trans (show _ = some v from rfl); have fn_ := kF HN1.out 0; clear hi hb hk c0 cm)
 go_quiet (fail)
 try go_wp2
 have HB2 := aM (bN HB1.out nq); have HI2 := aM (HI1.out.drewN nq); have HN2 := aM (kN HN1.out nq); have HR2 := aM (kN HBR1.out nq); have HK2 := aM (keep_drewN HK.out nq); clear g0 g1 cr cn fn_ HI1 HB1 HN1 HBR1 HK; generalize w1.drewN nq = w2 at HB2 HI2 HN2 HR2 HK2 ⊢; have g0 := cellS164_0 HI2.out.1; have g1 := cellS164_1 HI2.out.1; have cr := (kC HR2.out 0).trans (show _ = some (Value.pointer (some ⟨g, 0, none⟩)) from rfl); have cn := (kC HN2.out 0).trans (show _ = some v from rfl); have fn_ := kF HN2.out 0; have e1 : IntKind.i64.wrap (at' + n) = at' + n := IntWalk.i64_in _ (by omega); have e2 : 0 ≤ at' + n := by omega
 have e3 : at' ≤ at' + n := by omega
 go_still_tail 15, (by kernel_rfl)
 change wpList _ _ _ _ _ w2.drew
 have HB3 := aM (bD HB2.out); have HI3 := aM (HI2.out.drew); have HN3 := aM (kD HN2.out); have HR3 := aM (kD HR2.out); have HK3 := aM (keep_drew HK2.out); clear g0 g1 cr cn fn_ HI2 HB2 HN2 HR2 HK2 e1 e2 e3; generalize w2.drew = w3 at HB3 HI3 HN3 HR3 HK3 ⊢; have g1 := cellS164_1 HI3.out.1; have gf := kF HI3.out.1 1; have cr := (kC HR3.out 0).trans (show _ = some (Value.pointer (some ⟨g, 0, none⟩)) from rfl); have cn := (kC HN3.out 0).trans (show _ = some v from rfl); have fn_ := kF HN3.out 0; have hbn' : ¬ br = nb := HBN.out; have hbg' : ¬ br = g := HBG.out; have hng' : ¬ nb = g := HNG.out; have hgn' : ¬ g = nb := fun e => HNG.out e.symm
 go_wp2
 go_ret; have hge := HI3.out.ge; exact ⟨rfl, (HI3.out.far hgn' _).set_1 _, blk_far (by simpa using blk_set HN3.out 0 (.string (s'.extract at'.toNat (at' + n).toNat))) hng' _, (HB3.out.setCell HG.out _).setCell hge _,
  (Alike0.set ⟨HK3.out.1, fun i hi h1 _ => HK3.out.2 i hi h1 (by simp)⟩ _ _ (.inr (.inl rfl))).set _ _ (.inl rfl)⟩
set_option maxRecDepth 100000 in
set_option maxHeartbeats 8000000 in
theorem text1_short (k : Nat) (g br bm nb : Nat) (s s' : ByteArray) (at_ at' most n : Int) (v : Value) (w0 W : World) (hI : IsS164 w0 W g s at_ 0) (hB : Below w0.heap.size w0 W) (hge : w0.heap.size ≤ nb) (hng : nb ≠ g) (hbg : br ≠ g) (hbn : br ≠ nb)
  (hbr : W.heap[br]? = some (.cells #[.pointer (some ⟨g, 0, none⟩)] 79 (0, 0))) (hbm : W.heap[bm]? = some (.cells #[.int .i64 most] 3 (0, 0))) (hnb : W.heap[nb]? = some (.cells #[v] 9 (0, 0))) (h : wire_Reader_count.f k s at_ 0 most = some (n, 0, s', at', 0))
  (a0 : 0 ≤ at') (a1 : at' ≤ (s'.size : Int)) (a2 : 0 ≤ n) (a3 : (s'.size : Int) ≤ 1000000000000000000) (a4 : (s'.size : Int) < at' + n) (a5 : n ≤ 1000000000000000000) :
  Calls Try.prog 121 #[.pointer (some ⟨br, 0, none⟩), .pointer (some ⟨bm, 0, none⟩), .pointer (some ⟨nb, 0, none⟩)] W fun e' w' => e' = .returned (.int .i64 3) ∧ IsS164 w0 w' g s' at' 0 ∧ w'.heap[nb]? = some (.cells #[v] 9 (0, 0)) ∧ Below w0.heap.size w0 w' ∧ Alike0 g nb W w' := by
 have HI := aM hI; have HB := aM hB; have HN := aM hnb; have HG := aM hge; have HH := aM h; have HNG := aM hng; have HBR := aM hbr; have HBG := aM hbg; have HBN := aM hbn; have c0 := (kC hbr 0).trans (show _ = some (Value.pointer (some ⟨g, 0, none⟩)) from rfl); have cm := (kC hbm 0).trans (show _ = some (Value.int .i64 most) from rfl); clear hI hB hnb hge h hbr hng hbm hbg hbn; go_enter Try.func121, Try.ntmps121
 go_wp2_with (go_at_call 111; (with_reducible refine (wire_Reader_count.calls k g s at_ 0 most n 0 s' at' 0 w0 _ HI.out HB.out HH.out).mono ?_); rintro e1 w1 ⟨rfl, hi, hb, hk⟩; have HI1 := aM hi; have HB1 := aM hb; have HK := aM hk; have HN1 := aM (KeepBut.blk hk HN.out HNG.out (by simp)); have HBR1 := aM (KeepBut.blk hk HBR.out HBG.out (by simp)); have g0 := cellS164_0 hi.1; have g1 := cellS164_1 hi.1; have cr := (kC HBR1.out 0).trans (show _ = some (Value.pointer (some ⟨g, 0, none⟩)) from rfl); have cn := (kC HN1.out 0).trans (show _ = some v from rfl); have fn_ := kF HN1.out 0; clear hi hb hk c0 cm)
 go_quiet (fail)
 try go_wp2
 go_ret; exact ⟨rfl, HI1.out.drewN _, kN HN1.out _, bN HB1.out _, (keep_drewN HK.out _).1, fun i hi h1 _ => (keep_drewN HK.out _).2 i hi h1 (by simp)⟩
set_option maxHeartbeats 4000000 in
theorem text_try (k : Nat) (g : Nat) (s0_0 s' : ByteArray) (s0_1 a1 n e at' : Int) (w0 w : World) (hI : IsS164 w0 w g s0_0 s0_1 0) (hB : Below w0.heap.size w0 w) (er : Int) (a2 : Int) (V : ByteArray)
  (hc : ∀ W, IsS164 w0 W g s0_0 s0_1 0 → Below w0.heap.size w0 W → W.heap[w.heap.size]? = some (.cells #[.pointer (some ⟨g, 0, none⟩)] 79 (0, 0)) → W.heap[w.heap.size + 1]? = some (.cells #[.int .i64 a1] 3 (0, 0)) → W.heap[w.heap.size + 1 + 1]? = some (.cells #[.string ⟨#[]⟩] 9 (0, 0)) →
   Calls Try.prog 121 #[.pointer (some ⟨w.heap.size, 0, none⟩), .pointer (some ⟨w.heap.size + 1, 0, none⟩), .pointer (some ⟨w.heap.size + 1 + 1, 0, none⟩)] W fun e' w' => e' = .returned (.int .i64 er) ∧ IsS164 w0 w' g s' a2 0 ∧ w'.heap[w.heap.size + 1 + 1]? = some (.cells #[.string V] 9 (0, 0)) ∧ Below w0.heap.size w0 w' ∧ Alike0 g (w.heap.size + 1 + 1) W w') (fin : Int) (hfin : fin = if er = 0 then a2 else s0_1) (out : ByteArray) (hout : out = if er = 0 then V else ⟨#[]⟩) :
  Calls Try.prog 113 #[.pointer (some ⟨g, 0, none⟩), .int .i64 a1] w fun e w' => e = .returned (.string out) ∧ IsS164 w0 w' g s' fin er ∧ Below w0.heap.size w0 w' ∧ KeepBut w w' g none := by
 have hsz : w0.heap.size ≤ w.heap.size := hB.size; have hlt := hI.lt; have eg : ∀ args w, (callFunc 121 args).run Try.prog w = .ok (.enter 121 args) w := enters_of Try.func121 (by kernel_rfl) rfl; have hT : Calls Try.prog 109 #[.pointer (some ⟨g, 0, none⟩), .func (.func 121) #[] #[.pointer (some ⟨w.heap.size, 0, none⟩), .pointer (some ⟨w.heap.size + 1, 0, none⟩), .pointer (some ⟨w.heap.size + 1 + 1, 0, none⟩)]] (((w.alloc (.cells #[.pointer (some ⟨g, 0, none⟩)] 79)).alloc (.cells #[.int .i64 a1] 3)).alloc (.cells #[.string ⟨#[]⟩] 9)) fun e' w' => e' = .returned (.bool (er == 0)) ∧ IsS164 w0 w' g s' fin er ∧ w'.heap[w.heap.size + 1 + 1]? = some (.cells #[.string V] 9 (0, 0)) ∧ Below w0.heap.size w0 w' ∧ Alike0 g (w.heap.size + 1 + 1) (((w.alloc (.cells #[.pointer (some ⟨g, 0, none⟩)] 79)).alloc (.cells #[.int .i64 a1] 3)).alloc (.cells #[.string ⟨#[]⟩] 9)) w' := by
  have hI2 : IsS164 w0 (((w.alloc (.cells #[.pointer (some ⟨g, 0, none⟩)] 79)).alloc (.cells #[.int .i64 a1] 3)).alloc (.cells #[.string ⟨#[]⟩] 9)) g s0_0 s0_1 0 := ((hI.alloc _).alloc _).alloc _; refine try_any 121 _ g (w.heap.size + 1 + 1) 9 s0_0 s' s0_1 a2 er (.string V) w0 _ hI2 (bA (bA (bA hB _) _) _) (by simp) (by omega) (by omega) fin ⟨hfin⟩ eg (fun W hW => ?_); obtain ⟨z0, z1, z2⟩ := al3 w (.cells #[.pointer (some ⟨g, 0, none⟩)] 79) (.cells #[.int .i64 a1] 3) (.cells #[.string ⟨#[]⟩] 9); exact hc W (hI2.below hW) (bS (bA (bA (bA hB _) _) _) hW) (kB z0 hW) (kB z1 hW) (kB z2 hW)
 have HT := aM hT; have HS := aM hsz; have HO := aM hout; clear hT eg hsz hc hfin hout
 by_cases he : er = 0
 ·subst he; have h00 : ((0 : Int) == 0) = true := rfl; clear hI hB; go_enter Try.func113, Try.ntmps113
  go_wp2_with (fail)
  refine HT.out.mono ?_; rintro e1 w1 ⟨rfl, hi, hn, hb, ha⟩; have HI1 := aM hi; have HB1 := aM hb; have HA := aM ha; have cn := (kC hn 0).trans (show _ = some (Value.string V) from rfl); clear hi hb ha hn HT
  go_wp2
  go_ret; refine ⟨by rw [HO.out]; simp, HI1.out, HB1.out, by have := HA.out.1; simp at this; omega, fun i hi h1 _ => (HA.out.2 i (by simp; omega) h1 (by omega)).trans ((bA (bA (bA (Below.refl w.heap.size w) _) _) _).block i hi)⟩
 ·have h00 : (er == 0) = false := beq_eq_false_iff_ne.mpr he; have HE := aM he; clear hI hB he; go_enter Try.func113, Try.ntmps113
  go_wp2_with (fail)
  refine HT.out.mono ?_; rintro e1 w1 ⟨rfl, hi, hn, hb, ha⟩; have HI1 := aM hi; have HB1 := aM hb; have HA := aM ha; clear hi hb ha hn HT
  go_wp2
  go_ret; refine ⟨by rw [HO.out]; simp [HE.out], HI1.out, HB1.out, by have := HA.out.1; simp at this; omega, fun i hi h1 _ => (HA.out.2 i (by simp; omega) h1 (by omega)).trans ((bA (bA (bA (Below.refl w.heap.size w) _) _) _).block i hi)⟩
set_option maxHeartbeats 4000000 in
theorem wire_Reader_Text.calls (k : Nat) (g : Nat) (s0_0 : ByteArray) (s0_1 s0_2 : Int) (a1 : Int) (r1 : ByteArray) (r2 : ByteArray) (r3 r4 : Int) (w0 w : World) (hI : IsS164 w0 w g s0_0 s0_1 s0_2) (hB : Below w0.heap.size w0 w) (h : wire_Reader_Text.f k s0_0 s0_1 s0_2 a1 = some (r1, r2, r3, r4)) :
  Calls Try.prog 113 #[.pointer (some ⟨g, 0, none⟩), .int .i64 a1] w fun e w' => e = .returned (.string r1) ∧ IsS164 w0 w' g r2 r3 r4 ∧ Below w0.heap.size w0 w' ∧ KeepBut w w' g none := by
 unfold wire_Reader_Text.f at h
 by_cases h0 : s0_2 = 0
 case neg => rw [if_neg h0] at h; cases h
 subst h0; rw [if_pos rfl] at h; obtain ⟨⟨n, e, s', at', er'⟩, hu, h⟩ := Option.bind_eq_some_iff.mp h; dsimp only at h
 by_cases h1 : er' = 0
 case neg => rw [if_neg h1] at h; cases h
 subst h1; rw [if_pos rfl] at h; have hsz : w0.heap.size ≤ w.heap.size := hB.size; have hlt := hI.lt
 by_cases he : e = 0
 ·subst he; rw [if_pos rfl] at h
  by_cases hc : 0 ≤ at' ∧ at' ≤ (s'.size : Int) ∧ 0 ≤ n ∧ (s'.size : Int) ≤ 1000000000000000000 ∧ n ≤ 1000000000000000000
  case neg => rw [if_neg hc] at h; cases h
  rw [if_pos hc] at h; obtain ⟨c0, c1, c2, c3, c4⟩ := hc
  by_cases hs : (s'.size : Int) < at' + n
  ·rw [if_pos hs] at h; simp only [Option.some.injEq, Prod.mk.injEq] at h; obtain ⟨rfl, rfl, rfl, rfl⟩ := h; exact text_try k g s0_0 s' s0_1 a1 n 3 at' w0 w hI hB 3 at' ⟨#[]⟩ (fun W hI' hB' z0 z1 z2 => text1_short k g _ _ _ s0_0 s' s0_1 at' a1 n _ w0 W hI' hB' (by omega) (by omega) (by omega) (by omega) z0 z1 z2 hu c0 c1 c2 c3 hs c4) s0_1 (by simp) _ (by simp)
  ·rw [if_neg hs] at h; simp only [Option.some.injEq, Prod.mk.injEq] at h; obtain ⟨rfl, rfl, rfl, rfl⟩ := h; exact text_try k g s0_0 s' s0_1 a1 n 0 at' w0 w hI hB 0 (at' + n) _ (fun W hI' hB' z0 z1 z2 => text1_ok k g _ _ _ s0_0 s' s0_1 at' a1 n _ w0 W hI' hB' (by omega) (by omega) (by omega) (by omega) z0 z1 z2 hu c0 c1 c2 c3 (by omega)) _ (by simp) _ (by simp)
 ·rw [if_neg he] at h; simp only [Option.some.injEq, Prod.mk.injEq] at h; obtain ⟨rfl, rfl, rfl, rfl⟩ := h; exact text_try k g s0_0 s' s0_1 a1 n e at' w0 w hI hB e at' ⟨#[]⟩ (fun W hI' hB' z0 z1 z2 => text1_fail k g _ _ _ s0_0 s' s0_1 at' a1 n e he _ w0 W hI' hB' (by omega) (by omega) z0 z1 z2 hu) s0_1 (by rw [if_neg he]) _ (by rw [if_neg he])
def codec_reader_text.f (k : Nat) (s0 : ByteArray) (s1 s2 : Int) : Option (Except Int (ByteArray × ByteArray × Int × Int)) := (wire_Reader_Text.f k s0 s1 s2 64).bind fun b => if b.2.2.2 = 0 then some (.ok b) else some (.error b.2.2.2)
theorem codec_reader_text.mono : ∀ a0 a1 a2 k, LeO (codec_reader_text.f k a0 a1 a2) (codec_reader_text.f (k + 1) a0 a1 a2) := by
 intro a0 a1 a2 k; unfold codec_reader_text.f; exact LeO.bind (wire_Reader_Text.mono _ _ _ _ _) (fun _ => LeO.refl _)
def codec_reader_text.Post (w0 w : World) (g : Nat) : Except Int (ByteArray × ByteArray × Int × Int) → Ending → World → Prop
 | .ok (r1, r2, r3, r4), e, w' => e = .returned (.string r1) ∧ IsS164 w0 w' g r2 r3 r4 ∧ Below w0.heap.size w0 w' ∧ KeepBut w w' g none
 | .error xe_, e, w' => e = .panicked [{ v := .iface 139 (.int .i64 xe_), recovered := false }] ∧ Below w0.heap.size w0 w'
set_option maxHeartbeats 8000000 in
set_option maxRecDepth 100000 in
theorem codec_reader_text.calls (k : Nat) (g : Nat) (s0_0 : ByteArray) (s0_1 s0_2 : Int) (r : Except Int (ByteArray × ByteArray × Int × Int)) (w0 w : World) (hI : IsS164 w0 w g s0_0 s0_1 s0_2) (hB : Below w0.heap.size w0 w) (h : codec_reader_text.f k s0_0 s0_1 s0_2 = some r) :
  Calls Try.prog 88 #[.agg #[.pointer (some ⟨g, 0, none⟩)]] w (codec_reader_text.Post w0 w g r) := by
 have HI0 := aM hI; have HB0 := aM hB; have hlt := hI.lt; have hu81 := Try.underlying81; clear hI hB; obtain ⟨⟨v, s, p, er⟩, hf, h⟩ := Option.bind_eq_some_iff.mp h; dsimp only at h; have HF := aM hf; clear hf
 by_cases h0 : er = 0
 ·rw [if_pos h0] at h; obtain rfl := Option.some.inj h; go_enter Try.func88, Try.ntmps88
  go_wp2_with (go_at_call 113; (with_reducible refine (wire_Reader_Text.calls k g s0_0 s0_1 s0_2 64 v s p er w0 _ ?side1 ?side2 HF.out).mono ?_); (case side1 => exact HI0.out.alloc _); (case side2 => exact bA HB0.out _); rintro e w1 ⟨rfl, hi, hb, hk⟩; have HI := aM hi; have HB := aM hb; have HK := aM (KeepBut.trans (keep_alloc (KeepBut.refl w g none) _) hk (.inl rfl)); have HN := aM (KeepBut.blk hk (heap_alloc_new w _) (Nat.ne_of_gt hlt) (by simp)); clear hi hb hk)
  go_upto_region 2 with (fail)
  replace HI := aM (IsS164.drew HI.out); replace HB := aM (bD HB.out); replace HK := aM (keep_drew HK.out); replace HN := aM (kD HN.out); refine start_ (n := 5) (S := fun w' => w'.cell? ⟨w.heap.size, 0, none⟩ = some (.pointer (some ⟨g, 0, none⟩))) (ds := []) #[false, false, false, false, false] (by kernel_rfl) rfl rfl ((kC HN.out 0).trans rfl) (fun hHeld => ?_); generalize w1.drew = w2 at HI HB HK HN hHeld ⊢; refine tk 0 7 (ba 5 1) ?_; refine tk 1 8 (ba 5 3) ?_; refine tk 2 9 (ba 5 7) ?_; refine one_ (i := 3) (N := some 10) (ba 5 15) rfl rfl (by kernel_rfl) (by decide) (fun K hK => ?_); refine goes_ Try.func85 (by kernel_rfl) rfl #[.pointer (some ⟨g, 0, none⟩)] (by rfl) rfl rfl (by (try simp only [List.map_toArray, List.map_cons, List.map_nil]); first | done | rfl) ?_
  with_reducible refine (wire_Reader_Err.calls g s p er er s p er w0 _ HI.out HB.out rfl).mono ?_
  rintro e w3 ⟨rfl, hi, hb, hk⟩; refine ⟨_, rfl, ?_⟩; have HI1 := aM hi; have HB1 := aM hb; have HK1 := aM (HK.out.trans hk (.inl rfl)); have HN1 := aM (KeepBut.blk hk HN.out (Nat.ne_of_gt hlt) (by simp)); clear hi hb hk HI HB HK HN; refine hK.out _ _ ((kC HN1.out 0).trans rfl) (fun hHeld => ?_); clear hK K; refine norm_ (a' := ?_) ?_ ?_; rotate_left
  ·show Act.put _ (some 10) _ = _
   simp only [Act.put, sA, sB, sC, i64_w, i32_w]; rfl
  refine one_ (i := 4) (N := some 11) (ba 5 31) rfl rfl (by kernel_rfl) (by decide) (fun K hK => ?_); refine goes_ Try.func82 (by kernel_rfl) rfl #[.agg #[.pointer (some ⟨g, 0, none⟩)], .int .i64 er] (by rfl) rfl rfl (by (try simp only [List.map_toArray, List.map_cons, List.map_nil]); first | done | rfl) ?_
  with_reducible refine (codec_reader_check.calls g s p er er (.ok (s, p, er)) w0 _ HI1.out HB1.out (by unfold codec_reader_check.f; exact if_pos h0)).mono ?_
  rintro e w4 ⟨rfl, hi, hb, hk⟩; refine ⟨_, rfl, ?_⟩; have HI2 := aM hi; have HB2 := aM hb; have HK2 := aM (HK1.out.trans hk (.inl rfl)); have HN2 := aM (KeepBut.blk hk HN1.out (Nat.ne_of_gt hlt) (by simp)); clear hi hb hk HI1 HB1 HK1 HN1; refine hK.out _ _ ((kC HN2.out 0).trans rfl) (fun hHeld => ?_); clear hK K; refine norm_ (a' := ?_) ?_ ?_; rotate_left
  ·show Act.put _ (some 11) _ = _
   simp only [Act.put, sA, sB, sC, i64_w, i32_w]; rfl
  refine done_ (by kernel_rfl) ?_
  go_wp2_with (fail)
  go_ret; exact ⟨rfl, HI2.out, HB2.out, HK2.out⟩
 ·rw [if_neg h0] at h; obtain rfl := Option.some.inj h; go_enter Try.func88, Try.ntmps88
  go_wp2_with (go_at_call 113; (with_reducible refine (wire_Reader_Text.calls k g s0_0 s0_1 s0_2 64 v s p er w0 _ ?side1 ?side2 HF.out).mono ?_); (case side1 => exact HI0.out.alloc _); (case side2 => exact bA HB0.out _); rintro e w1 ⟨rfl, hi, hb, hk⟩; have HI := aM hi; have HB := aM hb; have HK := aM (KeepBut.trans (keep_alloc (KeepBut.refl w g none) _) hk (.inl rfl)); have HN := aM (KeepBut.blk hk (heap_alloc_new w _) (Nat.ne_of_gt hlt) (by simp)); clear hi hb hk)
  go_upto_region 2 with (fail)
  replace HI := aM (IsS164.drew HI.out); replace HB := aM (bD HB.out); replace HK := aM (keep_drew HK.out); replace HN := aM (kD HN.out); refine start_ (n := 5) (S := fun w' => w'.cell? ⟨w.heap.size, 0, none⟩ = some (.pointer (some ⟨g, 0, none⟩))) (ds := []) #[false, false, false, false, false] (by kernel_rfl) rfl rfl ((kC HN.out 0).trans rfl) (fun hHeld => ?_); generalize w1.drew = w2 at HI HB HK HN hHeld ⊢; refine tk 0 7 (ba 5 1) ?_; refine tk 1 8 (ba 5 3) ?_; refine tk 2 9 (ba 5 7) ?_; refine one_ (i := 3) (N := some 10) (ba 5 15) rfl rfl (by kernel_rfl) (by decide) (fun K hK => ?_); refine goes_ Try.func85 (by kernel_rfl) rfl #[.pointer (some ⟨g, 0, none⟩)] (by rfl) rfl rfl (by (try simp only [List.map_toArray, List.map_cons, List.map_nil]); first | done | rfl) ?_
  with_reducible refine (wire_Reader_Err.calls g s p er er s p er w0 _ HI.out HB.out rfl).mono ?_
  rintro e w3 ⟨rfl, hi, hb, hk⟩; refine ⟨_, rfl, ?_⟩; have HI1 := aM hi; have HB1 := aM hb; have HK1 := aM (HK.out.trans hk (.inl rfl)); have HN1 := aM (KeepBut.blk hk HN.out (Nat.ne_of_gt hlt) (by simp)); clear hi hb hk HI HB HK HN; refine hK.out _ _ ((kC HN1.out 0).trans rfl) (fun hHeld => ?_); clear hK K; refine norm_ (a' := ?_) ?_ ?_; rotate_left
  ·show Act.put _ (some 10) _ = _
   simp only [Act.put, sA, sB, sC, i64_w, i32_w]; rfl
  refine one_ (i := 4) (N := some 11) (ba 5 31) rfl rfl (by kernel_rfl) (by decide) (fun K hK => ?_); refine goesP_ Try.func82 (by kernel_rfl) rfl #[.agg #[.pointer (some ⟨g, 0, none⟩)], .int .i64 er] (by rfl) rfl rfl (by (try simp only [List.map_toArray, List.map_cons, List.map_nil]); first | done | rfl) ?_
  with_reducible refine (codec_reader_check.calls g s p er er (.error er) w0 _ HI1.out HB1.out (by unfold codec_reader_check.f; exact if_neg h0)).mono ?_
  rintro e w4 ⟨rfl, hb⟩; exact ⟨_, rfl, rfl, rfl, hb⟩
def codec_reader_tags.l0 : Nat → List (S130) → Int → Int → ByteArray → Int → Int → Option (Except Int ((List (S130)) × ByteArray × Int × Int))
 | 0, _, _, _, _, _, _ => none
 | k + 1, x3, x6, x7, x1000, x1001, x1002 => if x7 < x6 then (eB (codec_reader_text.f k x1000 x1001 x1002) fun bt173 => (eB (codec_reader_text.f k bt173.2.1 bt173.2.2.1 bt173.2.2.2) fun bt177 => (if x3.length < 4398046511104 then (codec_reader_tags.l0 k (x3 ++ [(⟨bt173.1, bt177.1⟩ : S130)]) x6 (wrap64 (x7 + 1)) bt177.2.1 bt177.2.2.1 bt177.2.2.2) else (none)))) else (some (.ok (x3, x1000, x1001, x1002)))
def codec_reader_tags.f (k : Nat) (s0_0 : ByteArray) (s0_1 : Int) (s0_2 : Int) : Option (Except Int ((List (S130)) × ByteArray × Int × Int)) := eB (codec_reader_count.f k s0_0 s0_1 s0_2 16) fun bt169 => (codec_reader_tags.l0 k ([] : List (S130)) bt169.1 0 bt169.2.1 bt169.2.2.1 bt169.2.2.2)
theorem codec_reader_tags.mono_l : ∀ k, (∀ y0 y1 y2 y3 y4 y5, LeO (codec_reader_tags.l0 k y0 y1 y2 y3 y4 y5) (codec_reader_tags.l0 (k + 1) y0 y1 y2 y3 y4 y5))
 | 0 => fun _ _ _ _ _ _ r h => by simp [codec_reader_tags.l0] at h
 | k + 1 => by
  have ih0 := codec_reader_tags.mono_l k
  ·intro y0 y1 y2 y3 y4 y5
   unfold codec_reader_tags.l0
   repeat' first
   | (with_reducible exact ih0 _ _ _ _ _ _)
   | (with_reducible exact codec_reader_count.mono _ _ _ _ _)
   | (with_reducible exact codec_reader_text.mono _ _ _ _)
   | (with_reducible exact LeO.refl _)
   | (with_reducible exact LeO.none _)
   | (with_reducible refine LeO.ite ?_ ?_)
   | (with_reducible refine LeO.eB ?_ (fun _ => ?_))
   | (with_reducible refine LeO.bind ?_ (fun _ => ?_))
   | exact ih0 _ _ _ _ _ _
   | exact codec_reader_count.mono _ _ _ _ _
   | exact codec_reader_text.mono _ _ _ _
   | exact LeO.none _
   | refine LeO.ite ?_ ?_
   | refine LeO.bind ?_ (fun _ => ?_)
theorem codec_reader_tags.mono : ∀ a0 a1 a2 k, LeO (codec_reader_tags.f k a0 a1 a2) (codec_reader_tags.f (k + 1) a0 a1 a2) := by
 intro a0 a1 a2 k; have ih0 := codec_reader_tags.mono_l k; unfold codec_reader_tags.f
 repeat' first
   | (with_reducible exact ih0 _ _ _ _ _ _)
   | (with_reducible exact codec_reader_count.mono _ _ _ _ _)
   | (with_reducible exact codec_reader_text.mono _ _ _ _)
   | (with_reducible exact LeO.refl _)
   | (with_reducible exact LeO.none _)
   | (with_reducible refine LeO.ite ?_ ?_)
   | (with_reducible refine LeO.eB ?_ (fun _ => ?_))
   | (with_reducible refine LeO.bind ?_ (fun _ => ?_))
   | exact ih0 _ _ _ _ _ _
   | exact codec_reader_count.mono _ _ _ _ _
   | exact codec_reader_text.mono _ _ _ _
   | exact LeO.none _
   | refine LeO.ite ?_ ?_
   | refine LeO.bind ?_ (fun _ => ?_)
def codec_reader_tags.Post (w0 w : World) (g : Nat) : Except Int ((List (S130)) × ByteArray × Int × Int) → Ending → World → Prop
 | .ok (r1, r2, r3, r4), e, w' => ∃ v0_ : Value, e = .returned (v0_) ∧ Kd.R k130 130 w' w.heap.size (fun _ => True) v0_ r1 ∧ IsS164 w0 w' g r2 r3 r4 ∧ Below w0.heap.size w0 w' ∧ KeepBut w w' g none
 | .error xe_, e, w' => e = .panicked [{ v := .iface 139 (.int .i64 xe_), recovered := false }] ∧ Below w0.heap.size w0 w'
set_option maxHeartbeats 8000000 in
set_option maxRecDepth 100000 in
theorem codec_reader_tags.calls (k : Nat) (g : Nat) (s0_0 : ByteArray) (s0_1 : Int) (s0_2 : Int) (r : Except Int ((List (S130)) × ByteArray × Int × Int)) (w0 w : World) (hI : IsS164 w0 w g s0_0 s0_1 s0_2) (hB : Below w0.heap.size w0 w) (h : codec_reader_tags.f k s0_0 s0_1 s0_2 = some r) :
  Calls Try.prog 87 #[.agg #[.pointer (some ⟨g, 0, none⟩)]] w (codec_reader_tags.Post w0 w g r) := by
 have hu81 := Try.underlying81; have hu130 := Try.underlying130; have HI0 := aM hI; have HK := aM (KeepBut.refl w g none); have HL := aM hB.size; clear hI; have HW0 := aM hB.size; have HB := aM hB; clear hB; have H : (eB (codec_reader_count.f k s0_0 s0_1 s0_2 16) fun bt169 => (codec_reader_tags.l0 k ([] : List (S130)) bt169.1 0 bt169.2.1 bt169.2.2.1 bt169.2.2.2)) = some r := h; clear h; rcases eB_cases H with ⟨xe_, A20, H⟩ | ⟨⟨t169, t170, t171, t172⟩, A20, H⟩
 ·subst H; have A2 := aM A20; clear A20; go_enter Try.func87, Try.ntmps87
  go_wp2_with (first | ((with_reducible refine gate_dst (N := 1) rfl ?_); refine bx (N := 1) (cs := #[.pointer (some ⟨g, 0, none⟩)]) (t := 81) ?_; intro gb168 hg w3 hbox hb; have BK168 := aM (hbox); have GE168 := aM (Nat.le_trans HW0.out (gk HK hg)); have NB0_168 := aM (ni164 HI0 hg); have NB168_0 := aM (ni164 HI0 hg).symm; replace HI0 := aM (IsS164.below (iS164 HI0) hb); replace HB := aM (bS (iB164 HB) hb); clear HK hb hbox hg; have hn4 := nn NB168_0; have hz5 := bc1 BK168) | (go_at_call 37; (with_reducible refine (codec_reader_count.calls k g s0_0 s0_1 s0_2 16 (.error xe_) w0 _ (iS164 HI0) (iB164 HB) A2.out).mono ?_); rintro e w6 ⟨rfl, hb⟩))
  (first | exact ⟨rfl, rfl, hb⟩ | exact ⟨rfl, hb⟩ | (go_simp; exact ⟨rfl, hb⟩) | (simp; exact ⟨rfl, hb⟩))
 ·replace H : (codec_reader_tags.l0 k ([] : List (S130)) t169 0 t170 t171 t172) = some r := H; have A2 := aM A20; clear A20; have H' := aM H; clear H; go_enter Try.func87, Try.ntmps87
  go_wp2_with (first | ((with_reducible refine gate_dst (N := 1) rfl ?_); refine bx (N := 1) (cs := #[.pointer (some ⟨g, 0, none⟩)]) (t := 81) ?_; intro gb168 hg w7 hbox hb; have BK168 := aM (hbox); have GW168 := aM (gk HK hg); have GE168 := aM (Nat.le_trans HW0.out (gk HK hg)); have NB0_168 := aM (ni164 HI0 hg); have NB168_0 := aM (ni164 HI0 hg).symm; replace HI0 := aM (IsS164.below (iS164 HI0) hb); replace HK := aM (kt HK hb); replace HB := aM (bS (iB164 HB) hb); clear hb hbox hg; have hn8 := nn NB168_0; have hz9 := bc1 BK168) | ((with_reducible refine gate_callee (f := 37) rfl ?_); refine gL (some 6) Try.func37 #[.agg #[.pointer (some ⟨g, 0, none⟩)], .int .i64 16] ?_; (with_reducible refine (codec_reader_count.calls k g s0_0 s0_1 s0_2 16 (.ok (t169, t170, t171, t172)) w0 _ (iS164 HI0) (iB164 HB) A2.out).mono ?_); rintro e w10 ⟨rfl, hi, hb, hk⟩; refine ⟨_, rfl, ?_⟩; replace BK168 := aM (k0 hk BK168 NB168_0); replace HK := aM (ku HK hk); replace HB := aM (hb); replace HI0 := aM (hi); (try clear hb); (try clear hk); (try clear hi)))
  go_loopg [3, 7] k (fun kq v3 v7 w' => ∃ (x3_1 : List (S130)) (x7_1 : Int) (x1000_1 : ByteArray) (x1001_1 : Int) (x1002_1 : Int), v7 = .int .i64 x7_1 ∧ Aside0 (codec_reader_tags.l0 kq x3_1 t169 x7_1 x1000_1 x1001_1 x1002_1 = some r) ∧ Aside0 (kq ≤ k) ∧ Aside0 (Kd.R k130 130 w' w.heap.size (fun _ => True) v3 x3_1) ∧ Aside0 (w'.heap[gb168]? = some (.cells #[.pointer (some ⟨g, 0, none⟩)] 81 (0, 0))) ∧ Aside0 (IsS164 w0 w' g x1000_1 x1001_1 x1002_1) ∧ Aside0 (KeepBut w w' g none) ∧ Aside0 (Below w0.heap.size w0 w'))
  case atStart => exact ⟨(([] : List (S130))), (0), (t170), (t171), (t172), (by first | rfl | (simp; done) | (simp [*]; done)), H', ⟨Nat.le_refl _⟩, ⟨by first | exact Kd.R_nil _ _ _ _ _ | exact Kd.N_nil _ _ _ _ _ | exact Kd.V_nil _ _ _ _ _ | exact Kd.Q_nil _ _ _ _ _ | exact Kd.S_nil _ _ _ _ _⟩, ⟨kl BK168⟩, ⟨iS164 HI0⟩, ⟨kp HK⟩, ⟨iB164 HB⟩⟩
  case round =>
   clear H'; (try clear hz5); (try clear hz9); obtain ⟨x3_1, x7_1, x1000_1, x1001_1, x1002_1, rfl, HA, HK1, HO_3, BK168, HI0, HK, HB⟩ := hrel
   cases gk with
   | zero => exact absurd HA.out (by simp [codec_reader_tags.l0])
   | succ k1 =>
    have H := HA.out; clear HA; simp only [codec_reader_tags.l0] at H
    by_cases c11 : x7_1 < t169
    ·rw [if_pos c11] at H; have c11b0 : decide (x7_1 < t169) = true := decide_eq_true c11; clear c11; rcases eB_cases H with ⟨xe_, A120, H⟩ | ⟨⟨t173, t174, t175, t176⟩, A120, H⟩
     ·subst H; have A12 := aM A120; clear A120; have hn13 := nn NB168_0; have hz14 := bc1 BK168
      go_wp2_with (first | (go_at_call 88; (with_reducible refine (codec_reader_text.calls k1 g x1000_1 x1001_1 x1002_1 (.error xe_) w0 _ (iS164 HI0) (iB164 HB) A12.out).mono ?_); rintro e w15 ⟨rfl, hb⟩))
      (first | exact ⟨rfl, rfl, hb⟩ | exact ⟨rfl, hb⟩ | (go_simp; exact ⟨rfl, hb⟩) | (simp; exact ⟨rfl, hb⟩))
     ·replace H : (eB (codec_reader_text.f k1 t174 t175 t176) fun bt177 => (if x3_1.length < 4398046511104 then (codec_reader_tags.l0 k1 (x3_1 ++ [(⟨t173, bt177.1⟩ : S130)]) t169 (wrap64 (x7_1 + 1)) bt177.2.1 bt177.2.2.1 bt177.2.2.2) else (none))) = some r := H; have A12 := aM A120; clear A120; rcases eB_cases H with ⟨xe_, A160, H⟩ | ⟨⟨t177, t178, t179, t180⟩, A160, H⟩
      ·subst H; have A16 := aM A160; clear A160; have hn17 := nn NB168_0; have hz18 := bc1 BK168
       go_wp2_with (first | ((with_reducible refine gate_callee (f := 88) rfl ?_); refine gL (some 10) Try.func88 #[.agg #[.pointer (some ⟨g, 0, none⟩)]] ?_; (with_reducible refine (codec_reader_text.calls k1 g x1000_1 x1001_1 x1002_1 (.ok (t173, t174, t175, t176)) w0 _ (iS164 HI0) (iB164 HB) A12.out).mono ?_); rintro e w19 ⟨rfl, hi, hb, hk⟩; refine ⟨_, rfl, ?_⟩; replace BK168 := aM (k0 hk BK168 NB168_0); replace HI0 := aM (hi); replace HB := aM (hb); clear HO_3 HK; (try clear hb); (try clear hk); (try clear hi); have hz20 := bc1 BK168) | (go_at_call 88; (with_reducible refine (codec_reader_text.calls k1 g t174 t175 t176 (.error xe_) w0 _ (iS164 HI0) (iB164 HB) A16.out).mono ?_); rintro e w21 ⟨rfl, hb⟩))
       (first | exact ⟨rfl, rfl, hb⟩ | exact ⟨rfl, hb⟩ | (go_simp; exact ⟨rfl, hb⟩) | (simp; exact ⟨rfl, hb⟩))
      ·replace H : (if x3_1.length < 4398046511104 then (codec_reader_tags.l0 k1 (x3_1 ++ [(⟨t173, t177⟩ : S130)]) t169 (wrap64 (x7_1 + 1)) t178 t179 t180) else (none)) = some r := H; have A16 := aM A160; clear A160
       by_cases c22 : x3_1.length < 4398046511104
       ·rw [if_pos c22] at H; have LMc22 := aM c22; clear c22; obtain ⟨y181, hy181⟩ : ∃ y_ : List (S130), y_ = (x3_1 ++ [(⟨t173, t177⟩ : S130)]) := ⟨_, rfl⟩; replace H : (codec_reader_tags.l0 k1 y181 t169 (wrap64 (x7_1 + 1)) t178 t179 t180) = some r := by first | (rw [hy181]; with_reducible exact H) | (have H2_ := (Option.bind_some _ _).symm.trans H; rw [hy181]; with_reducible exact H2_) | (have H2_ := (Option.bind_some _ _).symm.trans H; with_reducible exact H2_) | with_reducible exact H | (rw [hy181]; exact H) | exact H
        have Ny181 := aM hy181; clear hy181; have H' := aM H; clear H; have hn23 := nn NB168_0; have hz24 := bc1 BK168
        go_wp2_with (first | ((with_reducible refine gate_callee (f := 88) rfl ?_); refine gL (some 10) Try.func88 #[.agg #[.pointer (some ⟨g, 0, none⟩)]] ?_; (with_reducible refine (codec_reader_text.calls k1 g x1000_1 x1001_1 x1002_1 (.ok (t173, t174, t175, t176)) w0 _ (iS164 HI0) (iB164 HB) A12.out).mono ?_); rintro e w25 ⟨rfl, hi, hb, hk⟩; refine ⟨_, rfl, ?_⟩; replace HO_3 := aM (rM (Kd.R_keep (IsS164.apart (show IsS164 w0 _ g x1000_1 x1001_1 x1002_1 from iS164 HI0) (rl HO_3) (by decide)) hk (fun _ h => h.2)) (fun _ h => h.1)); replace BK168 := aM (k0 hk BK168 NB168_0); replace HK := aM (ku HK hk); replace HB := aM (hb); replace HI0 := aM (hi); (try clear hb); (try clear hk); (try clear hi); have hz26 := bc1 BK168) | ((with_reducible refine gate_callee (f := 88) rfl ?_); refine gL (some 14) Try.func88 #[.agg #[.pointer (some ⟨g, 0, none⟩)]] ?_; (with_reducible refine (codec_reader_text.calls k1 g t174 t175 t176 (.ok (t177, t178, t179, t180)) w0 _ (iS164 HI0) (iB164 HB) A16.out).mono ?_); rintro e w27 ⟨rfl, hi, hb, hk⟩; refine ⟨_, rfl, ?_⟩; replace HO_3 := aM (rM (Kd.R_keep (IsS164.apart (show IsS164 w0 _ g t174 t175 t176 from iS164 HI0) (rl HO_3) (by decide)) hk (fun _ h => h.2)) (fun _ h => h.1)); replace BK168 := aM (k0 hk BK168 NB168_0); replace HK := aM (ku HK hk); replace HB := aM (hb); replace HI0 := aM (hi); (try clear hb); (try clear hk); (try clear hi)) | ((with_reducible refine gate_builtin (b := .append) (xs := #[.tmp 11, .tmp 16]) rfl ?_); at_builtin; refine Kd.R_append k130 w.heap.size rfl (.tmp 11) (.tmp 16) 51 130 (.agg #[(.string ⟨#[]⟩), (.string ⟨#[]⟩)]) 32 rfl Try.underlying51 info130 rfl (by decide) (by omega) u3 x3_1 (⟨t173, t177⟩ : S130) [.string t173, .string t177] (fun _ => True) (fun _ => False) rfl rfl ?aP (fun _ hk => hk.elim) ?aF ?aO (Below.refl _ _) ?aS ?aL ?_; (case aP => exact k130_mkM _ _ _ (⟨t173, t177⟩ : S130)); (case aF => exact (fun _ _ => trivial)); (case aO => exact (rl HO_3)); (case aS => exact (keep_size (w := w) (g := g) (row := none) (kp HK))); (case aL => have := LMc22.out; omega); intro v182 w28 ho hb hg hat; rw [← Ny181.out] at ho; have HO183 := aM (ho); replace BK168 := aM (blk_grown (kl BK168) hg (Kd.R_ne HO_3.out BK168.out (by decide))); replace HI0 := aM (IsS164.grown (show IsS164 w0 _ g t178 t179 t180 from iS164 HI0) hg (IsS164.own_ne HI0.out HO_3.out (by decide))); replace HK := aM (KeepBut.trans (kp HK) (KeepBut.of_grown hg g) (Kd.R_base2 HO_3.out)); replace HB := aM (below_weaken (iB164 HB) HL.out hb); clear HO_3 ho hb hg hat))
        go_roundg k1
        case measure => have := HK1.out; omega
        case rel => exact ⟨(y181), (wrap64 (x7_1 + 1)), (t178), (t179), (t180), (by first | rfl | (simp; done) | (simp [*]; done)), H', ⟨by have := HK1.out; omega⟩, ⟨by (with_reducible repeat (first | apply rA | apply rN | apply rD)); exact HO183.out⟩, ⟨kl BK168⟩, ⟨iS164 HI0⟩, ⟨kp HK⟩, ⟨iB164 HB⟩⟩
       ·rw [if_neg c22] at H; exact absurd H (by simp)
    ·rw [if_neg c11] at H; have c11b0 : decide (x7_1 < t169) = false := decide_eq_false c11; clear c11; obtain rfl := Option.some.inj H
     go_wp2
     go_ret; exact ⟨_, by first | rfl | (simp [errW_none, errW_some] <;> rfl) | (simp [*, errW_none, errW_some] <;> rfl), by (with_reducible repeat (first | apply rA | apply rN | apply rD)); exact HO_3.out, iS164 HI0, iB164 HB, kp HK⟩
end Go.Proofs.Ytefambkodalomaa.PAll
