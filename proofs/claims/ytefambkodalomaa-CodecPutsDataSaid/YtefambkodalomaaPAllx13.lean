-- out of a driver of this session's prover over the kit's print: Lean checks it
import Derived.Test.YtefambkodalomaaPAllx0
import Derived.Test.YtefambkodalomaaPAllx1
import Derived.Test.YtefambkodalomaaPAllx5
import Derived.Test.YtefambkodalomaaPAllx6
import Derived.Test.YtefambkodalomaaPAllx7
import Derived.Test.YtefambkodalomaaPAllx10
import Derived.Test.YtefambkodalomaaPAllx11
import Derived.Test.YtefambkodalomaaPAllx12
namespace Go.Proofs.Ytefambkodalomaa.PAll
open Go.Proofs.YtefambkodalomaaG Go.Shelf Go.Lib
open Go.RowKit Go.Proofs.YtefambkodalomaaW.PrintWords Go.Proofs.YtefambkodalomaaW.PrintLast Go.Proofs.YtefambkodalomaaW.PrintMore
attribute [local go_sem] max2_int min2_int max_two min_two max_three min_three max_four min_four   -- for this text's walks alone
set_option linter.unusedVariables false
set_option linter.unusedSimpArgs false
attribute [local go_sem high] eqA50
def codec_GetChanges_1.l0 : Nat → List (S65) → Int → Int → ByteArray → Int → Int → Option (Except Int ((List (S65)) × ByteArray × Int × Int))
 | 0, _, _, _, _, _, _ => none
 | k + 1, x3, x5, x6, x1000, x1001, x1002 => if x6 < x5 then (eB (codec_reader_change.f k x1000 x1001 x1002) fun bt417 => (if x3.length < 799644820200 then (codec_GetChanges_1.l0 k (x3 ++ [(⟨bt417.1, bt417.2.1, (⟨bt417.2.2.1, (⟨bt417.2.2.2.1, bt417.2.2.2.2.1⟩ : S50), bt417.2.2.2.2.2.1⟩ : S53), (⟨bt417.2.2.2.2.2.2.1, bt417.2.2.2.2.2.2.2.1, bt417.2.2.2.2.2.2.2.2.1⟩ : S56), (⟨bt417.2.2.2.2.2.2.2.2.2.1, bt417.2.2.2.2.2.2.2.2.2.2.1, bt417.2.2.2.2.2.2.2.2.2.2.2.1⟩ : S59)⟩ : S65)]) x5 (wrap64 (x6 + 1)) bt417.2.2.2.2.2.2.2.2.2.2.2.2.1 bt417.2.2.2.2.2.2.2.2.2.2.2.2.2.1 bt417.2.2.2.2.2.2.2.2.2.2.2.2.2.2) else (none))) else (some (.ok (x3, x1000, x1001, x1002)))
def codec_GetChanges_1.f (k : Nat) (s0_0 : ByteArray) (s0_1 : Int) (s0_2 : Int) : Option (Except Int ((List (S65)) × ByteArray × Int × Int)) := eB (codec_reader_count.f k s0_0 s0_1 s0_2 10000) fun bt413 => (codec_GetChanges_1.l0 k ([] : List (S65)) bt413.1 0 bt413.2.1 bt413.2.2.1 bt413.2.2.2)
theorem codec_GetChanges_1.mono_l : ∀ k, (∀ y0 y1 y2 y3 y4 y5, LeO (codec_GetChanges_1.l0 k y0 y1 y2 y3 y4 y5) (codec_GetChanges_1.l0 (k + 1) y0 y1 y2 y3 y4 y5))
 | 0 => fun _ _ _ _ _ _ r h => by simp [codec_GetChanges_1.l0] at h
 | k + 1 => by
  have ih0 := codec_GetChanges_1.mono_l k
  ·intro y0 y1 y2 y3 y4 y5
   unfold codec_GetChanges_1.l0
   repeat' first
   | (with_reducible exact ih0 _ _ _ _ _ _)
   | (with_reducible exact codec_reader_change.mono _ _ _ _)
   | (with_reducible exact codec_reader_count.mono _ _ _ _ _)
   | (with_reducible exact LeO.refl _)
   | (with_reducible exact LeO.none _)
   | (with_reducible refine LeO.ite ?_ ?_)
   | (with_reducible refine LeO.eB ?_ (fun _ => ?_))
   | (with_reducible refine LeO.bind ?_ (fun _ => ?_))
   | exact ih0 _ _ _ _ _ _
   | exact codec_reader_change.mono _ _ _ _
   | exact codec_reader_count.mono _ _ _ _ _
   | exact LeO.none _
   | refine LeO.ite ?_ ?_
   | refine LeO.bind ?_ (fun _ => ?_)
theorem codec_GetChanges_1.mono : ∀ a0 a1 a2 k, LeO (codec_GetChanges_1.f k a0 a1 a2) (codec_GetChanges_1.f (k + 1) a0 a1 a2) := by
 intro a0 a1 a2 k
 have ih0 := codec_GetChanges_1.mono_l k
 unfold codec_GetChanges_1.f
 repeat' first
   | (with_reducible exact ih0 _ _ _ _ _ _)
   | (with_reducible exact codec_reader_change.mono _ _ _ _)
   | (with_reducible exact codec_reader_count.mono _ _ _ _ _)
   | (with_reducible exact LeO.refl _)
   | (with_reducible exact LeO.none _)
   | (with_reducible refine LeO.ite ?_ ?_)
   | (with_reducible refine LeO.eB ?_ (fun _ => ?_))
   | (with_reducible refine LeO.bind ?_ (fun _ => ?_))
   | exact ih0 _ _ _ _ _ _
   | exact codec_reader_change.mono _ _ _ _
   | exact codec_reader_count.mono _ _ _ _ _
   | exact LeO.none _
   | refine LeO.ite ?_ ?_
   | refine LeO.bind ?_ (fun _ => ?_)
def codec_GetChanges_1.Post (w0 w : World) (g : Nat) : Except Int ((List (S65)) × ByteArray × Int × Int) → Ending → World → Prop
 | .ok (r1, r2, r3, r4), e, w' => ∃ v0_ : Value, e = .returned (v0_) ∧ Kd.S k65 65 w' w.heap.size (fun _ => True) v0_ r1 ∧ IsS164 w0 w' g r2 r3 r4 ∧ Below w0.heap.size w0 w' ∧ KeepBut w w' g none
 | .error xe_, e, w' => e = .panicked [{ v := .iface 139 (.int .i64 xe_), recovered := false }] ∧ Below w0.heap.size w0 w'
set_option maxHeartbeats 8000000 in
set_option maxRecDepth 100000 in
theorem codec_GetChanges_1.calls (k : Nat) (g : Nat) (s0_0 : ByteArray) (s0_1 : Int) (s0_2 : Int) (r : Except Int ((List (S65)) × ByteArray × Int × Int)) (w0 w : World) (hI : IsS164 w0 w g s0_0 s0_1 s0_2) (hB : Below w0.heap.size w0 w) (h : codec_GetChanges_1.f k s0_0 s0_1 s0_2 = some r) :
  Calls Try.prog 57 #[.agg #[.pointer (some ⟨g, 0, none⟩)]] w (codec_GetChanges_1.Post w0 w g r) := by
 have hu81 := Try.underlying81
 have HI0 := aM hI
 have HK := aM (KeepBut.refl w g none)
 have HL := aM hB.size
 clear hI
 have HW0 := aM hB.size
 have HB := aM hB
 clear hB
 have H : (eB (codec_reader_count.f k s0_0 s0_1 s0_2 10000) fun bt413 => (codec_GetChanges_1.l0 k ([] : List (S65)) bt413.1 0 bt413.2.1 bt413.2.2.1 bt413.2.2.2)) = some r := h
 clear h
 rcases eB_cases H with ⟨xe_, A20, H⟩ | ⟨⟨t413, t414, t415, t416⟩, A20, H⟩
 ·subst H
  have A2 := aM A20
  clear A20
  go_enter Try.func57, Try.ntmps57
  go_wp2_with (first | ((with_reducible refine gate_dst (N := 1) rfl ?_); refine bx (N := 1) (cs := #[.pointer (some ⟨g, 0, none⟩)]) (t := 81) ?_; intro gb412 hg w3 hbox hb; have BK412 := aM (hbox); have GE412 := aM (Nat.le_trans HW0.out (gk HK hg)); have NB0_412 := aM (ni164 HI0 hg); have NB412_0 := aM (ni164 HI0 hg).symm; replace HI0 := aM (IsS164.below (iS164 HI0) hb); replace HB := aM (bS (iB164 HB) hb); clear HK hb hbox hg; obtain ⟨hnb4, hnc4⟩ := nn NB412_0; obtain ⟨hcz5_0, hfz5_0⟩ := bc1 BK412) | (go_at_call 37; (with_reducible refine (codec_reader_count.calls k g s0_0 s0_1 s0_2 10000 (.error xe_) w0 _ (iS164 HI0) (iB164 HB) A2.out).mono ?_); rintro e w6 ⟨rfl, hb⟩))
  (first | exact ⟨rfl, rfl, hb⟩ | exact ⟨rfl, hb⟩ | (go_simp; exact ⟨rfl, hb⟩) | (simp; exact ⟨rfl, hb⟩))
 ·replace H : (codec_GetChanges_1.l0 k ([] : List (S65)) t413 0 t414 t415 t416) = some r := H
  have A2 := aM A20
  clear A20
  have H' := aM H
  clear H
  go_enter Try.func57, Try.ntmps57
  go_wp2_with (first | ((with_reducible refine gate_dst (N := 1) rfl ?_); refine bx (N := 1) (cs := #[.pointer (some ⟨g, 0, none⟩)]) (t := 81) ?_; intro gb412 hg w7 hbox hb; have BK412 := aM (hbox); have GW412 := aM (gk HK hg); have GE412 := aM (Nat.le_trans HW0.out (gk HK hg)); have NB0_412 := aM (ni164 HI0 hg); have NB412_0 := aM (ni164 HI0 hg).symm; replace HI0 := aM (IsS164.below (iS164 HI0) hb); replace HK := aM (kt HK hb); replace HB := aM (bS (iB164 HB) hb); clear hb hbox hg; obtain ⟨hnb8, hnc8⟩ := nn NB412_0; obtain ⟨hcz9_0, hfz9_0⟩ := bc1 BK412) | ((with_reducible refine gate_callee (f := 37) rfl ?_); refine gL (some 5) Try.func37 #[.agg #[.pointer (some ⟨g, 0, none⟩)], .int .i64 10000] ?_; (with_reducible refine (codec_reader_count.calls k g s0_0 s0_1 s0_2 10000 (.ok (t413, t414, t415, t416)) w0 _ (iS164 HI0) (iB164 HB) A2.out).mono ?_); rintro e w10 ⟨rfl, hi, hb, hk⟩; refine ⟨_, rfl, ?_⟩; replace BK412 := aM (k0 hk BK412 NB412_0); replace HK := aM (ku HK hk); replace HB := aM (hb); replace HI0 := aM (hi); (try clear hb); (try clear hk); (try clear hi)))
  go_loopg [3, 6] k (fun kq v3 v6 w' => ∃ (x3_1 : List (S65)) (x6_1 : Int) (x1000_1 : ByteArray) (x1001_1 : Int) (x1002_1 : Int), v6 = .int .i64 x6_1 ∧ Aside0 (codec_GetChanges_1.l0 kq x3_1 t413 x6_1 x1000_1 x1001_1 x1002_1 = some r) ∧ Aside0 (kq ≤ k) ∧ Aside0 (Kd.S k65 65 w' w.heap.size (fun _ => True) v3 x3_1) ∧ Aside0 (w'.heap[gb412]? = some (.cells #[.pointer (some ⟨g, 0, none⟩)] 81 (0, 0))) ∧ Aside0 (IsS164 w0 w' g x1000_1 x1001_1 x1002_1) ∧ Aside0 (KeepBut w w' g none) ∧ Aside0 (Below w0.heap.size w0 w'))
  case atStart => exact ⟨(([] : List (S65))), (0), (t414), (t415), (t416), (by first | rfl | (simp; done) | (simp [*]; done)), H', ⟨Nat.le_refl _⟩, ⟨by first | exact Kd.S_nil _ _ _ _ _ | exact Kd.N_nil _ _ _ _ _ | exact Kd.V_nil _ _ _ _ _ | exact Kd.Q_nil _ _ _ _ _ | exact Kd.R_nil _ _ _ _ _⟩, ⟨kl BK412⟩, ⟨iS164 HI0⟩, ⟨kp HK⟩, ⟨iB164 HB⟩⟩
  case round =>
   clear H'
   try clear p2
   try clear c3
   try clear c4
   try clear c5
   try clear c8
   try clear hcz5_0 hfz5_0
   try clear hcz9_0 hfz9_0
   obtain ⟨x3_1, x6_1, x1000_1, x1001_1, x1002_1, rfl, HA, HK1, HO_3, BK412, HI0, HK, HB⟩ := hrel
   cases gk with
   | zero => exact absurd HA.out (by simp [codec_GetChanges_1.l0])
   | succ k1 =>
    have H := HA.out
    clear HA
    simp only [codec_GetChanges_1.l0] at H
    by_cases c11 : x6_1 < t413
    ·rw [if_pos c11] at H
     have c11b0 : decide (x6_1 < t413) = true := decide_eq_true c11
     clear c11
     rcases eB_cases H with ⟨xe_, A120, H⟩ | ⟨⟨t417, t418, t419, t420, t421, t422, t425, t426, t429, t432, t433, t436, t439, t440, t441⟩, A120, H⟩
     ·subst H
      have A12 := aM A120
      clear A120
      obtain ⟨hnb13, hnc13⟩ := nn NB412_0
      obtain ⟨hcz14_0, hfz14_0⟩ := bc1 BK412
      go_wp2_with (first | (go_at_call 58; (with_reducible refine (codec_reader_change.calls k1 g x1000_1 x1001_1 x1002_1 (.error xe_) w0 _ (iS164 HI0) (iB164 HB) A12.out).mono ?_); rintro e w15 ⟨rfl, hb⟩))
      (first | exact ⟨rfl, rfl, hb⟩ | exact ⟨rfl, hb⟩ | (go_simp; exact ⟨rfl, hb⟩) | (simp; exact ⟨rfl, hb⟩))
     ·replace H : (if x3_1.length < 799644820200 then (codec_GetChanges_1.l0 k1 (x3_1 ++ [(⟨t417, t418, (⟨t419, (⟨t420, t421⟩ : S50), t422⟩ : S53), (⟨t425, t426, t429⟩ : S56), (⟨t432, t433, t436⟩ : S59)⟩ : S65)]) t413 (wrap64 (x6_1 + 1)) t439 t440 t441) else (none)) = some r := H
      have A12 := aM A120
      clear A120
      by_cases c16 : x3_1.length < 799644820200
      ·rw [if_pos c16] at H
       have LMc16 := aM c16
       clear c16
       obtain ⟨y442, hy442⟩ : ∃ y_ : List (S65), y_ = (x3_1 ++ [(⟨t417, t418, (⟨t419, (⟨t420, t421⟩ : S50), t422⟩ : S53), (⟨t425, t426, t429⟩ : S56), (⟨t432, t433, t436⟩ : S59)⟩ : S65)]) := ⟨_, rfl⟩
       replace H : (codec_GetChanges_1.l0 k1 y442 t413 (wrap64 (x6_1 + 1)) t439 t440 t441) = some r := by first | (rw [hy442]; with_reducible exact H) | (have H2_ := (Option.bind_some _ _).symm.trans H; rw [hy442]; with_reducible exact H2_) | (have H2_ := (Option.bind_some _ _).symm.trans H; with_reducible exact H2_) | with_reducible exact H | (rw [hy442]; exact H) | exact H
       have Ny442 := aM hy442
       clear hy442
       have H' := aM H
       clear H
       obtain ⟨hnb17, hnc17⟩ := nn NB412_0
       obtain ⟨hcz18_0, hfz18_0⟩ := bc1 BK412
       go_wp2_with (first | ((with_reducible refine gate_callee (f := 58) rfl ?_); refine gL (some 10) Try.func58 #[.agg #[.pointer (some ⟨g, 0, none⟩)]] ?_; (with_reducible refine (codec_reader_change.calls k1 g x1000_1 x1001_1 x1002_1 (.ok (t417, t418, t419, t420, t421, t422, t425, t426, t429, t432, t433, t436, t439, t440, t441)) w0 _ (iS164 HI0) (iB164 HB) A12.out).mono ?_); rintro e w19 ⟨v423, v427, v430, v434, v437, rfl, ho0, ho1, ho2, ho3, ho4, hi, hb, hk⟩; refine ⟨_, rfl, ?_⟩; replace HO_3 := aM (Kd.S_mono (Kd.S_told (Kd.S_told (Kd.S_told (Kd.S_told (Kd.S_told (Kd.S_oldK (IsS164.apartS (show IsS164 w0 _ g x1000_1 x1001_1 x1002_1 from iS164 HI0) (by (with_reducible repeat (first | apply Kd.S_alloc | apply Kd.S_drewN | apply Kd.S_drew)); exact HO_3.out) (by decide)) hk) (Kd.R_base ho0)) (Kd.R_base ho1)) (Kd.R_base ho2)) (Kd.R_base ho3)) (Kd.R_base ho4)) (fun _ h_ => h_.1)); replace BK412 := aM (k0 hk BK412 NB412_0); have HO424 := aM (Kd.R_lower ho0 (keep_size (w := w) (g := g) (row := none) (kp HK))); have HO428 := aM (Kd.R_lower ho1 (keep_size (w := w) (g := g) (row := none) (kp HK))); have HO431 := aM (Kd.R_lower ho2 (keep_size (w := w) (g := g) (row := none) (kp HK))); have HO435 := aM (Kd.R_lower ho3 (keep_size (w := w) (g := g) (row := none) (kp HK))); have HO438 := aM (Kd.R_lower ho4 (keep_size (w := w) (g := g) (row := none) (kp HK))); replace HK := aM (ku HK hk); replace HB := aM (hb); replace HI0 := aM (hi); (try clear hb); (try clear hk); (try clear hi); (try clear ho0); (try clear ho1); (try clear ho2); (try clear ho3); (try clear ho4); obtain ⟨Ao21, co21, eo21⟩ := Kd.R_slice HO424.out; subst eo21; obtain ⟨Ao22, co22, eo22⟩ := Kd.R_slice HO428.out; subst eo22; obtain ⟨Ao23, co23, eo23⟩ := Kd.R_slice HO431.out; subst eo23; obtain ⟨Ao24, co24, eo24⟩ := Kd.R_slice HO435.out; subst eo24; obtain ⟨Ao25, co25, eo25⟩ := Kd.R_slice HO438.out; subst eo25) | ((with_reducible refine gate_builtin (b := .append) (xs := #[.tmp 8, .tmp 11]) rfl ?_); at_builtin; refine Kd.S_append k65 w.heap.size rfl (.tmp 8) (.tmp 11) 37 65 (.agg #[(.int .i64 0), (.int .i64 0), (.int .i64 0), (.int .i64 0), (.int .i64 0), (.slice none 0 0), (.int .i64 0), (.slice none 0 0), (.slice none 0 0), (.int .i64 0), (.slice none 0 0), (.slice none 0 0)]) 176 rfl Try.underlying37 info65 rfl (by decide) (by omega) u3 x3_1 (⟨t417, t418, (⟨t419, (⟨t420, t421⟩ : S50), t422⟩ : S53), (⟨t425, t426, t429⟩ : S56), (⟨t432, t433, t436⟩ : S59)⟩ : S65) [.int .i64 t417, .int .i64 t418, .int .i64 t419, .int .i64 t420, .int .i64 t421, .slice Ao21 t422.length co21, .int .i64 t425, .slice Ao22 t426.length co22, .slice Ao23 t429.length co23, .int .i64 t432, .slice Ao24 t433.length co24, .slice Ao25 t436.length co25] (fun _ => True) (fun k_ => some k_ = (.slice Ao21 t422.length co21 : Value).ownBlock ∨ some k_ = (.slice Ao22 t426.length co22 : Value).ownBlock ∨ some k_ = (.slice Ao23 t429.length co23 : Value).ownBlock ∨ some k_ = (.slice Ao24 t433.length co24 : Value).ownBlock ∨ some k_ = (.slice Ao25 t436.length co25 : Value).ownBlock) rfl rfl ?aP (fun k_ hk_ => hk_.elim (fun h_ => ((rM (ok' := fun k_ => ((fun _ => True)) k_ ∧ some k_ ≠ (u3 : Value).ownBlock) (Kd.R_apart' (HO424.out) (Kd.S_typed HO_3.out) (by decide)) (fun k_ hk => ⟨trivial, hk.2⟩))).1 k_ h_.symm) (fun h_ => h_.elim (fun h_ => ((rM (ok' := fun k_ => ((fun _ => True)) k_ ∧ some k_ ≠ (u3 : Value).ownBlock) (Kd.R_apart' (HO428.out) (Kd.S_typed HO_3.out) (by decide)) (fun k_ hk => ⟨trivial, hk.2⟩))).1 k_ h_.symm) (fun h_ => h_.elim (fun h_ => ((rM (ok' := fun k_ => ((fun _ => True)) k_ ∧ some k_ ≠ (u3 : Value).ownBlock) (Kd.R_apart' (HO431.out) (Kd.S_typed HO_3.out) (by decide)) (fun k_ hk => ⟨trivial, hk.2⟩))).1 k_ h_.symm) (fun h_ => h_.elim (fun h_ => ((rM (ok' := fun k_ => ((fun _ => True)) k_ ∧ some k_ ≠ (u3 : Value).ownBlock) (Kd.R_apart' (HO435.out) (Kd.S_typed HO_3.out) (by decide)) (fun k_ hk => ⟨trivial, hk.2⟩))).1 k_ h_.symm) (fun h_ => ((rM (ok' := fun k_ => ((fun _ => True)) k_ ∧ some k_ ≠ (u3 : Value).ownBlock) (Kd.R_apart' (HO438.out) (Kd.S_typed HO_3.out) (by decide)) (fun k_ hk => ⟨trivial, hk.2⟩))).1 k_ h_.symm))))) ?aF ?aO (Below.refl _ _) ?aS ?aL ?_; (case aP => exact k65_mkM _ _ _ (⟨t417, t418, (⟨t419, (⟨t420, t421⟩ : S50), t422⟩ : S53), (⟨t425, t426, t429⟩ : S56), (⟨t432, t433, t436⟩ : S59)⟩ : S65) (rM (Kd.R_tight rfl (rM (ok' := fun k_ => ((fun _ => True)) k_ ∧ some k_ ≠ (u3 : Value).ownBlock) (Kd.R_apart' (HO424.out) (Kd.S_typed HO_3.out) (by decide)) (fun k_ hk => ⟨trivial, hk.2⟩))) (fun _ h_ => Or.inl h_)) (rM (Kd.R_tight rfl (rM (ok' := fun k_ => ((fun _ => True)) k_ ∧ some k_ ≠ (u3 : Value).ownBlock) (Kd.R_apart' (HO428.out) (Kd.S_typed HO_3.out) (by decide)) (fun k_ hk => ⟨trivial, hk.2⟩))) (fun _ h_ => Or.inr (Or.inl h_))) (rM (Kd.R_tight rfl (rM (ok' := fun k_ => ((fun _ => True)) k_ ∧ some k_ ≠ (u3 : Value).ownBlock) (Kd.R_apart' (HO431.out) (Kd.S_typed HO_3.out) (by decide)) (fun k_ hk => ⟨trivial, hk.2⟩))) (fun _ h_ => Or.inr (Or.inr (Or.inl h_)))) (rM (Kd.R_tight rfl (rM (ok' := fun k_ => ((fun _ => True)) k_ ∧ some k_ ≠ (u3 : Value).ownBlock) (Kd.R_apart' (HO435.out) (Kd.S_typed HO_3.out) (by decide)) (fun k_ hk => ⟨trivial, hk.2⟩))) (fun _ h_ => Or.inr (Or.inr (Or.inr (Or.inl h_))))) (rM (Kd.R_tight rfl (rM (ok' := fun k_ => ((fun _ => True)) k_ ∧ some k_ ≠ (u3 : Value).ownBlock) (Kd.R_apart' (HO438.out) (Kd.S_typed HO_3.out) (by decide)) (fun k_ hk => ⟨trivial, hk.2⟩))) (fun _ h_ => Or.inr (Or.inr (Or.inr (Or.inr (h_))))))); (case aF => exact (fun _ _ => trivial)); (case aO => exact (by (with_reducible repeat (first | apply Kd.S_alloc | apply Kd.S_drewN | apply Kd.S_drew)); exact Kd.S_mono HO_3.out (fun k_ hk => ⟨trivial, fun e_ => e_.elim (fun h_ => hk.1.1.1.1.2 h_) (fun h_ => h_.elim (fun h_ => hk.1.1.1.2 h_) (fun h_ => h_.elim (fun h_ => hk.1.1.2 h_) (fun h_ => h_.elim (fun h_ => hk.1.2 h_) (fun h_ => hk.2 h_))))⟩))); (case aS => exact (keep_size (w := w) (g := g) (row := none) (kp HK))); (case aL => have := LMc16.out; omega); intro v443 w20 ho hb hg hat; rw [← Ny442.out] at ho; have HO444 := aM (ho); replace BK412 := aM (blk_grown (kl BK412) hg (Kd.S_ne HO_3.out BK412.out (by decide))); replace HI0 := aM (IsS164.grown (show IsS164 w0 _ g t439 t440 t441 from iS164 HI0) hg (IsS164.own_neS HI0.out HO_3.out (by decide))); replace HK := aM (KeepBut.trans (kp HK) (KeepBut.of_grown hg g) (Kd.S_base2 HO_3.out)); replace HB := aM (below_weaken (iB164 HB) HL.out hb); clear HO_3 HO424 HO428 HO431 HO435 HO438 ho hb hg hat))
       go_roundg k1
       case measure => have := HK1.out; omega
       case rel => exact ⟨(y442), (wrap64 (x6_1 + 1)), (t439), (t440), (t441), (by first | rfl | (simp; done) | (simp [*]; done)), H', ⟨by have := HK1.out; omega⟩, ⟨by (with_reducible repeat (first | apply Kd.S_alloc | apply Kd.S_drewN | apply Kd.S_drew)); exact HO444.out⟩, ⟨kl BK412⟩, ⟨iS164 HI0⟩, ⟨kp HK⟩, ⟨iB164 HB⟩⟩
      ·rw [if_neg c16] at H
       exact absurd H (by simp)
    ·rw [if_neg c11] at H
     have c11b0 : decide (x6_1 < t413) = false := decide_eq_false c11
     clear c11
     obtain rfl := Option.some.inj H
     go_wp2
     go_ret
     exact ⟨_, by first | rfl | (simp [errW_none, errW_some] <;> rfl) | (simp [*, errW_none, errW_some] <;> rfl), by (with_reducible repeat (first | apply Kd.S_alloc | apply Kd.S_drewN | apply Kd.S_drew)); exact HO_3.out, iS164 HI0, iB164 HB, kp HK⟩
-- NOT PRINTED: function 56 (api_Change)
theorem d2_idle (p q : Value) (w : World) :
  CallsD Try.prog 96 #[p, q] .returning w fun e u' w' => e = .returned (.tuple #[]) ∧ u' = .returning ∧ w' = w := by
 refine callsD_of_wpS Try.func96 rfl fun c₀ cs hu => ?_
 apply wpS_seq
 apply wpS_region
 simp [wpOpsS, go_sem, recoverD, hu, Try.ntmps96, Exit.thenS]
 refine wpS_of_wp ?_
 go_wp2
 cases c₀
 simp_all [bodyPostS, results, Try.results96, Exit.thenS]
set_option maxRecDepth 100000 in
set_option maxHeartbeats 4000000 in
theorem d2_back (bo be : Nat) (n1 : ¬ bo = be) (x : Int) (v0 : Value) (y : Value) (older : List PanicEntry) (w : World) (ho : w.heap[bo]? = some (.cells #[v0] 37 (0, 0))) (he : w.heap[be]? = some (.cells #[y] 30 (0, 0))) :
  CallsD Try.prog 96 #[.pointer (some ⟨bo, 0, none⟩), .pointer (some ⟨be, 0, none⟩)] (.panicking ({ v := .iface 139 (.int .i64 x), recovered := false } :: older)) w fun e u' w' => e = .returned (.tuple #[]) ∧ u' = .panicking ({ v := .iface 139 (.int .i64 x), recovered := true } :: older) ∧ w' = ((w.setCell ⟨bo, 0, none⟩ (.slice none 0 0)).setCell ⟨be, 0, none⟩ (.int .i64 x)) := by
 have n2 : ¬ be = bo := fun h => n1 h.symm
 have ha := ho
 have hea := he
 have c0 := (kC ha 0).trans (show _ = some v0 from rfl)
 have f0 := kF ha 0
 have c9 := (kC hea 0).trans (show _ = some y from rfl)
 have f9 := kF hea 0
 refine callsD_of_wpS Try.func96 rfl fun c₀ cs hu => ?_
 apply wpS_seq
 apply wpS_region
 simp [wpOpsS, go_sem, recoverD, hu, Try.ntmps96, Exit.thenS]
 have hta : ∀ (v : Value) (w : World), (Instr.typeAssert (.iface 139 v) 20 139 true).run Try.prog w = .ok (.tuple #[v, .bool true]) w := fun v w => by kernel_rfl
 refine wpS_of_wp ?_
 go_wp2
 exact ⟨rfl, _, rfl, .tuple #[], by simp [results, Try.results96, go_sem], rfl, rfl, rfl⟩
set_option maxHeartbeats 8000000 in
set_option maxRecDepth 100000 in
theorem dec2_err (k : Nat) (a0 : ByteArray) (x : Int) (w : World) (h : codec_GetChanges_1.f k a0 0 0 = some (.error x)) :
  Calls Try.prog 56 #[.string a0, .func (.func 57) #[] #[]] w fun e w' => ∃ v0_ : Value, e = .returned (.tuple #[v0_, .int .i64 x]) ∧ Kd.S k65 65 w' w.heap.size (fun _ => True) v0_ ([] : List (S65)) ∧ Below w.heap.size w w' := by
 have hmf : ∀ (fn : Fn) (first cap : Array Value) (w : World), (Instr.makeFunc fn first cap).run Try.prog w = .ok (.func fn first cap) w := fun _ _ _ _ => rfl
 have hu81 := Try.underlying81
 have hu26 := Try.underlying26
 have k0 : ((((w.alloc (.cells #[.slice none 0 0] 37)).alloc (.cells #[.int .i64 0] 30)).alloc (.cells #[.string a0, .int .i64 0, .int .i64 0] 164)).alloc (.cells #[.pointer (some ⟨w.heap.size + 1 + 1, 0, none⟩)] 81)).heap[w.heap.size]? = some (.cells #[.slice none 0 0] 37 (0, 0)) := kA (kA (kA (heap_alloc_new w _) _) _) _
 have k1 : ((((w.alloc (.cells #[.slice none 0 0] 37)).alloc (.cells #[.int .i64 0] 30)).alloc (.cells #[.string a0, .int .i64 0, .int .i64 0] 164)).alloc (.cells #[.pointer (some ⟨w.heap.size + 1 + 1, 0, none⟩)] 81)).heap[w.heap.size + 1]? = some (.cells #[.int .i64 0] 30 (0, 0)) := kA (kA (by simpa using heap_alloc_new (w.alloc _) (.cells #[.int .i64 0] 30)) _) _
 have k2 : ((((w.alloc (.cells #[.slice none 0 0] 37)).alloc (.cells #[.int .i64 0] 30)).alloc (.cells #[.string a0, .int .i64 0, .int .i64 0] 164)).alloc (.cells #[.pointer (some ⟨w.heap.size + 1 + 1, 0, none⟩)] 81)).heap[w.heap.size + 1 + 1]? = some (.cells #[.string a0, .int .i64 0, .int .i64 0] 164 (0, 0)) := kA (by simpa using heap_alloc_new ((w.alloc _).alloc _) (.cells #[.string a0, .int .i64 0, .int .i64 0] 164)) _
 have k3 : ((((w.alloc (.cells #[.slice none 0 0] 37)).alloc (.cells #[.int .i64 0] 30)).alloc (.cells #[.string a0, .int .i64 0, .int .i64 0] 164)).alloc (.cells #[.pointer (some ⟨w.heap.size + 1 + 1, 0, none⟩)] 81)).heap[w.heap.size + 1 + 1 + 1]? = some (.cells #[.pointer (some ⟨w.heap.size + 1 + 1, 0, none⟩)] 81 (0, 0)) := by simpa using heap_alloc_new (((w.alloc _).alloc _).alloc _) (.cells #[.pointer (some ⟨w.heap.size + 1 + 1, 0, none⟩)] 81)
 have hB4 : Below w.heap.size w ((((w.alloc (.cells #[.slice none 0 0] 37)).alloc (.cells #[.int .i64 0] 30)).alloc (.cells #[.string a0, .int .i64 0, .int .i64 0] 164)).alloc (.cells #[.pointer (some ⟨w.heap.size + 1 + 1, 0, none⟩)] 81)) := bA (bA (bA (bA (Below.refl _ _) _) _) _) _
 have HH := aM h
 clear h
 go_enter_defers Try.func56, Try.ntmps56
 go_wp2_with (fail)
 refine (read81 a0 _).mono ?_
 rintro e w1 ⟨rfl, rfl⟩
 go_wp2_with (fail)
 refine (codec_GetChanges_1.calls k (w.heap.size + 1 + 1) a0 0 0 (.error x) ((w.alloc (.cells #[.slice none 0 0] 37)).alloc (.cells #[.int .i64 0] 30)) _ ⟨k2, by simp⟩ (bA (bA (Below.refl _ _) _) _) HH.out).mono ?_
 rintro e w5 ⟨rfl, hb⟩
 have b0 : w5.heap[w.heap.size]? = some (.cells #[.slice none 0 0] 37 (0, 0)) := (hb.block _ (by simp; omega)).trans (kA (heap_alloc_new w _) _)
 have b1 : w5.heap[w.heap.size + 1]? = some (.cells #[.int .i64 0] 30 (0, 0)) := (hb.block _ (by simp)).trans (by simpa using heap_alloc_new (w.alloc _) (.cells #[.int .i64 0] 30))
 have hbw : Below w.heap.size w w5 := bS (bA (bA (Below.refl _ _) _) _) hb
 clear hb k0 k1 k2 k3 hB4
 refine leaves_cons (f := 96) (args := #[.pointer (some ⟨w.heap.size, 0, none⟩), .pointer (some ⟨w.heap.size + 1, 0, none⟩)]) (by simp) (by simp [go_sem]) ?_
 refine (d2_back w.heap.size (w.heap.size + 1) (by omega) x _ _ [] _ b0 b1).mono ?_
 rintro e u' w'' ⟨rfl, rfl, rfl⟩
 have z0 := blk_far (blk_set b0 0 (.slice none 0 0)) (p := ⟨w.heap.size + 1, 0, none⟩) (by simp) (.int .i64 x)
 have z1 := blk_set (blk_far b1 (p := ⟨w.heap.size, 0, none⟩) (by simp) (.slice none 0 0)) 0 (.int .i64 x)
 have q0 := (kC z0 0).trans (show _ = some (Value.slice none 0 0) from rfl)
 have q9 := (kC z1 0).trans (show _ = some (Value.int .i64 x) from rfl)
 simp [Leaves, settle, results, Try.results56, go_sem, q0, q9]
 first | exact ⟨_, rfl, Kd.S_nil _ _ _ _ _, ((hbw.setCell (Nat.le_refl _) _).setCell (Nat.le_succ _) _)⟩ | exact ⟨Kd.S_nil _ _ _ _ _, ((hbw.setCell (Nat.le_refl _) _).setCell (Nat.le_succ _) _)⟩ | exact ((hbw.setCell (Nat.le_refl _) _).setCell (Nat.le_succ _) _)
set_option maxHeartbeats 8000000 in
set_option maxRecDepth 100000 in
theorem dec2_ok (k : Nat) (a0 : ByteArray) (r1 : List S65) (s s2 : ByteArray) (p er e p2 e2 : Int) (w : World) (h : codec_GetChanges_1.f k a0 0 0 = some (.ok (r1, s, p, er))) (hd : wire_Reader_Done.f s p er = some (e, s2, p2, e2)) (he : e = 0) :
  Calls Try.prog 56 #[.string a0, .func (.func 57) #[] #[]] w fun e' w' => ∃ v0_ : Value, e' = .returned (.tuple #[v0_, .int .i64 0]) ∧ Kd.S k65 65 w' w.heap.size (fun _ => True) v0_ r1 ∧ Below w.heap.size w w' := by
 have hmf : ∀ (fn : Fn) (first cap : Array Value) (w : World), (Instr.makeFunc fn first cap).run Try.prog w = .ok (.func fn first cap) w := fun _ _ _ _ => rfl
 have hu81 := Try.underlying81
 have hu26 := Try.underlying26
 have k0 : ((((w.alloc (.cells #[.slice none 0 0] 37)).alloc (.cells #[.int .i64 0] 30)).alloc (.cells #[.string a0, .int .i64 0, .int .i64 0] 164)).alloc (.cells #[.pointer (some ⟨w.heap.size + 1 + 1, 0, none⟩)] 81)).heap[w.heap.size]? = some (.cells #[.slice none 0 0] 37 (0, 0)) := kA (kA (kA (heap_alloc_new w _) _) _) _
 have k1 : ((((w.alloc (.cells #[.slice none 0 0] 37)).alloc (.cells #[.int .i64 0] 30)).alloc (.cells #[.string a0, .int .i64 0, .int .i64 0] 164)).alloc (.cells #[.pointer (some ⟨w.heap.size + 1 + 1, 0, none⟩)] 81)).heap[w.heap.size + 1]? = some (.cells #[.int .i64 0] 30 (0, 0)) := kA (kA (by simpa using heap_alloc_new (w.alloc _) (.cells #[.int .i64 0] 30)) _) _
 have k2 : ((((w.alloc (.cells #[.slice none 0 0] 37)).alloc (.cells #[.int .i64 0] 30)).alloc (.cells #[.string a0, .int .i64 0, .int .i64 0] 164)).alloc (.cells #[.pointer (some ⟨w.heap.size + 1 + 1, 0, none⟩)] 81)).heap[w.heap.size + 1 + 1]? = some (.cells #[.string a0, .int .i64 0, .int .i64 0] 164 (0, 0)) := kA (by simpa using heap_alloc_new ((w.alloc _).alloc _) (.cells #[.string a0, .int .i64 0, .int .i64 0] 164)) _
 have k3 : ((((w.alloc (.cells #[.slice none 0 0] 37)).alloc (.cells #[.int .i64 0] 30)).alloc (.cells #[.string a0, .int .i64 0, .int .i64 0] 164)).alloc (.cells #[.pointer (some ⟨w.heap.size + 1 + 1, 0, none⟩)] 81)).heap[w.heap.size + 1 + 1 + 1]? = some (.cells #[.pointer (some ⟨w.heap.size + 1 + 1, 0, none⟩)] 81 (0, 0)) := by simpa using heap_alloc_new (((w.alloc _).alloc _).alloc _) (.cells #[.pointer (some ⟨w.heap.size + 1 + 1, 0, none⟩)] 81)
 have hB4 : Below w.heap.size w ((((w.alloc (.cells #[.slice none 0 0] 37)).alloc (.cells #[.int .i64 0] 30)).alloc (.cells #[.string a0, .int .i64 0, .int .i64 0] 164)).alloc (.cells #[.pointer (some ⟨w.heap.size + 1 + 1, 0, none⟩)] 81)) := bA (bA (bA (bA (Below.refl _ _) _) _) _) _
 have HH := aM h
 have HD := aM hd
 clear h hd
 go_enter_defers Try.func56, Try.ntmps56
 go_wp2_with (fail)
 refine (read81 a0 _).mono ?_
 rintro e w1 ⟨rfl, rfl⟩
 go_wp2_with (fail)
 refine (codec_GetChanges_1.calls k (w.heap.size + 1 + 1) a0 0 0 (.ok (r1, s, p, er)) w _ ⟨k2, by omega⟩ hB4 HH.out).mono ?_
 rintro e_ w5 ⟨v0, rfl, h0, hi, hb, hk⟩
 obtain ⟨A0, c0, eq0⟩ := Kd.S_slice h0
 subst eq0
 have B0 := KeepBut.blk hk k0 (by omega) (by simp)
 have B1 := KeepBut.blk hk k1 (by omega) (by simp)
 have B3 := KeepBut.blk hk k3 (by omega) (by simp)
 have HI5 := aM hi
 have HB5 := aM hb
 have L0 := Kd.S_lower h0 (below_size hB4)
 have E0 := aM (Kd.S_mono (Kd.S_far (p := ⟨w.heap.size, 0, none⟩) (Kd.S_types L0 B0 (by decide)) (fun _ hk => hk.2) (.slice A0 r1.length c0)) (fun _ _ => trivial))
 have HI := aM (HI5.out.far (p := ⟨w.heap.size, 0, none⟩) (by show w.heap.size + 1 + 1 ≠ w.heap.size; omega) (.slice A0 r1.length c0))
 have HB := aM (HB5.out.setCell (p := ⟨w.heap.size, 0, none⟩) (Nat.le_refl _) (.slice A0 r1.length c0))
 have D0 := aM (blk_set B0 0 (.slice A0 r1.length c0))
 have D1 := aM (blk_far B1 (p := ⟨w.heap.size, 0, none⟩) (by simp) (.slice A0 r1.length c0))
 have D3 := aM (blk_far B3 (p := ⟨w.heap.size, 0, none⟩) (by simp; omega) (.slice A0 r1.length c0))
 have g0 := (kC B0 0).trans (show _ = some (Value.slice none 0 0) from rfl)
 have f0 := kF B0 0
 clear hi hb hk k0 k1 k2 k3 hB4 B0 B1 B3 HI5 HB5 h0 L0
 go_upto_region 4 with (fail)
 generalize (w5.setCell ⟨w.heap.size, 0, none⟩ (.slice A0 r1.length c0)) = w6 at E0 D0 D1 D3 HI HB ⊢
 have x0 := aM (Kd.S_drew E0.out)
 have y0 := aM (kD D0.out)
 have y1 := aM (kD D1.out)
 have y3 := aM (kD D3.out)
 have y4 := aM (IsS164.drew HI.out)
 have y5 := aM (bD HB.out)
 clear D0 D1 D3 HI HB E0 g0 f0
 have D0 := y0
 have D1 := y1
 have D3 := y3
 have HI := y4
 have HB := y5
 clear y0 y1 y3 y4 y5
 have E0 := x0
 clear x0
 refine start_ (n := 5) (S := fun w' => w'.cell? ⟨w.heap.size + 1 + 1 + 1, 0, none⟩ = some (.pointer (some ⟨w.heap.size + 1 + 1, 0, none⟩))) (ds := []) #[false, false, false, false, false] (by kernel_rfl) rfl rfl ((kC D3.out 0).trans rfl) (fun hHeld => ?_)
 generalize w6.drew = w7 at E0 D0 D1 D3 HI HB hHeld ⊢
 refine take_ (i := 0) (N := some 14) (v := ?_) (a' := ?_) (ba 5 1) rfl rfl (by kernel_rfl) (fun c_ a_ w_ h_ => leaves_tmps (fn := Try.f56) (t := a_.tmps.setIfInBounds 14 _) (by simp [results, Try.results56]) a_.defers (.panicking c_) w_ h_) (Or.inl ⟨by rfl, ?_⟩) hHeld ?_ ?_
 rotate_left
 ·rintro w' s0
  go_simp
  with_reducible rfl
 rotate_left
 ·simp only [Act.put, sA, sB, sC, i64_w, i32_w]
  rfl
 refine take_ (i := 1) (N := some 15) (v := ?_) (a' := ?_) (ba 5 3) rfl rfl (by kernel_rfl) (fun c_ a_ w_ h_ => leaves_tmps (fn := Try.f56) (t := a_.tmps.setIfInBounds 15 _) (by simp [results, Try.results56]) a_.defers (.panicking c_) w_ h_) (Or.inl ⟨by rfl, ?_⟩) hHeld ?_ ?_
 rotate_left
 ·rintro w' s0
  go_simp
  with_reducible rfl
 rotate_left
 ·simp only [Act.put, sA, sB, sC, i64_w, i32_w]
  rfl
 refine take_ (i := 2) (N := some 16) (v := ?_) (a' := ?_) (ba 5 7) rfl rfl (by kernel_rfl) (fun c_ a_ w_ h_ => leaves_tmps (fn := Try.f56) (t := a_.tmps.setIfInBounds 16 _) (by simp [results, Try.results56]) a_.defers (.panicking c_) w_ h_) (Or.inl ⟨by rfl, ?_⟩) hHeld ?_ ?_
 rotate_left
 ·rintro w' s0
  go_simp
  with_reducible rfl
 rotate_left
 ·simp only [Act.put, sA, sB, sC, i64_w, i32_w]
  rfl
 refine one_ (i := 3) (N := some 17) (ba 5 15) rfl rfl (by kernel_rfl) (by decide) (fun K hK => ?_)
 refine goes_ Try.func83 (by kernel_rfl) rfl #[.pointer (some ⟨w.heap.size + 1 + 1, 0, none⟩)] (by rfl) rfl rfl (by (try simp only [List.map_toArray, List.map_cons, List.map_nil]); first | done | rfl) ?_
 with_reducible refine (wire_Reader_Done.calls (w.heap.size + 1 + 1) s p er e s2 p2 e2 w _ HI.out HB.out HD.out).mono ?_
 rintro e_ w8 ⟨rfl, hi, hb, hk⟩
 refine ⟨_, rfl, ?_⟩
 have HI1 := aM hi
 have HB1 := aM hb
 have ee0 := aM (Kd.S_mono (Kd.S_keep (IsS164.apartS HI.out E0.out (by decide)) hk (fun _ h => h.2)) (fun _ h => h.1))
 have d0 := aM (KeepBut.blk hk D0.out (by omega) (by simp))
 have d1 := aM (KeepBut.blk hk D1.out (by omega) (by simp))
 have d3 := aM (KeepBut.blk hk D3.out (by omega) (by simp))
 clear hi hb hk HI HB D0 D1 D3 E0
 refine hK.out _ _ ((kC d3.out 0).trans rfl) (fun hHeld => ?_)
 clear hK K
 refine norm_ (a' := ?_) ?_ ?_
 rotate_left
 ·show Act.put _ (some 17) _ = _
  simp only [Act.put, sA, sB, sC, i64_w, i32_w]
  rfl
 refine one_ (i := 4) (N := some 18) (ba 5 31) rfl rfl (by kernel_rfl) (by decide) (fun K hK => ?_)
 refine goes_ Try.func82 (by kernel_rfl) rfl #[.agg #[.pointer (some ⟨w.heap.size + 1 + 1, 0, none⟩)], .int .i64 e] (by rfl) rfl rfl (by (try simp only [List.map_toArray, List.map_cons, List.map_nil]); first | done | rfl) ?_
 with_reducible refine (codec_reader_check.calls (w.heap.size + 1 + 1) s2 p2 e2 e (.ok (s2, p2, e2)) w _ HI1.out HB1.out (by unfold codec_reader_check.f; exact if_pos he)).mono ?_
 rintro e_ w9 ⟨rfl, hi, hb, hk⟩
 refine ⟨_, rfl, ?_⟩
 have HI := HI1
 have HB := aM hb
 have D0 := aM (KeepBut.blk hk d0.out (by omega) (by simp))
 have D1 := aM (KeepBut.blk hk d1.out (by omega) (by simp))
 have D3 := aM (KeepBut.blk hk d3.out (by omega) (by simp))
 have E0 := aM (Kd.S_mono (Kd.S_keep (IsS164.apartS HI1.out ee0.out (by decide)) hk (fun _ h => h.2)) (fun _ h => h.1))
 have F0 := aM (Kd.S_mono (Kd.S_far (p := ⟨w.heap.size, 0, none⟩) (Kd.S_types E0.out D0.out (by decide)) (fun _ hk => hk.2) (.slice A0 r1.length c0)) (fun _ _ => trivial))
 clear hi hb hk HI1 HB1 d0 d1 ee0
 refine hK.out _ _ ((kC D3.out 0).trans rfl) (fun hHeld => ?_)
 clear hK K
 refine norm_ (a' := ?_) ?_ ?_
 rotate_left
 ·show Act.put _ (some 18) _ = _
  simp only [Act.put, sA, sB, sC, i64_w, i32_w]
  rfl
 refine done_ (by kernel_rfl) ?_
 have g0 := (kC D0.out 0).trans (show _ = some (Value.slice A0 r1.length c0) from rfl)
 have f0 := kF D0.out 0
 have g9 := (kC (blk_far D1.out (p := ⟨w.heap.size, 0, none⟩) (by simp) (.slice A0 r1.length c0)) 0).trans (show _ = some (Value.int .i64 0) from rfl)
 have f9 := kF (blk_far D1.out (p := ⟨w.heap.size, 0, none⟩) (by simp) (.slice A0 r1.length c0)) 0
 have n1 : ¬ w.heap.size = w.heap.size + 1 := by omega
 have n2 : ¬ w.heap.size + 1 = w.heap.size := by omega
 go_wp2_with (fail)
 have z0 := blk_far (blk_set D0.out 0 (.slice A0 r1.length c0)) (p := ⟨w.heap.size + 1, 0, none⟩) (by simp) (.int .i64 0)
 have z1 := blk_set (blk_far D1.out (p := ⟨w.heap.size, 0, none⟩) (by simp) (.slice A0 r1.length c0)) 0 (.int .i64 0)
 refine leaves_cons (f := 96) (args := #[.pointer (some ⟨w.heap.size, 0, none⟩), .pointer (some ⟨w.heap.size + 1, 0, none⟩)]) (by simp) (by simp [go_sem]) ?_
 refine (d2_idle _ _ _).mono ?_
 rintro e u' w'' ⟨rfl, rfl, rfl⟩
 have q0 := (kC z0 0).trans (show _ = some (Value.slice A0 r1.length c0) from rfl)
 have q9 := (kC z1 0).trans (show _ = some (Value.int .i64 0) from rfl)
 refine ⟨.tuple #[(.slice A0 r1.length c0), .int .i64 0], by simp [results, Try.results56, go_sem, q0, q9], ?_⟩
 exact ⟨_, rfl, Kd.S_mono (Kd.S_far (p := ⟨w.heap.size + 1, 0, none⟩) (Kd.S_types F0.out (blk_far D1.out (p := ⟨w.heap.size, 0, none⟩) (by simp) (.slice A0 r1.length c0)) (by decide)) (fun _ hk => hk.2) (.int .i64 0)) (fun _ _ => trivial), (HB.out.setCell (p := ⟨w.heap.size, 0, none⟩) (Nat.le_refl _) (.slice A0 r1.length c0)).setCell (Nat.le_succ _) _⟩
set_option maxHeartbeats 8000000 in
set_option maxRecDepth 100000 in
theorem dec2_bad (k : Nat) (a0 : ByteArray) (r1 : List S65) (s s2 : ByteArray) (p er e p2 e2 : Int) (w : World) (h : codec_GetChanges_1.f k a0 0 0 = some (.ok (r1, s, p, er))) (hd : wire_Reader_Done.f s p er = some (e, s2, p2, e2)) (he : e ≠ 0) :
  Calls Try.prog 56 #[.string a0, .func (.func 57) #[] #[]] w fun e' w' => ∃ v0_ : Value, e' = .returned (.tuple #[v0_, .int .i64 e]) ∧ Kd.S k65 65 w' w.heap.size (fun _ => True) v0_ ([] : List (S65)) ∧ Below w.heap.size w w' := by
 have hmf : ∀ (fn : Fn) (first cap : Array Value) (w : World), (Instr.makeFunc fn first cap).run Try.prog w = .ok (.func fn first cap) w := fun _ _ _ _ => rfl
 have hu81 := Try.underlying81
 have hu26 := Try.underlying26
 have k0 : ((((w.alloc (.cells #[.slice none 0 0] 37)).alloc (.cells #[.int .i64 0] 30)).alloc (.cells #[.string a0, .int .i64 0, .int .i64 0] 164)).alloc (.cells #[.pointer (some ⟨w.heap.size + 1 + 1, 0, none⟩)] 81)).heap[w.heap.size]? = some (.cells #[.slice none 0 0] 37 (0, 0)) := kA (kA (kA (heap_alloc_new w _) _) _) _
 have k1 : ((((w.alloc (.cells #[.slice none 0 0] 37)).alloc (.cells #[.int .i64 0] 30)).alloc (.cells #[.string a0, .int .i64 0, .int .i64 0] 164)).alloc (.cells #[.pointer (some ⟨w.heap.size + 1 + 1, 0, none⟩)] 81)).heap[w.heap.size + 1]? = some (.cells #[.int .i64 0] 30 (0, 0)) := kA (kA (by simpa using heap_alloc_new (w.alloc _) (.cells #[.int .i64 0] 30)) _) _
 have k2 : ((((w.alloc (.cells #[.slice none 0 0] 37)).alloc (.cells #[.int .i64 0] 30)).alloc (.cells #[.string a0, .int .i64 0, .int .i64 0] 164)).alloc (.cells #[.pointer (some ⟨w.heap.size + 1 + 1, 0, none⟩)] 81)).heap[w.heap.size + 1 + 1]? = some (.cells #[.string a0, .int .i64 0, .int .i64 0] 164 (0, 0)) := kA (by simpa using heap_alloc_new ((w.alloc _).alloc _) (.cells #[.string a0, .int .i64 0, .int .i64 0] 164)) _
 have k3 : ((((w.alloc (.cells #[.slice none 0 0] 37)).alloc (.cells #[.int .i64 0] 30)).alloc (.cells #[.string a0, .int .i64 0, .int .i64 0] 164)).alloc (.cells #[.pointer (some ⟨w.heap.size + 1 + 1, 0, none⟩)] 81)).heap[w.heap.size + 1 + 1 + 1]? = some (.cells #[.pointer (some ⟨w.heap.size + 1 + 1, 0, none⟩)] 81 (0, 0)) := by simpa using heap_alloc_new (((w.alloc _).alloc _).alloc _) (.cells #[.pointer (some ⟨w.heap.size + 1 + 1, 0, none⟩)] 81)
 have hB4 : Below w.heap.size w ((((w.alloc (.cells #[.slice none 0 0] 37)).alloc (.cells #[.int .i64 0] 30)).alloc (.cells #[.string a0, .int .i64 0, .int .i64 0] 164)).alloc (.cells #[.pointer (some ⟨w.heap.size + 1 + 1, 0, none⟩)] 81)) := bA (bA (bA (bA (Below.refl _ _) _) _) _) _
 have HH := aM h
 have HD := aM hd
 clear h hd
 go_enter_defers Try.func56, Try.ntmps56
 go_wp2_with (fail)
 refine (read81 a0 _).mono ?_
 rintro e w1 ⟨rfl, rfl⟩
 go_wp2_with (fail)
 refine (codec_GetChanges_1.calls k (w.heap.size + 1 + 1) a0 0 0 (.ok (r1, s, p, er)) w _ ⟨k2, by omega⟩ hB4 HH.out).mono ?_
 rintro e_ w5 ⟨v0, rfl, h0, hi, hb, hk⟩
 obtain ⟨A0, c0, eq0⟩ := Kd.S_slice h0
 subst eq0
 have B0 := KeepBut.blk hk k0 (by omega) (by simp)
 have B1 := KeepBut.blk hk k1 (by omega) (by simp)
 have B3 := KeepBut.blk hk k3 (by omega) (by simp)
 have HI5 := aM hi
 have HB5 := aM hb
 have L0 := Kd.S_lower h0 (below_size hB4)
 have E0 := aM (Kd.S_mono (Kd.S_far (p := ⟨w.heap.size, 0, none⟩) (Kd.S_types L0 B0 (by decide)) (fun _ hk => hk.2) (.slice A0 r1.length c0)) (fun _ _ => trivial))
 have HI := aM (HI5.out.far (p := ⟨w.heap.size, 0, none⟩) (by show w.heap.size + 1 + 1 ≠ w.heap.size; omega) (.slice A0 r1.length c0))
 have HB := aM (HB5.out.setCell (p := ⟨w.heap.size, 0, none⟩) (Nat.le_refl _) (.slice A0 r1.length c0))
 have D0 := aM (blk_set B0 0 (.slice A0 r1.length c0))
 have D1 := aM (blk_far B1 (p := ⟨w.heap.size, 0, none⟩) (by simp) (.slice A0 r1.length c0))
 have D3 := aM (blk_far B3 (p := ⟨w.heap.size, 0, none⟩) (by simp; omega) (.slice A0 r1.length c0))
 have g0 := (kC B0 0).trans (show _ = some (Value.slice none 0 0) from rfl)
 have f0 := kF B0 0
 clear hi hb hk k0 k1 k2 k3 hB4 B0 B1 B3 HI5 HB5 h0 L0
 go_upto_region 4 with (fail)
 generalize (w5.setCell ⟨w.heap.size, 0, none⟩ (.slice A0 r1.length c0)) = w6 at E0 D0 D1 D3 HI HB ⊢
 have x0 := aM (Kd.S_drew E0.out)
 have y0 := aM (kD D0.out)
 have y1 := aM (kD D1.out)
 have y3 := aM (kD D3.out)
 have y4 := aM (IsS164.drew HI.out)
 have y5 := aM (bD HB.out)
 clear D0 D1 D3 HI HB E0 g0 f0
 have D0 := y0
 have D1 := y1
 have D3 := y3
 have HI := y4
 have HB := y5
 clear y0 y1 y3 y4 y5
 have E0 := x0
 clear x0
 refine start_ (n := 5) (S := fun w' => w'.cell? ⟨w.heap.size + 1 + 1 + 1, 0, none⟩ = some (.pointer (some ⟨w.heap.size + 1 + 1, 0, none⟩))) (ds := []) #[false, false, false, false, false] (by kernel_rfl) rfl rfl ((kC D3.out 0).trans rfl) (fun hHeld => ?_)
 generalize w6.drew = w7 at E0 D0 D1 D3 HI HB hHeld ⊢
 refine take_ (i := 0) (N := some 14) (v := ?_) (a' := ?_) (ba 5 1) rfl rfl (by kernel_rfl) (fun c_ a_ w_ h_ => leaves_tmps (fn := Try.f56) (t := a_.tmps.setIfInBounds 14 _) (by simp [results, Try.results56]) a_.defers (.panicking c_) w_ h_) (Or.inl ⟨by rfl, ?_⟩) hHeld ?_ ?_
 rotate_left
 ·rintro w' s0
  go_simp
  with_reducible rfl
 rotate_left
 ·simp only [Act.put, sA, sB, sC, i64_w, i32_w]
  rfl
 refine take_ (i := 1) (N := some 15) (v := ?_) (a' := ?_) (ba 5 3) rfl rfl (by kernel_rfl) (fun c_ a_ w_ h_ => leaves_tmps (fn := Try.f56) (t := a_.tmps.setIfInBounds 15 _) (by simp [results, Try.results56]) a_.defers (.panicking c_) w_ h_) (Or.inl ⟨by rfl, ?_⟩) hHeld ?_ ?_
 rotate_left
 ·rintro w' s0
  go_simp
  with_reducible rfl
 rotate_left
 ·simp only [Act.put, sA, sB, sC, i64_w, i32_w]
  rfl
 refine take_ (i := 2) (N := some 16) (v := ?_) (a' := ?_) (ba 5 7) rfl rfl (by kernel_rfl) (fun c_ a_ w_ h_ => leaves_tmps (fn := Try.f56) (t := a_.tmps.setIfInBounds 16 _) (by simp [results, Try.results56]) a_.defers (.panicking c_) w_ h_) (Or.inl ⟨by rfl, ?_⟩) hHeld ?_ ?_
 rotate_left
 ·rintro w' s0
  go_simp
  with_reducible rfl
 rotate_left
 ·simp only [Act.put, sA, sB, sC, i64_w, i32_w]
  rfl
 refine one_ (i := 3) (N := some 17) (ba 5 15) rfl rfl (by kernel_rfl) (by decide) (fun K hK => ?_)
 refine goes_ Try.func83 (by kernel_rfl) rfl #[.pointer (some ⟨w.heap.size + 1 + 1, 0, none⟩)] (by rfl) rfl rfl (by (try simp only [List.map_toArray, List.map_cons, List.map_nil]); first | done | rfl) ?_
 with_reducible refine (wire_Reader_Done.calls (w.heap.size + 1 + 1) s p er e s2 p2 e2 w _ HI.out HB.out HD.out).mono ?_
 rintro e_ w8 ⟨rfl, hi, hb, hk⟩
 refine ⟨_, rfl, ?_⟩
 have HI1 := aM hi
 have HB1 := aM hb
 have ee0 := aM (Kd.S_mono (Kd.S_keep (IsS164.apartS HI.out E0.out (by decide)) hk (fun _ h => h.2)) (fun _ h => h.1))
 have d0 := aM (KeepBut.blk hk D0.out (by omega) (by simp))
 have d1 := aM (KeepBut.blk hk D1.out (by omega) (by simp))
 have d3 := aM (KeepBut.blk hk D3.out (by omega) (by simp))
 clear hi hb hk HI HB D0 D1 D3 E0
 refine hK.out _ _ ((kC d3.out 0).trans rfl) (fun hHeld => ?_)
 clear hK K
 refine norm_ (a' := ?_) ?_ ?_
 rotate_left
 ·show Act.put _ (some 17) _ = _
  simp only [Act.put, sA, sB, sC, i64_w, i32_w]
  rfl
 refine one_ (i := 4) (N := some 18) (ba 5 31) rfl rfl (by kernel_rfl) (by decide) (fun K hK => ?_)
 refine goesP_ Try.func82 (by kernel_rfl) rfl #[.agg #[.pointer (some ⟨w.heap.size + 1 + 1, 0, none⟩)], .int .i64 e] (by rfl) rfl rfl (by (try simp only [List.map_toArray, List.map_cons, List.map_nil]); first | done | rfl) ?_
 with_reducible refine (check_err (w.heap.size + 1 + 1) e he _).mono ?_
 rintro e_ w9 ⟨rfl, rfl⟩
 refine ⟨_, rfl, ?_⟩
 have b0 := kA d0.out (.cells #[.pointer (some ⟨w.heap.size + 1 + 1, 0, none⟩)] 81)
 have b1 := kA d1.out (.cells #[.pointer (some ⟨w.heap.size + 1 + 1, 0, none⟩)] 81)
 have hbw := bA HB1.out (.cells #[.pointer (some ⟨w.heap.size + 1 + 1, 0, none⟩)] 81)
 generalize (w8.alloc (.cells #[.pointer (some ⟨w.heap.size + 1 + 1, 0, none⟩)] 81)) = w10 at b0 b1 hbw ⊢
 refine leaves_cons (f := 96) (args := #[.pointer (some ⟨w.heap.size, 0, none⟩), .pointer (some ⟨w.heap.size + 1, 0, none⟩)]) (by simp) (by simp [go_sem]) ?_
 refine (d2_back w.heap.size (w.heap.size + 1) (by omega) e _ _ [] _ b0 b1).mono ?_
 rintro e u' w'' ⟨rfl, rfl, rfl⟩
 have z0 := blk_far (blk_set b0 0 (.slice none 0 0)) (p := ⟨w.heap.size + 1, 0, none⟩) (by simp) (.int .i64 e)
 have z1 := blk_set (blk_far b1 (p := ⟨w.heap.size, 0, none⟩) (by simp) (.slice none 0 0)) 0 (.int .i64 e)
 have q0 := (kC z0 0).trans (show _ = some (Value.slice none 0 0) from rfl)
 have q9 := (kC z1 0).trans (show _ = some (Value.int .i64 e) from rfl)
 simp [Leaves, settle, results, Try.results56, go_sem, q0, q9]
 first | exact ⟨_, rfl, Kd.S_nil _ _ _ _ _, ((hbw.setCell (Nat.le_refl _) _).setCell (Nat.le_succ _) _)⟩ | exact ⟨Kd.S_nil _ _ _ _ _, ((hbw.setCell (Nat.le_refl _) _).setCell (Nat.le_succ _) _)⟩ | exact ((hbw.setCell (Nat.le_refl _) _).setCell (Nat.le_succ _) _)
def api_Change_by_codec_GetChanges_1.f (k : Nat) (a0 : ByteArray) : Option ((List S65) × Int) := (codec_GetChanges_1.f k a0 0 0).bind fun x => match x with
 | .error e => some ([], e)
 | .ok (r1, s, p, er) => (wire_Reader_Done.f s p er).bind fun b => if b.1 = 0 then some (r1, 0) else some ([], b.1)
theorem api_Change_by_codec_GetChanges_1.mono : ∀ a0 k, LeO (api_Change_by_codec_GetChanges_1.f k a0) (api_Change_by_codec_GetChanges_1.f (k + 1) a0) := by
 intro a0 k
 unfold api_Change_by_codec_GetChanges_1.f
 exact LeO.bind (codec_GetChanges_1.mono _ _ _ _) (fun _ => LeO.refl _)
theorem api_Change_by_codec_GetChanges_1.calls (k : Nat) (a0 : ByteArray) (r1 : List S65) (r2 : Int) (w : World) (h : api_Change_by_codec_GetChanges_1.f k a0 = some (r1, r2)) :
  Calls Try.prog 56 #[.string a0, .func (.func 57) #[] #[]] w fun e w' => ∃ v0_ : Value, e = .returned (.tuple #[v0_, .int .i64 r2]) ∧ Kd.S k65 65 w' w.heap.size (fun _ => True) v0_ r1 ∧ Below w.heap.size w w' := by
 unfold api_Change_by_codec_GetChanges_1.f at h
 obtain ⟨x, hx, h⟩ := Option.bind_eq_some_iff.mp h
 cases x with
 | error e =>
  simp only [Option.some.injEq, Prod.mk.injEq] at h
  obtain ⟨rfl, rfl⟩ := h
  exact dec2_err k a0 _ w hx
 | ok x =>
  obtain ⟨q1, s, p, er⟩ := x
  dsimp only at h
  obtain ⟨⟨e, s2, p2, e2⟩, hd, h⟩ := Option.bind_eq_some_iff.mp h
  dsimp only at h
  by_cases he : e = 0
  ·rw [if_pos he] at h
   simp only [Option.some.injEq, Prod.mk.injEq] at h
   obtain ⟨rfl, rfl⟩ := h
   exact dec2_ok k a0 _ s s2 p er e p2 e2 w hx hd he
  ·rw [if_neg he] at h
   simp only [Option.some.injEq, Prod.mk.injEq] at h
   obtain ⟨rfl, rfl⟩ := h
   exact dec2_bad k a0 q1 s s2 p er e p2 e2 w hx hd he
def codec_GetChanges.f (k : Nat) (a0 : ByteArray) : Option ((List (S65)) × Int) := (api_Change_by_codec_GetChanges_1.f k a0).bind fun bt445 => (some (bt445.1, bt445.2))
theorem codec_GetChanges.mono : ∀ a0 k, LeO (codec_GetChanges.f k a0) (codec_GetChanges.f (k + 1) a0) := by
 intro a0 k
 unfold codec_GetChanges.f
 repeat' first
   | (with_reducible exact api_Change_by_codec_GetChanges_1.mono _ _)
   | (with_reducible exact LeO.refl _)
   | (with_reducible exact LeO.none _)
   | (with_reducible refine LeO.ite ?_ ?_)
   | (with_reducible refine LeO.eB ?_ (fun _ => ?_))
   | (with_reducible refine LeO.bind ?_ (fun _ => ?_))
   | exact api_Change_by_codec_GetChanges_1.mono _ _
   | exact LeO.none _
   | refine LeO.ite ?_ ?_
   | refine LeO.bind ?_ (fun _ => ?_)
set_option maxHeartbeats 8000000 in
set_option maxRecDepth 100000 in
theorem codec_GetChanges.calls (k : Nat) (a0 : ByteArray) (r1 : List (S65)) (r2 : Int) (w : World) (h : codec_GetChanges.f k a0 = some (r1, r2)) :
  Calls Try.prog 20 #[.string a0] w fun e w' => ∃ v0_ : Value, e = .returned (.tuple #[v0_, .int .i64 r2]) ∧ Kd.S k65 65 w' w.heap.size (fun _ => True) v0_ r1 ∧ Below w.heap.size w w' := by
 have HB := aM (Below.refl w.heap.size w)
 have H : ((api_Change_by_codec_GetChanges_1.f k a0).bind fun bt445 => (some (bt445.1, bt445.2))) = some (r1, r2) := h
 clear h
 replace H := Option.bind_eq_some_iff.mp H
 obtain ⟨⟨t445, t446⟩, A20, H⟩ := H
 replace H : (some (t445, t446)) = some (r1, r2) := H
 have A2 := aM A20
 clear A20
 simp only [Option.some.injEq, Prod.mk.injEq] at H
 obtain ⟨rfl, rfl⟩ := H
 go_enter Try.func20, Try.ntmps20
 go_wp2_with (first | ((with_reducible refine gate_callee (f := 56) rfl ?_); refine gL (some 5) Try.func56 #[.string a0, .func (.func 57) #[] #[]] ?_; (with_reducible refine (api_Change_by_codec_GetChanges_1.calls k a0 t445 t446 _ A2.out).mono ?_); rintro e w3 ⟨v447, rfl, ho0, hb⟩; refine ⟨_, rfl, ?_⟩; have HO448 := aM (Kd.S_lower ho0 (below_size (bl))); replace HB := aM (bS (bl) hb); (try clear hb); (try clear ho0)))
 go_ret2
 exact ⟨_, by first | rfl | (simp [errW_none, errW_some] <;> rfl) | (simp [*, errW_none, errW_some] <;> rfl), by (with_reducible repeat (first | apply Kd.S_alloc | apply Kd.S_drewN | apply Kd.S_drew)); exact HO448.out, bl⟩
def mapmakerlaw16_lives.j0 : Nat → List (S65) → Int → Int → Bool → List (S53) → List (S56) → List (S59) → Option (Bool)
 | 0, _, _, _, _, _, _, _ => none
 | k + 1, x1, x2, x4, x21, x464000, x464001, x464002 => if x21 = true then (some false) else ((codec_PutData.f k ([] : List (S53)) ([] : List (S56)) ([] : List (S59))).bind fun t464 => (if t464.toList = ([0, 0, 0] : List UInt8) then ((codec_PutChanges.f k (([(⟨2, 2, (⟨0, (⟨0, 0⟩ : S50), ([] : List (S130))⟩ : S53), (⟨5, ([] : List Int), ([] : List (S130))⟩ : S56), (⟨0, ([] : List (S63)), ([] : List (S130))⟩ : S59)⟩ : S65)] : List (S65)))).bind fun t468 => (if t468.toList = ([1, 4, 4, 10] : List UInt8) then (if x2 = 0 then (if 0 < (x1.length : Int) then (if ((rd_T65 x1 0).f3.f0) = 5 then (if x4 = 0 then (if 0 < (x464000.length : Int) then (if ((rd_T53 x464000 0).f0) = 1 then (some (((rd_T53 x464000 0).f1.f0) == (-3) && (((rd_T53 x464000 0).f1.f1) == 3))) else (some false)) else (none)) else (some false)) else (some false)) else (none)) else (some false)) else (some false))) else (some false)))
def mapmakerlaw16_lives.f (k : Nat)  : Option (Bool) := (codec_GetChanges.f k (⟨#[1, 4, 4, 10]⟩ : ByteArray)).bind fun bt449 => ((codec_GetData.f k (⟨#[1, 2, 5, 6, 0, 0, 0]⟩ : ByteArray)).bind fun bt453 => (if (bt449.1.length : Int) = 1 then (mapmakerlaw16_lives.j0 k bt449.1 bt449.2 bt453.2.2.2 ((bt453.1.length : Int) != 1) bt453.1 bt453.2.1 bt453.2.2.1) else (mapmakerlaw16_lives.j0 k bt449.1 bt449.2 bt453.2.2.2 true bt453.1 bt453.2.1 bt453.2.2.1)))
theorem mapmakerlaw16_lives.mono_l : ∀ k, (∀ y0 y1 y2 y3 y4 y5 y6, LeO (mapmakerlaw16_lives.j0 k y0 y1 y2 y3 y4 y5 y6) (mapmakerlaw16_lives.j0 (k + 1) y0 y1 y2 y3 y4 y5 y6))
 | 0 => fun _ _ _ _ _ _ _ r h => by simp [mapmakerlaw16_lives.j0] at h
 | k + 1 => by
  have ih0 := mapmakerlaw16_lives.mono_l k
  ·intro y0 y1 y2 y3 y4 y5 y6
   unfold mapmakerlaw16_lives.j0
   repeat' first
   | (with_reducible exact ih0 _ _ _ _ _ _ _)
   | (with_reducible exact codec_GetChanges.mono _ _)
   | (with_reducible exact codec_GetData.mono _ _)
   | (with_reducible exact codec_PutChanges.mono _ _)
   | (with_reducible exact codec_PutData.mono _ _ _ _)
   | (with_reducible exact LeO.refl _)
   | (with_reducible exact LeO.none _)
   | (with_reducible refine LeO.ite ?_ ?_)
   | (with_reducible refine LeO.eB ?_ (fun _ => ?_))
   | (with_reducible refine LeO.bind ?_ (fun _ => ?_))
   | exact ih0 _ _ _ _ _ _ _
   | exact codec_GetChanges.mono _ _
   | exact codec_GetData.mono _ _
   | exact codec_PutChanges.mono _ _
   | exact codec_PutData.mono _ _ _ _
   | exact LeO.none _
   | refine LeO.ite ?_ ?_
   | refine LeO.bind ?_ (fun _ => ?_)
theorem mapmakerlaw16_lives.mono : ∀ k, LeO (mapmakerlaw16_lives.f k ) (mapmakerlaw16_lives.f (k + 1) ) := by
 intro  k
 have ih0 := mapmakerlaw16_lives.mono_l k
 unfold mapmakerlaw16_lives.f
 repeat' first
   | (with_reducible exact ih0 _ _ _ _ _ _ _)
   | (with_reducible exact codec_GetChanges.mono _ _)
   | (with_reducible exact codec_GetData.mono _ _)
   | (with_reducible exact codec_PutChanges.mono _ _)
   | (with_reducible exact codec_PutData.mono _ _ _ _)
   | (with_reducible exact LeO.refl _)
   | (with_reducible exact LeO.none _)
   | (with_reducible refine LeO.ite ?_ ?_)
   | (with_reducible refine LeO.eB ?_ (fun _ => ?_))
   | (with_reducible refine LeO.bind ?_ (fun _ => ?_))
   | exact ih0 _ _ _ _ _ _ _
   | exact codec_GetChanges.mono _ _
   | exact codec_GetData.mono _ _
   | exact codec_PutChanges.mono _ _
   | exact codec_PutData.mono _ _ _ _
   | exact LeO.none _
   | refine LeO.ite ?_ ?_
   | refine LeO.bind ?_ (fun _ => ?_)
set_option maxHeartbeats 8000000 in
set_option maxRecDepth 100000 in
theorem mapmakerlaw16_lives.calls (k : Nat)  (r : Bool) (w : World) (h : mapmakerlaw16_lives.f k  = some r) :
  Calls Try.prog 11 #[] w fun e w' => e = .returned (.bool r) ∧ Below w.heap.size w w' := by
 have hu26 := Try.underlying26
 have hu56 := Try.underlying56
 have hu65 := Try.underlying65
 have hu50 := Try.underlying50
 have HB := aM (Below.refl w.heap.size w)
 have H : ((codec_GetChanges.f k (⟨#[1, 4, 4, 10]⟩ : ByteArray)).bind fun bt449 => ((codec_GetData.f k (⟨#[1, 2, 5, 6, 0, 0, 0]⟩ : ByteArray)).bind fun bt453 => (if (bt449.1.length : Int) = 1 then (mapmakerlaw16_lives.j0 k bt449.1 bt449.2 bt453.2.2.2 ((bt453.1.length : Int) != 1) bt453.1 bt453.2.1 bt453.2.2.1) else (mapmakerlaw16_lives.j0 k bt449.1 bt449.2 bt453.2.2.2 true bt453.1 bt453.2.1 bt453.2.2.1)))) = some r := h
 clear h
 replace H := Option.bind_eq_some_iff.mp H
 obtain ⟨⟨t449, t450⟩, A10, H⟩ := H
 replace H : ((codec_GetData.f k (⟨#[1, 2, 5, 6, 0, 0, 0]⟩ : ByteArray)).bind fun bt453 => (if (t449.length : Int) = 1 then (mapmakerlaw16_lives.j0 k t449 t450 bt453.2.2.2 ((bt453.1.length : Int) != 1) bt453.1 bt453.2.1 bt453.2.2.1) else (mapmakerlaw16_lives.j0 k t449 t450 bt453.2.2.2 true bt453.1 bt453.2.1 bt453.2.2.1))) = some r := H
 have A1 := aM A10
 clear A10
 replace H := Option.bind_eq_some_iff.mp H
 obtain ⟨⟨t453, t456, t459, t462⟩, A20, H⟩ := H
 replace H : (if (t449.length : Int) = 1 then (mapmakerlaw16_lives.j0 k t449 t450 t462 ((t453.length : Int) != 1) t453 t456 t459) else (mapmakerlaw16_lives.j0 k t449 t450 t462 true t453 t456 t459)) = some r := H
 have A2 := aM A20
 clear A20
 have HC3 := aM H
 clear H
 go_enter Try.func11, Try.ntmps11
 go_upto_region 3 with (first | ((with_reducible refine gate_callee (f := 20) rfl ?_); refine gL (some 6) Try.func20 #[.string (⟨#[1, 4, 4, 10]⟩ : ByteArray)] ?_; (with_reducible refine (codec_GetChanges.calls k (⟨#[1, 4, 4, 10]⟩ : ByteArray) t449 t450 _ A1.out).mono ?_); rintro e w4 ⟨v451, rfl, ho0, hb⟩; refine ⟨_, rfl, ?_⟩; have HO452 := aM (Kd.S_lower ho0 (below_size (bl))); replace HB := aM (bS (bl) hb); (try clear hb); (try clear ho0)) | ((with_reducible refine gate_callee (f := 14) rfl ?_); refine gL (some 10) Try.func14 #[.string (⟨#[1, 2, 5, 6, 0, 0, 0]⟩ : ByteArray)] ?_; (with_reducible refine (codec_GetData.calls k (⟨#[1, 2, 5, 6, 0, 0, 0]⟩ : ByteArray) t453 t456 t459 t462 _ A2.out).mono ?_); rintro e w5 ⟨v454, v457, v460, rfl, ho0, ho1, ho2, hb⟩; refine ⟨_, rfl, ?_⟩; replace HO452 := aM (Kd.S_below (by (with_reducible repeat (first | apply Kd.S_alloc | apply Kd.S_drewN | apply Kd.S_drew)); exact HO452.out) hb); have HO455 := aM (Kd.S_lower ho0 (below_size (bl))); have HO458 := aM (Kd.S_lower ho1 (below_size (bl))); have HO461 := aM (Kd.S_lower ho2 (below_size (bl))); replace HB := aM (bS (bl) hb); (try clear hb); (try clear ho0); (try clear ho1); (try clear ho2)) | ((with_reducible refine gate_dst (N := 3) rfl ?_); (try (refine gate_guard (by rfl) ?_; dsimp only)); refine bx (N := 3) (cs := #[.slice none 0 0, .slice none 0 0, .slice none 0 0]) (t := 26) ?_; intro gb463 hg w6 hbox hb; have n0_ := aM (Kd.S_below (by (with_reducible repeat (first | apply Kd.S_alloc | apply Kd.S_drewN | apply Kd.S_drew)); exact HO452.out) hb); have n1_ := aM (Kd.S_below (by (with_reducible repeat (first | apply Kd.S_alloc | apply Kd.S_drewN | apply Kd.S_drew)); exact HO455.out) hb); have n2_ := aM (Kd.S_below (by (with_reducible repeat (first | apply Kd.S_alloc | apply Kd.S_drewN | apply Kd.S_drew)); exact HO458.out) hb); have n3_ := aM (Kd.S_below (by (with_reducible repeat (first | apply Kd.S_alloc | apply Kd.S_drewN | apply Kd.S_drew)); exact HO461.out) hb); have n4_ := aM (bS (bl) hb); have n5_ := aM (hbox); have n7_ := aM (gw (w := w) hg); (try clear HO452); (try clear HO455); (try clear HO458); (try clear HO461); (try clear HB); have HO452 := n0_; have HO455 := n1_; have HO458 := n2_; have HO461 := n3_; have HB := n4_; have BK463 := n5_; have GE463 := n7_; clear n0_ n1_ n2_ n3_ n4_ n5_ n7_ hb hbox hg; obtain ⟨Ao7, co7, eo7⟩ := Kd.S_slice HO455.out; subst eo7; obtain ⟨hcz8_0, hcz8_1, hcz8_2, hfz8_0, hfz8_1, hfz8_2⟩ := bc3 BK463; obtain ⟨Ao9, co9, eo9⟩ := Kd.S_slice HO458.out; subst eo9; obtain ⟨Ao10, co10, eo10⟩ := Kd.S_slice HO461.out; subst eo10))
 (try simp only [Act.put, sA, sB, sC])
 go_cut [21] (fun v21 wc => ∃ (kq : Nat) (x21_2 : Bool), v21 = .bool x21_2 ∧ Aside0 (mapmakerlaw16_lives.j0 kq t449 t450 t462 x21_2 t453 t456 t459 = some r) ∧ Aside0 (kq ≤ k) ∧ Aside0 (Kd.S k65 65 wc w.heap.size (fun _ => True) v451 t449) ∧ Aside0 (Kd.S k53 53 wc w.heap.size (fun _ => True) (.slice Ao7 t453.length co7) t453) ∧ Aside0 (wc.heap[gb463]? = some (.cells #[(.slice Ao7 t453.length co7), (.slice Ao9 t456.length co9), (.slice Ao10 t459.length co10)] 26 (0, 0))) ∧ Aside0 (Below w.heap.size w wc))
 case first =>
  have H := HC3.out
  clear HC3
  by_cases c11 : (t449.length : Int) = 1
  ·rw [if_pos c11] at H
   have c11b0 : ((t449.length : Int) == 1) = true := beq_iff_eq.mpr c11
   have c11b1 : ((t449.length : Int) != 1) = false := bne_eq_false_iff_eq.mpr c11
   clear c11
   (first | rw [c11b0] | (simp only [i64_w, i32_w]; rw [c11b0]) | skip)
   have H' := aM H
   clear H
   obtain ⟨Ao12, co12, eo12⟩ := Kd.S_slice HO452.out
   subst eo12
   obtain ⟨hcz13_0, hcz13_1, hcz13_2, hfz13_0, hfz13_1, hfz13_2⟩ := bc3 BK463
   go_wp2
   go_meet
   case rel => exact ⟨_, (((t453.length : Int) != 1)), (by first | rfl | (simp; done) | (simp [*]; done)), H', ⟨by first | omega | exact Nat.le_refl _⟩, ⟨by (with_reducible repeat (first | apply Kd.S_alloc | apply Kd.S_drewN | apply Kd.S_drew)); exact Kd.S_mono (Kd.S_far (p := ⟨gb463, 2, none⟩) (Kd.S_far (p := ⟨gb463, 1, none⟩) (Kd.S_far (p := ⟨gb463, 0, none⟩) (Kd.S_types HO452.out BK463.out (by decide)) (fun _ hk => hk.2) (.slice Ao7 t453.length co7)) (fun _ hk => hk.2) (.slice Ao9 t456.length co9)) (fun _ hk => hk.2) (.slice Ao10 t459.length co10)) (fun _ hk => trivial)⟩, ⟨by (with_reducible repeat (first | apply Kd.S_alloc | apply Kd.S_drewN | apply Kd.S_drew)); exact Kd.S_mono (Kd.S_far (p := ⟨gb463, 2, none⟩) (Kd.S_far (p := ⟨gb463, 1, none⟩) (Kd.S_far (p := ⟨gb463, 0, none⟩) (Kd.S_types HO455.out BK463.out (by decide)) (fun _ hk => hk.2) (.slice Ao7 t453.length co7)) (fun _ hk => hk.2) (.slice Ao9 t456.length co9)) (fun _ hk => hk.2) (.slice Ao10 t459.length co10)) (fun _ hk => trivial)⟩, ⟨bk BK463⟩, ⟨bl⟩⟩
  ·rw [if_neg c11] at H
   have c11b0 : ((t449.length : Int) == 1) = false := beq_eq_false_iff_ne.mpr c11
   have c11b1 : ((t449.length : Int) != 1) = true := bne_iff_ne.mpr c11
   (first | rw [c11b0] | (simp only [i64_w, i32_w]; rw [c11b0]) | skip)
   have H' := aM H
   clear H
   obtain ⟨Ao14, co14, eo14⟩ := Kd.S_slice HO452.out
   subst eo14
   go_wp2
   go_meet
   case rel => exact ⟨_, (true), (by first | rfl | (simp; done) | (simp [*]; done)), H', ⟨by first | omega | exact Nat.le_refl _⟩, ⟨by (with_reducible repeat (first | apply Kd.S_alloc | apply Kd.S_drewN | apply Kd.S_drew)); exact Kd.S_mono (Kd.S_far (p := ⟨gb463, 2, none⟩) (Kd.S_far (p := ⟨gb463, 1, none⟩) (Kd.S_far (p := ⟨gb463, 0, none⟩) (Kd.S_types HO452.out BK463.out (by decide)) (fun _ hk => hk.2) (.slice Ao7 t453.length co7)) (fun _ hk => hk.2) (.slice Ao9 t456.length co9)) (fun _ hk => hk.2) (.slice Ao10 t459.length co10)) (fun _ hk => trivial)⟩, ⟨by (with_reducible repeat (first | apply Kd.S_alloc | apply Kd.S_drewN | apply Kd.S_drew)); exact Kd.S_mono (Kd.S_far (p := ⟨gb463, 2, none⟩) (Kd.S_far (p := ⟨gb463, 1, none⟩) (Kd.S_far (p := ⟨gb463, 0, none⟩) (Kd.S_types HO455.out BK463.out (by decide)) (fun _ hk => hk.2) (.slice Ao7 t453.length co7)) (fun _ hk => hk.2) (.slice Ao9 t456.length co9)) (fun _ hk => hk.2) (.slice Ao10 t459.length co10)) (fun _ hk => trivial)⟩, ⟨bk BK463⟩, ⟨bl⟩⟩
 case rest =>
  clear HC3
  try clear c1
  try clear c2
  try clear p2
  try clear c11
  try clear c11b0
  try clear c11b1
  try clear c14
  try clear hcz13_0 hcz13_1 hcz13_2 hfz13_0 hfz13_1 hfz13_2
  try clear hcz8_0 hcz8_1 hcz8_2 hfz8_0 hfz8_1 hfz8_2
  obtain ⟨kq, x21_2, rfl, HA, HJ2, HO_1, HO_464000, BK463, HB⟩ := hcut
  cases kq with
  | zero => exact absurd HA.out (by simp [mapmakerlaw16_lives.j0])
  | succ kj2 =>
   have H := HA.out
   clear HA
   simp only [mapmakerlaw16_lives.j0] at H
   by_cases c15 : x21_2 = true
   ·subst c15
    have H1 : (some false) = some r := by rw [if_pos rfl] at H; exact H
    clear H
    have H := H1
    clear H1
    obtain rfl := Option.some.inj H
    go_wp2
    go_ret
    exact ⟨by first | rfl | (simp [errW_none, errW_some] <;> rfl) | (simp [*, errW_none, errW_some] <;> rfl), bl⟩
   ·replace c15 := Bool.eq_false_iff.mpr c15
    subst c15
    have H1 : ((codec_PutData.f kj2 ([] : List (S53)) ([] : List (S56)) ([] : List (S59))).bind fun t464 => (if t464.toList = ([0, 0, 0] : List UInt8) then ((codec_PutChanges.f kj2 (([(⟨2, 2, (⟨0, (⟨0, 0⟩ : S50), ([] : List (S130))⟩ : S53), (⟨5, ([] : List Int), ([] : List (S130))⟩ : S56), (⟨0, ([] : List (S63)), ([] : List (S130))⟩ : S59)⟩ : S65)] : List (S65)))).bind fun t468 => (if t468.toList = ([1, 4, 4, 10] : List UInt8) then (if t450 = 0 then (if 0 < (t449.length : Int) then (if ((rd_T65 t449 0).f3.f0) = 5 then (if t462 = 0 then (if 0 < (t453.length : Int) then (if ((rd_T53 t453 0).f0) = 1 then (some (((rd_T53 t453 0).f1.f0) == (-3) && (((rd_T53 t453 0).f1.f1) == 3))) else (some false)) else (none)) else (some false)) else (some false)) else (none)) else (some false)) else (some false))) else (some false))) = some r := by rw [if_neg (show ¬ (false = true) by decide)] at H; exact H
    clear H
    have H := H1
    clear H1
    replace H := Option.bind_eq_some_iff.mp H
    obtain ⟨t464, A160, H⟩ := H
    try dsimp only at H
    have A16 := aM A160
    clear A160
    by_cases c17 : t464.toList = ([0, 0, 0] : List UInt8)
    ·rw [if_pos c17] at H
     have c17b0 : (t464.toList == ([0, 0, 0] : List UInt8)) = true := beq_iff_eq.mpr c17
     have c17b1 : (t464.toList != ([0, 0, 0] : List UInt8)) = false := bne_eq_false_iff_eq.mpr c17
     clear c17
     obtain ⟨y465, hy465⟩ : ∃ y_ : List (S65), y_ = (([(⟨2, 2, (⟨0, (⟨0, 0⟩ : S50), ([] : List (S130))⟩ : S53), (⟨5, ([] : List Int), ([] : List (S130))⟩ : S56), (⟨0, ([] : List (S63)), ([] : List (S130))⟩ : S59)⟩ : S65)] : List (S65))) := ⟨_, rfl⟩
     replace H : ((codec_PutChanges.f kj2 y465).bind fun t468 => (if t468.toList = ([1, 4, 4, 10] : List UInt8) then (if t450 = 0 then (if 0 < (t449.length : Int) then (if ((rd_T65 t449 0).f3.f0) = 5 then (if t462 = 0 then (if 0 < (t453.length : Int) then (if ((rd_T53 t453 0).f0) = 1 then (some (((rd_T53 t453 0).f1.f0) == (-3) && (((rd_T53 t453 0).f1.f1) == 3))) else (some false)) else (none)) else (some false)) else (some false)) else (none)) else (some false)) else (some false))) = some r := by first | (rw [hy465]; with_reducible exact H) | (have H2_ := (Option.bind_some _ _).symm.trans H; rw [hy465]; with_reducible exact H2_) | (have H2_ := (Option.bind_some _ _).symm.trans H; with_reducible exact H2_) | with_reducible exact H | (rw [hy465]; exact H) | exact H
     have Ny465 := aM hy465
     clear hy465
     replace H := Option.bind_eq_some_iff.mp H
     obtain ⟨t468, A180, H⟩ := H
     try dsimp only at H
     have A18 := aM A180
     clear A180
     by_cases c19 : t468.toList = ([1, 4, 4, 10] : List UInt8)
     ·rw [if_pos c19] at H
      have c19b0 : (t468.toList == ([1, 4, 4, 10] : List UInt8)) = true := beq_iff_eq.mpr c19
      have c19b1 : (t468.toList != ([1, 4, 4, 10] : List UInt8)) = false := bne_eq_false_iff_eq.mpr c19
      clear c19
      by_cases c20 : t450 = 0
      ·rw [if_pos c20] at H
       have c20b0 : (t450 == 0) = true := beq_iff_eq.mpr c20
       have c20b1 : (t450 != 0) = false := bne_eq_false_iff_eq.mpr c20
       clear c20
       by_cases c21 : 0 < (t449.length : Int)
       ·rw [if_pos c21] at H
        have c21b0 : decide (0 < (t449.length : Int)) = true := decide_eq_true c21
        have c21b1 : decide (0 < t449.length) = true := decide_eq_true (by omega)
        clear c21
        by_cases c22 : ((rd_T65 t449 0).f3.f0) = 5
        ·rw [if_pos c22] at H
         have c22b0 : (((rd_T65 t449 0).f3.f0) == 5) = true := beq_iff_eq.mpr c22
         have c22b1 : (((rd_T65 t449 0).f3.f0) != 5) = false := bne_eq_false_iff_eq.mpr c22
         clear c22
         by_cases c23 : t462 = 0
         ·rw [if_pos c23] at H
          have c23b0 : (t462 == 0) = true := beq_iff_eq.mpr c23
          have c23b1 : (t462 != 0) = false := bne_eq_false_iff_eq.mpr c23
          clear c23
          by_cases c24 : 0 < (t453.length : Int)
          ·rw [if_pos c24] at H
           have c24b0 : decide (0 < (t453.length : Int)) = true := decide_eq_true c24
           have c24b1 : decide (0 < t453.length) = true := decide_eq_true (by omega)
           clear c24
           by_cases c25 : ((rd_T53 t453 0).f0) = 1
           ·rw [if_pos c25] at H
            have c25b0 : (((rd_T53 t453 0).f0) == 1) = true := beq_iff_eq.mpr c25
            have c25b1 : (((rd_T53 t453 0).f0) != 1) = false := bne_eq_false_iff_eq.mpr c25
            clear c25
            obtain rfl := Option.some.inj H
            go_wp2_with (first | ((with_reducible refine gate_callee (f := 12) rfl ?_); refine gL (some 23) Try.func12 #[.agg #[.slice none 0 0, .slice none 0 0, .slice none 0 0]] ?_; (refine (codec_PutData.calls kj2 _ _ ([] : List (S53)) _ _ ([] : List (S56)) _ _ ([] : List (S59)) t464 _ ?side1 ?side2 ?side3 ?side4 ?side5 ?side6 A16.out).mono ?_); (case side1 => exact Kd.C_nil _ _); (case side2 => exact Nat.le_refl _); (case side3 => exact Kd.C_nil _ _); (case side4 => exact Nat.le_refl _); (case side5 => exact Kd.C_nil _ _); (case side6 => exact Nat.le_refl _); rintro e w26 ⟨rfl, hb⟩; refine ⟨_, rfl, ?_⟩; have n0_ := aM (Kd.S_below (by (with_reducible repeat (first | apply Kd.S_alloc | apply Kd.S_drewN | apply Kd.S_drew)); exact HO_1.out) hb); have n1_ := aM (Kd.S_below (by (with_reducible repeat (first | apply Kd.S_alloc | apply Kd.S_drewN | apply Kd.S_drew)); exact HO_464000.out) hb); have n4_ := aM (kB (kl BK463) hb); have n5_ := aM (bS (bl) hb); (try clear HO_1); (try clear HO_464000); skip; skip; (try clear BK463); (try clear HB); have HO_1 := n0_; have HO_464000 := n1_; have BK463 := n4_; have HB := n5_; clear n0_ n1_ n4_ n5_; (try clear hb)) | ((with_reducible refine gate_dst (N := 28) rfl ?_); (try (refine gate_guard (by rfl) ?_; dsimp only)); refine Kd.S_lit k65 _ 65 ?hg (N := 28) ?hd (xs := ([(⟨2, 2, (⟨0, (⟨0, 0⟩ : S50), ([] : List (S130))⟩ : S53), (⟨5, ([] : List Int), ([] : List (S130))⟩ : S56), (⟨0, ([] : List (S63)), ([] : List (S130))⟩ : S59)⟩ : S65)] : List (S65))) (inner := [.int .i64 2, .int .i64 2, .int .i64 0, .int .i64 0, .int .i64 0, .slice none 0 0, .int .i64 5, .slice none 0 0, .slice none 0 0, .int .i64 0, .slice none 0 0, .slice none 0 0]) (ok := fun _ => True) (okp := fun _ => True) ?hr ?hp (fun _ hk => hk) trivial (Below.refl _ _) (Nat.le_refl _) (by simp) ?_; (case hd => rfl); (case hg => rfl); (case hr => first | (go_simp; done) | (go_simp; rfl)); (case hp => exact (Reps.front (show Kd.M k65 _ _ _ (⟨2, 2, (⟨0, (⟨0, 0⟩ : S50), ([] : List (S130))⟩ : S53), (⟨5, ([] : List Int), ([] : List (S130))⟩ : S56), (⟨0, ([] : List (S63)), ([] : List (S130))⟩ : S59)⟩ : S65) [.int .i64 2, .int .i64 2, .int .i64 0, .int .i64 0, .int .i64 0, .slice none 0 0, .int .i64 5, .slice none 0 0, .slice none 0 0, .int .i64 0, .slice none 0 0, .slice none 0 0] from (k65_mkM _ _ _ (⟨2, 2, (⟨0, (⟨0, 0⟩ : S50), ([] : List (S130))⟩ : S53), (⟨5, ([] : List Int), ([] : List (S130))⟩ : S56), (⟨0, ([] : List (S63)), ([] : List (S130))⟩ : S59)⟩ : S65) (Kd.R_nil _ _ _ _ _) (Kd.R_nil _ _ _ _ _) (Kd.R_nil _ _ _ _ _) (Kd.R_nil _ _ _ _ _) (Kd.R_nil _ _ _ _ _))) rfl (Reps.none _ _) rfl)); intro v466 w27 ho28 hb hg_ hnew_; clear hg_ hnew_; (first | rw [← Ny465.out] at ho28 | (simp only [Int.reduceToNat] at ho28; rw [← Ny465.out] at ho28)); have n0_ := aM (Kd.S_below (by (with_reducible repeat (first | apply Kd.S_alloc | apply Kd.S_drewN | apply Kd.S_drew)); exact HO_1.out) hb); have n1_ := aM (Kd.S_below (by (with_reducible repeat (first | apply Kd.S_alloc | apply Kd.S_drewN | apply Kd.S_drew)); exact HO_464000.out) hb); have n4_ := aM (Kd.S_lower ho28 (below_size (bl))); have n5_ := aM (kB (kl BK463) hb); have n6_ := aM (bS (bl) hb); (try clear HO_1); (try clear HO_464000); (try clear BK463); (try clear HB); have HO_1 := n0_; have HO_464000 := n1_; have HO467 := n4_; have BK463 := n5_; have HB := n6_; clear n0_ n1_ n4_ n5_ n6_ hb ho28; obtain ⟨Ao29, co29, eo29⟩ := Kd.S_slice HO467.out; subst eo29) | (go_at_call 18; (with_reducible refine (codec_PutChanges.calls kj2 _ _ y465 t468 _ ?side1 ?side2 A18.out).mono ?_); (case side1 => repeat (first | exact (Kd.S_reads' HO467.out).2.2 | (with_reducible refine cA ?_ _) | (with_reducible refine cN ?_ _) | (with_reducible refine cD ?_))); (case side2 => exact (Kd.S_reads' HO467.out).2.1); rintro e w30 ⟨rfl, hb⟩; have n0_ := aM (Kd.S_below (by (with_reducible repeat (first | apply Kd.S_alloc | apply Kd.S_drewN | apply Kd.S_drew)); exact HO_1.out) hb); have n1_ := aM (Kd.S_below (by (with_reducible repeat (first | apply Kd.S_alloc | apply Kd.S_drewN | apply Kd.S_drew)); exact HO_464000.out) hb); have n4_ := aM (Kd.S_below (by (with_reducible repeat (first | apply Kd.S_alloc | apply Kd.S_drewN | apply Kd.S_drew)); exact HO467.out) hb); have n5_ := aM (kB (kl BK463) hb); have n6_ := aM (bS (bl) hb); (try clear HO_1); (try clear HO_464000); (try clear HO467); (try clear BK463); (try clear HB); have HO_1 := n0_; have HO_464000 := n1_; have HO467 := n4_; have BK463 := n5_; have HB := n6_; clear n0_ n1_ n4_ n5_ n6_; (try clear hb); obtain ⟨Ao31, co31, eo31⟩ := Kd.S_slice HO_1.out; subst eo31; have p469 : 0 ≤ (0 : Int) := (by omega); have q469 : 0 < (t449.length : Int) := of_decide_eq_true (by first | (with_reducible assumption) | assumption); obtain ⟨ad469, A469_5, c469_5, A469_7, c469_7, A469_8, c469_8, A469_10, c469_10, A469_11, c469_11, e469, hx469_0, hx469_1, hx469_2, hx469_3, hx469_4, hx469_5, hx469_6, hx469_7, hx469_8, hx469_9, hx469_10, hx469_11, hl469_5, hi469_5, hl469_7, hi469_7, hl469_8, hi469_8, hl469_10, hi469_10, hl469_11, hi469_11⟩ := at_T65 (Kd.S_reads' HO_1.out).2.2 0 p469 q469; cases e469; obtain ⟨ce469, hce469, hMe469, hcc469⟩ := Kd.S_get HO_1.out z65 0 p469 (by first | exact q469 | exact of_decide_eq_true (by first | (with_reducible assumption) | assumption) | (have e_ := (Kd.S_reads' HO_1.out).1; omega)); obtain ⟨ve469_5, ve469_7, ve469_8, ve469_10, ve469_11, rfl, ge469_5, ge469_7, ge469_8, ge469_10, ge469_11⟩ := k65_openM hMe469; have hv469_5 := hcc469 5 _ rfl; rw [add_field _ _ 5 (by omega)] at hv469_5; replace hv469_5 := Option.some.inj (hv469_5.symm.trans hx469_5); rw [hv469_5] at ge469_5; have HL469_5 := aM (show Kd.R k130 130 _ _ _ _ ((rd_T65 t449 0).f2.f2) from ge469_5); clear hv469_5 ge469_5; have hv469_7 := hcc469 7 _ rfl; rw [add_field _ _ 7 (by omega)] at hv469_7; replace hv469_7 := Option.some.inj (hv469_7.symm.trans hx469_7); rw [hv469_7] at ge469_7; have HL469_7 := aM (show Kd.R (Kd.int .i64) 3 _ _ _ _ ((rd_T65 t449 0).f3.f1) from ge469_7); clear hv469_7 ge469_7; have hv469_8 := hcc469 8 _ rfl; rw [add_field _ _ 8 (by omega)] at hv469_8; replace hv469_8 := Option.some.inj (hv469_8.symm.trans hx469_8); rw [hv469_8] at ge469_8; have HL469_8 := aM (show Kd.R k130 130 _ _ _ _ ((rd_T65 t449 0).f3.f2) from ge469_8); clear hv469_8 ge469_8; have hv469_10 := hcc469 10 _ rfl; rw [add_field _ _ 10 (by omega)] at hv469_10; replace hv469_10 := Option.some.inj (hv469_10.symm.trans hx469_10); rw [hv469_10] at ge469_10; have HL469_10 := aM (show Kd.R k63 63 _ _ _ _ ((rd_T65 t449 0).f4.f1) from ge469_10); clear hv469_10 ge469_10; have hv469_11 := hcc469 11 _ rfl; rw [add_field _ _ 11 (by omega)] at hv469_11; replace hv469_11 := Option.some.inj (hv469_11.symm.trans hx469_11); rw [hv469_11] at ge469_11; have HL469_11 := aM (show Kd.R k130 130 _ _ _ _ ((rd_T65 t449 0).f4.f2) from ge469_11); clear hv469_11 ge469_11 hcc469 hce469; have qi469 : (0 < t449.length) = True := eq_true (by omega); (try rw [show ((0 : Int)).toNat = 0 from rfl] at hx469_0); (try rw [show 0 * 12 = 0 from rfl] at hx469_0); (try rw [Addr.add_zero'] at hx469_0); (try rw [show ((0 : Int)).toNat = 0 from rfl] at hx469_1); (try rw [show 0 * 12 = 0 from rfl] at hx469_1); (try rw [Addr.add_zero'] at hx469_1); (try rw [show ((0 : Int)).toNat = 0 from rfl] at hx469_2); (try rw [show 0 * 12 = 0 from rfl] at hx469_2); (try rw [Addr.add_zero'] at hx469_2); (try rw [show ((0 : Int)).toNat = 0 from rfl] at hx469_3); (try rw [show 0 * 12 = 0 from rfl] at hx469_3); (try rw [Addr.add_zero'] at hx469_3); (try rw [show ((0 : Int)).toNat = 0 from rfl] at hx469_4); (try rw [show 0 * 12 = 0 from rfl] at hx469_4); (try rw [Addr.add_zero'] at hx469_4); (try rw [show ((0 : Int)).toNat = 0 from rfl] at hx469_5); (try rw [show 0 * 12 = 0 from rfl] at hx469_5); (try rw [Addr.add_zero'] at hx469_5); (try rw [show ((0 : Int)).toNat = 0 from rfl] at hx469_6); (try rw [show 0 * 12 = 0 from rfl] at hx469_6); (try rw [Addr.add_zero'] at hx469_6); (try rw [show ((0 : Int)).toNat = 0 from rfl] at hx469_7); (try rw [show 0 * 12 = 0 from rfl] at hx469_7); (try rw [Addr.add_zero'] at hx469_7); (try rw [show ((0 : Int)).toNat = 0 from rfl] at hx469_8); (try rw [show 0 * 12 = 0 from rfl] at hx469_8); (try rw [Addr.add_zero'] at hx469_8); (try rw [show ((0 : Int)).toNat = 0 from rfl] at hx469_9); (try rw [show 0 * 12 = 0 from rfl] at hx469_9); (try rw [Addr.add_zero'] at hx469_9); (try rw [show ((0 : Int)).toNat = 0 from rfl] at hx469_10); (try rw [show 0 * 12 = 0 from rfl] at hx469_10); (try rw [Addr.add_zero'] at hx469_10); (try rw [show ((0 : Int)).toNat = 0 from rfl] at hx469_11); (try rw [show 0 * 12 = 0 from rfl] at hx469_11); (try rw [Addr.add_zero'] at hx469_11); have HR469_5 := aM hi469_5; have HC469_5 := aM hl469_5; clear hi469_5 hl469_5; have HR469_7 := aM hi469_7; have HC469_7 := aM hl469_7; clear hi469_7 hl469_7; have HR469_8 := aM hi469_8; have HC469_8 := aM hl469_8; clear hi469_8 hl469_8; have HR469_10 := aM hi469_10; have HC469_10 := aM hl469_10; clear hi469_10 hl469_10; have HR469_11 := aM hi469_11; have HC469_11 := aM hl469_11; clear hi469_11 hl469_11; replace p469 := eq_true p469; replace q469 := eq_true q469; obtain ⟨hcz32_0, hcz32_1, hcz32_2, hfz32_0, hfz32_1, hfz32_2⟩ := bc3 BK463; have p470 : 0 ≤ (0 : Int) := (by omega); have q470 : 0 < (t453.length : Int) := of_decide_eq_true (by first | (with_reducible assumption) | assumption); obtain ⟨ad470, A470_3, c470_3, e470, hx470_0, hx470_1, hx470_2, hx470_3, hl470_3, hi470_3⟩ := at_T53 (Kd.S_reads' HO_464000.out).2.2 0 p470 q470; cases e470; obtain ⟨ce470, hce470, hMe470, hcc470⟩ := Kd.S_get HO_464000.out z53 0 p470 (by first | exact q470 | exact of_decide_eq_true (by first | (with_reducible assumption) | assumption) | (have e_ := (Kd.S_reads' HO_464000.out).1; omega)); obtain ⟨ve470_3, rfl, ge470_3⟩ := k53_openM hMe470; have hv470_3 := hcc470 3 _ rfl; rw [add_field _ _ 3 (by omega)] at hv470_3; replace hv470_3 := Option.some.inj (hv470_3.symm.trans hx470_3); rw [hv470_3] at ge470_3; have HL470_3 := aM (show Kd.R k130 130 _ _ _ _ ((rd_T53 t453 0).f2) from ge470_3); clear hv470_3 ge470_3 hcc470 hce470; have qi470 : (0 < t453.length) = True := eq_true (by omega); (try rw [show ((0 : Int)).toNat = 0 from rfl] at hx470_0); (try rw [show 0 * 4 = 0 from rfl] at hx470_0); (try rw [Addr.add_zero'] at hx470_0); (try rw [show ((0 : Int)).toNat = 0 from rfl] at hx470_1); (try rw [show 0 * 4 = 0 from rfl] at hx470_1); (try rw [Addr.add_zero'] at hx470_1); (try rw [show ((0 : Int)).toNat = 0 from rfl] at hx470_2); (try rw [show 0 * 4 = 0 from rfl] at hx470_2); (try rw [Addr.add_zero'] at hx470_2); (try rw [show ((0 : Int)).toNat = 0 from rfl] at hx470_3); (try rw [show 0 * 4 = 0 from rfl] at hx470_3); (try rw [Addr.add_zero'] at hx470_3); have HR470_3 := aM hi470_3; have HC470_3 := aM hl470_3; clear hi470_3 hl470_3; replace p470 := eq_true p470; replace q470 := eq_true q470; have p471 : 0 ≤ (0 : Int) := (by omega); have q471 : 0 < (t453.length : Int) := of_decide_eq_true (by first | (with_reducible assumption) | assumption); obtain ⟨ad471, A471_3, c471_3, e471, hx471_0, hx471_1, hx471_2, hx471_3, hl471_3, hi471_3⟩ := at_T53 (Kd.S_reads' HO_464000.out).2.2 0 p471 q471; obtain rfl : ad470 = ad471 := (by injection e471); obtain ⟨ce471, hce471, hMe471, hcc471⟩ := Kd.S_get HO_464000.out z53 0 p471 (by first | exact q471 | exact of_decide_eq_true (by first | (with_reducible assumption) | assumption) | (have e_ := (Kd.S_reads' HO_464000.out).1; omega)); obtain ⟨ve471_3, rfl, ge471_3⟩ := k53_openM hMe471; have hv471_3 := hcc471 3 _ rfl; rw [add_field _ _ 3 (by omega)] at hv471_3; replace hv471_3 := Option.some.inj (hv471_3.symm.trans hx471_3); rw [hv471_3] at ge471_3; have HL471_3 := aM (show Kd.R k130 130 _ _ _ _ ((rd_T53 t453 0).f2) from ge471_3); clear hv471_3 ge471_3 hcc471 hce471; have qi471 : (0 < t453.length) = True := eq_true (by omega); (try rw [show ((0 : Int)).toNat = 0 from rfl] at hx471_0); (try rw [show 0 * 4 = 0 from rfl] at hx471_0); (try rw [Addr.add_zero'] at hx471_0); (try rw [show ((0 : Int)).toNat = 0 from rfl] at hx471_1); (try rw [show 0 * 4 = 0 from rfl] at hx471_1); (try rw [Addr.add_zero'] at hx471_1); (try rw [show ((0 : Int)).toNat = 0 from rfl] at hx471_2); (try rw [show 0 * 4 = 0 from rfl] at hx471_2); (try rw [Addr.add_zero'] at hx471_2); (try rw [show ((0 : Int)).toNat = 0 from rfl] at hx471_3); (try rw [show 0 * 4 = 0 from rfl] at hx471_3); (try rw [Addr.add_zero'] at hx471_3); have HR471_3 := aM hi471_3; have HC471_3 := aM hl471_3; clear hi471_3 hl471_3; replace p471 := eq_true p471; replace q471 := eq_true q471; have ea_ := Option.some.inj (hx470_3.symm.trans hx471_3); injection ea_ with ea_ en_ ec_; subst ea_; subst ec_; clear en_))
            go_ret
            exact ⟨by first | rfl | (simp [errW_none, errW_some] <;> rfl) | (simp [*, errW_none, errW_some] <;> rfl), bl⟩
           ·rw [if_neg c25] at H
            have c25b0 : (((rd_T53 t453 0).f0) == 1) = false := beq_eq_false_iff_ne.mpr c25
            have c25b1 : (((rd_T53 t453 0).f0) != 1) = true := bne_iff_ne.mpr c25
            obtain rfl := Option.some.inj H
            go_wp2_with (first | ((with_reducible refine gate_callee (f := 12) rfl ?_); refine gL (some 23) Try.func12 #[.agg #[.slice none 0 0, .slice none 0 0, .slice none 0 0]] ?_; (refine (codec_PutData.calls kj2 _ _ ([] : List (S53)) _ _ ([] : List (S56)) _ _ ([] : List (S59)) t464 _ ?side1 ?side2 ?side3 ?side4 ?side5 ?side6 A16.out).mono ?_); (case side1 => exact Kd.C_nil _ _); (case side2 => exact Nat.le_refl _); (case side3 => exact Kd.C_nil _ _); (case side4 => exact Nat.le_refl _); (case side5 => exact Kd.C_nil _ _); (case side6 => exact Nat.le_refl _); rintro e w33 ⟨rfl, hb⟩; refine ⟨_, rfl, ?_⟩; have n0_ := aM (Kd.S_below (by (with_reducible repeat (first | apply Kd.S_alloc | apply Kd.S_drewN | apply Kd.S_drew)); exact HO_1.out) hb); have n1_ := aM (Kd.S_below (by (with_reducible repeat (first | apply Kd.S_alloc | apply Kd.S_drewN | apply Kd.S_drew)); exact HO_464000.out) hb); have n4_ := aM (kB (kl BK463) hb); have n5_ := aM (bS (bl) hb); (try clear HO_1); (try clear HO_464000); skip; skip; (try clear BK463); (try clear HB); have HO_1 := n0_; have HO_464000 := n1_; have BK463 := n4_; have HB := n5_; clear n0_ n1_ n4_ n5_; (try clear hb)) | ((with_reducible refine gate_dst (N := 28) rfl ?_); (try (refine gate_guard (by rfl) ?_; dsimp only)); refine Kd.S_lit k65 _ 65 ?hg (N := 28) ?hd (xs := ([(⟨2, 2, (⟨0, (⟨0, 0⟩ : S50), ([] : List (S130))⟩ : S53), (⟨5, ([] : List Int), ([] : List (S130))⟩ : S56), (⟨0, ([] : List (S63)), ([] : List (S130))⟩ : S59)⟩ : S65)] : List (S65))) (inner := [.int .i64 2, .int .i64 2, .int .i64 0, .int .i64 0, .int .i64 0, .slice none 0 0, .int .i64 5, .slice none 0 0, .slice none 0 0, .int .i64 0, .slice none 0 0, .slice none 0 0]) (ok := fun _ => True) (okp := fun _ => True) ?hr ?hp (fun _ hk => hk) trivial (Below.refl _ _) (Nat.le_refl _) (by simp) ?_; (case hd => rfl); (case hg => rfl); (case hr => first | (go_simp; done) | (go_simp; rfl)); (case hp => exact (Reps.front (show Kd.M k65 _ _ _ (⟨2, 2, (⟨0, (⟨0, 0⟩ : S50), ([] : List (S130))⟩ : S53), (⟨5, ([] : List Int), ([] : List (S130))⟩ : S56), (⟨0, ([] : List (S63)), ([] : List (S130))⟩ : S59)⟩ : S65) [.int .i64 2, .int .i64 2, .int .i64 0, .int .i64 0, .int .i64 0, .slice none 0 0, .int .i64 5, .slice none 0 0, .slice none 0 0, .int .i64 0, .slice none 0 0, .slice none 0 0] from (k65_mkM _ _ _ (⟨2, 2, (⟨0, (⟨0, 0⟩ : S50), ([] : List (S130))⟩ : S53), (⟨5, ([] : List Int), ([] : List (S130))⟩ : S56), (⟨0, ([] : List (S63)), ([] : List (S130))⟩ : S59)⟩ : S65) (Kd.R_nil _ _ _ _ _) (Kd.R_nil _ _ _ _ _) (Kd.R_nil _ _ _ _ _) (Kd.R_nil _ _ _ _ _) (Kd.R_nil _ _ _ _ _))) rfl (Reps.none _ _) rfl)); intro v466 w34 ho35 hb hg_ hnew_; clear hg_ hnew_; (first | rw [← Ny465.out] at ho35 | (simp only [Int.reduceToNat] at ho35; rw [← Ny465.out] at ho35)); have n0_ := aM (Kd.S_below (by (with_reducible repeat (first | apply Kd.S_alloc | apply Kd.S_drewN | apply Kd.S_drew)); exact HO_1.out) hb); have n1_ := aM (Kd.S_below (by (with_reducible repeat (first | apply Kd.S_alloc | apply Kd.S_drewN | apply Kd.S_drew)); exact HO_464000.out) hb); have n4_ := aM (Kd.S_lower ho35 (below_size (bl))); have n5_ := aM (kB (kl BK463) hb); have n6_ := aM (bS (bl) hb); (try clear HO_1); (try clear HO_464000); (try clear BK463); (try clear HB); have HO_1 := n0_; have HO_464000 := n1_; have HO467 := n4_; have BK463 := n5_; have HB := n6_; clear n0_ n1_ n4_ n5_ n6_ hb ho35; obtain ⟨Ao36, co36, eo36⟩ := Kd.S_slice HO467.out; subst eo36) | (go_at_call 18; (with_reducible refine (codec_PutChanges.calls kj2 _ _ y465 t468 _ ?side1 ?side2 A18.out).mono ?_); (case side1 => repeat (first | exact (Kd.S_reads' HO467.out).2.2 | (with_reducible refine cA ?_ _) | (with_reducible refine cN ?_ _) | (with_reducible refine cD ?_))); (case side2 => exact (Kd.S_reads' HO467.out).2.1); rintro e w37 ⟨rfl, hb⟩; have n0_ := aM (Kd.S_below (by (with_reducible repeat (first | apply Kd.S_alloc | apply Kd.S_drewN | apply Kd.S_drew)); exact HO_1.out) hb); have n1_ := aM (Kd.S_below (by (with_reducible repeat (first | apply Kd.S_alloc | apply Kd.S_drewN | apply Kd.S_drew)); exact HO_464000.out) hb); have n4_ := aM (Kd.S_below (by (with_reducible repeat (first | apply Kd.S_alloc | apply Kd.S_drewN | apply Kd.S_drew)); exact HO467.out) hb); have n5_ := aM (kB (kl BK463) hb); have n6_ := aM (bS (bl) hb); (try clear HO_1); (try clear HO_464000); (try clear HO467); (try clear BK463); (try clear HB); have HO_1 := n0_; have HO_464000 := n1_; have HO467 := n4_; have BK463 := n5_; have HB := n6_; clear n0_ n1_ n4_ n5_ n6_; (try clear hb); obtain ⟨Ao38, co38, eo38⟩ := Kd.S_slice HO_1.out; subst eo38; have p469 : 0 ≤ (0 : Int) := (by omega); have q469 : 0 < (t449.length : Int) := of_decide_eq_true (by first | (with_reducible assumption) | assumption); obtain ⟨ad469, A469_5, c469_5, A469_7, c469_7, A469_8, c469_8, A469_10, c469_10, A469_11, c469_11, e469, hx469_0, hx469_1, hx469_2, hx469_3, hx469_4, hx469_5, hx469_6, hx469_7, hx469_8, hx469_9, hx469_10, hx469_11, hl469_5, hi469_5, hl469_7, hi469_7, hl469_8, hi469_8, hl469_10, hi469_10, hl469_11, hi469_11⟩ := at_T65 (Kd.S_reads' HO_1.out).2.2 0 p469 q469; cases e469; obtain ⟨ce469, hce469, hMe469, hcc469⟩ := Kd.S_get HO_1.out z65 0 p469 (by first | exact q469 | exact of_decide_eq_true (by first | (with_reducible assumption) | assumption) | (have e_ := (Kd.S_reads' HO_1.out).1; omega)); obtain ⟨ve469_5, ve469_7, ve469_8, ve469_10, ve469_11, rfl, ge469_5, ge469_7, ge469_8, ge469_10, ge469_11⟩ := k65_openM hMe469; have hv469_5 := hcc469 5 _ rfl; rw [add_field _ _ 5 (by omega)] at hv469_5; replace hv469_5 := Option.some.inj (hv469_5.symm.trans hx469_5); rw [hv469_5] at ge469_5; have HL469_5 := aM (show Kd.R k130 130 _ _ _ _ ((rd_T65 t449 0).f2.f2) from ge469_5); clear hv469_5 ge469_5; have hv469_7 := hcc469 7 _ rfl; rw [add_field _ _ 7 (by omega)] at hv469_7; replace hv469_7 := Option.some.inj (hv469_7.symm.trans hx469_7); rw [hv469_7] at ge469_7; have HL469_7 := aM (show Kd.R (Kd.int .i64) 3 _ _ _ _ ((rd_T65 t449 0).f3.f1) from ge469_7); clear hv469_7 ge469_7; have hv469_8 := hcc469 8 _ rfl; rw [add_field _ _ 8 (by omega)] at hv469_8; replace hv469_8 := Option.some.inj (hv469_8.symm.trans hx469_8); rw [hv469_8] at ge469_8; have HL469_8 := aM (show Kd.R k130 130 _ _ _ _ ((rd_T65 t449 0).f3.f2) from ge469_8); clear hv469_8 ge469_8; have hv469_10 := hcc469 10 _ rfl; rw [add_field _ _ 10 (by omega)] at hv469_10; replace hv469_10 := Option.some.inj (hv469_10.symm.trans hx469_10); rw [hv469_10] at ge469_10; have HL469_10 := aM (show Kd.R k63 63 _ _ _ _ ((rd_T65 t449 0).f4.f1) from ge469_10); clear hv469_10 ge469_10; have hv469_11 := hcc469 11 _ rfl; rw [add_field _ _ 11 (by omega)] at hv469_11; replace hv469_11 := Option.some.inj (hv469_11.symm.trans hx469_11); rw [hv469_11] at ge469_11; have HL469_11 := aM (show Kd.R k130 130 _ _ _ _ ((rd_T65 t449 0).f4.f2) from ge469_11); clear hv469_11 ge469_11 hcc469 hce469; have qi469 : (0 < t449.length) = True := eq_true (by omega); (try rw [show ((0 : Int)).toNat = 0 from rfl] at hx469_0); (try rw [show 0 * 12 = 0 from rfl] at hx469_0); (try rw [Addr.add_zero'] at hx469_0); (try rw [show ((0 : Int)).toNat = 0 from rfl] at hx469_1); (try rw [show 0 * 12 = 0 from rfl] at hx469_1); (try rw [Addr.add_zero'] at hx469_1); (try rw [show ((0 : Int)).toNat = 0 from rfl] at hx469_2); (try rw [show 0 * 12 = 0 from rfl] at hx469_2); (try rw [Addr.add_zero'] at hx469_2); (try rw [show ((0 : Int)).toNat = 0 from rfl] at hx469_3); (try rw [show 0 * 12 = 0 from rfl] at hx469_3); (try rw [Addr.add_zero'] at hx469_3); (try rw [show ((0 : Int)).toNat = 0 from rfl] at hx469_4); (try rw [show 0 * 12 = 0 from rfl] at hx469_4); (try rw [Addr.add_zero'] at hx469_4); (try rw [show ((0 : Int)).toNat = 0 from rfl] at hx469_5); (try rw [show 0 * 12 = 0 from rfl] at hx469_5); (try rw [Addr.add_zero'] at hx469_5); (try rw [show ((0 : Int)).toNat = 0 from rfl] at hx469_6); (try rw [show 0 * 12 = 0 from rfl] at hx469_6); (try rw [Addr.add_zero'] at hx469_6); (try rw [show ((0 : Int)).toNat = 0 from rfl] at hx469_7); (try rw [show 0 * 12 = 0 from rfl] at hx469_7); (try rw [Addr.add_zero'] at hx469_7); (try rw [show ((0 : Int)).toNat = 0 from rfl] at hx469_8); (try rw [show 0 * 12 = 0 from rfl] at hx469_8); (try rw [Addr.add_zero'] at hx469_8); (try rw [show ((0 : Int)).toNat = 0 from rfl] at hx469_9); (try rw [show 0 * 12 = 0 from rfl] at hx469_9); (try rw [Addr.add_zero'] at hx469_9); (try rw [show ((0 : Int)).toNat = 0 from rfl] at hx469_10); (try rw [show 0 * 12 = 0 from rfl] at hx469_10); (try rw [Addr.add_zero'] at hx469_10); (try rw [show ((0 : Int)).toNat = 0 from rfl] at hx469_11); (try rw [show 0 * 12 = 0 from rfl] at hx469_11); (try rw [Addr.add_zero'] at hx469_11); have HR469_5 := aM hi469_5; have HC469_5 := aM hl469_5; clear hi469_5 hl469_5; have HR469_7 := aM hi469_7; have HC469_7 := aM hl469_7; clear hi469_7 hl469_7; have HR469_8 := aM hi469_8; have HC469_8 := aM hl469_8; clear hi469_8 hl469_8; have HR469_10 := aM hi469_10; have HC469_10 := aM hl469_10; clear hi469_10 hl469_10; have HR469_11 := aM hi469_11; have HC469_11 := aM hl469_11; clear hi469_11 hl469_11; replace p469 := eq_true p469; replace q469 := eq_true q469; obtain ⟨hcz39_0, hcz39_1, hcz39_2, hfz39_0, hfz39_1, hfz39_2⟩ := bc3 BK463; have p470 : 0 ≤ (0 : Int) := (by omega); have q470 : 0 < (t453.length : Int) := of_decide_eq_true (by first | (with_reducible assumption) | assumption); obtain ⟨ad470, A470_3, c470_3, e470, hx470_0, hx470_1, hx470_2, hx470_3, hl470_3, hi470_3⟩ := at_T53 (Kd.S_reads' HO_464000.out).2.2 0 p470 q470; cases e470; obtain ⟨ce470, hce470, hMe470, hcc470⟩ := Kd.S_get HO_464000.out z53 0 p470 (by first | exact q470 | exact of_decide_eq_true (by first | (with_reducible assumption) | assumption) | (have e_ := (Kd.S_reads' HO_464000.out).1; omega)); obtain ⟨ve470_3, rfl, ge470_3⟩ := k53_openM hMe470; have hv470_3 := hcc470 3 _ rfl; rw [add_field _ _ 3 (by omega)] at hv470_3; replace hv470_3 := Option.some.inj (hv470_3.symm.trans hx470_3); rw [hv470_3] at ge470_3; have HL470_3 := aM (show Kd.R k130 130 _ _ _ _ ((rd_T53 t453 0).f2) from ge470_3); clear hv470_3 ge470_3 hcc470 hce470; have qi470 : (0 < t453.length) = True := eq_true (by omega); (try rw [show ((0 : Int)).toNat = 0 from rfl] at hx470_0); (try rw [show 0 * 4 = 0 from rfl] at hx470_0); (try rw [Addr.add_zero'] at hx470_0); (try rw [show ((0 : Int)).toNat = 0 from rfl] at hx470_1); (try rw [show 0 * 4 = 0 from rfl] at hx470_1); (try rw [Addr.add_zero'] at hx470_1); (try rw [show ((0 : Int)).toNat = 0 from rfl] at hx470_2); (try rw [show 0 * 4 = 0 from rfl] at hx470_2); (try rw [Addr.add_zero'] at hx470_2); (try rw [show ((0 : Int)).toNat = 0 from rfl] at hx470_3); (try rw [show 0 * 4 = 0 from rfl] at hx470_3); (try rw [Addr.add_zero'] at hx470_3); have HR470_3 := aM hi470_3; have HC470_3 := aM hl470_3; clear hi470_3 hl470_3; replace p470 := eq_true p470; replace q470 := eq_true q470))
            go_ret
            exact ⟨by first | rfl | (simp [errW_none, errW_some] <;> rfl) | (simp [*, errW_none, errW_some] <;> rfl), bl⟩
          ·rw [if_neg c24] at H
           exact absurd H (by simp)
         ·rw [if_neg c23] at H
          have c23b0 : (t462 == 0) = false := beq_eq_false_iff_ne.mpr c23
          have c23b1 : (t462 != 0) = true := bne_iff_ne.mpr c23
          obtain rfl := Option.some.inj H
          go_wp2_with (first | ((with_reducible refine gate_callee (f := 12) rfl ?_); refine gL (some 23) Try.func12 #[.agg #[.slice none 0 0, .slice none 0 0, .slice none 0 0]] ?_; (refine (codec_PutData.calls kj2 _ _ ([] : List (S53)) _ _ ([] : List (S56)) _ _ ([] : List (S59)) t464 _ ?side1 ?side2 ?side3 ?side4 ?side5 ?side6 A16.out).mono ?_); (case side1 => exact Kd.C_nil _ _); (case side2 => exact Nat.le_refl _); (case side3 => exact Kd.C_nil _ _); (case side4 => exact Nat.le_refl _); (case side5 => exact Kd.C_nil _ _); (case side6 => exact Nat.le_refl _); rintro e w40 ⟨rfl, hb⟩; refine ⟨_, rfl, ?_⟩; have n0_ := aM (Kd.S_below (by (with_reducible repeat (first | apply Kd.S_alloc | apply Kd.S_drewN | apply Kd.S_drew)); exact HO_1.out) hb); have n5_ := aM (bS (bl) hb); (try clear HO_1); (try clear HO_464000); skip; skip; (try clear BK463); (try clear HB); have HO_1 := n0_; have HB := n5_; clear n0_ n5_; (try clear hb)) | ((with_reducible refine gate_dst (N := 28) rfl ?_); (try (refine gate_guard (by rfl) ?_; dsimp only)); refine Kd.S_lit k65 _ 65 ?hg (N := 28) ?hd (xs := ([(⟨2, 2, (⟨0, (⟨0, 0⟩ : S50), ([] : List (S130))⟩ : S53), (⟨5, ([] : List Int), ([] : List (S130))⟩ : S56), (⟨0, ([] : List (S63)), ([] : List (S130))⟩ : S59)⟩ : S65)] : List (S65))) (inner := [.int .i64 2, .int .i64 2, .int .i64 0, .int .i64 0, .int .i64 0, .slice none 0 0, .int .i64 5, .slice none 0 0, .slice none 0 0, .int .i64 0, .slice none 0 0, .slice none 0 0]) (ok := fun _ => True) (okp := fun _ => True) ?hr ?hp (fun _ hk => hk) trivial (Below.refl _ _) (Nat.le_refl _) (by simp) ?_; (case hd => rfl); (case hg => rfl); (case hr => first | (go_simp; done) | (go_simp; rfl)); (case hp => exact (Reps.front (show Kd.M k65 _ _ _ (⟨2, 2, (⟨0, (⟨0, 0⟩ : S50), ([] : List (S130))⟩ : S53), (⟨5, ([] : List Int), ([] : List (S130))⟩ : S56), (⟨0, ([] : List (S63)), ([] : List (S130))⟩ : S59)⟩ : S65) [.int .i64 2, .int .i64 2, .int .i64 0, .int .i64 0, .int .i64 0, .slice none 0 0, .int .i64 5, .slice none 0 0, .slice none 0 0, .int .i64 0, .slice none 0 0, .slice none 0 0] from (k65_mkM _ _ _ (⟨2, 2, (⟨0, (⟨0, 0⟩ : S50), ([] : List (S130))⟩ : S53), (⟨5, ([] : List Int), ([] : List (S130))⟩ : S56), (⟨0, ([] : List (S63)), ([] : List (S130))⟩ : S59)⟩ : S65) (Kd.R_nil _ _ _ _ _) (Kd.R_nil _ _ _ _ _) (Kd.R_nil _ _ _ _ _) (Kd.R_nil _ _ _ _ _) (Kd.R_nil _ _ _ _ _))) rfl (Reps.none _ _) rfl)); intro v466 w41 ho42 hb hg_ hnew_; clear hg_ hnew_; (first | rw [← Ny465.out] at ho42 | (simp only [Int.reduceToNat] at ho42; rw [← Ny465.out] at ho42)); have n0_ := aM (Kd.S_below (by (with_reducible repeat (first | apply Kd.S_alloc | apply Kd.S_drewN | apply Kd.S_drew)); exact HO_1.out) hb); have n4_ := aM (Kd.S_lower ho42 (below_size (bl))); have n6_ := aM (bS (bl) hb); (try clear HO_1); (try clear HB); have HO_1 := n0_; have HO467 := n4_; have HB := n6_; clear n0_ n4_ n6_ hb ho42; obtain ⟨Ao43, co43, eo43⟩ := Kd.S_slice HO467.out; subst eo43) | (go_at_call 18; (with_reducible refine (codec_PutChanges.calls kj2 _ _ y465 t468 _ ?side1 ?side2 A18.out).mono ?_); (case side1 => repeat (first | exact (Kd.S_reads' HO467.out).2.2 | (with_reducible refine cA ?_ _) | (with_reducible refine cN ?_ _) | (with_reducible refine cD ?_))); (case side2 => exact (Kd.S_reads' HO467.out).2.1); rintro e w44 ⟨rfl, hb⟩; have n0_ := aM (Kd.S_below (by (with_reducible repeat (first | apply Kd.S_alloc | apply Kd.S_drewN | apply Kd.S_drew)); exact HO_1.out) hb); have n4_ := aM (Kd.S_below (by (with_reducible repeat (first | apply Kd.S_alloc | apply Kd.S_drewN | apply Kd.S_drew)); exact HO467.out) hb); have n6_ := aM (bS (bl) hb); (try clear HO_1); (try clear HO467); (try clear HB); have HO_1 := n0_; have HO467 := n4_; have HB := n6_; clear n0_ n4_ n6_; (try clear hb); obtain ⟨Ao45, co45, eo45⟩ := Kd.S_slice HO_1.out; subst eo45; have p469 : 0 ≤ (0 : Int) := (by omega); have q469 : 0 < (t449.length : Int) := of_decide_eq_true (by first | (with_reducible assumption) | assumption); obtain ⟨ad469, A469_5, c469_5, A469_7, c469_7, A469_8, c469_8, A469_10, c469_10, A469_11, c469_11, e469, hx469_0, hx469_1, hx469_2, hx469_3, hx469_4, hx469_5, hx469_6, hx469_7, hx469_8, hx469_9, hx469_10, hx469_11, hl469_5, hi469_5, hl469_7, hi469_7, hl469_8, hi469_8, hl469_10, hi469_10, hl469_11, hi469_11⟩ := at_T65 (Kd.S_reads' HO_1.out).2.2 0 p469 q469; cases e469; obtain ⟨ce469, hce469, hMe469, hcc469⟩ := Kd.S_get HO_1.out z65 0 p469 (by first | exact q469 | exact of_decide_eq_true (by first | (with_reducible assumption) | assumption) | (have e_ := (Kd.S_reads' HO_1.out).1; omega)); obtain ⟨ve469_5, ve469_7, ve469_8, ve469_10, ve469_11, rfl, ge469_5, ge469_7, ge469_8, ge469_10, ge469_11⟩ := k65_openM hMe469; have hv469_5 := hcc469 5 _ rfl; rw [add_field _ _ 5 (by omega)] at hv469_5; replace hv469_5 := Option.some.inj (hv469_5.symm.trans hx469_5); rw [hv469_5] at ge469_5; have HL469_5 := aM (show Kd.R k130 130 _ _ _ _ ((rd_T65 t449 0).f2.f2) from ge469_5); clear hv469_5 ge469_5; have hv469_7 := hcc469 7 _ rfl; rw [add_field _ _ 7 (by omega)] at hv469_7; replace hv469_7 := Option.some.inj (hv469_7.symm.trans hx469_7); rw [hv469_7] at ge469_7; have HL469_7 := aM (show Kd.R (Kd.int .i64) 3 _ _ _ _ ((rd_T65 t449 0).f3.f1) from ge469_7); clear hv469_7 ge469_7; have hv469_8 := hcc469 8 _ rfl; rw [add_field _ _ 8 (by omega)] at hv469_8; replace hv469_8 := Option.some.inj (hv469_8.symm.trans hx469_8); rw [hv469_8] at ge469_8; have HL469_8 := aM (show Kd.R k130 130 _ _ _ _ ((rd_T65 t449 0).f3.f2) from ge469_8); clear hv469_8 ge469_8; have hv469_10 := hcc469 10 _ rfl; rw [add_field _ _ 10 (by omega)] at hv469_10; replace hv469_10 := Option.some.inj (hv469_10.symm.trans hx469_10); rw [hv469_10] at ge469_10; have HL469_10 := aM (show Kd.R k63 63 _ _ _ _ ((rd_T65 t449 0).f4.f1) from ge469_10); clear hv469_10 ge469_10; have hv469_11 := hcc469 11 _ rfl; rw [add_field _ _ 11 (by omega)] at hv469_11; replace hv469_11 := Option.some.inj (hv469_11.symm.trans hx469_11); rw [hv469_11] at ge469_11; have HL469_11 := aM (show Kd.R k130 130 _ _ _ _ ((rd_T65 t449 0).f4.f2) from ge469_11); clear hv469_11 ge469_11 hcc469 hce469; have qi469 : (0 < t449.length) = True := eq_true (by omega); (try rw [show ((0 : Int)).toNat = 0 from rfl] at hx469_0); (try rw [show 0 * 12 = 0 from rfl] at hx469_0); (try rw [Addr.add_zero'] at hx469_0); (try rw [show ((0 : Int)).toNat = 0 from rfl] at hx469_1); (try rw [show 0 * 12 = 0 from rfl] at hx469_1); (try rw [Addr.add_zero'] at hx469_1); (try rw [show ((0 : Int)).toNat = 0 from rfl] at hx469_2); (try rw [show 0 * 12 = 0 from rfl] at hx469_2); (try rw [Addr.add_zero'] at hx469_2); (try rw [show ((0 : Int)).toNat = 0 from rfl] at hx469_3); (try rw [show 0 * 12 = 0 from rfl] at hx469_3); (try rw [Addr.add_zero'] at hx469_3); (try rw [show ((0 : Int)).toNat = 0 from rfl] at hx469_4); (try rw [show 0 * 12 = 0 from rfl] at hx469_4); (try rw [Addr.add_zero'] at hx469_4); (try rw [show ((0 : Int)).toNat = 0 from rfl] at hx469_5); (try rw [show 0 * 12 = 0 from rfl] at hx469_5); (try rw [Addr.add_zero'] at hx469_5); (try rw [show ((0 : Int)).toNat = 0 from rfl] at hx469_6); (try rw [show 0 * 12 = 0 from rfl] at hx469_6); (try rw [Addr.add_zero'] at hx469_6); (try rw [show ((0 : Int)).toNat = 0 from rfl] at hx469_7); (try rw [show 0 * 12 = 0 from rfl] at hx469_7); (try rw [Addr.add_zero'] at hx469_7); (try rw [show ((0 : Int)).toNat = 0 from rfl] at hx469_8); (try rw [show 0 * 12 = 0 from rfl] at hx469_8); (try rw [Addr.add_zero'] at hx469_8); (try rw [show ((0 : Int)).toNat = 0 from rfl] at hx469_9); (try rw [show 0 * 12 = 0 from rfl] at hx469_9); (try rw [Addr.add_zero'] at hx469_9); (try rw [show ((0 : Int)).toNat = 0 from rfl] at hx469_10); (try rw [show 0 * 12 = 0 from rfl] at hx469_10); (try rw [Addr.add_zero'] at hx469_10); (try rw [show ((0 : Int)).toNat = 0 from rfl] at hx469_11); (try rw [show 0 * 12 = 0 from rfl] at hx469_11); (try rw [Addr.add_zero'] at hx469_11); have HR469_5 := aM hi469_5; have HC469_5 := aM hl469_5; clear hi469_5 hl469_5; have HR469_7 := aM hi469_7; have HC469_7 := aM hl469_7; clear hi469_7 hl469_7; have HR469_8 := aM hi469_8; have HC469_8 := aM hl469_8; clear hi469_8 hl469_8; have HR469_10 := aM hi469_10; have HC469_10 := aM hl469_10; clear hi469_10 hl469_10; have HR469_11 := aM hi469_11; have HC469_11 := aM hl469_11; clear hi469_11 hl469_11; replace p469 := eq_true p469; replace q469 := eq_true q469))
          go_ret
          exact ⟨by first | rfl | (simp [errW_none, errW_some] <;> rfl) | (simp [*, errW_none, errW_some] <;> rfl), bl⟩
        ·rw [if_neg c22] at H
         have c22b0 : (((rd_T65 t449 0).f3.f0) == 5) = false := beq_eq_false_iff_ne.mpr c22
         have c22b1 : (((rd_T65 t449 0).f3.f0) != 5) = true := bne_iff_ne.mpr c22
         obtain rfl := Option.some.inj H
         go_wp2_with (first | ((with_reducible refine gate_callee (f := 12) rfl ?_); refine gL (some 23) Try.func12 #[.agg #[.slice none 0 0, .slice none 0 0, .slice none 0 0]] ?_; (refine (codec_PutData.calls kj2 _ _ ([] : List (S53)) _ _ ([] : List (S56)) _ _ ([] : List (S59)) t464 _ ?side1 ?side2 ?side3 ?side4 ?side5 ?side6 A16.out).mono ?_); (case side1 => exact Kd.C_nil _ _); (case side2 => exact Nat.le_refl _); (case side3 => exact Kd.C_nil _ _); (case side4 => exact Nat.le_refl _); (case side5 => exact Kd.C_nil _ _); (case side6 => exact Nat.le_refl _); rintro e w46 ⟨rfl, hb⟩; refine ⟨_, rfl, ?_⟩; have n0_ := aM (Kd.S_below (by (with_reducible repeat (first | apply Kd.S_alloc | apply Kd.S_drewN | apply Kd.S_drew)); exact HO_1.out) hb); have n5_ := aM (bS (bl) hb); (try clear HO_1); (try clear HO_464000); skip; skip; (try clear BK463); (try clear HB); have HO_1 := n0_; have HB := n5_; clear n0_ n5_; (try clear hb)) | ((with_reducible refine gate_dst (N := 28) rfl ?_); (try (refine gate_guard (by rfl) ?_; dsimp only)); refine Kd.S_lit k65 _ 65 ?hg (N := 28) ?hd (xs := ([(⟨2, 2, (⟨0, (⟨0, 0⟩ : S50), ([] : List (S130))⟩ : S53), (⟨5, ([] : List Int), ([] : List (S130))⟩ : S56), (⟨0, ([] : List (S63)), ([] : List (S130))⟩ : S59)⟩ : S65)] : List (S65))) (inner := [.int .i64 2, .int .i64 2, .int .i64 0, .int .i64 0, .int .i64 0, .slice none 0 0, .int .i64 5, .slice none 0 0, .slice none 0 0, .int .i64 0, .slice none 0 0, .slice none 0 0]) (ok := fun _ => True) (okp := fun _ => True) ?hr ?hp (fun _ hk => hk) trivial (Below.refl _ _) (Nat.le_refl _) (by simp) ?_; (case hd => rfl); (case hg => rfl); (case hr => first | (go_simp; done) | (go_simp; rfl)); (case hp => exact (Reps.front (show Kd.M k65 _ _ _ (⟨2, 2, (⟨0, (⟨0, 0⟩ : S50), ([] : List (S130))⟩ : S53), (⟨5, ([] : List Int), ([] : List (S130))⟩ : S56), (⟨0, ([] : List (S63)), ([] : List (S130))⟩ : S59)⟩ : S65) [.int .i64 2, .int .i64 2, .int .i64 0, .int .i64 0, .int .i64 0, .slice none 0 0, .int .i64 5, .slice none 0 0, .slice none 0 0, .int .i64 0, .slice none 0 0, .slice none 0 0] from (k65_mkM _ _ _ (⟨2, 2, (⟨0, (⟨0, 0⟩ : S50), ([] : List (S130))⟩ : S53), (⟨5, ([] : List Int), ([] : List (S130))⟩ : S56), (⟨0, ([] : List (S63)), ([] : List (S130))⟩ : S59)⟩ : S65) (Kd.R_nil _ _ _ _ _) (Kd.R_nil _ _ _ _ _) (Kd.R_nil _ _ _ _ _) (Kd.R_nil _ _ _ _ _) (Kd.R_nil _ _ _ _ _))) rfl (Reps.none _ _) rfl)); intro v466 w47 ho48 hb hg_ hnew_; clear hg_ hnew_; (first | rw [← Ny465.out] at ho48 | (simp only [Int.reduceToNat] at ho48; rw [← Ny465.out] at ho48)); have n0_ := aM (Kd.S_below (by (with_reducible repeat (first | apply Kd.S_alloc | apply Kd.S_drewN | apply Kd.S_drew)); exact HO_1.out) hb); have n4_ := aM (Kd.S_lower ho48 (below_size (bl))); have n6_ := aM (bS (bl) hb); (try clear HO_1); (try clear HB); have HO_1 := n0_; have HO467 := n4_; have HB := n6_; clear n0_ n4_ n6_ hb ho48; obtain ⟨Ao49, co49, eo49⟩ := Kd.S_slice HO467.out; subst eo49) | (go_at_call 18; (with_reducible refine (codec_PutChanges.calls kj2 _ _ y465 t468 _ ?side1 ?side2 A18.out).mono ?_); (case side1 => repeat (first | exact (Kd.S_reads' HO467.out).2.2 | (with_reducible refine cA ?_ _) | (with_reducible refine cN ?_ _) | (with_reducible refine cD ?_))); (case side2 => exact (Kd.S_reads' HO467.out).2.1); rintro e w50 ⟨rfl, hb⟩; have n0_ := aM (Kd.S_below (by (with_reducible repeat (first | apply Kd.S_alloc | apply Kd.S_drewN | apply Kd.S_drew)); exact HO_1.out) hb); have n4_ := aM (Kd.S_below (by (with_reducible repeat (first | apply Kd.S_alloc | apply Kd.S_drewN | apply Kd.S_drew)); exact HO467.out) hb); have n6_ := aM (bS (bl) hb); (try clear HO_1); (try clear HO467); (try clear HB); have HO_1 := n0_; have HO467 := n4_; have HB := n6_; clear n0_ n4_ n6_; (try clear hb); obtain ⟨Ao51, co51, eo51⟩ := Kd.S_slice HO_1.out; subst eo51; have p469 : 0 ≤ (0 : Int) := (by omega); have q469 : 0 < (t449.length : Int) := of_decide_eq_true (by first | (with_reducible assumption) | assumption); obtain ⟨ad469, A469_5, c469_5, A469_7, c469_7, A469_8, c469_8, A469_10, c469_10, A469_11, c469_11, e469, hx469_0, hx469_1, hx469_2, hx469_3, hx469_4, hx469_5, hx469_6, hx469_7, hx469_8, hx469_9, hx469_10, hx469_11, hl469_5, hi469_5, hl469_7, hi469_7, hl469_8, hi469_8, hl469_10, hi469_10, hl469_11, hi469_11⟩ := at_T65 (Kd.S_reads' HO_1.out).2.2 0 p469 q469; cases e469; obtain ⟨ce469, hce469, hMe469, hcc469⟩ := Kd.S_get HO_1.out z65 0 p469 (by first | exact q469 | exact of_decide_eq_true (by first | (with_reducible assumption) | assumption) | (have e_ := (Kd.S_reads' HO_1.out).1; omega)); obtain ⟨ve469_5, ve469_7, ve469_8, ve469_10, ve469_11, rfl, ge469_5, ge469_7, ge469_8, ge469_10, ge469_11⟩ := k65_openM hMe469; have hv469_5 := hcc469 5 _ rfl; rw [add_field _ _ 5 (by omega)] at hv469_5; replace hv469_5 := Option.some.inj (hv469_5.symm.trans hx469_5); rw [hv469_5] at ge469_5; have HL469_5 := aM (show Kd.R k130 130 _ _ _ _ ((rd_T65 t449 0).f2.f2) from ge469_5); clear hv469_5 ge469_5; have hv469_7 := hcc469 7 _ rfl; rw [add_field _ _ 7 (by omega)] at hv469_7; replace hv469_7 := Option.some.inj (hv469_7.symm.trans hx469_7); rw [hv469_7] at ge469_7; have HL469_7 := aM (show Kd.R (Kd.int .i64) 3 _ _ _ _ ((rd_T65 t449 0).f3.f1) from ge469_7); clear hv469_7 ge469_7; have hv469_8 := hcc469 8 _ rfl; rw [add_field _ _ 8 (by omega)] at hv469_8; replace hv469_8 := Option.some.inj (hv469_8.symm.trans hx469_8); rw [hv469_8] at ge469_8; have HL469_8 := aM (show Kd.R k130 130 _ _ _ _ ((rd_T65 t449 0).f3.f2) from ge469_8); clear hv469_8 ge469_8; have hv469_10 := hcc469 10 _ rfl; rw [add_field _ _ 10 (by omega)] at hv469_10; replace hv469_10 := Option.some.inj (hv469_10.symm.trans hx469_10); rw [hv469_10] at ge469_10; have HL469_10 := aM (show Kd.R k63 63 _ _ _ _ ((rd_T65 t449 0).f4.f1) from ge469_10); clear hv469_10 ge469_10; have hv469_11 := hcc469 11 _ rfl; rw [add_field _ _ 11 (by omega)] at hv469_11; replace hv469_11 := Option.some.inj (hv469_11.symm.trans hx469_11); rw [hv469_11] at ge469_11; have HL469_11 := aM (show Kd.R k130 130 _ _ _ _ ((rd_T65 t449 0).f4.f2) from ge469_11); clear hv469_11 ge469_11 hcc469 hce469; have qi469 : (0 < t449.length) = True := eq_true (by omega); (try rw [show ((0 : Int)).toNat = 0 from rfl] at hx469_0); (try rw [show 0 * 12 = 0 from rfl] at hx469_0); (try rw [Addr.add_zero'] at hx469_0); (try rw [show ((0 : Int)).toNat = 0 from rfl] at hx469_1); (try rw [show 0 * 12 = 0 from rfl] at hx469_1); (try rw [Addr.add_zero'] at hx469_1); (try rw [show ((0 : Int)).toNat = 0 from rfl] at hx469_2); (try rw [show 0 * 12 = 0 from rfl] at hx469_2); (try rw [Addr.add_zero'] at hx469_2); (try rw [show ((0 : Int)).toNat = 0 from rfl] at hx469_3); (try rw [show 0 * 12 = 0 from rfl] at hx469_3); (try rw [Addr.add_zero'] at hx469_3); (try rw [show ((0 : Int)).toNat = 0 from rfl] at hx469_4); (try rw [show 0 * 12 = 0 from rfl] at hx469_4); (try rw [Addr.add_zero'] at hx469_4); (try rw [show ((0 : Int)).toNat = 0 from rfl] at hx469_5); (try rw [show 0 * 12 = 0 from rfl] at hx469_5); (try rw [Addr.add_zero'] at hx469_5); (try rw [show ((0 : Int)).toNat = 0 from rfl] at hx469_6); (try rw [show 0 * 12 = 0 from rfl] at hx469_6); (try rw [Addr.add_zero'] at hx469_6); (try rw [show ((0 : Int)).toNat = 0 from rfl] at hx469_7); (try rw [show 0 * 12 = 0 from rfl] at hx469_7); (try rw [Addr.add_zero'] at hx469_7); (try rw [show ((0 : Int)).toNat = 0 from rfl] at hx469_8); (try rw [show 0 * 12 = 0 from rfl] at hx469_8); (try rw [Addr.add_zero'] at hx469_8); (try rw [show ((0 : Int)).toNat = 0 from rfl] at hx469_9); (try rw [show 0 * 12 = 0 from rfl] at hx469_9); (try rw [Addr.add_zero'] at hx469_9); (try rw [show ((0 : Int)).toNat = 0 from rfl] at hx469_10); (try rw [show 0 * 12 = 0 from rfl] at hx469_10); (try rw [Addr.add_zero'] at hx469_10); (try rw [show ((0 : Int)).toNat = 0 from rfl] at hx469_11); (try rw [show 0 * 12 = 0 from rfl] at hx469_11); (try rw [Addr.add_zero'] at hx469_11); have HR469_5 := aM hi469_5; have HC469_5 := aM hl469_5; clear hi469_5 hl469_5; have HR469_7 := aM hi469_7; have HC469_7 := aM hl469_7; clear hi469_7 hl469_7; have HR469_8 := aM hi469_8; have HC469_8 := aM hl469_8; clear hi469_8 hl469_8; have HR469_10 := aM hi469_10; have HC469_10 := aM hl469_10; clear hi469_10 hl469_10; have HR469_11 := aM hi469_11; have HC469_11 := aM hl469_11; clear hi469_11 hl469_11; replace p469 := eq_true p469; replace q469 := eq_true q469))
         go_ret
         exact ⟨by first | rfl | (simp [errW_none, errW_some] <;> rfl) | (simp [*, errW_none, errW_some] <;> rfl), bl⟩
       ·rw [if_neg c21] at H
        exact absurd H (by simp)
      ·rw [if_neg c20] at H
       have c20b0 : (t450 == 0) = false := beq_eq_false_iff_ne.mpr c20
       have c20b1 : (t450 != 0) = true := bne_iff_ne.mpr c20
       obtain rfl := Option.some.inj H
       go_wp2_with (first | ((with_reducible refine gate_callee (f := 12) rfl ?_); refine gL (some 23) Try.func12 #[.agg #[.slice none 0 0, .slice none 0 0, .slice none 0 0]] ?_; (refine (codec_PutData.calls kj2 _ _ ([] : List (S53)) _ _ ([] : List (S56)) _ _ ([] : List (S59)) t464 _ ?side1 ?side2 ?side3 ?side4 ?side5 ?side6 A16.out).mono ?_); (case side1 => exact Kd.C_nil _ _); (case side2 => exact Nat.le_refl _); (case side3 => exact Kd.C_nil _ _); (case side4 => exact Nat.le_refl _); (case side5 => exact Kd.C_nil _ _); (case side6 => exact Nat.le_refl _); rintro e w52 ⟨rfl, hb⟩; refine ⟨_, rfl, ?_⟩; have n5_ := aM (bS (bl) hb); (try clear HO_1); (try clear HO_464000); skip; skip; (try clear BK463); (try clear HB); have HB := n5_; clear n5_; (try clear hb)) | ((with_reducible refine gate_dst (N := 28) rfl ?_); (try (refine gate_guard (by rfl) ?_; dsimp only)); refine Kd.S_lit k65 _ 65 ?hg (N := 28) ?hd (xs := ([(⟨2, 2, (⟨0, (⟨0, 0⟩ : S50), ([] : List (S130))⟩ : S53), (⟨5, ([] : List Int), ([] : List (S130))⟩ : S56), (⟨0, ([] : List (S63)), ([] : List (S130))⟩ : S59)⟩ : S65)] : List (S65))) (inner := [.int .i64 2, .int .i64 2, .int .i64 0, .int .i64 0, .int .i64 0, .slice none 0 0, .int .i64 5, .slice none 0 0, .slice none 0 0, .int .i64 0, .slice none 0 0, .slice none 0 0]) (ok := fun _ => True) (okp := fun _ => True) ?hr ?hp (fun _ hk => hk) trivial (Below.refl _ _) (Nat.le_refl _) (by simp) ?_; (case hd => rfl); (case hg => rfl); (case hr => first | (go_simp; done) | (go_simp; rfl)); (case hp => exact (Reps.front (show Kd.M k65 _ _ _ (⟨2, 2, (⟨0, (⟨0, 0⟩ : S50), ([] : List (S130))⟩ : S53), (⟨5, ([] : List Int), ([] : List (S130))⟩ : S56), (⟨0, ([] : List (S63)), ([] : List (S130))⟩ : S59)⟩ : S65) [.int .i64 2, .int .i64 2, .int .i64 0, .int .i64 0, .int .i64 0, .slice none 0 0, .int .i64 5, .slice none 0 0, .slice none 0 0, .int .i64 0, .slice none 0 0, .slice none 0 0] from (k65_mkM _ _ _ (⟨2, 2, (⟨0, (⟨0, 0⟩ : S50), ([] : List (S130))⟩ : S53), (⟨5, ([] : List Int), ([] : List (S130))⟩ : S56), (⟨0, ([] : List (S63)), ([] : List (S130))⟩ : S59)⟩ : S65) (Kd.R_nil _ _ _ _ _) (Kd.R_nil _ _ _ _ _) (Kd.R_nil _ _ _ _ _) (Kd.R_nil _ _ _ _ _) (Kd.R_nil _ _ _ _ _))) rfl (Reps.none _ _) rfl)); intro v466 w53 ho54 hb hg_ hnew_; clear hg_ hnew_; (first | rw [← Ny465.out] at ho54 | (simp only [Int.reduceToNat] at ho54; rw [← Ny465.out] at ho54)); have n4_ := aM (Kd.S_lower ho54 (below_size (bl))); have n6_ := aM (bS (bl) hb); (try clear HB); have HO467 := n4_; have HB := n6_; clear n4_ n6_ hb ho54; obtain ⟨Ao55, co55, eo55⟩ := Kd.S_slice HO467.out; subst eo55) | (go_at_call 18; (with_reducible refine (codec_PutChanges.calls kj2 _ _ y465 t468 _ ?side1 ?side2 A18.out).mono ?_); (case side1 => repeat (first | exact (Kd.S_reads' HO467.out).2.2 | (with_reducible refine cA ?_ _) | (with_reducible refine cN ?_ _) | (with_reducible refine cD ?_))); (case side2 => exact (Kd.S_reads' HO467.out).2.1); rintro e w56 ⟨rfl, hb⟩; have n4_ := aM (Kd.S_below (by (with_reducible repeat (first | apply Kd.S_alloc | apply Kd.S_drewN | apply Kd.S_drew)); exact HO467.out) hb); have n6_ := aM (bS (bl) hb); (try clear HO467); (try clear HB); have HO467 := n4_; have HB := n6_; clear n4_ n6_; (try clear hb)))
       go_ret
       exact ⟨by first | rfl | (simp [errW_none, errW_some] <;> rfl) | (simp [*, errW_none, errW_some] <;> rfl), bl⟩
     ·rw [if_neg c19] at H
      have c19b0 : (t468.toList == ([1, 4, 4, 10] : List UInt8)) = false := beq_eq_false_iff_ne.mpr c19
      have c19b1 : (t468.toList != ([1, 4, 4, 10] : List UInt8)) = true := bne_iff_ne.mpr c19
      obtain rfl := Option.some.inj H
      go_wp2_with (first | ((with_reducible refine gate_callee (f := 12) rfl ?_); refine gL (some 23) Try.func12 #[.agg #[.slice none 0 0, .slice none 0 0, .slice none 0 0]] ?_; (refine (codec_PutData.calls kj2 _ _ ([] : List (S53)) _ _ ([] : List (S56)) _ _ ([] : List (S59)) t464 _ ?side1 ?side2 ?side3 ?side4 ?side5 ?side6 A16.out).mono ?_); (case side1 => exact Kd.C_nil _ _); (case side2 => exact Nat.le_refl _); (case side3 => exact Kd.C_nil _ _); (case side4 => exact Nat.le_refl _); (case side5 => exact Kd.C_nil _ _); (case side6 => exact Nat.le_refl _); rintro e w57 ⟨rfl, hb⟩; refine ⟨_, rfl, ?_⟩; have n5_ := aM (bS (bl) hb); (try clear HO_1); (try clear HO_464000); skip; skip; (try clear BK463); (try clear HB); have HB := n5_; clear n5_; (try clear hb)) | ((with_reducible refine gate_dst (N := 28) rfl ?_); (try (refine gate_guard (by rfl) ?_; dsimp only)); refine Kd.S_lit k65 _ 65 ?hg (N := 28) ?hd (xs := ([(⟨2, 2, (⟨0, (⟨0, 0⟩ : S50), ([] : List (S130))⟩ : S53), (⟨5, ([] : List Int), ([] : List (S130))⟩ : S56), (⟨0, ([] : List (S63)), ([] : List (S130))⟩ : S59)⟩ : S65)] : List (S65))) (inner := [.int .i64 2, .int .i64 2, .int .i64 0, .int .i64 0, .int .i64 0, .slice none 0 0, .int .i64 5, .slice none 0 0, .slice none 0 0, .int .i64 0, .slice none 0 0, .slice none 0 0]) (ok := fun _ => True) (okp := fun _ => True) ?hr ?hp (fun _ hk => hk) trivial (Below.refl _ _) (Nat.le_refl _) (by simp) ?_; (case hd => rfl); (case hg => rfl); (case hr => first | (go_simp; done) | (go_simp; rfl)); (case hp => exact (Reps.front (show Kd.M k65 _ _ _ (⟨2, 2, (⟨0, (⟨0, 0⟩ : S50), ([] : List (S130))⟩ : S53), (⟨5, ([] : List Int), ([] : List (S130))⟩ : S56), (⟨0, ([] : List (S63)), ([] : List (S130))⟩ : S59)⟩ : S65) [.int .i64 2, .int .i64 2, .int .i64 0, .int .i64 0, .int .i64 0, .slice none 0 0, .int .i64 5, .slice none 0 0, .slice none 0 0, .int .i64 0, .slice none 0 0, .slice none 0 0] from (k65_mkM _ _ _ (⟨2, 2, (⟨0, (⟨0, 0⟩ : S50), ([] : List (S130))⟩ : S53), (⟨5, ([] : List Int), ([] : List (S130))⟩ : S56), (⟨0, ([] : List (S63)), ([] : List (S130))⟩ : S59)⟩ : S65) (Kd.R_nil _ _ _ _ _) (Kd.R_nil _ _ _ _ _) (Kd.R_nil _ _ _ _ _) (Kd.R_nil _ _ _ _ _) (Kd.R_nil _ _ _ _ _))) rfl (Reps.none _ _) rfl)); intro v466 w58 ho59 hb hg_ hnew_; clear hg_ hnew_; (first | rw [← Ny465.out] at ho59 | (simp only [Int.reduceToNat] at ho59; rw [← Ny465.out] at ho59)); have n4_ := aM (Kd.S_lower ho59 (below_size (bl))); have n6_ := aM (bS (bl) hb); (try clear HB); have HO467 := n4_; have HB := n6_; clear n4_ n6_ hb ho59; obtain ⟨Ao60, co60, eo60⟩ := Kd.S_slice HO467.out; subst eo60) | (go_at_call 18; (with_reducible refine (codec_PutChanges.calls kj2 _ _ y465 t468 _ ?side1 ?side2 A18.out).mono ?_); (case side1 => repeat (first | exact (Kd.S_reads' HO467.out).2.2 | (with_reducible refine cA ?_ _) | (with_reducible refine cN ?_ _) | (with_reducible refine cD ?_))); (case side2 => exact (Kd.S_reads' HO467.out).2.1); rintro e w61 ⟨rfl, hb⟩; have n4_ := aM (Kd.S_below (by (with_reducible repeat (first | apply Kd.S_alloc | apply Kd.S_drewN | apply Kd.S_drew)); exact HO467.out) hb); have n6_ := aM (bS (bl) hb); (try clear HO467); (try clear HB); have HO467 := n4_; have HB := n6_; clear n4_ n6_; (try clear hb)))
      go_ret
      exact ⟨by first | rfl | (simp [errW_none, errW_some] <;> rfl) | (simp [*, errW_none, errW_some] <;> rfl), bl⟩
    ·rw [if_neg c17] at H
     have c17b0 : (t464.toList == ([0, 0, 0] : List UInt8)) = false := beq_eq_false_iff_ne.mpr c17
     have c17b1 : (t464.toList != ([0, 0, 0] : List UInt8)) = true := bne_iff_ne.mpr c17
     obtain rfl := Option.some.inj H
     go_wp2_with (first | ((with_reducible refine gate_callee (f := 12) rfl ?_); refine gL (some 23) Try.func12 #[.agg #[.slice none 0 0, .slice none 0 0, .slice none 0 0]] ?_; (refine (codec_PutData.calls kj2 _ _ ([] : List (S53)) _ _ ([] : List (S56)) _ _ ([] : List (S59)) t464 _ ?side1 ?side2 ?side3 ?side4 ?side5 ?side6 A16.out).mono ?_); (case side1 => exact Kd.C_nil _ _); (case side2 => exact Nat.le_refl _); (case side3 => exact Kd.C_nil _ _); (case side4 => exact Nat.le_refl _); (case side5 => exact Kd.C_nil _ _); (case side6 => exact Nat.le_refl _); rintro e w62 ⟨rfl, hb⟩; refine ⟨_, rfl, ?_⟩; replace HB := aM (bS (bl) hb); clear HO_1 HO_464000 BK463; (try clear hb)))
     go_ret
     exact ⟨by first | rfl | (simp [errW_none, errW_some] <;> rfl) | (simp [*, errW_none, errW_some] <;> rfl), bl⟩
end Go.Proofs.Ytefambkodalomaa.PAll
