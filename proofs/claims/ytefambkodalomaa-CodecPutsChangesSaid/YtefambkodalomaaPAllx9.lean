-- out of a driver of this session's prover over the kit's print: Lean checks it
import Derived.Test.YtefambkodalomaaPAllx0
import Derived.Test.YtefambkodalomaaPAllx6
import Derived.Test.YtefambkodalomaaPAllx7
import Derived.Test.YtefambkodalomaaPAllx8
namespace Go.Proofs.Ytefambkodalomaa.PAll
open Go.Proofs.YtefambkodalomaaG Go.Shelf Go.Lib
open Go.RowKit Go.Proofs.YtefambkodalomaaW.PrintWords Go.Proofs.YtefambkodalomaaW.PrintLast Go.Proofs.YtefambkodalomaaW.PrintMore
attribute [local go_sem] max2_int min2_int max_two min_two max_three min_three max_four min_four   -- for this text's walks alone
set_option linter.unusedVariables false
set_option linter.unusedSimpArgs false
mutual
def codec_GetData_1.l0 : Nat → Int → Int → ByteArray → Int → Int → List (S53) → Option (Except Int ((List (S53)) × (List (S56)) × (List (S59)) × ByteArray × Int × Int))
 | 0, _, _, _, _, _, _ => none
 | k + 1, x5, x6, x1000, x1001, x1002, x265000 => if x6 < x5 then (eB (codec_reader_node.f k x1000 x1001 x1002) fun bt269 => (if x265000.length < 2932031007402 then (codec_GetData_1.l0 k x5 (wrap64 (x6 + 1)) bt269.2.2.2.2.1 bt269.2.2.2.2.2.1 bt269.2.2.2.2.2.2 (x265000 ++ [(⟨bt269.1, (⟨bt269.2.1, bt269.2.2.1⟩ : S50), bt269.2.2.2.1⟩ : S53)])) else (none))) else (eB (codec_reader_count.f k x1000 x1001 x1002 10000) fun bt281 => (codec_GetData_1.l1 k bt281.1 0 bt281.2.1 bt281.2.2.1 bt281.2.2.2 x265000 ([] : List (S56))))
def codec_GetData_1.l1 : Nat → Int → Int → ByteArray → Int → Int → List (S53) → List (S56) → Option (Except Int ((List (S53)) × (List (S56)) × (List (S59)) × ByteArray × Int × Int))
 | 0, _, _, _, _, _, _, _ => none
 | k + 1, x17, x18, x1000, x1001, x1002, x265000, x265001 => if x18 < x17 then (eB (codec_reader_way.f k x1000 x1001 x1002) fun bt285 => (if x265001.length < 2513169434916 then (codec_GetData_1.l1 k x17 (wrap64 (x18 + 1)) bt285.2.2.2.1 bt285.2.2.2.2.1 bt285.2.2.2.2.2 x265000 (x265001 ++ [(⟨bt285.1, bt285.2.1, bt285.2.2.1⟩ : S56)])) else (none))) else (eB (codec_reader_count.f k x1000 x1001 x1002 10000) fun bt298 => (codec_GetData_1.l2 k bt298.1 0 bt298.2.1 bt298.2.2.1 bt298.2.2.2 x265000 x265001 ([] : List (S59))))
def codec_GetData_1.l2 : Nat → Int → Int → ByteArray → Int → Int → List (S53) → List (S56) → List (S59) → Option (Except Int ((List (S53)) × (List (S56)) × (List (S59)) × ByteArray × Int × Int))
 | 0, _, _, _, _, _, _, _, _ => none
 | k + 1, x29, x30, x1000, x1001, x1002, x265000, x265001, x265002 => if x30 < x29 then (eB (codec_reader_rel.f k x1000 x1001 x1002) fun bt302 => (if x265002.length < 2513169434916 then (codec_GetData_1.l2 k x29 (wrap64 (x30 + 1)) bt302.2.2.2.1 bt302.2.2.2.2.1 bt302.2.2.2.2.2 x265000 x265001 (x265002 ++ [(⟨bt302.1, bt302.2.1, bt302.2.2.1⟩ : S59)])) else (none))) else (some (.ok (x265000, x265001, x265002, x1000, x1001, x1002)))
end
def codec_GetData_1.f (k : Nat) (s0_0 : ByteArray) (s0_1 : Int) (s0_2 : Int) : Option (Except Int ((List (S53)) × (List (S56)) × (List (S59)) × ByteArray × Int × Int)) := eB (codec_reader_count.f k s0_0 s0_1 s0_2 10000) fun bt265 => (codec_GetData_1.l0 k bt265.1 0 bt265.2.1 bt265.2.2.1 bt265.2.2.2 ([] : List (S53)))
theorem codec_GetData_1.mono_l : ∀ k, (∀ y0 y1 y2 y3 y4 y5, LeO (codec_GetData_1.l0 k y0 y1 y2 y3 y4 y5) (codec_GetData_1.l0 (k + 1) y0 y1 y2 y3 y4 y5)) ∧ (∀ y0 y1 y2 y3 y4 y5 y6, LeO (codec_GetData_1.l1 k y0 y1 y2 y3 y4 y5 y6) (codec_GetData_1.l1 (k + 1) y0 y1 y2 y3 y4 y5 y6)) ∧ (∀ y0 y1 y2 y3 y4 y5 y6 y7, LeO (codec_GetData_1.l2 k y0 y1 y2 y3 y4 y5 y6 y7) (codec_GetData_1.l2 (k + 1) y0 y1 y2 y3 y4 y5 y6 y7))
 | 0 => ⟨fun _ _ _ _ _ _ r h => by simp [codec_GetData_1.l0] at h, fun _ _ _ _ _ _ _ r h => by simp [codec_GetData_1.l1] at h, fun _ _ _ _ _ _ _ _ r h => by simp [codec_GetData_1.l2] at h⟩
 | k + 1 => by
  obtain ⟨ih0, ih1, ih2⟩ := codec_GetData_1.mono_l k
  refine ⟨?_, ?_, ?_⟩
  ·intro y0 y1 y2 y3 y4 y5
   unfold codec_GetData_1.l0
   repeat' first
   | (with_reducible exact ih0 _ _ _ _ _ _)
   | (with_reducible exact ih1 _ _ _ _ _ _ _)
   | (with_reducible exact ih2 _ _ _ _ _ _ _ _)
   | (with_reducible exact codec_reader_count.mono _ _ _ _ _)
   | (with_reducible exact codec_reader_node.mono _ _ _ _)
   | (with_reducible exact codec_reader_rel.mono _ _ _ _)
   | (with_reducible exact codec_reader_way.mono _ _ _ _)
   | (with_reducible exact LeO.refl _)
   | (with_reducible exact LeO.none _)
   | (with_reducible refine LeO.ite ?_ ?_)
   | (with_reducible refine LeO.eB ?_ (fun _ => ?_))
   | (with_reducible refine LeO.bind ?_ (fun _ => ?_))
   | exact ih0 _ _ _ _ _ _
   | exact ih1 _ _ _ _ _ _ _
   | exact ih2 _ _ _ _ _ _ _ _
   | exact codec_reader_count.mono _ _ _ _ _
   | exact codec_reader_node.mono _ _ _ _
   | exact codec_reader_rel.mono _ _ _ _
   | exact codec_reader_way.mono _ _ _ _
   | exact LeO.none _
   | refine LeO.ite ?_ ?_
   | refine LeO.bind ?_ (fun _ => ?_)
  ·intro y0 y1 y2 y3 y4 y5 y6
   unfold codec_GetData_1.l1
   repeat' first
   | (with_reducible exact ih0 _ _ _ _ _ _)
   | (with_reducible exact ih1 _ _ _ _ _ _ _)
   | (with_reducible exact ih2 _ _ _ _ _ _ _ _)
   | (with_reducible exact codec_reader_count.mono _ _ _ _ _)
   | (with_reducible exact codec_reader_node.mono _ _ _ _)
   | (with_reducible exact codec_reader_rel.mono _ _ _ _)
   | (with_reducible exact codec_reader_way.mono _ _ _ _)
   | (with_reducible exact LeO.refl _)
   | (with_reducible exact LeO.none _)
   | (with_reducible refine LeO.ite ?_ ?_)
   | (with_reducible refine LeO.eB ?_ (fun _ => ?_))
   | (with_reducible refine LeO.bind ?_ (fun _ => ?_))
   | exact ih0 _ _ _ _ _ _
   | exact ih1 _ _ _ _ _ _ _
   | exact ih2 _ _ _ _ _ _ _ _
   | exact codec_reader_count.mono _ _ _ _ _
   | exact codec_reader_node.mono _ _ _ _
   | exact codec_reader_rel.mono _ _ _ _
   | exact codec_reader_way.mono _ _ _ _
   | exact LeO.none _
   | refine LeO.ite ?_ ?_
   | refine LeO.bind ?_ (fun _ => ?_)
  ·intro y0 y1 y2 y3 y4 y5 y6 y7
   unfold codec_GetData_1.l2
   repeat' first
   | (with_reducible exact ih0 _ _ _ _ _ _)
   | (with_reducible exact ih1 _ _ _ _ _ _ _)
   | (with_reducible exact ih2 _ _ _ _ _ _ _ _)
   | (with_reducible exact codec_reader_count.mono _ _ _ _ _)
   | (with_reducible exact codec_reader_node.mono _ _ _ _)
   | (with_reducible exact codec_reader_rel.mono _ _ _ _)
   | (with_reducible exact codec_reader_way.mono _ _ _ _)
   | (with_reducible exact LeO.refl _)
   | (with_reducible exact LeO.none _)
   | (with_reducible refine LeO.ite ?_ ?_)
   | (with_reducible refine LeO.eB ?_ (fun _ => ?_))
   | (with_reducible refine LeO.bind ?_ (fun _ => ?_))
   | exact ih0 _ _ _ _ _ _
   | exact ih1 _ _ _ _ _ _ _
   | exact ih2 _ _ _ _ _ _ _ _
   | exact codec_reader_count.mono _ _ _ _ _
   | exact codec_reader_node.mono _ _ _ _
   | exact codec_reader_rel.mono _ _ _ _
   | exact codec_reader_way.mono _ _ _ _
   | exact LeO.none _
   | refine LeO.ite ?_ ?_
   | refine LeO.bind ?_ (fun _ => ?_)
theorem codec_GetData_1.mono : ∀ a0 a1 a2 k, LeO (codec_GetData_1.f k a0 a1 a2) (codec_GetData_1.f (k + 1) a0 a1 a2) := by
 intro a0 a1 a2 k; obtain ⟨ih0, ih1, ih2⟩ := codec_GetData_1.mono_l k; unfold codec_GetData_1.f
 repeat' first
   | (with_reducible exact ih0 _ _ _ _ _ _)
   | (with_reducible exact ih1 _ _ _ _ _ _ _)
   | (with_reducible exact ih2 _ _ _ _ _ _ _ _)
   | (with_reducible exact codec_reader_count.mono _ _ _ _ _)
   | (with_reducible exact codec_reader_node.mono _ _ _ _)
   | (with_reducible exact codec_reader_rel.mono _ _ _ _)
   | (with_reducible exact codec_reader_way.mono _ _ _ _)
   | (with_reducible exact LeO.refl _)
   | (with_reducible exact LeO.none _)
   | (with_reducible refine LeO.ite ?_ ?_)
   | (with_reducible refine LeO.eB ?_ (fun _ => ?_))
   | (with_reducible refine LeO.bind ?_ (fun _ => ?_))
   | exact ih0 _ _ _ _ _ _
   | exact ih1 _ _ _ _ _ _ _
   | exact ih2 _ _ _ _ _ _ _ _
   | exact codec_reader_count.mono _ _ _ _ _
   | exact codec_reader_node.mono _ _ _ _
   | exact codec_reader_rel.mono _ _ _ _
   | exact codec_reader_way.mono _ _ _ _
   | exact LeO.none _
   | refine LeO.ite ?_ ?_
   | refine LeO.bind ?_ (fun _ => ?_)
def codec_GetData_1.Post (w0 w : World) (g : Nat) : Except Int ((List (S53)) × (List (S56)) × (List (S59)) × ByteArray × Int × Int) → Ending → World → Prop
 | .ok (r1, r2, r3, r4, r5, r6), e, w' => ∃ v0_ v1_ v2_ : Value, e = .returned (.agg #[v0_, v1_, v2_]) ∧ Kd.S k53 53 w' w.heap.size (fun _ => True) v0_ r1 ∧ Kd.S k56 56 w' w.heap.size (fun _ => True) v1_ r2 ∧ Kd.S k59 59 w' w.heap.size (fun _ => True) v2_ r3 ∧ IsS164 w0 w' g r4 r5 r6 ∧ Below w0.heap.size w0 w' ∧ KeepBut w w' g none
 | .error xe_, e, w' => e = .panicked [{ v := .iface 139 (.int .i64 xe_), recovered := false }] ∧ Below w0.heap.size w0 w'
def codec_GetData_1.T4 : Bool × List (List Nat × List Nat) := (true, [([], []), ([0], [0]), ([], []), ([2], [2]), ([3], [3]), ([1, 4, 3], [1, 4]), ([0, 1, 2, 3, 4, 5], []), ([6, 5, 5, 0, 1, 2, 3, 4, 5], [5, 6])])
def codec_GetData_1.B4 : List Nat := [0, 1, 0, 4, 12, 31, 63, 127]
theorem codec_GetData_1.tab4 : rtab .any (opsOf Try.f36 4) = codec_GetData_1.T4 := by kernel_rfl
theorem codec_GetData_1.bits4 : waitsOk codec_GetData_1.T4.2 codec_GetData_1.B4 = true := by kernel_rfl
def codec_GetData_1.T8 : Bool × List (List Nat × List Nat) := (true, [([], []), ([0], [0]), ([], []), ([2], [2]), ([3], [3]), ([1, 4, 3], [1, 4]), ([0, 1, 2, 3, 4, 5], []), ([6, 5, 5, 0, 1, 2, 3, 4, 5], [5, 6])])
def codec_GetData_1.B8 : List Nat := [0, 1, 0, 4, 12, 31, 63, 127]
theorem codec_GetData_1.tab8 : rtab .any (opsOf Try.f36 8) = codec_GetData_1.T8 := by kernel_rfl
theorem codec_GetData_1.bits8 : waitsOk codec_GetData_1.T8.2 codec_GetData_1.B8 = true := by kernel_rfl
def codec_GetData_1.T12 : Bool × List (List Nat × List Nat) := (true, [([], []), ([0], [0]), ([], []), ([2], [2]), ([3], [3]), ([1, 4, 3], [1, 4]), ([0, 1, 2, 3, 4, 5], []), ([6, 5, 5, 0, 1, 2, 3, 4, 5], [5, 6])])
def codec_GetData_1.B12 : List Nat := [0, 1, 0, 4, 12, 31, 63, 127]
theorem codec_GetData_1.tab12 : rtab .any (opsOf Try.f36 12) = codec_GetData_1.T12 := by kernel_rfl
theorem codec_GetData_1.bits12 : waitsOk codec_GetData_1.T12.2 codec_GetData_1.B12 = true := by kernel_rfl
set_option maxHeartbeats 8000000 in
set_option maxRecDepth 100000 in
theorem codec_GetData_1.calls (k : Nat) (g : Nat) (s0_0 : ByteArray) (s0_1 : Int) (s0_2 : Int) (r : Except Int ((List (S53)) × (List (S56)) × (List (S59)) × ByteArray × Int × Int)) (w0 w : World) (hI : IsS164 w0 w g s0_0 s0_1 s0_2) (hB : Below w0.heap.size w0 w) (h : codec_GetData_1.f k s0_0 s0_1 s0_2 = some r) :
  Calls Try.prog 36 #[.agg #[.pointer (some ⟨g, 0, none⟩)]] w (codec_GetData_1.Post w0 w g r) := by
 have hu81 := Try.underlying81; have hu26 := Try.underlying26; have HI0 := aM hI; have HK := aM (KeepBut.refl w g none); have HL := aM hB.size; clear hI; have HW0 := aM hB.size; have HB := aM hB; clear hB; have H : (eB (codec_reader_count.f k s0_0 s0_1 s0_2 10000) fun bt265 => (codec_GetData_1.l0 k bt265.1 0 bt265.2.1 bt265.2.2.1 bt265.2.2.2 ([] : List (S53)))) = some r := h; clear h; rcases eB_cases H with ⟨xe_, A20, H⟩ | ⟨⟨t265, t266, t267, t268⟩, A20, H⟩
 ·subst H; have A2 := aM A20; clear A20; go_enter Try.func36, Try.ntmps36
  go_wp2_with (first | ((with_reducible refine gate_dst (N := 1) rfl ?_); refine bx (N := 1) (cs := #[.pointer (some ⟨g, 0, none⟩)]) (t := 81) ?_; intro gb262 hg w3 hbox hb; have BK262 := aM (hbox); have GW262 := aM (gk HK hg); have GE262 := aM (Nat.le_trans HW0.out (gk HK hg)); have NB0_262 := aM (ni164 HI0 hg); have NB262_0 := aM (ni164 HI0 hg).symm; replace HI0 := aM (IsS164.below (iS164 HI0) hb); replace HK := aM (kt HK hb); replace HB := aM (bS (iB164 HB) hb); clear hb hbox hg) | ((with_reducible refine gate_dst (N := 2) rfl ?_); refine bx (N := 2) (cs := #[.slice none 0 0, .slice none 0 0, .slice none 0 0]) (t := 26) ?_; intro gb263 hg w4 hbox hb; have GW263 := aM (gk HK hg); have GE263 := aM (Nat.le_trans HW0.out (gk HK hg)); obtain ⟨NB262_263, NB263_262⟩ := n2 BK262 hg; have NB0_263 := aM (ni164 HI0 hg); replace HI0 := aM (IsS164.below (iS164 HI0) hb); replace BK262 := aM (kB (kl BK262) hb); replace HK := aM (kt HK hb); replace HB := aM (bS (iB164 HB) hb); clear hb hbox hg) | ((with_reducible refine gate_dst (N := 3) rfl ?_); refine bx (N := 3) (cs := #[.slice none 0 0, .slice none 0 0, .slice none 0 0]) (t := 26) ?_; intro gb264 hg w5 hbox hb; have GE264 := aM (Nat.le_trans HW0.out (gk HK hg)); obtain ⟨NB262_264, NB264_262⟩ := n2 BK262 hg; have NB0_264 := aM (ni164 HI0 hg); replace HI0 := aM (IsS164.below (iS164 HI0) hb); replace BK262 := aM (kB (kl BK262) hb); replace HK := aM (kt HK hb); replace HB := aM (bS (iB164 HB) hb); clear hb hbox hg; have hn6 := nn NB262_263; have hn7 := nn NB262_264; have hn8 := nn NB262_0; have hz9 := bc1 BK262) | (go_at_call 37; (with_reducible refine (codec_reader_count.calls k g s0_0 s0_1 s0_2 10000 (.error xe_) w0 _ (iS164 HI0) (iB164 HB) A2.out).mono ?_); rintro e w10 ⟨rfl, hb⟩))
  (first | exact ⟨rfl, rfl, hb⟩ | exact ⟨rfl, hb⟩ | (go_simp; exact ⟨rfl, hb⟩) | (simp; exact ⟨rfl, hb⟩))
 ·replace H : (codec_GetData_1.l0 k t265 0 t266 t267 t268 ([] : List (S53))) = some r := H; have A2 := aM A20; clear A20; have H' := aM H; clear H; go_enter Try.func36, Try.ntmps36
  go_wp2_with (first | ((with_reducible refine gate_dst (N := 1) rfl ?_); refine bx (N := 1) (cs := #[.pointer (some ⟨g, 0, none⟩)]) (t := 81) ?_; intro gb262 hg w11 hbox hb; have BK262 := aM (hbox); have GW262 := aM (gk HK hg); have GE262 := aM (Nat.le_trans HW0.out (gk HK hg)); have NB0_262 := aM (ni164 HI0 hg); have NB262_0 := aM (ni164 HI0 hg).symm; replace HI0 := aM (IsS164.below (iS164 HI0) hb); replace HK := aM (kt HK hb); replace HB := aM (bS (iB164 HB) hb); clear hb hbox hg) | ((with_reducible refine gate_dst (N := 2) rfl ?_); refine bx (N := 2) (cs := #[.slice none 0 0, .slice none 0 0, .slice none 0 0]) (t := 26) ?_; intro gb263 hg w12 hbox hb; have BK263 := aM (hbox); have GW263 := aM (gk HK hg); have GE263 := aM (Nat.le_trans HW0.out (gk HK hg)); obtain ⟨NB262_263, NB263_262⟩ := n2 BK262 hg; have NB0_263 := aM (ni164 HI0 hg); have NB263_0 := aM (ni164 HI0 hg).symm; replace HI0 := aM (IsS164.below (iS164 HI0) hb); replace BK262 := aM (kB (kl BK262) hb); replace HK := aM (kt HK hb); replace HB := aM (bS (iB164 HB) hb); clear hb hbox hg) | ((with_reducible refine gate_dst (N := 3) rfl ?_); refine bx (N := 3) (cs := #[.slice none 0 0, .slice none 0 0, .slice none 0 0]) (t := 26) ?_; intro gb264 hg w13 hbox hb; have BK264 := aM (hbox); have GW264 := aM (gk HK hg); have GE264 := aM (Nat.le_trans HW0.out (gk HK hg)); obtain ⟨NB262_264, NB264_262⟩ := n2 BK262 hg; obtain ⟨NB263_264, NB264_263⟩ := n2 BK263 hg; have NB0_264 := aM (ni164 HI0 hg); have NB264_0 := aM (ni164 HI0 hg).symm; replace HI0 := aM (IsS164.below (iS164 HI0) hb); replace BK262 := aM (kB (kl BK262) hb); replace BK263 := aM (kB (kl BK263) hb); replace HK := aM (kt HK hb); replace HB := aM (bS (iB164 HB) hb); clear hb hbox hg; have hn14 := nn NB262_263; have hn15 := nn NB262_264; have hn16 := nn NB262_0; have hz17 := bc1 BK262) | ((with_reducible refine gate_callee (f := 37) rfl ?_); refine gL (some 5) Try.func37 #[.agg #[.pointer (some ⟨g, 0, none⟩)], .int .i64 10000] ?_; (with_reducible refine (codec_reader_count.calls k g s0_0 s0_1 s0_2 10000 (.ok (t265, t266, t267, t268)) w0 _ (iS164 HI0) (iB164 HB) A2.out).mono ?_); rintro e w18 ⟨rfl, hi, hb, hk⟩; refine ⟨_, rfl, ?_⟩; replace BK262 := aM (k0 hk BK262 NB262_0); replace BK263 := aM (k0 hk BK263 NB263_0); replace BK264 := aM (k0 hk BK264 NB264_0); replace HK := aM (ku HK hk); replace HB := aM (hb); replace HI0 := aM (hi); (try clear hb); (try clear hk); (try clear hi)))
  go_loopg [6] k (fun kq v6 w' => ∃ (x6_1 : Int) (x1000_1 : ByteArray) (x1001_1 : Int) (x1002_1 : Int) (x265000_1 : List (S53)) (u265000 : Value), v6 = .int .i64 x6_1 ∧ Aside0 (codec_GetData_1.l0 kq t265 x6_1 x1000_1 x1001_1 x1002_1 x265000_1 = some r) ∧ Aside0 (kq ≤ k) ∧ Aside0 (Kd.S k53 53 w' w.heap.size (fun _ => True) u265000 x265000_1) ∧ Aside0 (w'.heap[gb262]? = some (.cells #[.pointer (some ⟨g, 0, none⟩)] 81 (0, 0))) ∧ Aside0 (w'.heap[gb263]? = some (.cells #[(.slice none 0 0), (.slice none 0 0), (.slice none 0 0)] 26 (0, 0))) ∧ Aside0 (w'.heap[gb264]? = some (.cells #[u265000, (.slice none 0 0), (.slice none 0 0)] 26 (0, 0))) ∧ Aside0 (IsS164 w0 w' g x1000_1 x1001_1 x1002_1) ∧ Aside0 (KeepBut w w' g none) ∧ Aside0 (Below w0.heap.size w0 w'))
  case atStart => exact ⟨(0), (t266), (t267), (t268), (([] : List (S53))), (.slice none 0 0), (by first | rfl | (simp; done) | (simp [*]; done)), H', ⟨Nat.le_refl _⟩, ⟨by first | exact Kd.S_nil _ _ _ _ _ | exact Kd.N_nil _ _ _ _ _ | exact Kd.V_nil _ _ _ _ _ | exact Kd.Q_nil _ _ _ _ _ | exact Kd.R_nil _ _ _ _ _⟩, ⟨kl BK262⟩, ⟨kl BK263⟩, ⟨kl BK264⟩, ⟨iS164 HI0⟩, ⟨kp HK⟩, ⟨iB164 HB⟩⟩
  case round =>
   clear H'; (try clear hz17); (try clear hz9); obtain ⟨x6_1, x1000_1, x1001_1, x1002_1, x265000_1, u265000, rfl, HA, HK1, HO_265000, BK262, BK263, BK264, HI0, HK, HB⟩ := hrel
   cases gk with
   | zero => exact absurd HA.out (by simp [codec_GetData_1.l0])
   | succ k1 =>
    have H := HA.out; clear HA; simp only [codec_GetData_1.l0] at H
    by_cases c19 : x6_1 < t265
    ·rw [if_pos c19] at H; have c19b0 : decide (x6_1 < t265) = true := decide_eq_true c19; clear c19; rcases eB_cases H with ⟨xe_, A200, H⟩ | ⟨⟨t269, t270, t271, t272, t275, t276, t277⟩, A200, H⟩
     ·subst H; have A20 := aM A200; clear A200
      go_wp2
      replace BK262 := aM (kD BK262.out); replace BK264 := aM (kD BK264.out); replace HI0 := aM (IsS164.drew HI0.out); replace HB := aM (bD HB.out); clear HO_265000 BK263 HK; refine start_ (n := 8) (S := fun w' => w'.cell? ⟨gb264, 0, none⟩ = some (u265000) ∧ w'.cell? ⟨gb264, 1, none⟩ = some (.slice none 0 0) ∧ w'.cell? ⟨gb264, 2, none⟩ = some (.slice none 0 0) ∧ w'.cell? ⟨gb262, 0, none⟩ = some (.pointer (some ⟨g, 0, none⟩))) (ds := [7]) #[false, false, false, false, false, false, false, false] (by kernel_rfl) rfl rfl ⟨(kC BK264.out 0).trans rfl, (kC BK264.out 1).trans rfl, (kC BK264.out 2).trans rfl, (kC BK262.out 0).trans rfl⟩ (fun hHeld => ?_); refine with_tabW codec_GetData_1.tab4 codec_GetData_1.bits4 (fun HT_ HW_ => ?_); generalize wr.drew = w22 at BK262 BK264 HI0 HB hHeld ⊢; refine pu 0 8 (ba 8 1) ?_; refine tk 1 9 (ba 8 3) ?_; refine tk 2 10 (ba 8 7) ?_; refine one_ (i := 3) (N := some 11) (ba 8 15) rfl rfl (one_of HT_.out (by kernel_rfl)) (by decide) (fun K hK => ?_); refine goesP_ Try.func38 (by kernel_rfl) rfl #[.agg #[.pointer (some ⟨g, 0, none⟩)]] (by rfl) rfl rfl (by (try simp only [List.map_toArray, List.map_cons, List.map_nil]); first | done | rfl | (simp only [List.length_drop, List.length_take]; rfl)) ?_
      with_reducible refine (codec_reader_node.calls k1 g x1000_1 x1001_1 x1002_1 (.error xe_) w0 _ ?side1 ?side2 A20.out).mono ?_
      (case side1 => repeat (first | (with_reducible first | exact HI0.out | apply IsS164.alloc | apply IsS164.drewN | apply IsS164.drew | apply IsS164.set_0 | apply IsS164.set_1 | apply IsS164.set_2 | refine IsS164.far ?_ NB0_262.out _ | refine IsS164.far ?_ NB0_263.out _ | refine IsS164.far ?_ NB0_264.out _) | exact HI0.out))
      (case side2 => repeat (first | (with_reducible first | exact HB.out | apply bA | apply bN | apply bD | refine bT ?_ (IsS164.ge HI0.out) | refine bT ?_ GE262.out | refine bT ?_ GE263.out | refine bT ?_ GE264.out) | exact HB.out))
      rintro e wP_ ⟨rfl, hb⟩; refine ⟨_, rfl, ?_⟩
      (first | exact ⟨rfl, rfl, hb⟩ | exact ⟨rfl, hb⟩ | (go_simp; exact ⟨rfl, hb⟩) | (simp; exact ⟨rfl, hb⟩))
     ·replace H : (if x265000_1.length < 2932031007402 then (codec_GetData_1.l0 k1 t265 (wrap64 (x6_1 + 1)) t275 t276 t277 (x265000_1 ++ [(⟨t269, (⟨t270, t271⟩ : S50), t272⟩ : S53)])) else (none)) = some r := H; have A20 := aM A200; clear A200
      by_cases c28 : x265000_1.length < 2932031007402
      ·rw [if_pos c28] at H; have LMc28 := aM c28; clear c28; obtain ⟨y278, hy278⟩ : ∃ y_ : List (S53), y_ = (x265000_1 ++ [(⟨t269, (⟨t270, t271⟩ : S50), t272⟩ : S53)]) := ⟨_, rfl⟩; replace H : (codec_GetData_1.l0 k1 t265 (wrap64 (x6_1 + 1)) t275 t276 t277 y278) = some r := by first | (rw [hy278]; with_reducible exact H) | (have H2_ := (Option.bind_some _ _).symm.trans H; rw [hy278]; with_reducible exact H2_) | (have H2_ := (Option.bind_some _ _).symm.trans H; with_reducible exact H2_) | with_reducible exact H | (rw [hy278]; exact H) | exact H
       have Ny278 := aM hy278; clear hy278; have H' := aM H; clear H
       try go_wp2
       replace HO_265000 := aM (Kd.S_drew HO_265000.out); replace BK262 := aM (kD BK262.out); replace BK263 := aM (kD BK263.out); replace BK264 := aM (kD BK264.out); replace HI0 := aM (IsS164.drew HI0.out); replace HK := aM (keep_drew HK.out); replace HB := aM (bD HB.out); refine start_ (n := 8) (S := fun w' => w'.cell? ⟨gb264, 0, none⟩ = some (u265000) ∧ w'.cell? ⟨gb264, 1, none⟩ = some (.slice none 0 0) ∧ w'.cell? ⟨gb264, 2, none⟩ = some (.slice none 0 0) ∧ w'.cell? ⟨gb262, 0, none⟩ = some (.pointer (some ⟨g, 0, none⟩))) (ds := [7]) #[false, false, false, false, false, false, false, false] (by kernel_rfl) rfl rfl ⟨(kC BK264.out 0).trans rfl, (kC BK264.out 1).trans rfl, (kC BK264.out 2).trans rfl, (kC BK262.out 0).trans rfl⟩ (fun hHeld => ?_); refine with_tabW codec_GetData_1.tab4 codec_GetData_1.bits4 (fun HT_ HW_ => ?_); generalize wr.drew = w29 at HO_265000 BK262 BK263 BK264 HI0 HK HB hHeld ⊢; refine pu 0 8 (ba 8 1) ?_; refine tk 1 9 (ba 8 3) ?_; refine tk 2 10 (ba 8 7) ?_; refine one_ (i := 3) (N := some 11) (ba 8 15) rfl rfl (one_of HT_.out (by kernel_rfl)) (by decide) (fun K hK => ?_); refine goes_ Try.func38 (by kernel_rfl) rfl #[.agg #[.pointer (some ⟨g, 0, none⟩)]] (by rfl) rfl rfl (by (try simp only [List.map_toArray, List.map_cons, List.map_nil]); first | done | rfl | (simp only [List.length_drop, List.length_take]; rfl)) ?_
       with_reducible refine (codec_reader_node.calls k1 g x1000_1 x1001_1 x1002_1 (.ok (t269, t270, t271, t272, t275, t276, t277)) w0 _ ?side1 ?side2 A20.out).mono ?_
       (case side1 => repeat (first | (with_reducible first | exact HI0.out | apply IsS164.alloc | apply IsS164.drewN | apply IsS164.drew | apply IsS164.set_0 | apply IsS164.set_1 | apply IsS164.set_2 | refine IsS164.far ?_ NB0_262.out _ | refine IsS164.far ?_ NB0_263.out _ | refine IsS164.far ?_ NB0_264.out _) | exact HI0.out))
       (case side2 => repeat (first | (with_reducible first | exact HB.out | apply bA | apply bN | apply bD | refine bT ?_ (IsS164.ge HI0.out) | refine bT ?_ GE262.out | refine bT ?_ GE263.out | refine bT ?_ GE264.out) | exact HB.out))
       rintro e w30 ⟨v273, rfl, ho0, hi, hb, hk⟩; refine ⟨_, rfl, ?_⟩; replace HO_265000 := aM (Kd.S_mono (Kd.S_told (Kd.S_oldK (IsS164.apartS (show IsS164 w0 _ g x1000_1 x1001_1 x1002_1 from iS164 HI0) (by (with_reducible repeat (first | apply Kd.S_alloc | apply Kd.S_drewN | apply Kd.S_drew)); exact HO_265000.out) (by decide)) hk) (Kd.R_base ho0)) (fun _ h_ => h_.1)); replace BK262 := aM (k0 hk BK262 NB262_0); replace BK263 := aM (k0 hk BK263 NB263_0); replace BK264 := aM (k0 hk BK264 NB264_0); have HO274 := aM (Kd.R_lower ho0 (keep_size (w := w) (g := g) (row := none) (kp HK))); replace HK := aM (ku HK hk); replace HB := aM (hb); replace HI0 := aM (hi)
       (try clear hb)
       (try clear hb2)
       (try clear hk)
       (try clear hi)
       (try clear ho0)
       obtain ⟨Ao32, co32, eo32⟩ := Kd.R_slice HO274.out
       (first | subst eo32 | (injection eo32 with f1_ f2_ f3_; have f4_ := f1_.symm; have f5_ := f3_.symm; clear f1_ f2_ f3_; subst f4_; subst f5_))
       refine hK.out _ _ ⟨(kC BK264.out 0).trans rfl, (kC BK264.out 1).trans rfl, (kC BK264.out 2).trans rfl, (kC BK262.out 0).trans rfl⟩ (fun hHeld => ?_); clear hK K; refine norm_ (a' := ?_) ?_ ?_; rotate_left
       ·show Act.put _ (some 11) _ = _
        simp only [Act.put, sA, sB, sC, i64_w, i32_w]; rfl
       refine one_ (i := 4) (N := some 12) (ba 8 31) rfl rfl (one_of HT_.out (by kernel_rfl)) (by decide) (fun K hK => ?_); refine value_ (w1 := ?_) (v := ?_) (by rfl) rfl ?_ ?_; rotate_left 2
       ·go_simp
        constructor
        ·rfl
        ·rfl
       refine hK.out _ _ ⟨(kC (kA BK264.out _) 0).trans rfl, (kC (kA BK264.out _) 1).trans rfl, (kC (kA BK264.out _) 2).trans rfl, (kC (kA BK262.out _) 0).trans rfl⟩ (fun hHeld => ?_); clear hK K; refine norm_ (a' := ?_) ?_ ?_; rotate_left
       ·show Act.put _ (some 12) _ = _
        simp only [Act.put, sA, sB, sC, i64_w, i32_w]; rfl
       refine one_ (i := 5) (N := some 13) (ba 8 63) rfl rfl (one_of HT_.out (by kernel_rfl)) (by decide) (fun K hK => ?_); refine Kd.S_append_step k53 w.heap.size (by rfl) (.tmp 9) (.tmp 12) 22 53 (.agg #[(.int .i64 0), (.int .i64 0), (.int .i64 0), (.slice none 0 0)]) 48 rfl Try.underlying22 info53 rfl (by decide) (by omega) u265000 x265000_1 (⟨t269, (⟨t270, t271⟩ : S50), t272⟩ : S53) [.int .i64 t269, .int .i64 t270, .int .i64 t271, .slice Ao32 t272.length co32] (fun _ => True) (fun k_ => some k_ = (.slice Ao32 t272.length co32 : Value).ownBlock) rfl rfl ?aP (fun k_ hk_ => ((rM (ok' := fun k_ => ((fun _ => True)) k_ ∧ some k_ ≠ (u265000 : Value).ownBlock) (Kd.R_apart' (HO274.out) (Kd.S_typed HO_265000.out) (by decide)) (fun k_ hk => ⟨trivial, hk.2⟩))).1 k_ hk_.symm) ?aF ?aO (Below.refl _ _) ?aS ?aL ?_
       (case aP => exact k53_mkM _ _ _ (⟨t269, (⟨t270, t271⟩ : S50), t272⟩ : S53) (rM (Kd.R_tight rfl (rM (ok' := fun k_ => ((fun _ => True)) k_ ∧ some k_ ≠ (u265000 : Value).ownBlock) (Kd.R_apart' (HO274.out) (Kd.S_typed HO_265000.out) (by decide)) (fun k_ hk => ⟨trivial, hk.2⟩))) (fun _ h_ => h_)))
       (case aF => exact (fun _ _ => trivial))
       (case aO => exact (by (with_reducible repeat (first | apply Kd.S_alloc | apply Kd.S_drewN | apply Kd.S_drew)); exact Kd.S_mono HO_265000.out (fun k_ hk => ⟨trivial, fun e_ => hk.2 e_⟩)))
       (case aS => exact (keep_size (w := w) (g := g) (row := none) (kp HK)))
       (case aL => have := LMc28.out; omega)
       intro v279 w31 ho hb hg hat; rw [← Ny278.out] at ho; have HO280 := aM (ho); replace BK262 := aM (blk_grown (kl BK262) hg (Kd.S_ne HO_265000.out BK262.out (by decide))); replace BK263 := aM (blk_grown (kl BK263) hg (Kd.S_ne HO_265000.out BK263.out (by decide))); replace BK264 := aM (blk_grown (kl BK264) hg (Kd.S_ne HO_265000.out BK264.out (by decide))); replace HI0 := aM (IsS164.grown (show IsS164 w0 _ g t275 t276 t277 from iS164 HI0) hg (IsS164.own_neS HI0.out HO_265000.out (by decide))); replace HK := aM (KeepBut.trans (kp HK) (KeepBut.of_grown hg g) (Kd.S_base2 HO_265000.out)); replace HB := aM (below_weaken (iB164 HB) HL.out hb); clear HO_265000 HO274 ho hb hg hat; obtain ⟨Ao33, co33, eo33⟩ := Kd.S_slice HO280.out
       (first | subst eo33 | (injection eo33 with f1_ f2_ f3_; have f4_ := f1_.symm; have f5_ := f3_.symm; clear f1_ f2_ f3_; subst f4_; subst f5_))
       refine hK.out _ _ ⟨(kC BK264.out 0).trans rfl, (kC BK264.out 1).trans rfl, (kC BK264.out 2).trans rfl, (kC BK262.out 0).trans rfl⟩ (fun hHeld => ?_); clear hK K; refine norm_ (a' := ?_) ?_ ?_; rotate_left
       ·show Act.put _ (some 13) _ = _
        simp only [Act.put, sA, sB, sC, i64_w, i32_w]; rfl
       refine pu 6 14 (ba 8 127) ?_; refine last_ (i := 7) (N := none) (ba 8 255) rfl rfl (one_of HT_.out (by kernel_rfl)) (by decide) (fun K hK => ?_); have hs34 : w31.cell? ⟨gb264, 0, none⟩ = some (u265000) := (kC BK264.out 0).trans rfl; have hfs34 := kF BK264.out 0; have hns34_0 := NB262_264.out; have hns34_1 := NB263_264.out; have hms34_0 := NB264_262.out; have hms34_1 := NB264_263.out; refine skip_ (w1 := ?_) (by rfl) rfl ?_ ?_; rotate_left
       ·go_simp; rfl
       refine hK.out _ _ ?_; clear hK K; refine done_ (done_of HT_.out (by kernel_rfl)) ?_
       try go_wp2
       go_roundg k1
       case measure => have := HK1.out; omega
       case rel => exact ⟨(wrap64 (x6_1 + 1)), (t275), (t276), (t277), (y278), (.slice Ao33 y278.length co33), (by first | rfl | (simp; done) | (simp [*]; done)), H', ⟨by have := HK1.out; omega⟩, ⟨by (with_reducible repeat (first | apply Kd.S_alloc | apply Kd.S_drewN | apply Kd.S_drew)); exact Kd.S_mono (sf1 (st HO280.out BK264)) (fun _ hk => trivial)⟩, ⟨bk BK262⟩, ⟨bk BK263⟩, ⟨bk BK264⟩, ⟨iS164 HI0⟩, ⟨kp HK⟩, ⟨iB164 HB⟩⟩
      ·rw [if_neg c28] at H; exact absurd H (by simp)
    ·rw [if_neg c19] at H; have c19b0 : decide (x6_1 < t265) = false := decide_eq_false c19; clear c19; rcases eB_cases H with ⟨xe_, A350, H⟩ | ⟨⟨t281, t282, t283, t284⟩, A350, H⟩
     ·subst H; have A35 := aM A350; clear A350; have hn36 := nn NB262_263; have hn37 := nn NB262_264; have hn38 := nn NB262_0; have hz39 := bc1 BK262
      go_wp2_with (first | (go_at_call 37; (with_reducible refine (codec_reader_count.calls k1 g x1000_1 x1001_1 x1002_1 10000 (.error xe_) w0 _ (iS164 HI0) (iB164 HB) A35.out).mono ?_); rintro e w40 ⟨rfl, hb⟩))
      (first | exact ⟨rfl, rfl, hb⟩ | exact ⟨rfl, hb⟩ | (go_simp; exact ⟨rfl, hb⟩) | (simp; exact ⟨rfl, hb⟩))
     ·replace H : (codec_GetData_1.l1 k1 t281 0 t282 t283 t284 x265000_1 ([] : List (S56))) = some r := H; have A35 := aM A350; clear A350; have H' := aM H; clear H; have hn41 := nn NB262_263; have hn42 := nn NB262_264; have hn43 := nn NB262_0; have hz44 := bc1 BK262
      go_wp2_with (first | ((with_reducible refine gate_callee (f := 37) rfl ?_); refine gL (some 17) Try.func37 #[.agg #[.pointer (some ⟨g, 0, none⟩)], .int .i64 10000] ?_; (with_reducible refine (codec_reader_count.calls k1 g x1000_1 x1001_1 x1002_1 10000 (.ok (t281, t282, t283, t284)) w0 _ (iS164 HI0) (iB164 HB) A35.out).mono ?_); rintro e w45 ⟨rfl, hi, hb, hk⟩; refine ⟨_, rfl, ?_⟩; replace HO_265000 := aM (Kd.S_mono (Kd.S_keep (IsS164.apartS (show IsS164 w0 _ g x1000_1 x1001_1 x1002_1 from iS164 HI0) (by (with_reducible repeat (first | apply Kd.S_alloc | apply Kd.S_drewN | apply Kd.S_drew)); exact HO_265000.out) (by decide)) hk (fun _ h => h.2)) (fun _ h => h.1)); replace BK262 := aM (k0 hk BK262 NB262_0); replace BK263 := aM (k0 hk BK263 NB263_0); replace BK264 := aM (k0 hk BK264 NB264_0); replace HK := aM (ku HK hk); replace HB := aM (hb); replace HI0 := aM (hi); (try clear hb); (try clear hk); (try clear hi)))
      go_loopg [18] k1 (fun kq v18 w' => ∃ (x18_2 : Int) (x1000_2 : ByteArray) (x1001_2 : Int) (x1002_2 : Int) (x265001_2 : List (S56)) (u265001 : Value), v18 = .int .i64 x18_2 ∧ Aside0 (codec_GetData_1.l1 kq t281 x18_2 x1000_2 x1001_2 x1002_2 x265000_1 x265001_2 = some r) ∧ Aside0 (kq ≤ k1) ∧ Aside0 (Kd.S k53 53 w' w.heap.size (fun _ => True) u265000 x265000_1) ∧ Aside0 (Kd.S k56 56 w' w.heap.size (fun _ => True) u265001 x265001_2) ∧ Aside0 (w'.heap[gb262]? = some (.cells #[.pointer (some ⟨g, 0, none⟩)] 81 (0, 0))) ∧ Aside0 (w'.heap[gb263]? = some (.cells #[(.slice none 0 0), (.slice none 0 0), (.slice none 0 0)] 26 (0, 0))) ∧ Aside0 (w'.heap[gb264]? = some (.cells #[u265000, u265001, (.slice none 0 0)] 26 (0, 0))) ∧ Aside0 (IsS164 w0 w' g x1000_2 x1001_2 x1002_2) ∧ Aside0 (KeepBut w w' g none) ∧ Aside0 (Below w0.heap.size w0 w'))
      case atStart => exact ⟨(0), (t282), (t283), (t284), (([] : List (S56))), (.slice none 0 0), (by first | rfl | (simp; done) | (simp [*]; done)), H', ⟨Nat.le_refl _⟩, ⟨by (with_reducible repeat (first | apply Kd.S_alloc | apply Kd.S_drewN | apply Kd.S_drew)); exact HO_265000.out⟩, ⟨by first | exact Kd.S_nil _ _ _ _ _ | exact Kd.N_nil _ _ _ _ _ | exact Kd.V_nil _ _ _ _ _ | exact Kd.Q_nil _ _ _ _ _ | exact Kd.R_nil _ _ _ _ _⟩, ⟨kl BK262⟩, ⟨kl BK263⟩, ⟨kl BK264⟩, ⟨iS164 HI0⟩, ⟨kp HK⟩, ⟨iB164 HB⟩⟩
      case round =>
       clear H'; (try clear c19); (try clear c19b0); (try clear c28); (try clear hz17); (try clear hz39); (try clear hz44); (try clear hz9); obtain ⟨x18_2, x1000_2, x1001_2, x1002_2, x265001_2, u265001, rfl, HA, HK2, HO_265000, HO_265001, BK262, BK263, BK264, HI0, HK, HB⟩ := hrel
       cases gk with
       | zero => exact absurd HA.out (by simp [codec_GetData_1.l1])
       | succ k2 =>
        have H := HA.out; clear HA; simp only [codec_GetData_1.l1] at H
        by_cases c46 : x18_2 < t281
        ·rw [if_pos c46] at H; have c46b0 : decide (x18_2 < t281) = true := decide_eq_true c46; clear c46; rcases eB_cases H with ⟨xe_, A470, H⟩ | ⟨⟨t285, t286, t289, t292, t293, t294⟩, A470, H⟩
         ·subst H; have A47 := aM A470; clear A470
          go_wp2
          replace BK262 := aM (kD BK262.out); replace BK264 := aM (kD BK264.out); replace HI0 := aM (IsS164.drew HI0.out); replace HB := aM (bD HB.out); clear HO_265000 HO_265001 BK263 HK; refine start_ (n := 8) (S := fun w' => w'.cell? ⟨gb264, 0, none⟩ = some (u265000) ∧ w'.cell? ⟨gb264, 1, none⟩ = some (u265001) ∧ w'.cell? ⟨gb264, 2, none⟩ = some (.slice none 0 0) ∧ w'.cell? ⟨gb262, 0, none⟩ = some (.pointer (some ⟨g, 0, none⟩))) (ds := [7]) #[false, false, false, false, false, false, false, false] (by kernel_rfl) rfl rfl ⟨(kC BK264.out 0).trans rfl, (kC BK264.out 1).trans rfl, (kC BK264.out 2).trans rfl, (kC BK262.out 0).trans rfl⟩ (fun hHeld => ?_); refine with_tabW codec_GetData_1.tab8 codec_GetData_1.bits8 (fun HT_ HW_ => ?_); generalize wr.drew = w49 at BK262 BK264 HI0 HB hHeld ⊢; refine pu 0 20 (ba 8 1) ?_; refine tk 1 21 (ba 8 3) ?_; refine tk 2 22 (ba 8 7) ?_; refine one_ (i := 3) (N := some 23) (ba 8 15) rfl rfl (one_of HT_.out (by kernel_rfl)) (by decide) (fun K hK => ?_); refine goesP_ Try.func39 (by kernel_rfl) rfl #[.agg #[.pointer (some ⟨g, 0, none⟩)]] (by rfl) rfl rfl (by (try simp only [List.map_toArray, List.map_cons, List.map_nil]); first | done | rfl | (simp only [List.length_drop, List.length_take]; rfl)) ?_
          with_reducible refine (codec_reader_way.calls k2 g x1000_2 x1001_2 x1002_2 (.error xe_) w0 _ ?side1 ?side2 A47.out).mono ?_
          (case side1 => repeat (first | (with_reducible first | exact HI0.out | apply IsS164.alloc | apply IsS164.drewN | apply IsS164.drew | apply IsS164.set_0 | apply IsS164.set_1 | apply IsS164.set_2 | refine IsS164.far ?_ NB0_262.out _ | refine IsS164.far ?_ NB0_263.out _ | refine IsS164.far ?_ NB0_264.out _) | exact HI0.out))
          (case side2 => repeat (first | (with_reducible first | exact HB.out | apply bA | apply bN | apply bD | refine bT ?_ (IsS164.ge HI0.out) | refine bT ?_ GE262.out | refine bT ?_ GE263.out | refine bT ?_ GE264.out) | exact HB.out))
          rintro e wP_ ⟨rfl, hb⟩; refine ⟨_, rfl, ?_⟩
          (first | exact ⟨rfl, rfl, hb⟩ | exact ⟨rfl, hb⟩ | (go_simp; exact ⟨rfl, hb⟩) | (simp; exact ⟨rfl, hb⟩))
         ·replace H : (if x265001_2.length < 2513169434916 then (codec_GetData_1.l1 k2 t281 (wrap64 (x18_2 + 1)) t292 t293 t294 x265000_1 (x265001_2 ++ [(⟨t285, t286, t289⟩ : S56)])) else (none)) = some r := H; have A47 := aM A470; clear A470
          by_cases c56 : x265001_2.length < 2513169434916
          ·rw [if_pos c56] at H; have LMc56 := aM c56; clear c56; obtain ⟨y295, hy295⟩ : ∃ y_ : List (S56), y_ = (x265001_2 ++ [(⟨t285, t286, t289⟩ : S56)]) := ⟨_, rfl⟩; replace H : (codec_GetData_1.l1 k2 t281 (wrap64 (x18_2 + 1)) t292 t293 t294 x265000_1 y295) = some r := by first | (rw [hy295]; with_reducible exact H) | (have H2_ := (Option.bind_some _ _).symm.trans H; rw [hy295]; with_reducible exact H2_) | (have H2_ := (Option.bind_some _ _).symm.trans H; with_reducible exact H2_) | with_reducible exact H | (rw [hy295]; exact H) | exact H
           have Ny295 := aM hy295; clear hy295; have H' := aM H; clear H
           try go_wp2
           replace HO_265000 := aM (Kd.S_drew HO_265000.out); replace HO_265001 := aM (Kd.S_drew HO_265001.out); replace BK262 := aM (kD BK262.out); replace BK263 := aM (kD BK263.out); replace BK264 := aM (kD BK264.out); replace HI0 := aM (IsS164.drew HI0.out); replace HK := aM (keep_drew HK.out); replace HB := aM (bD HB.out); refine start_ (n := 8) (S := fun w' => w'.cell? ⟨gb264, 0, none⟩ = some (u265000) ∧ w'.cell? ⟨gb264, 1, none⟩ = some (u265001) ∧ w'.cell? ⟨gb264, 2, none⟩ = some (.slice none 0 0) ∧ w'.cell? ⟨gb262, 0, none⟩ = some (.pointer (some ⟨g, 0, none⟩))) (ds := [7]) #[false, false, false, false, false, false, false, false] (by kernel_rfl) rfl rfl ⟨(kC BK264.out 0).trans rfl, (kC BK264.out 1).trans rfl, (kC BK264.out 2).trans rfl, (kC BK262.out 0).trans rfl⟩ (fun hHeld => ?_); refine with_tabW codec_GetData_1.tab8 codec_GetData_1.bits8 (fun HT_ HW_ => ?_); generalize wr.drew = w57 at HO_265000 HO_265001 BK262 BK263 BK264 HI0 HK HB hHeld ⊢; refine pu 0 20 (ba 8 1) ?_; refine tk 1 21 (ba 8 3) ?_; refine tk 2 22 (ba 8 7) ?_; refine one_ (i := 3) (N := some 23) (ba 8 15) rfl rfl (one_of HT_.out (by kernel_rfl)) (by decide) (fun K hK => ?_); refine goes_ Try.func39 (by kernel_rfl) rfl #[.agg #[.pointer (some ⟨g, 0, none⟩)]] (by rfl) rfl rfl (by (try simp only [List.map_toArray, List.map_cons, List.map_nil]); first | done | rfl | (simp only [List.length_drop, List.length_take]; rfl)) ?_
           with_reducible refine (codec_reader_way.calls k2 g x1000_2 x1001_2 x1002_2 (.ok (t285, t286, t289, t292, t293, t294)) w0 _ ?side1 ?side2 A47.out).mono ?_
           (case side1 => repeat (first | (with_reducible first | exact HI0.out | apply IsS164.alloc | apply IsS164.drewN | apply IsS164.drew | apply IsS164.set_0 | apply IsS164.set_1 | apply IsS164.set_2 | refine IsS164.far ?_ NB0_262.out _ | refine IsS164.far ?_ NB0_263.out _ | refine IsS164.far ?_ NB0_264.out _) | exact HI0.out))
           (case side2 => repeat (first | (with_reducible first | exact HB.out | apply bA | apply bN | apply bD | refine bT ?_ (IsS164.ge HI0.out) | refine bT ?_ GE262.out | refine bT ?_ GE263.out | refine bT ?_ GE264.out) | exact HB.out))
           rintro e w58 ⟨v287, v290, rfl, ho0, ho1, hi, hb, hk⟩; refine ⟨_, rfl, ?_⟩; replace HO_265000 := aM (Kd.S_mono (Kd.S_told (Kd.S_oldK (IsS164.apartS (show IsS164 w0 _ g x1000_2 x1001_2 x1002_2 from iS164 HI0) (by (with_reducible repeat (first | apply Kd.S_alloc | apply Kd.S_drewN | apply Kd.S_drew)); exact HO_265000.out) (by decide)) hk) (Kd.R_base ho1)) (fun _ h_ => h_.1)); replace HO_265001 := aM (Kd.S_mono (Kd.S_told (Kd.S_told (Kd.S_oldK (IsS164.apartS (show IsS164 w0 _ g x1000_2 x1001_2 x1002_2 from iS164 HI0) (by (with_reducible repeat (first | apply Kd.S_alloc | apply Kd.S_drewN | apply Kd.S_drew)); exact HO_265001.out) (by decide)) hk) (Kd.R_base ho0)) (Kd.R_base ho1)) (fun _ h_ => h_.1)); replace BK262 := aM (k0 hk BK262 NB262_0); replace BK263 := aM (k0 hk BK263 NB263_0); replace BK264 := aM (k0 hk BK264 NB264_0); have HO288 := aM (Kd.R_lower ho0 (keep_size (w := w) (g := g) (row := none) (kp HK))); have HO291 := aM (Kd.R_lower ho1 (keep_size (w := w) (g := g) (row := none) (kp HK))); replace HK := aM (ku HK hk); replace HB := aM (hb); replace HI0 := aM (hi)
           (try clear hb)
           (try clear hb2)
           (try clear hk)
           (try clear hi)
           (try clear ho0)
           (try clear ho1)
           obtain ⟨Ao60, co60, eo60⟩ := Kd.R_slice HO288.out
           (first | subst eo60 | (injection eo60 with f1_ f2_ f3_; have f4_ := f1_.symm; have f5_ := f3_.symm; clear f1_ f2_ f3_; subst f4_; subst f5_))
           obtain ⟨Ao61, co61, eo61⟩ := Kd.R_slice HO291.out
           (first | subst eo61 | (injection eo61 with f1_ f2_ f3_; have f4_ := f1_.symm; have f5_ := f3_.symm; clear f1_ f2_ f3_; subst f4_; subst f5_))
           refine hK.out _ _ ⟨(kC BK264.out 0).trans rfl, (kC BK264.out 1).trans rfl, (kC BK264.out 2).trans rfl, (kC BK262.out 0).trans rfl⟩ (fun hHeld => ?_); clear hK K; refine norm_ (a' := ?_) ?_ ?_; rotate_left
           ·show Act.put _ (some 23) _ = _
            simp only [Act.put, sA, sB, sC, i64_w, i32_w]; rfl
           refine one_ (i := 4) (N := some 24) (ba 8 31) rfl rfl (one_of HT_.out (by kernel_rfl)) (by decide) (fun K hK => ?_); refine value_ (w1 := ?_) (v := ?_) (by rfl) rfl ?_ ?_; rotate_left 2
           ·go_simp
            constructor
            ·rfl
            ·rfl
           refine hK.out _ _ ⟨(kC (kA BK264.out _) 0).trans rfl, (kC (kA BK264.out _) 1).trans rfl, (kC (kA BK264.out _) 2).trans rfl, (kC (kA BK262.out _) 0).trans rfl⟩ (fun hHeld => ?_); clear hK K; refine norm_ (a' := ?_) ?_ ?_; rotate_left
           ·show Act.put _ (some 24) _ = _
            simp only [Act.put, sA, sB, sC, i64_w, i32_w]; rfl
           refine one_ (i := 5) (N := some 25) (ba 8 63) rfl rfl (one_of HT_.out (by kernel_rfl)) (by decide) (fun K hK => ?_); refine Kd.S_append_step k56 w.heap.size (by rfl) (.tmp 21) (.tmp 24) 23 56 (.agg #[(.int .i64 0), (.slice none 0 0), (.slice none 0 0)]) 56 rfl Try.underlying23 info56 rfl (by decide) (by omega) u265001 x265001_2 (⟨t285, t286, t289⟩ : S56) [.int .i64 t285, .slice Ao60 t286.length co60, .slice Ao61 t289.length co61] (fun _ => True) (fun k_ => some k_ = (.slice Ao60 t286.length co60 : Value).ownBlock ∨ some k_ = (.slice Ao61 t289.length co61 : Value).ownBlock) rfl rfl ?aP (fun k_ hk_ => hk_.elim (fun h_ => ((rM (ok' := fun k_ => ((fun _ => True)) k_ ∧ some k_ ≠ (u265001 : Value).ownBlock) (Kd.R_apart' (HO288.out) (Kd.S_typed HO_265001.out) (by decide)) (fun k_ hk => ⟨trivial, hk.2⟩))).1 k_ h_.symm) (fun h_ => ((rM (ok' := fun k_ => ((fun _ => True)) k_ ∧ some k_ ≠ (u265001 : Value).ownBlock) (Kd.R_apart' (HO291.out) (Kd.S_typed HO_265001.out) (by decide)) (fun k_ hk => ⟨trivial, hk.2⟩))).1 k_ h_.symm)) ?aF ?aO (Below.refl _ _) ?aS ?aL ?_
           (case aP => exact k56_mkM _ _ _ (⟨t285, t286, t289⟩ : S56) (rM (Kd.R_tight rfl (rM (ok' := fun k_ => ((fun _ => True)) k_ ∧ some k_ ≠ (u265001 : Value).ownBlock) (Kd.R_apart' (HO288.out) (Kd.S_typed HO_265001.out) (by decide)) (fun k_ hk => ⟨trivial, hk.2⟩))) (fun _ h_ => Or.inl h_)) (rM (Kd.R_tight rfl (rM (ok' := fun k_ => ((fun _ => True)) k_ ∧ some k_ ≠ (u265001 : Value).ownBlock) (Kd.R_apart' (HO291.out) (Kd.S_typed HO_265001.out) (by decide)) (fun k_ hk => ⟨trivial, hk.2⟩))) (fun _ h_ => Or.inr (h_))))
           (case aF => exact (fun _ _ => trivial))
           (case aO => exact (by (with_reducible repeat (first | apply Kd.S_alloc | apply Kd.S_drewN | apply Kd.S_drew)); exact Kd.S_mono HO_265001.out (fun k_ hk => ⟨trivial, fun e_ => e_.elim (fun h_ => hk.1.2 h_) (fun h_ => hk.2 h_)⟩)))
           (case aS => exact (keep_size (w := w) (g := g) (row := none) (kp HK)))
           (case aL => have := LMc56.out; omega)
           intro v296 w59 ho hb hg hat; rw [← Ny295.out] at ho; have HO297 := aM (ho); replace HO_265000 := aM (Kd.S_over' (by (with_reducible repeat (first | apply Kd.S_alloc | apply Kd.S_drewN | apply Kd.S_drew)); exact HO_265000.out) (Kd.S_typed (by (with_reducible repeat (first | apply Kd.S_alloc | apply Kd.S_drewN | apply Kd.S_drew)); exact HO_265001.out)) (by decide) hg); replace BK262 := aM (blk_grown (kl BK262) hg (Kd.S_ne HO_265001.out BK262.out (by decide))); replace BK263 := aM (blk_grown (kl BK263) hg (Kd.S_ne HO_265001.out BK263.out (by decide))); replace BK264 := aM (blk_grown (kl BK264) hg (Kd.S_ne HO_265001.out BK264.out (by decide))); replace HI0 := aM (IsS164.grown (show IsS164 w0 _ g t292 t293 t294 from iS164 HI0) hg (IsS164.own_neS HI0.out HO_265001.out (by decide))); replace HK := aM (KeepBut.trans (kp HK) (KeepBut.of_grown hg g) (Kd.S_base2 HO_265001.out)); replace HB := aM (below_weaken (iB164 HB) HL.out hb); clear HO_265001 HO288 HO291 ho hb hg hat; obtain ⟨Ao62, co62, eo62⟩ := Kd.S_slice HO297.out
           (first | subst eo62 | (injection eo62 with f1_ f2_ f3_; have f4_ := f1_.symm; have f5_ := f3_.symm; clear f1_ f2_ f3_; subst f4_; subst f5_))
           refine hK.out _ _ ⟨(kC BK264.out 0).trans rfl, (kC BK264.out 1).trans rfl, (kC BK264.out 2).trans rfl, (kC BK262.out 0).trans rfl⟩ (fun hHeld => ?_); clear hK K; refine norm_ (a' := ?_) ?_ ?_; rotate_left
           ·show Act.put _ (some 25) _ = _
            simp only [Act.put, sA, sB, sC, i64_w, i32_w]; rfl
           refine pu 6 26 (ba 8 127) ?_; refine last_ (i := 7) (N := none) (ba 8 255) rfl rfl (one_of HT_.out (by kernel_rfl)) (by decide) (fun K hK => ?_); have hs63 : w59.cell? ⟨gb264, 1, none⟩ = some (u265001) := (kC BK264.out 1).trans rfl; have hfs63 := kF BK264.out 1; have hns63_0 := NB262_264.out; have hns63_1 := NB263_264.out; have hms63_0 := NB264_262.out; have hms63_1 := NB264_263.out; refine skip_ (w1 := ?_) (by rfl) rfl ?_ ?_; rotate_left
           ·go_simp; rfl
           refine hK.out _ _ ?_; clear hK K; refine done_ (done_of HT_.out (by kernel_rfl)) ?_
           try go_wp2
           go_roundg k2
           case measure => have := HK1.out; have := HK2.out; omega
           case rel => exact ⟨(wrap64 (x18_2 + 1)), (t292), (t293), (t294), (y295), (.slice Ao62 y295.length co62), (by first | rfl | (simp; done) | (simp [*]; done)), H', ⟨by have := HK1.out; have := HK2.out; omega⟩, ⟨by (with_reducible repeat (first | apply Kd.S_alloc | apply Kd.S_drewN | apply Kd.S_drew)); exact Kd.S_mono (sf1 (st HO_265000.out BK264)) (fun _ hk => trivial)⟩, ⟨by (with_reducible repeat (first | apply Kd.S_alloc | apply Kd.S_drewN | apply Kd.S_drew)); exact Kd.S_mono (sf1 (st HO297.out BK264)) (fun _ hk => trivial)⟩, ⟨bk BK262⟩, ⟨bk BK263⟩, ⟨bk BK264⟩, ⟨iS164 HI0⟩, ⟨kp HK⟩, ⟨iB164 HB⟩⟩
          ·rw [if_neg c56] at H; exact absurd H (by simp)
        ·rw [if_neg c46] at H; have c46b0 : decide (x18_2 < t281) = false := decide_eq_false c46; clear c46; rcases eB_cases H with ⟨xe_, A640, H⟩ | ⟨⟨t298, t299, t300, t301⟩, A640, H⟩
         ·subst H; have A64 := aM A640; clear A640; have hn65 := nn NB262_263; have hn66 := nn NB262_264; have hn67 := nn NB262_0; have hz68 := bc1 BK262
          go_wp2_with (first | (go_at_call 37; (with_reducible refine (codec_reader_count.calls k2 g x1000_2 x1001_2 x1002_2 10000 (.error xe_) w0 _ (iS164 HI0) (iB164 HB) A64.out).mono ?_); rintro e w69 ⟨rfl, hb⟩))
          (first | exact ⟨rfl, rfl, hb⟩ | exact ⟨rfl, hb⟩ | (go_simp; exact ⟨rfl, hb⟩) | (simp; exact ⟨rfl, hb⟩))
         ·replace H : (codec_GetData_1.l2 k2 t298 0 t299 t300 t301 x265000_1 x265001_2 ([] : List (S59))) = some r := H; have A64 := aM A640; clear A640; have H' := aM H; clear H; have hn70 := nn NB262_263; have hn71 := nn NB262_264; have hn72 := nn NB262_0; have hz73 := bc1 BK262
          go_wp2_with (first | ((with_reducible refine gate_callee (f := 37) rfl ?_); refine gL (some 29) Try.func37 #[.agg #[.pointer (some ⟨g, 0, none⟩)], .int .i64 10000] ?_; (with_reducible refine (codec_reader_count.calls k2 g x1000_2 x1001_2 x1002_2 10000 (.ok (t298, t299, t300, t301)) w0 _ (iS164 HI0) (iB164 HB) A64.out).mono ?_); rintro e w74 ⟨rfl, hi, hb, hk⟩; refine ⟨_, rfl, ?_⟩; replace HO_265000 := aM (Kd.S_mono (Kd.S_keep (IsS164.apartS (show IsS164 w0 _ g x1000_2 x1001_2 x1002_2 from iS164 HI0) (by (with_reducible repeat (first | apply Kd.S_alloc | apply Kd.S_drewN | apply Kd.S_drew)); exact HO_265000.out) (by decide)) hk (fun _ h => h.2)) (fun _ h => h.1)); replace HO_265001 := aM (Kd.S_mono (Kd.S_keep (IsS164.apartS (show IsS164 w0 _ g x1000_2 x1001_2 x1002_2 from iS164 HI0) (by (with_reducible repeat (first | apply Kd.S_alloc | apply Kd.S_drewN | apply Kd.S_drew)); exact HO_265001.out) (by decide)) hk (fun _ h => h.2)) (fun _ h => h.1)); replace BK262 := aM (k0 hk BK262 NB262_0); replace BK263 := aM (k0 hk BK263 NB263_0); replace BK264 := aM (k0 hk BK264 NB264_0); replace HK := aM (ku HK hk); replace HB := aM (hb); replace HI0 := aM (hi); (try clear hb); (try clear hk); (try clear hi)))
          go_loopg [30] k2 (fun kq v30 w' => ∃ (x30_3 : Int) (x1000_3 : ByteArray) (x1001_3 : Int) (x1002_3 : Int) (x265002_3 : List (S59)) (u265002 : Value), v30 = .int .i64 x30_3 ∧ Aside0 (codec_GetData_1.l2 kq t298 x30_3 x1000_3 x1001_3 x1002_3 x265000_1 x265001_2 x265002_3 = some r) ∧ Aside0 (kq ≤ k2) ∧ Aside0 (Kd.S k53 53 w' w.heap.size (fun _ => True) u265000 x265000_1) ∧ Aside0 (Kd.S k56 56 w' w.heap.size (fun _ => True) u265001 x265001_2) ∧ Aside0 (Kd.S k59 59 w' w.heap.size (fun _ => True) u265002 x265002_3) ∧ Aside0 (w'.heap[gb262]? = some (.cells #[.pointer (some ⟨g, 0, none⟩)] 81 (0, 0))) ∧ Aside0 (w'.heap[gb263]? = some (.cells #[(.slice none 0 0), (.slice none 0 0), (.slice none 0 0)] 26 (0, 0))) ∧ Aside0 (w'.heap[gb264]? = some (.cells #[u265000, u265001, u265002] 26 (0, 0))) ∧ Aside0 (IsS164 w0 w' g x1000_3 x1001_3 x1002_3) ∧ Aside0 (KeepBut w w' g none) ∧ Aside0 (Below w0.heap.size w0 w'))
          case atStart => exact ⟨(0), (t299), (t300), (t301), (([] : List (S59))), (.slice none 0 0), (by first | rfl | (simp; done) | (simp [*]; done)), H', ⟨Nat.le_refl _⟩, ⟨by (with_reducible repeat (first | apply Kd.S_alloc | apply Kd.S_drewN | apply Kd.S_drew)); exact HO_265000.out⟩, ⟨by (with_reducible repeat (first | apply Kd.S_alloc | apply Kd.S_drewN | apply Kd.S_drew)); exact HO_265001.out⟩, ⟨by first | exact Kd.S_nil _ _ _ _ _ | exact Kd.N_nil _ _ _ _ _ | exact Kd.V_nil _ _ _ _ _ | exact Kd.Q_nil _ _ _ _ _ | exact Kd.R_nil _ _ _ _ _⟩, ⟨kl BK262⟩, ⟨kl BK263⟩, ⟨kl BK264⟩, ⟨iS164 HI0⟩, ⟨kp HK⟩, ⟨iB164 HB⟩⟩
          case round =>
           clear H'; (try clear c19); (try clear c19b0); (try clear c28); (try clear c46); (try clear c46b0); (try clear c56); (try clear hz17); (try clear hz39); (try clear hz44); (try clear hz68); (try clear hz73); (try clear hz9); obtain ⟨x30_3, x1000_3, x1001_3, x1002_3, x265002_3, u265002, rfl, HA, HK3, HO_265000, HO_265001, HO_265002, BK262, BK263, BK264, HI0, HK, HB⟩ := hrel
           cases gk with
           | zero => exact absurd HA.out (by simp [codec_GetData_1.l2])
           | succ k3 =>
            have H := HA.out; clear HA; simp only [codec_GetData_1.l2] at H
            by_cases c75 : x30_3 < t298
            ·rw [if_pos c75] at H; have c75b0 : decide (x30_3 < t298) = true := decide_eq_true c75; clear c75; rcases eB_cases H with ⟨xe_, A760, H⟩ | ⟨⟨t302, t303, t306, t309, t310, t311⟩, A760, H⟩
             ·subst H; have A76 := aM A760; clear A760
              go_wp2
              replace BK262 := aM (kD BK262.out); replace BK264 := aM (kD BK264.out); replace HI0 := aM (IsS164.drew HI0.out); replace HB := aM (bD HB.out); clear HO_265000 HO_265001 HO_265002 BK263 HK; refine start_ (n := 8) (S := fun w' => w'.cell? ⟨gb264, 0, none⟩ = some (u265000) ∧ w'.cell? ⟨gb264, 1, none⟩ = some (u265001) ∧ w'.cell? ⟨gb264, 2, none⟩ = some (u265002) ∧ w'.cell? ⟨gb262, 0, none⟩ = some (.pointer (some ⟨g, 0, none⟩))) (ds := [7]) #[false, false, false, false, false, false, false, false] (by kernel_rfl) rfl rfl ⟨(kC BK264.out 0).trans rfl, (kC BK264.out 1).trans rfl, (kC BK264.out 2).trans rfl, (kC BK262.out 0).trans rfl⟩ (fun hHeld => ?_); refine with_tabW codec_GetData_1.tab12 codec_GetData_1.bits12 (fun HT_ HW_ => ?_); generalize wr.drew = w78 at BK262 BK264 HI0 HB hHeld ⊢; refine pu 0 32 (ba 8 1) ?_; refine tk 1 33 (ba 8 3) ?_; refine tk 2 34 (ba 8 7) ?_; refine one_ (i := 3) (N := some 35) (ba 8 15) rfl rfl (one_of HT_.out (by kernel_rfl)) (by decide) (fun K hK => ?_); refine goesP_ Try.func40 (by kernel_rfl) rfl #[.agg #[.pointer (some ⟨g, 0, none⟩)]] (by rfl) rfl rfl (by (try simp only [List.map_toArray, List.map_cons, List.map_nil]); first | done | rfl | (simp only [List.length_drop, List.length_take]; rfl)) ?_
              with_reducible refine (codec_reader_rel.calls k3 g x1000_3 x1001_3 x1002_3 (.error xe_) w0 _ ?side1 ?side2 A76.out).mono ?_
              (case side1 => repeat (first | (with_reducible first | exact HI0.out | apply IsS164.alloc | apply IsS164.drewN | apply IsS164.drew | apply IsS164.set_0 | apply IsS164.set_1 | apply IsS164.set_2 | refine IsS164.far ?_ NB0_262.out _ | refine IsS164.far ?_ NB0_263.out _ | refine IsS164.far ?_ NB0_264.out _) | exact HI0.out))
              (case side2 => repeat (first | (with_reducible first | exact HB.out | apply bA | apply bN | apply bD | refine bT ?_ (IsS164.ge HI0.out) | refine bT ?_ GE262.out | refine bT ?_ GE263.out | refine bT ?_ GE264.out) | exact HB.out))
              rintro e wP_ ⟨rfl, hb⟩; refine ⟨_, rfl, ?_⟩
              (first | exact ⟨rfl, rfl, hb⟩ | exact ⟨rfl, hb⟩ | (go_simp; exact ⟨rfl, hb⟩) | (simp; exact ⟨rfl, hb⟩))
             ·replace H : (if x265002_3.length < 2513169434916 then (codec_GetData_1.l2 k3 t298 (wrap64 (x30_3 + 1)) t309 t310 t311 x265000_1 x265001_2 (x265002_3 ++ [(⟨t302, t303, t306⟩ : S59)])) else (none)) = some r := H; have A76 := aM A760; clear A760
              by_cases c85 : x265002_3.length < 2513169434916
              ·rw [if_pos c85] at H; have LMc85 := aM c85; clear c85; obtain ⟨y312, hy312⟩ : ∃ y_ : List (S59), y_ = (x265002_3 ++ [(⟨t302, t303, t306⟩ : S59)]) := ⟨_, rfl⟩; replace H : (codec_GetData_1.l2 k3 t298 (wrap64 (x30_3 + 1)) t309 t310 t311 x265000_1 x265001_2 y312) = some r := by first | (rw [hy312]; with_reducible exact H) | (have H2_ := (Option.bind_some _ _).symm.trans H; rw [hy312]; with_reducible exact H2_) | (have H2_ := (Option.bind_some _ _).symm.trans H; with_reducible exact H2_) | with_reducible exact H | (rw [hy312]; exact H) | exact H
               have Ny312 := aM hy312; clear hy312; have H' := aM H; clear H
               try go_wp2
               replace HO_265000 := aM (Kd.S_drew HO_265000.out); replace HO_265001 := aM (Kd.S_drew HO_265001.out); replace HO_265002 := aM (Kd.S_drew HO_265002.out); replace BK262 := aM (kD BK262.out); replace BK263 := aM (kD BK263.out); replace BK264 := aM (kD BK264.out); replace HI0 := aM (IsS164.drew HI0.out); replace HK := aM (keep_drew HK.out); replace HB := aM (bD HB.out); refine start_ (n := 8) (S := fun w' => w'.cell? ⟨gb264, 0, none⟩ = some (u265000) ∧ w'.cell? ⟨gb264, 1, none⟩ = some (u265001) ∧ w'.cell? ⟨gb264, 2, none⟩ = some (u265002) ∧ w'.cell? ⟨gb262, 0, none⟩ = some (.pointer (some ⟨g, 0, none⟩))) (ds := [7]) #[false, false, false, false, false, false, false, false] (by kernel_rfl) rfl rfl ⟨(kC BK264.out 0).trans rfl, (kC BK264.out 1).trans rfl, (kC BK264.out 2).trans rfl, (kC BK262.out 0).trans rfl⟩ (fun hHeld => ?_); refine with_tabW codec_GetData_1.tab12 codec_GetData_1.bits12 (fun HT_ HW_ => ?_); generalize wr.drew = w86 at HO_265000 HO_265001 HO_265002 BK262 BK263 BK264 HI0 HK HB hHeld ⊢; refine pu 0 32 (ba 8 1) ?_; refine tk 1 33 (ba 8 3) ?_; refine tk 2 34 (ba 8 7) ?_; refine one_ (i := 3) (N := some 35) (ba 8 15) rfl rfl (one_of HT_.out (by kernel_rfl)) (by decide) (fun K hK => ?_); refine goes_ Try.func40 (by kernel_rfl) rfl #[.agg #[.pointer (some ⟨g, 0, none⟩)]] (by rfl) rfl rfl (by (try simp only [List.map_toArray, List.map_cons, List.map_nil]); first | done | rfl | (simp only [List.length_drop, List.length_take]; rfl)) ?_
               with_reducible refine (codec_reader_rel.calls k3 g x1000_3 x1001_3 x1002_3 (.ok (t302, t303, t306, t309, t310, t311)) w0 _ ?side1 ?side2 A76.out).mono ?_
               (case side1 => repeat (first | (with_reducible first | exact HI0.out | apply IsS164.alloc | apply IsS164.drewN | apply IsS164.drew | apply IsS164.set_0 | apply IsS164.set_1 | apply IsS164.set_2 | refine IsS164.far ?_ NB0_262.out _ | refine IsS164.far ?_ NB0_263.out _ | refine IsS164.far ?_ NB0_264.out _) | exact HI0.out))
               (case side2 => repeat (first | (with_reducible first | exact HB.out | apply bA | apply bN | apply bD | refine bT ?_ (IsS164.ge HI0.out) | refine bT ?_ GE262.out | refine bT ?_ GE263.out | refine bT ?_ GE264.out) | exact HB.out))
               rintro e w87 ⟨v304, v307, rfl, ho0, ho1, hi, hb, hk⟩; refine ⟨_, rfl, ?_⟩; replace HO_265000 := aM (Kd.S_mono (Kd.S_told (Kd.S_oldK (IsS164.apartS (show IsS164 w0 _ g x1000_3 x1001_3 x1002_3 from iS164 HI0) (by (with_reducible repeat (first | apply Kd.S_alloc | apply Kd.S_drewN | apply Kd.S_drew)); exact HO_265000.out) (by decide)) hk) (Kd.R_base ho1)) (fun _ h_ => h_.1)); replace HO_265001 := aM (Kd.S_mono (Kd.S_told (Kd.S_oldK (IsS164.apartS (show IsS164 w0 _ g x1000_3 x1001_3 x1002_3 from iS164 HI0) (by (with_reducible repeat (first | apply Kd.S_alloc | apply Kd.S_drewN | apply Kd.S_drew)); exact HO_265001.out) (by decide)) hk) (Kd.R_base ho1)) (fun _ h_ => h_.1)); replace HO_265002 := aM (Kd.S_mono (Kd.S_told (Kd.S_told (Kd.S_oldK (IsS164.apartS (show IsS164 w0 _ g x1000_3 x1001_3 x1002_3 from iS164 HI0) (by (with_reducible repeat (first | apply Kd.S_alloc | apply Kd.S_drewN | apply Kd.S_drew)); exact HO_265002.out) (by decide)) hk) (Kd.R_base ho0)) (Kd.R_base ho1)) (fun _ h_ => h_.1)); replace BK262 := aM (k0 hk BK262 NB262_0); replace BK263 := aM (k0 hk BK263 NB263_0); replace BK264 := aM (k0 hk BK264 NB264_0); have HO305 := aM (Kd.R_lower ho0 (keep_size (w := w) (g := g) (row := none) (kp HK))); have HO308 := aM (Kd.R_lower ho1 (keep_size (w := w) (g := g) (row := none) (kp HK))); replace HK := aM (ku HK hk); replace HB := aM (hb); replace HI0 := aM (hi)
               (try clear hb)
               (try clear hb2)
               (try clear hk)
               (try clear hi)
               (try clear ho0)
               (try clear ho1)
               obtain ⟨Ao89, co89, eo89⟩ := Kd.R_slice HO305.out
               (first | subst eo89 | (injection eo89 with f1_ f2_ f3_; have f4_ := f1_.symm; have f5_ := f3_.symm; clear f1_ f2_ f3_; subst f4_; subst f5_))
               obtain ⟨Ao90, co90, eo90⟩ := Kd.R_slice HO308.out
               (first | subst eo90 | (injection eo90 with f1_ f2_ f3_; have f4_ := f1_.symm; have f5_ := f3_.symm; clear f1_ f2_ f3_; subst f4_; subst f5_))
               refine hK.out _ _ ⟨(kC BK264.out 0).trans rfl, (kC BK264.out 1).trans rfl, (kC BK264.out 2).trans rfl, (kC BK262.out 0).trans rfl⟩ (fun hHeld => ?_); clear hK K; refine norm_ (a' := ?_) ?_ ?_; rotate_left
               ·show Act.put _ (some 35) _ = _
                simp only [Act.put, sA, sB, sC, i64_w, i32_w]; rfl
               refine one_ (i := 4) (N := some 36) (ba 8 31) rfl rfl (one_of HT_.out (by kernel_rfl)) (by decide) (fun K hK => ?_); refine value_ (w1 := ?_) (v := ?_) (by rfl) rfl ?_ ?_; rotate_left 2
               ·go_simp
                constructor
                ·rfl
                ·rfl
               refine hK.out _ _ ⟨(kC (kA BK264.out _) 0).trans rfl, (kC (kA BK264.out _) 1).trans rfl, (kC (kA BK264.out _) 2).trans rfl, (kC (kA BK262.out _) 0).trans rfl⟩ (fun hHeld => ?_); clear hK K; refine norm_ (a' := ?_) ?_ ?_; rotate_left
               ·show Act.put _ (some 36) _ = _
                simp only [Act.put, sA, sB, sC, i64_w, i32_w]; rfl
               refine one_ (i := 5) (N := some 37) (ba 8 63) rfl rfl (one_of HT_.out (by kernel_rfl)) (by decide) (fun K hK => ?_); refine Kd.S_append_step k59 w.heap.size (by rfl) (.tmp 33) (.tmp 36) 24 59 (.agg #[(.int .i64 0), (.slice none 0 0), (.slice none 0 0)]) 56 rfl Try.underlying24 info59 rfl (by decide) (by omega) u265002 x265002_3 (⟨t302, t303, t306⟩ : S59) [.int .i64 t302, .slice Ao89 t303.length co89, .slice Ao90 t306.length co90] (fun _ => True) (fun k_ => some k_ = (.slice Ao89 t303.length co89 : Value).ownBlock ∨ some k_ = (.slice Ao90 t306.length co90 : Value).ownBlock) rfl rfl ?aP (fun k_ hk_ => hk_.elim (fun h_ => ((rM (ok' := fun k_ => ((fun _ => True)) k_ ∧ some k_ ≠ (u265002 : Value).ownBlock) (Kd.R_apart' (HO305.out) (Kd.S_typed HO_265002.out) (by decide)) (fun k_ hk => ⟨trivial, hk.2⟩))).1 k_ h_.symm) (fun h_ => ((rM (ok' := fun k_ => ((fun _ => True)) k_ ∧ some k_ ≠ (u265002 : Value).ownBlock) (Kd.R_apart' (HO308.out) (Kd.S_typed HO_265002.out) (by decide)) (fun k_ hk => ⟨trivial, hk.2⟩))).1 k_ h_.symm)) ?aF ?aO (Below.refl _ _) ?aS ?aL ?_
               (case aP => exact k59_mkM _ _ _ (⟨t302, t303, t306⟩ : S59) (rM (Kd.R_tight rfl (rM (ok' := fun k_ => ((fun _ => True)) k_ ∧ some k_ ≠ (u265002 : Value).ownBlock) (Kd.R_apart' (HO305.out) (Kd.S_typed HO_265002.out) (by decide)) (fun k_ hk => ⟨trivial, hk.2⟩))) (fun _ h_ => Or.inl h_)) (rM (Kd.R_tight rfl (rM (ok' := fun k_ => ((fun _ => True)) k_ ∧ some k_ ≠ (u265002 : Value).ownBlock) (Kd.R_apart' (HO308.out) (Kd.S_typed HO_265002.out) (by decide)) (fun k_ hk => ⟨trivial, hk.2⟩))) (fun _ h_ => Or.inr (h_))))
               (case aF => exact (fun _ _ => trivial))
               (case aO => exact (by (with_reducible repeat (first | apply Kd.S_alloc | apply Kd.S_drewN | apply Kd.S_drew)); exact Kd.S_mono HO_265002.out (fun k_ hk => ⟨trivial, fun e_ => e_.elim (fun h_ => hk.1.2 h_) (fun h_ => hk.2 h_)⟩)))
               (case aS => exact (keep_size (w := w) (g := g) (row := none) (kp HK)))
               (case aL => have := LMc85.out; omega)
               intro v313 w88 ho hb hg hat; rw [← Ny312.out] at ho; have HO314 := aM (ho); replace HO_265000 := aM (Kd.S_over' (by (with_reducible repeat (first | apply Kd.S_alloc | apply Kd.S_drewN | apply Kd.S_drew)); exact HO_265000.out) (Kd.S_typed (by (with_reducible repeat (first | apply Kd.S_alloc | apply Kd.S_drewN | apply Kd.S_drew)); exact HO_265002.out)) (by decide) hg); replace HO_265001 := aM (Kd.S_over' (by (with_reducible repeat (first | apply Kd.S_alloc | apply Kd.S_drewN | apply Kd.S_drew)); exact HO_265001.out) (Kd.S_typed (by (with_reducible repeat (first | apply Kd.S_alloc | apply Kd.S_drewN | apply Kd.S_drew)); exact HO_265002.out)) (by decide) hg); replace BK262 := aM (blk_grown (kl BK262) hg (Kd.S_ne HO_265002.out BK262.out (by decide))); replace BK263 := aM (blk_grown (kl BK263) hg (Kd.S_ne HO_265002.out BK263.out (by decide))); replace BK264 := aM (blk_grown (kl BK264) hg (Kd.S_ne HO_265002.out BK264.out (by decide))); replace HI0 := aM (IsS164.grown (show IsS164 w0 _ g t309 t310 t311 from iS164 HI0) hg (IsS164.own_neS HI0.out HO_265002.out (by decide))); replace HK := aM (KeepBut.trans (kp HK) (KeepBut.of_grown hg g) (Kd.S_base2 HO_265002.out)); replace HB := aM (below_weaken (iB164 HB) HL.out hb); clear HO_265002 HO305 HO308 ho hb hg hat; obtain ⟨Ao91, co91, eo91⟩ := Kd.S_slice HO314.out
               (first | subst eo91 | (injection eo91 with f1_ f2_ f3_; have f4_ := f1_.symm; have f5_ := f3_.symm; clear f1_ f2_ f3_; subst f4_; subst f5_))
               refine hK.out _ _ ⟨(kC BK264.out 0).trans rfl, (kC BK264.out 1).trans rfl, (kC BK264.out 2).trans rfl, (kC BK262.out 0).trans rfl⟩ (fun hHeld => ?_); clear hK K; refine norm_ (a' := ?_) ?_ ?_; rotate_left
               ·show Act.put _ (some 37) _ = _
                simp only [Act.put, sA, sB, sC, i64_w, i32_w]; rfl
               refine pu 6 38 (ba 8 127) ?_; refine last_ (i := 7) (N := none) (ba 8 255) rfl rfl (one_of HT_.out (by kernel_rfl)) (by decide) (fun K hK => ?_); have hs92 : w88.cell? ⟨gb264, 2, none⟩ = some (u265002) := (kC BK264.out 2).trans rfl; have hfs92 := kF BK264.out 2; have hns92_0 := NB262_264.out; have hns92_1 := NB263_264.out; have hms92_0 := NB264_262.out; have hms92_1 := NB264_263.out; refine skip_ (w1 := ?_) (by rfl) rfl ?_ ?_; rotate_left
               ·go_simp; rfl
               refine hK.out _ _ ?_; clear hK K; refine done_ (done_of HT_.out (by kernel_rfl)) ?_
               try go_wp2
               go_roundg k3
               case measure => have := HK1.out; have := HK2.out; have := HK3.out; omega
               case rel => exact ⟨(wrap64 (x30_3 + 1)), (t309), (t310), (t311), (y312), (.slice Ao91 y312.length co91), (by first | rfl | (simp; done) | (simp [*]; done)), H', ⟨by have := HK1.out; have := HK2.out; have := HK3.out; omega⟩, ⟨by (with_reducible repeat (first | apply Kd.S_alloc | apply Kd.S_drewN | apply Kd.S_drew)); exact Kd.S_mono (sf1 (st HO_265000.out BK264)) (fun _ hk => trivial)⟩, ⟨by (with_reducible repeat (first | apply Kd.S_alloc | apply Kd.S_drewN | apply Kd.S_drew)); exact Kd.S_mono (sf1 (st HO_265001.out BK264)) (fun _ hk => trivial)⟩, ⟨by (with_reducible repeat (first | apply Kd.S_alloc | apply Kd.S_drewN | apply Kd.S_drew)); exact Kd.S_mono (sf1 (st HO314.out BK264)) (fun _ hk => trivial)⟩, ⟨bk BK262⟩, ⟨bk BK263⟩, ⟨bk BK264⟩, ⟨iS164 HI0⟩, ⟨kp HK⟩, ⟨iB164 HB⟩⟩
              ·rw [if_neg c85] at H; exact absurd H (by simp)
            ·rw [if_neg c75] at H; have c75b0 : decide (x30_3 < t298) = false := decide_eq_false c75; clear c75; obtain rfl := Option.some.inj H; have hn93 := nn NB264_262; have hn94 := nn NB264_263; have hn95 := nn NB264_0; have hz96 := bc3 BK264; obtain ⟨Ao97, co97, eo97⟩ := Kd.S_slice HO_265000.out; subst eo97; have hn98 := nn NB263_262; have hn99 := nn NB263_0; have hz100 := bc3 BK263; obtain ⟨Ao101, co101, eo101⟩ := Kd.S_slice HO_265001.out; subst eo101; obtain ⟨Ao102, co102, eo102⟩ := Kd.S_slice HO_265002.out; subst eo102
             go_wp2
             refine bodyPost_ret (results_cell_row rfl _ _ gb263 26 #[.slice Ao97 x265000_1.length co97, .slice Ao101 x265001_2.length co101, .slice Ao102 x265002_3.length co102] (0, 0) _ rfl (bk BK263) Try.underlying26 rfl (by kernel_rfl)) rfl ?_; exact ⟨_, _, _, by first | rfl | (simp [errW_none, errW_some] <;> rfl) | (simp [*, errW_none, errW_some] <;> rfl), by (with_reducible repeat (first | apply Kd.S_alloc | apply Kd.S_drewN | apply Kd.S_drew)); exact Kd.S_mono (sf1 (sf1 (sf1 (st HO_265000.out BK263)))) (fun _ hk => trivial), by (with_reducible repeat (first | apply Kd.S_alloc | apply Kd.S_drewN | apply Kd.S_drew)); exact Kd.S_mono (sf1 (sf1 (sf1 (st HO_265001.out BK263)))) (fun _ hk => trivial), by (with_reducible repeat (first | apply Kd.S_alloc | apply Kd.S_drewN | apply Kd.S_drew)); exact Kd.S_mono (sf1 (sf1 (sf1 (st HO_265002.out BK263)))) (fun _ hk => trivial), iS164 HI0, iB164 HB, kp HK⟩
end Go.Proofs.Ytefambkodalomaa.PAll
