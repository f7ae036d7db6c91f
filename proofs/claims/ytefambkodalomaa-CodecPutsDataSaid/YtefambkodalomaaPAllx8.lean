-- out of a driver of this session's prover over the kit's print: Lean checks it
import Derived.Test.YtefambkodalomaaPAllx0
import Derived.Test.YtefambkodalomaaPAllx6
import Derived.Test.YtefambkodalomaaPAllx7
namespace Go.Proofs.Ytefambkodalomaa.PAll
open Go.Proofs.YtefambkodalomaaG Go.Shelf Go.Lib
open Go.RowKit Go.Proofs.YtefambkodalomaaW.PrintWords Go.Proofs.YtefambkodalomaaW.PrintLast Go.Proofs.YtefambkodalomaaW.PrintMore
attribute [local go_sem] max2_int min2_int max_two min_two max_three min_three max_four min_four   -- for this text's walks alone
set_option linter.unusedVariables false
set_option linter.unusedSimpArgs false
def codec_reader_node.f (k : Nat) (s0_0 : ByteArray) (s0_1 : Int) (s0_2 : Int) : Option (Except Int (Int × Int × Int × (List (S130)) × ByteArray × Int × Int)) := eB (codec_reader_int.f k s0_0 s0_1 s0_2) fun bt186 => (eB (codec_reader_int.f k bt186.2.1 bt186.2.2.1 bt186.2.2.2) fun bt191 => (eB (codec_reader_int.f k bt191.2.1 bt191.2.2.1 bt191.2.2.2) fun bt195 => (eB (codec_reader_tags.f k bt195.2.1 bt195.2.2.1 bt195.2.2.2) fun bt199 => (some (.ok (bt186.1, bt191.1, bt195.1, bt199.1, bt199.2.1, bt199.2.2.1, bt199.2.2.2))))))
theorem codec_reader_node.mono : ∀ a0 a1 a2 k, LeO (codec_reader_node.f k a0 a1 a2) (codec_reader_node.f (k + 1) a0 a1 a2) := by
 intro a0 a1 a2 k
 unfold codec_reader_node.f
 repeat' first
   | (with_reducible exact codec_reader_int.mono _ _ _ _)
   | (with_reducible exact codec_reader_tags.mono _ _ _ _)
   | (with_reducible exact LeO.refl _)
   | (with_reducible exact LeO.none _)
   | (with_reducible refine LeO.ite ?_ ?_)
   | (with_reducible refine LeO.eB ?_ (fun _ => ?_))
   | (with_reducible refine LeO.bind ?_ (fun _ => ?_))
   | exact codec_reader_int.mono _ _ _ _
   | exact codec_reader_tags.mono _ _ _ _
   | exact LeO.none _
   | refine LeO.ite ?_ ?_
   | refine LeO.bind ?_ (fun _ => ?_)
def codec_reader_node.Post (w0 w : World) (g : Nat) : Except Int (Int × Int × Int × (List (S130)) × ByteArray × Int × Int) → Ending → World → Prop
 | .ok (r1, r2, r3, r4, r5, r6, r7), e, w' => ∃ v3_ : Value, e = .returned (.agg #[.int .i64 r1, .int .i64 r2, .int .i64 r3, v3_]) ∧ Kd.R k130 130 w' w.heap.size (fun _ => True) v3_ r4 ∧ IsS164 w0 w' g r5 r6 r7 ∧ Below w0.heap.size w0 w' ∧ KeepBut w w' g none
 | .error xe_, e, w' => e = .panicked [{ v := .iface 139 (.int .i64 xe_), recovered := false }] ∧ Below w0.heap.size w0 w'
set_option maxHeartbeats 8000000 in
set_option maxRecDepth 100000 in
theorem codec_reader_node.calls (k : Nat) (g : Nat) (s0_0 : ByteArray) (s0_1 : Int) (s0_2 : Int) (r : Except Int (Int × Int × Int × (List (S130)) × ByteArray × Int × Int)) (w0 w : World) (hI : IsS164 w0 w g s0_0 s0_1 s0_2) (hB : Below w0.heap.size w0 w) (h : codec_reader_node.f k s0_0 s0_1 s0_2 = some r) :
  Calls Try.prog 38 #[.agg #[.pointer (some ⟨g, 0, none⟩)]] w (codec_reader_node.Post w0 w g r) := by
 have hu81 := Try.underlying81
 have hu53 := Try.underlying53
 have HI0 := aM hI
 have HK := aM (KeepBut.refl w g none)
 have HL := aM hB.size
 clear hI
 have HW0 := aM hB.size
 have HB := aM hB
 clear hB
 have H : (eB (codec_reader_int.f k s0_0 s0_1 s0_2) fun bt186 => (eB (codec_reader_int.f k bt186.2.1 bt186.2.2.1 bt186.2.2.2) fun bt191 => (eB (codec_reader_int.f k bt191.2.1 bt191.2.2.1 bt191.2.2.2) fun bt195 => (eB (codec_reader_tags.f k bt195.2.1 bt195.2.2.1 bt195.2.2.2) fun bt199 => (some (.ok (bt186.1, bt191.1, bt195.1, bt199.1, bt199.2.1, bt199.2.2.1, bt199.2.2.2))))))) = some r := h
 clear h
 rcases eB_cases H with ⟨xe_, A20, H⟩ | ⟨⟨t186, t187, t188, t189⟩, A20, H⟩
 ·subst H
  have A2 := aM A20
  clear A20
  go_enter Try.func38, Try.ntmps38
  go_wp2_with (first | ((with_reducible refine gate_dst (N := 1) rfl ?_); refine bx (N := 1) (cs := #[.pointer (some ⟨g, 0, none⟩)]) (t := 81) ?_; intro gb184 hg w3 hbox hb; have BK184 := aM (hbox); have GW184 := aM (gk HK hg); have GE184 := aM (Nat.le_trans HW0.out (gk HK hg)); have NB0_184 := aM (ni164 HI0 hg); have NB184_0 := aM (ni164 HI0 hg).symm; replace HI0 := aM (IsS164.below (iS164 HI0) hb); replace HK := aM (kt HK hb); replace HB := aM (bS (iB164 HB) hb); clear hb hbox hg) | ((with_reducible refine gate_dst (N := 2) rfl ?_); refine bx (N := 2) (cs := #[.int .i64 0, .int .i64 0, .int .i64 0, .slice none 0 0]) (t := 53) ?_; intro gb185 hg w4 hbox hb; have n0_ := aM (IsS164.below (iS164 HI0) hb); have n1_ := aM (kB (kl BK184) hb); have n2_ := aM (kt HK hb); have n3_ := aM (bS (iB164 HB) hb); have n6_ := aM (Nat.le_trans HW0.out (gk HK hg)); have n7_ := aM (nb BK184 hg); have n8_ := aM (nb BK184 hg).symm; have n9_ := aM (ni164 HI0 hg); (try clear HI0); (try clear BK184); (try clear HK); (try clear HB); have HI0 := n0_; have BK184 := n1_; have HK := n2_; have HB := n3_; have GE185 := n6_; have NB184_185 := n7_; have NB185_184 := n8_; have NB0_185 := n9_; clear n0_ n1_ n2_ n3_ n6_ n7_ n8_ n9_ hb hbox hg; obtain ⟨hnb5, hnc5⟩ := nn NB184_185; obtain ⟨hnb6, hnc6⟩ := nn NB184_0; obtain ⟨hcz7_0, hfz7_0⟩ := bc1 BK184) | (go_at_call 86; (with_reducible refine (codec_reader_int.calls k g s0_0 s0_1 s0_2 (.error xe_) w0 _ (iS164 HI0) (iB164 HB) A2.out).mono ?_); rintro e w8 ⟨rfl, hb⟩))
  (first | exact ⟨rfl, rfl, hb⟩ | exact ⟨rfl, hb⟩ | (go_simp; exact ⟨rfl, hb⟩) | (simp; exact ⟨rfl, hb⟩))
 ·replace H : (eB (codec_reader_int.f k t187 t188 t189) fun bt191 => (eB (codec_reader_int.f k bt191.2.1 bt191.2.2.1 bt191.2.2.2) fun bt195 => (eB (codec_reader_tags.f k bt195.2.1 bt195.2.2.1 bt195.2.2.2) fun bt199 => (some (.ok (t186, bt191.1, bt195.1, bt199.1, bt199.2.1, bt199.2.2.1, bt199.2.2.2)))))) = some r := H
  have A2 := aM A20
  clear A20
  rcases eB_cases H with ⟨xe_, A90, H⟩ | ⟨⟨t191, t192, t193, t194⟩, A90, H⟩
  ·subst H
   have A9 := aM A90
   clear A90
   go_enter Try.func38, Try.ntmps38
   go_wp2_with (first | ((with_reducible refine gate_dst (N := 1) rfl ?_); refine bx (N := 1) (cs := #[.pointer (some ⟨g, 0, none⟩)]) (t := 81) ?_; intro gb184 hg w10 hbox hb; have BK184 := aM (hbox); have GW184 := aM (gk HK hg); have GE184 := aM (Nat.le_trans HW0.out (gk HK hg)); have NB0_184 := aM (ni164 HI0 hg); have NB184_0 := aM (ni164 HI0 hg).symm; replace HI0 := aM (IsS164.below (iS164 HI0) hb); replace HK := aM (kt HK hb); replace HB := aM (bS (iB164 HB) hb); clear hb hbox hg) | ((with_reducible refine gate_dst (N := 2) rfl ?_); refine bx (N := 2) (cs := #[.int .i64 0, .int .i64 0, .int .i64 0, .slice none 0 0]) (t := 53) ?_; intro gb185 hg w11 hbox hb; have BK185 := aM (hbox); have GW185 := aM (gk HK hg); have GE185 := aM (Nat.le_trans HW0.out (gk HK hg)); have NB184_185 := aM (nb BK184 hg); have NB185_184 := aM (nb BK184 hg).symm; have NB0_185 := aM (ni164 HI0 hg); have NB185_0 := aM (ni164 HI0 hg).symm; replace HI0 := aM (IsS164.below (iS164 HI0) hb); replace BK184 := aM (kB (kl BK184) hb); replace HK := aM (kt HK hb); replace HB := aM (bS (iB164 HB) hb); clear hb hbox hg; obtain ⟨hnb12, hnc12⟩ := nn NB184_185; obtain ⟨hnb13, hnc13⟩ := nn NB184_0; obtain ⟨hcz14_0, hfz14_0⟩ := bc1 BK184) | ((with_reducible refine gate_callee (f := 86) rfl ?_); refine gL (some 5) Try.func86 #[.agg #[.pointer (some ⟨g, 0, none⟩)]] ?_; (with_reducible refine (codec_reader_int.calls k g s0_0 s0_1 s0_2 (.ok (t186, t187, t188, t189)) w0 _ (iS164 HI0) (iB164 HB) A2.out).mono ?_); rintro e w15 ⟨rfl, hi, hb, hk⟩; refine ⟨_, rfl, ?_⟩; replace BK184 := aM (k0 hk BK184 NB184_0); replace BK185 := aM (k0 hk BK185 NB185_0); replace HK := aM (ku HK hk); replace HB := aM (hb); replace HI0 := aM (hi); (try clear hb); (try clear hk); (try clear hi)) | ((with_reducible refine gate_dst (N := 3) rfl ?_); refine bx (N := 3) (cs := #[.int .i64 0, .int .i64 0, .int .i64 0, .slice none 0 0]) (t := 53) ?_; intro gb190 hg w16 hbox hb; have n0_ := aM (IsS164.below (iS164 HI0) hb); have n1_ := aM (kB (kl BK184) hb); have n2_ := aM (kB (kl BK185) hb); have n3_ := aM (kt HK hb); have n4_ := aM (bS (iB164 HB) hb); have n5_ := aM (hbox); have n7_ := aM (Nat.le_trans HW0.out (gk HK hg)); have n8_ := aM (nb BK184 hg); have n9_ := aM (nb BK184 hg).symm; have n10_ := aM (nb BK185 hg); have n11_ := aM (nb BK185 hg).symm; have n12_ := aM (ni164 HI0 hg); have n13_ := aM (ni164 HI0 hg).symm; (try clear HI0); (try clear BK184); (try clear BK185); (try clear HK); (try clear HB); have HI0 := n0_; have BK184 := n1_; have BK185 := n2_; have HK := n3_; have HB := n4_; have BK190 := n5_; have GE190 := n7_; have NB184_190 := n8_; have NB190_184 := n9_; have NB185_190 := n10_; have NB190_185 := n11_; have NB0_190 := n12_; have NB190_0 := n13_; clear n0_ n1_ n2_ n3_ n4_ n5_ n7_ n8_ n9_ n10_ n11_ n12_ n13_ hb hbox hg; obtain ⟨hnb17, hnc17⟩ := nn NB190_184; obtain ⟨hnb18, hnc18⟩ := nn NB190_185; obtain ⟨hnb19, hnc19⟩ := nn NB190_0; obtain ⟨hcz20_0, hcz20_1, hcz20_2, hcz20_3, hfz20_0, hfz20_1, hfz20_2, hfz20_3⟩ := bc4 BK190; obtain ⟨hcz21_0, hfz21_0⟩ := bc1 BK184) | (go_at_call 86; (with_reducible refine (codec_reader_int.calls k g t187 t188 t189 (.error xe_) w0 _ (iS164 HI0) (iB164 HB) A9.out).mono ?_); rintro e w22 ⟨rfl, hb⟩))
   (first | exact ⟨rfl, rfl, hb⟩ | exact ⟨rfl, hb⟩ | (go_simp; exact ⟨rfl, hb⟩) | (simp; exact ⟨rfl, hb⟩))
  ·replace H : (eB (codec_reader_int.f k t192 t193 t194) fun bt195 => (eB (codec_reader_tags.f k bt195.2.1 bt195.2.2.1 bt195.2.2.2) fun bt199 => (some (.ok (t186, t191, bt195.1, bt199.1, bt199.2.1, bt199.2.2.1, bt199.2.2.2))))) = some r := H
   have A9 := aM A90
   clear A90
   rcases eB_cases H with ⟨xe_, A230, H⟩ | ⟨⟨t195, t196, t197, t198⟩, A230, H⟩
   ·subst H
    have A23 := aM A230
    clear A230
    go_enter Try.func38, Try.ntmps38
    go_wp2_with (first | ((with_reducible refine gate_dst (N := 1) rfl ?_); refine bx (N := 1) (cs := #[.pointer (some ⟨g, 0, none⟩)]) (t := 81) ?_; intro gb184 hg w24 hbox hb; have BK184 := aM (hbox); have GW184 := aM (gk HK hg); have GE184 := aM (Nat.le_trans HW0.out (gk HK hg)); have NB0_184 := aM (ni164 HI0 hg); have NB184_0 := aM (ni164 HI0 hg).symm; replace HI0 := aM (IsS164.below (iS164 HI0) hb); replace HK := aM (kt HK hb); replace HB := aM (bS (iB164 HB) hb); clear hb hbox hg) | ((with_reducible refine gate_dst (N := 2) rfl ?_); refine bx (N := 2) (cs := #[.int .i64 0, .int .i64 0, .int .i64 0, .slice none 0 0]) (t := 53) ?_; intro gb185 hg w25 hbox hb; have BK185 := aM (hbox); have GW185 := aM (gk HK hg); have GE185 := aM (Nat.le_trans HW0.out (gk HK hg)); have NB184_185 := aM (nb BK184 hg); have NB185_184 := aM (nb BK184 hg).symm; have NB0_185 := aM (ni164 HI0 hg); have NB185_0 := aM (ni164 HI0 hg).symm; replace HI0 := aM (IsS164.below (iS164 HI0) hb); replace BK184 := aM (kB (kl BK184) hb); replace HK := aM (kt HK hb); replace HB := aM (bS (iB164 HB) hb); clear hb hbox hg; obtain ⟨hnb26, hnc26⟩ := nn NB184_185; obtain ⟨hnb27, hnc27⟩ := nn NB184_0; obtain ⟨hcz28_0, hfz28_0⟩ := bc1 BK184) | ((with_reducible refine gate_callee (f := 86) rfl ?_); refine gL (some 5) Try.func86 #[.agg #[.pointer (some ⟨g, 0, none⟩)]] ?_; (with_reducible refine (codec_reader_int.calls k g s0_0 s0_1 s0_2 (.ok (t186, t187, t188, t189)) w0 _ (iS164 HI0) (iB164 HB) A2.out).mono ?_); rintro e w29 ⟨rfl, hi, hb, hk⟩; refine ⟨_, rfl, ?_⟩; replace BK184 := aM (k0 hk BK184 NB184_0); replace BK185 := aM (k0 hk BK185 NB185_0); replace HK := aM (ku HK hk); replace HB := aM (hb); replace HI0 := aM (hi); (try clear hb); (try clear hk); (try clear hi)) | ((with_reducible refine gate_dst (N := 3) rfl ?_); refine bx (N := 3) (cs := #[.int .i64 0, .int .i64 0, .int .i64 0, .slice none 0 0]) (t := 53) ?_; intro gb190 hg w30 hbox hb; have BK190 := aM (hbox); have GW190 := aM (gk HK hg); have GE190 := aM (Nat.le_trans HW0.out (gk HK hg)); have NB184_190 := aM (nb BK184 hg); have NB190_184 := aM (nb BK184 hg).symm; have NB185_190 := aM (nb BK185 hg); have NB190_185 := aM (nb BK185 hg).symm; have NB0_190 := aM (ni164 HI0 hg); have NB190_0 := aM (ni164 HI0 hg).symm; replace HI0 := aM (IsS164.below (iS164 HI0) hb); replace BK184 := aM (kB (kl BK184) hb); replace BK185 := aM (kB (kl BK185) hb); replace HK := aM (kt HK hb); replace HB := aM (bS (iB164 HB) hb); clear hb hbox hg; obtain ⟨hnb31, hnc31⟩ := nn NB190_184; obtain ⟨hnb32, hnc32⟩ := nn NB190_185; obtain ⟨hnb33, hnc33⟩ := nn NB190_0; obtain ⟨hcz34_0, hcz34_1, hcz34_2, hcz34_3, hfz34_0, hfz34_1, hfz34_2, hfz34_3⟩ := bc4 BK190; obtain ⟨hcz35_0, hfz35_0⟩ := bc1 BK184) | ((with_reducible refine gate_callee (f := 86) rfl ?_); refine gL (some 8) Try.func86 #[.agg #[.pointer (some ⟨g, 0, none⟩)]] ?_; (with_reducible refine (codec_reader_int.calls k g t187 t188 t189 (.ok (t191, t192, t193, t194)) w0 _ (iS164 HI0) (iB164 HB) A9.out).mono ?_); rintro e w36 ⟨rfl, hi, hb, hk⟩; refine ⟨_, rfl, ?_⟩; replace BK184 := aM (kb hk BK184 NB184_0 (.cells #[.pointer (some ⟨g, 0, none⟩)] 81 (0, 0))); replace BK185 := aM (kb hk BK185 NB185_0 (.cells #[.int .i64 0, .int .i64 0, .int .i64 0, .slice none 0 0] 53 (0, 0))); replace BK190 := aM (kb hk BK190 NB190_0 (.cells #[.int .i64 t186, .int .i64 0, .int .i64 0, .slice none 0 0] 53 (0, 0))); replace HK := aM (ku HK hk); replace HB := aM (hb); replace HI0 := aM (hi); (try clear hb); (try clear hk); (try clear hi); obtain ⟨hcz37_0, hcz37_1, hcz37_2, hcz37_3, hfz37_0, hfz37_1, hfz37_2, hfz37_3⟩ := bc4 BK190; obtain ⟨hcz38_0, hfz38_0⟩ := bc1 BK184) | (go_at_call 86; (with_reducible refine (codec_reader_int.calls k g t192 t193 t194 (.error xe_) w0 _ (iS164 HI0) (iB164 HB) A23.out).mono ?_); rintro e w39 ⟨rfl, hb⟩))
    (first | exact ⟨rfl, rfl, hb⟩ | exact ⟨rfl, hb⟩ | (go_simp; exact ⟨rfl, hb⟩) | (simp; exact ⟨rfl, hb⟩))
   ·replace H : (eB (codec_reader_tags.f k t196 t197 t198) fun bt199 => (some (.ok (t186, t191, t195, bt199.1, bt199.2.1, bt199.2.2.1, bt199.2.2.2)))) = some r := H
    have A23 := aM A230
    clear A230
    rcases eB_cases H with ⟨xe_, A400, H⟩ | ⟨⟨t199, t202, t203, t204⟩, A400, H⟩
    ·subst H
     have A40 := aM A400
     clear A400
     go_enter Try.func38, Try.ntmps38
     go_wp2_with (first | ((with_reducible refine gate_dst (N := 1) rfl ?_); refine bx (N := 1) (cs := #[.pointer (some ⟨g, 0, none⟩)]) (t := 81) ?_; intro gb184 hg w41 hbox hb; have BK184 := aM (hbox); have GW184 := aM (gk HK hg); have GE184 := aM (Nat.le_trans HW0.out (gk HK hg)); have NB0_184 := aM (ni164 HI0 hg); have NB184_0 := aM (ni164 HI0 hg).symm; replace HI0 := aM (IsS164.below (iS164 HI0) hb); replace HK := aM (kt HK hb); replace HB := aM (bS (iB164 HB) hb); clear hb hbox hg) | ((with_reducible refine gate_dst (N := 2) rfl ?_); refine bx (N := 2) (cs := #[.int .i64 0, .int .i64 0, .int .i64 0, .slice none 0 0]) (t := 53) ?_; intro gb185 hg w42 hbox hb; have BK185 := aM (hbox); have GW185 := aM (gk HK hg); have GE185 := aM (Nat.le_trans HW0.out (gk HK hg)); have NB184_185 := aM (nb BK184 hg); have NB185_184 := aM (nb BK184 hg).symm; have NB0_185 := aM (ni164 HI0 hg); have NB185_0 := aM (ni164 HI0 hg).symm; replace HI0 := aM (IsS164.below (iS164 HI0) hb); replace BK184 := aM (kB (kl BK184) hb); replace HK := aM (kt HK hb); replace HB := aM (bS (iB164 HB) hb); clear hb hbox hg; obtain ⟨hnb43, hnc43⟩ := nn NB184_185; obtain ⟨hnb44, hnc44⟩ := nn NB184_0; obtain ⟨hcz45_0, hfz45_0⟩ := bc1 BK184) | ((with_reducible refine gate_callee (f := 86) rfl ?_); refine gL (some 5) Try.func86 #[.agg #[.pointer (some ⟨g, 0, none⟩)]] ?_; (with_reducible refine (codec_reader_int.calls k g s0_0 s0_1 s0_2 (.ok (t186, t187, t188, t189)) w0 _ (iS164 HI0) (iB164 HB) A2.out).mono ?_); rintro e w46 ⟨rfl, hi, hb, hk⟩; refine ⟨_, rfl, ?_⟩; replace BK184 := aM (k0 hk BK184 NB184_0); replace BK185 := aM (k0 hk BK185 NB185_0); replace HK := aM (ku HK hk); replace HB := aM (hb); replace HI0 := aM (hi); (try clear hb); (try clear hk); (try clear hi)) | ((with_reducible refine gate_dst (N := 3) rfl ?_); refine bx (N := 3) (cs := #[.int .i64 0, .int .i64 0, .int .i64 0, .slice none 0 0]) (t := 53) ?_; intro gb190 hg w47 hbox hb; have BK190 := aM (hbox); have GW190 := aM (gk HK hg); have GE190 := aM (Nat.le_trans HW0.out (gk HK hg)); have NB184_190 := aM (nb BK184 hg); have NB190_184 := aM (nb BK184 hg).symm; have NB185_190 := aM (nb BK185 hg); have NB190_185 := aM (nb BK185 hg).symm; have NB0_190 := aM (ni164 HI0 hg); have NB190_0 := aM (ni164 HI0 hg).symm; replace HI0 := aM (IsS164.below (iS164 HI0) hb); replace BK184 := aM (kB (kl BK184) hb); replace BK185 := aM (kB (kl BK185) hb); replace HK := aM (kt HK hb); replace HB := aM (bS (iB164 HB) hb); clear hb hbox hg; obtain ⟨hnb48, hnc48⟩ := nn NB190_184; obtain ⟨hnb49, hnc49⟩ := nn NB190_185; obtain ⟨hnb50, hnc50⟩ := nn NB190_0; obtain ⟨hcz51_0, hcz51_1, hcz51_2, hcz51_3, hfz51_0, hfz51_1, hfz51_2, hfz51_3⟩ := bc4 BK190; obtain ⟨hcz52_0, hfz52_0⟩ := bc1 BK184) | ((with_reducible refine gate_callee (f := 86) rfl ?_); refine gL (some 8) Try.func86 #[.agg #[.pointer (some ⟨g, 0, none⟩)]] ?_; (with_reducible refine (codec_reader_int.calls k g t187 t188 t189 (.ok (t191, t192, t193, t194)) w0 _ (iS164 HI0) (iB164 HB) A9.out).mono ?_); rintro e w53 ⟨rfl, hi, hb, hk⟩; refine ⟨_, rfl, ?_⟩; replace BK184 := aM (kb hk BK184 NB184_0 (.cells #[.pointer (some ⟨g, 0, none⟩)] 81 (0, 0))); replace BK185 := aM (kb hk BK185 NB185_0 (.cells #[.int .i64 0, .int .i64 0, .int .i64 0, .slice none 0 0] 53 (0, 0))); replace BK190 := aM (kb hk BK190 NB190_0 (.cells #[.int .i64 t186, .int .i64 0, .int .i64 0, .slice none 0 0] 53 (0, 0))); replace HK := aM (ku HK hk); replace HB := aM (hb); replace HI0 := aM (hi); (try clear hb); (try clear hk); (try clear hi); obtain ⟨hcz54_0, hcz54_1, hcz54_2, hcz54_3, hfz54_0, hfz54_1, hfz54_2, hfz54_3⟩ := bc4 BK190; obtain ⟨hcz55_0, hfz55_0⟩ := bc1 BK184) | ((with_reducible refine gate_callee (f := 86) rfl ?_); refine gL (some 12) Try.func86 #[.agg #[.pointer (some ⟨g, 0, none⟩)]] ?_; (with_reducible refine (codec_reader_int.calls k g t192 t193 t194 (.ok (t195, t196, t197, t198)) w0 _ (iS164 HI0) (iB164 HB) A23.out).mono ?_); rintro e w56 ⟨rfl, hi, hb, hk⟩; refine ⟨_, rfl, ?_⟩; replace BK184 := aM (kb hk BK184 NB184_0 (.cells #[.pointer (some ⟨g, 0, none⟩)] 81 (0, 0))); replace BK185 := aM (kb hk BK185 NB185_0 (.cells #[.int .i64 0, .int .i64 0, .int .i64 0, .slice none 0 0] 53 (0, 0))); replace BK190 := aM (kb hk BK190 NB190_0 (.cells #[.int .i64 t186, .int .i64 t191, .int .i64 0, .slice none 0 0] 53 (0, 0))); replace HK := aM (ku HK hk); replace HB := aM (hb); replace HI0 := aM (hi); (try clear hb); (try clear hk); (try clear hi); obtain ⟨hcz57_0, hcz57_1, hcz57_2, hcz57_3, hfz57_0, hfz57_1, hfz57_2, hfz57_3⟩ := bc4 BK190; obtain ⟨hcz58_0, hfz58_0⟩ := bc1 BK184) | (go_at_call 87; (with_reducible refine (codec_reader_tags.calls k g t196 t197 t198 (.error xe_) w0 _ (iS164 HI0) (iB164 HB) A40.out).mono ?_); rintro e w59 ⟨rfl, hb⟩))
     (first | exact ⟨rfl, rfl, hb⟩ | exact ⟨rfl, hb⟩ | (go_simp; exact ⟨rfl, hb⟩) | (simp; exact ⟨rfl, hb⟩))
    ·replace H : (some (.ok (t186, t191, t195, t199, t202, t203, t204))) = some r := H
     have A40 := aM A400
     clear A400
     obtain rfl := Option.some.inj H
     go_enter Try.func38, Try.ntmps38
     go_wp2_with (first | ((with_reducible refine gate_dst (N := 1) rfl ?_); refine bx (N := 1) (cs := #[.pointer (some ⟨g, 0, none⟩)]) (t := 81) ?_; intro gb184 hg w60 hbox hb; have BK184 := aM (hbox); have GW184 := aM (gk HK hg); have GE184 := aM (Nat.le_trans HW0.out (gk HK hg)); have NB0_184 := aM (ni164 HI0 hg); have NB184_0 := aM (ni164 HI0 hg).symm; replace HI0 := aM (IsS164.below (iS164 HI0) hb); replace HK := aM (kt HK hb); replace HB := aM (bS (iB164 HB) hb); clear hb hbox hg) | ((with_reducible refine gate_dst (N := 2) rfl ?_); refine bx (N := 2) (cs := #[.int .i64 0, .int .i64 0, .int .i64 0, .slice none 0 0]) (t := 53) ?_; intro gb185 hg w61 hbox hb; have BK185 := aM (hbox); have GW185 := aM (gk HK hg); have GE185 := aM (Nat.le_trans HW0.out (gk HK hg)); have NB184_185 := aM (nb BK184 hg); have NB185_184 := aM (nb BK184 hg).symm; have NB0_185 := aM (ni164 HI0 hg); have NB185_0 := aM (ni164 HI0 hg).symm; replace HI0 := aM (IsS164.below (iS164 HI0) hb); replace BK184 := aM (kB (kl BK184) hb); replace HK := aM (kt HK hb); replace HB := aM (bS (iB164 HB) hb); clear hb hbox hg; obtain ⟨hnb62, hnc62⟩ := nn NB184_185; obtain ⟨hnb63, hnc63⟩ := nn NB184_0; obtain ⟨hcz64_0, hfz64_0⟩ := bc1 BK184) | ((with_reducible refine gate_callee (f := 86) rfl ?_); refine gL (some 5) Try.func86 #[.agg #[.pointer (some ⟨g, 0, none⟩)]] ?_; (with_reducible refine (codec_reader_int.calls k g s0_0 s0_1 s0_2 (.ok (t186, t187, t188, t189)) w0 _ (iS164 HI0) (iB164 HB) A2.out).mono ?_); rintro e w65 ⟨rfl, hi, hb, hk⟩; refine ⟨_, rfl, ?_⟩; replace BK184 := aM (k0 hk BK184 NB184_0); replace BK185 := aM (k0 hk BK185 NB185_0); replace HK := aM (ku HK hk); replace HB := aM (hb); replace HI0 := aM (hi); (try clear hb); (try clear hk); (try clear hi)) | ((with_reducible refine gate_dst (N := 3) rfl ?_); refine bx (N := 3) (cs := #[.int .i64 0, .int .i64 0, .int .i64 0, .slice none 0 0]) (t := 53) ?_; intro gb190 hg w66 hbox hb; have BK190 := aM (hbox); have GW190 := aM (gk HK hg); have GE190 := aM (Nat.le_trans HW0.out (gk HK hg)); have NB184_190 := aM (nb BK184 hg); have NB190_184 := aM (nb BK184 hg).symm; have NB185_190 := aM (nb BK185 hg); have NB190_185 := aM (nb BK185 hg).symm; have NB0_190 := aM (ni164 HI0 hg); have NB190_0 := aM (ni164 HI0 hg).symm; replace HI0 := aM (IsS164.below (iS164 HI0) hb); replace BK184 := aM (kB (kl BK184) hb); replace BK185 := aM (kB (kl BK185) hb); replace HK := aM (kt HK hb); replace HB := aM (bS (iB164 HB) hb); clear hb hbox hg; obtain ⟨hnb67, hnc67⟩ := nn NB190_184; obtain ⟨hnb68, hnc68⟩ := nn NB190_185; obtain ⟨hnb69, hnc69⟩ := nn NB190_0; obtain ⟨hcz70_0, hcz70_1, hcz70_2, hcz70_3, hfz70_0, hfz70_1, hfz70_2, hfz70_3⟩ := bc4 BK190; obtain ⟨hcz71_0, hfz71_0⟩ := bc1 BK184) | ((with_reducible refine gate_callee (f := 86) rfl ?_); refine gL (some 8) Try.func86 #[.agg #[.pointer (some ⟨g, 0, none⟩)]] ?_; (with_reducible refine (codec_reader_int.calls k g t187 t188 t189 (.ok (t191, t192, t193, t194)) w0 _ (iS164 HI0) (iB164 HB) A9.out).mono ?_); rintro e w72 ⟨rfl, hi, hb, hk⟩; refine ⟨_, rfl, ?_⟩; replace BK184 := aM (kb hk BK184 NB184_0 (.cells #[.pointer (some ⟨g, 0, none⟩)] 81 (0, 0))); replace BK185 := aM (kb hk BK185 NB185_0 (.cells #[.int .i64 0, .int .i64 0, .int .i64 0, .slice none 0 0] 53 (0, 0))); replace BK190 := aM (kb hk BK190 NB190_0 (.cells #[.int .i64 t186, .int .i64 0, .int .i64 0, .slice none 0 0] 53 (0, 0))); replace HK := aM (ku HK hk); replace HB := aM (hb); replace HI0 := aM (hi); (try clear hb); (try clear hk); (try clear hi); obtain ⟨hcz73_0, hcz73_1, hcz73_2, hcz73_3, hfz73_0, hfz73_1, hfz73_2, hfz73_3⟩ := bc4 BK190; obtain ⟨hcz74_0, hfz74_0⟩ := bc1 BK184) | ((with_reducible refine gate_callee (f := 86) rfl ?_); refine gL (some 12) Try.func86 #[.agg #[.pointer (some ⟨g, 0, none⟩)]] ?_; (with_reducible refine (codec_reader_int.calls k g t192 t193 t194 (.ok (t195, t196, t197, t198)) w0 _ (iS164 HI0) (iB164 HB) A23.out).mono ?_); rintro e w75 ⟨rfl, hi, hb, hk⟩; refine ⟨_, rfl, ?_⟩; replace BK184 := aM (kb hk BK184 NB184_0 (.cells #[.pointer (some ⟨g, 0, none⟩)] 81 (0, 0))); replace BK185 := aM (kb hk BK185 NB185_0 (.cells #[.int .i64 0, .int .i64 0, .int .i64 0, .slice none 0 0] 53 (0, 0))); replace BK190 := aM (kb hk BK190 NB190_0 (.cells #[.int .i64 t186, .int .i64 t191, .int .i64 0, .slice none 0 0] 53 (0, 0))); replace HK := aM (ku HK hk); replace HB := aM (hb); replace HI0 := aM (hi); (try clear hb); (try clear hk); (try clear hi); obtain ⟨hcz76_0, hcz76_1, hcz76_2, hcz76_3, hfz76_0, hfz76_1, hfz76_2, hfz76_3⟩ := bc4 BK190; obtain ⟨hcz77_0, hfz77_0⟩ := bc1 BK184) | ((with_reducible refine gate_callee (f := 87) rfl ?_); refine gL (some 16) Try.func87 #[.agg #[.pointer (some ⟨g, 0, none⟩)]] ?_; (with_reducible refine (codec_reader_tags.calls k g t196 t197 t198 (.ok (t199, t202, t203, t204)) w0 _ (iS164 HI0) (iB164 HB) A40.out).mono ?_); rintro e w78 ⟨v200, rfl, ho0, hi, hb, hk⟩; refine ⟨_, rfl, ?_⟩; replace BK184 := aM (kb hk BK184 NB184_0 (.cells #[.pointer (some ⟨g, 0, none⟩)] 81 (0, 0))); replace BK185 := aM (kb hk BK185 NB185_0 (.cells #[.int .i64 0, .int .i64 0, .int .i64 0, .slice none 0 0] 53 (0, 0))); replace BK190 := aM (kb hk BK190 NB190_0 (.cells #[.int .i64 t186, .int .i64 t191, .int .i64 t195, .slice none 0 0] 53 (0, 0))); have HO201 := aM (Kd.R_lower ho0 (keep_size (w := w) (g := g) (row := none) (kp HK))); replace HK := aM (ku HK hk); replace HB := aM (hb); replace HI0 := aM (hi); (try clear hb); (try clear hk); (try clear hi); (try clear ho0); obtain ⟨Ao79, co79, eo79⟩ := Kd.R_slice HO201.out; subst eo79; obtain ⟨hcz80_0, hcz80_1, hcz80_2, hcz80_3, hfz80_0, hfz80_1, hfz80_2, hfz80_3⟩ := bc4 BK190; obtain ⟨hnb81, hnc81⟩ := nn NB185_0; obtain ⟨hcz82_0, hcz82_1, hcz82_2, hcz82_3, hfz82_0, hfz82_1, hfz82_2, hfz82_3⟩ := bc4 BK185))
     refine bodyPost_ret (results_cell_row rfl _ _ gb185 53 #[.int .i64 t186, .int .i64 t191, .int .i64 t195, .slice Ao79 t199.length co79] (0, 0) _ rfl (bk BK185) Try.underlying53 rfl (by kernel_rfl)) rfl ?_
     exact ⟨_, by first | rfl | (simp [errW_none, errW_some] <;> rfl) | (simp [*, errW_none, errW_some] <;> rfl), by (with_reducible repeat (first | apply rA | apply rN | apply rD)); exact rM (Kd.R_far (p := ⟨gb185, 3, none⟩) (Kd.R_far (p := ⟨gb185, 2, none⟩) (Kd.R_far (p := ⟨gb185, 1, none⟩) (Kd.R_far (p := ⟨gb185, 0, none⟩) (Kd.R_far (p := ⟨gb190, 3, none⟩) (Kd.R_types (Kd.R_types HO201.out BK190.out (by decide)) BK185.out (by decide)) (fun _ hk => hk.1.2) (.slice Ao79 t199.length co79)) (fun _ hk => hk.2) (.int .i64 t186)) (fun _ hk => hk.2) (.int .i64 t191)) (fun _ hk => hk.2) (.int .i64 t195)) (fun _ hk => hk.2) (.slice Ao79 t199.length co79)) (fun _ hk => trivial), iS164 HI0, iB164 HB, kp HK⟩
def codec_reader_way.l0 : Nat → Int → Int → ByteArray → Int → Int → Int → List Int → Option (Except Int (Int × List Int × (List (S130)) × ByteArray × Int × Int))
 | 0, _, _, _, _, _, _, _ => none
 | k + 1, x8, x9, x1000, x1001, x1002, x212000, x212001 => if x9 < x8 then (eB (codec_reader_int.f k x1000 x1001 x1002) fun bt216 => (if x212001.length < 17592186044416 then (codec_reader_way.l0 k x8 (wrap64 (x9 + 1)) bt216.2.1 bt216.2.2.1 bt216.2.2.2 x212000 (x212001 ++ [bt216.1])) else (none))) else (eB (codec_reader_tags.f k x1000 x1001 x1002) fun bt223 => (some (.ok (x212000, x212001, bt223.1, bt223.2.1, bt223.2.2.1, bt223.2.2.2))))
def codec_reader_way.f (k : Nat) (s0_0 : ByteArray) (s0_1 : Int) (s0_2 : Int) : Option (Except Int (Int × List Int × (List (S130)) × ByteArray × Int × Int)) := eB (codec_reader_int.f k s0_0 s0_1 s0_2) fun bt207 => (eB (codec_reader_count.f k bt207.2.1 bt207.2.2.1 bt207.2.2.2 2000) fun bt212 => (codec_reader_way.l0 k bt212.1 0 bt212.2.1 bt212.2.2.1 bt212.2.2.2 bt207.1 ([] : List Int)))
theorem codec_reader_way.mono_l : ∀ k, (∀ y0 y1 y2 y3 y4 y5 y6, LeO (codec_reader_way.l0 k y0 y1 y2 y3 y4 y5 y6) (codec_reader_way.l0 (k + 1) y0 y1 y2 y3 y4 y5 y6))
 | 0 => fun _ _ _ _ _ _ _ r h => by simp [codec_reader_way.l0] at h
 | k + 1 => by
  have ih0 := codec_reader_way.mono_l k
  ·intro y0 y1 y2 y3 y4 y5 y6
   unfold codec_reader_way.l0
   repeat' first
   | (with_reducible exact ih0 _ _ _ _ _ _ _)
   | (with_reducible exact codec_reader_count.mono _ _ _ _ _)
   | (with_reducible exact codec_reader_int.mono _ _ _ _)
   | (with_reducible exact codec_reader_tags.mono _ _ _ _)
   | (with_reducible exact LeO.refl _)
   | (with_reducible exact LeO.none _)
   | (with_reducible refine LeO.ite ?_ ?_)
   | (with_reducible refine LeO.eB ?_ (fun _ => ?_))
   | (with_reducible refine LeO.bind ?_ (fun _ => ?_))
   | exact ih0 _ _ _ _ _ _ _
   | exact codec_reader_count.mono _ _ _ _ _
   | exact codec_reader_int.mono _ _ _ _
   | exact codec_reader_tags.mono _ _ _ _
   | exact LeO.none _
   | refine LeO.ite ?_ ?_
   | refine LeO.bind ?_ (fun _ => ?_)
theorem codec_reader_way.mono : ∀ a0 a1 a2 k, LeO (codec_reader_way.f k a0 a1 a2) (codec_reader_way.f (k + 1) a0 a1 a2) := by
 intro a0 a1 a2 k
 have ih0 := codec_reader_way.mono_l k
 unfold codec_reader_way.f
 repeat' first
   | (with_reducible exact ih0 _ _ _ _ _ _ _)
   | (with_reducible exact codec_reader_count.mono _ _ _ _ _)
   | (with_reducible exact codec_reader_int.mono _ _ _ _)
   | (with_reducible exact codec_reader_tags.mono _ _ _ _)
   | (with_reducible exact LeO.refl _)
   | (with_reducible exact LeO.none _)
   | (with_reducible refine LeO.ite ?_ ?_)
   | (with_reducible refine LeO.eB ?_ (fun _ => ?_))
   | (with_reducible refine LeO.bind ?_ (fun _ => ?_))
   | exact ih0 _ _ _ _ _ _ _
   | exact codec_reader_count.mono _ _ _ _ _
   | exact codec_reader_int.mono _ _ _ _
   | exact codec_reader_tags.mono _ _ _ _
   | exact LeO.none _
   | refine LeO.ite ?_ ?_
   | refine LeO.bind ?_ (fun _ => ?_)
def codec_reader_way.Post (w0 w : World) (g : Nat) : Except Int (Int × List Int × (List (S130)) × ByteArray × Int × Int) → Ending → World → Prop
 | .ok (r1, r2, r3, r4, r5, r6), e, w' => ∃ v1_ v2_ : Value, e = .returned (.agg #[.int .i64 r1, v1_, v2_]) ∧ Kd.R (Kd.int .i64) 3 w' w.heap.size (fun _ => True) v1_ r2 ∧ Kd.R k130 130 w' w.heap.size (fun _ => True) v2_ r3 ∧ IsS164 w0 w' g r4 r5 r6 ∧ Below w0.heap.size w0 w' ∧ KeepBut w w' g none
 | .error xe_, e, w' => e = .panicked [{ v := .iface 139 (.int .i64 xe_), recovered := false }] ∧ Below w0.heap.size w0 w'
def codec_reader_way.T4 : Bool × List (List Nat × List Nat) := (true, [([], []), ([0], [0]), ([], []), ([2], [2]), ([3], [3]), ([1, 4, 3], [1, 4]), ([0, 1, 2, 3, 4, 5], []), ([6, 5, 5, 0, 1, 2, 3, 4, 5], [5, 6])])
def codec_reader_way.B4 : List Nat := [0, 1, 0, 4, 12, 31, 63, 127]
theorem codec_reader_way.tab4 : rtab .any (opsOf Try.f39 4) = codec_reader_way.T4 := by kernel_rfl
theorem codec_reader_way.bits4 : waitsOk codec_reader_way.T4.2 codec_reader_way.B4 = true := by kernel_rfl
set_option maxHeartbeats 8000000 in
set_option maxRecDepth 100000 in
theorem codec_reader_way.calls (k : Nat) (g : Nat) (s0_0 : ByteArray) (s0_1 : Int) (s0_2 : Int) (r : Except Int (Int × List Int × (List (S130)) × ByteArray × Int × Int)) (w0 w : World) (hI : IsS164 w0 w g s0_0 s0_1 s0_2) (hB : Below w0.heap.size w0 w) (h : codec_reader_way.f k s0_0 s0_1 s0_2 = some r) :
  Calls Try.prog 39 #[.agg #[.pointer (some ⟨g, 0, none⟩)]] w (codec_reader_way.Post w0 w g r) := by
 have hu81 := Try.underlying81
 have hu56 := Try.underlying56
 have HI0 := aM hI
 have HK := aM (KeepBut.refl w g none)
 have HL := aM hB.size
 clear hI
 have HW0 := aM hB.size
 have HB := aM hB
 clear hB
 have H : (eB (codec_reader_int.f k s0_0 s0_1 s0_2) fun bt207 => (eB (codec_reader_count.f k bt207.2.1 bt207.2.2.1 bt207.2.2.2 2000) fun bt212 => (codec_reader_way.l0 k bt212.1 0 bt212.2.1 bt212.2.2.1 bt212.2.2.2 bt207.1 ([] : List Int)))) = some r := h
 clear h
 rcases eB_cases H with ⟨xe_, A20, H⟩ | ⟨⟨t207, t208, t209, t210⟩, A20, H⟩
 ·subst H
  have A2 := aM A20
  clear A20
  go_enter Try.func39, Try.ntmps39
  go_wp2_with (first | ((with_reducible refine gate_dst (N := 1) rfl ?_); refine bx (N := 1) (cs := #[.pointer (some ⟨g, 0, none⟩)]) (t := 81) ?_; intro gb205 hg w3 hbox hb; have BK205 := aM (hbox); have GW205 := aM (gk HK hg); have GE205 := aM (Nat.le_trans HW0.out (gk HK hg)); have NB0_205 := aM (ni164 HI0 hg); have NB205_0 := aM (ni164 HI0 hg).symm; replace HI0 := aM (IsS164.below (iS164 HI0) hb); replace HK := aM (kt HK hb); replace HB := aM (bS (iB164 HB) hb); clear hb hbox hg) | ((with_reducible refine gate_dst (N := 2) rfl ?_); refine bx (N := 2) (cs := #[.int .i64 0, .slice none 0 0, .slice none 0 0]) (t := 56) ?_; intro gb206 hg w4 hbox hb; have n0_ := aM (IsS164.below (iS164 HI0) hb); have n1_ := aM (kB (kl BK205) hb); have n2_ := aM (kt HK hb); have n3_ := aM (bS (iB164 HB) hb); have n6_ := aM (Nat.le_trans HW0.out (gk HK hg)); have n7_ := aM (nb BK205 hg); have n8_ := aM (nb BK205 hg).symm; have n9_ := aM (ni164 HI0 hg); (try clear HI0); (try clear BK205); (try clear HK); (try clear HB); have HI0 := n0_; have BK205 := n1_; have HK := n2_; have HB := n3_; have GE206 := n6_; have NB205_206 := n7_; have NB206_205 := n8_; have NB0_206 := n9_; clear n0_ n1_ n2_ n3_ n6_ n7_ n8_ n9_ hb hbox hg; obtain ⟨hnb5, hnc5⟩ := nn NB205_206; obtain ⟨hnb6, hnc6⟩ := nn NB205_0; obtain ⟨hcz7_0, hfz7_0⟩ := bc1 BK205) | (go_at_call 86; (with_reducible refine (codec_reader_int.calls k g s0_0 s0_1 s0_2 (.error xe_) w0 _ (iS164 HI0) (iB164 HB) A2.out).mono ?_); rintro e w8 ⟨rfl, hb⟩))
  (first | exact ⟨rfl, rfl, hb⟩ | exact ⟨rfl, hb⟩ | (go_simp; exact ⟨rfl, hb⟩) | (simp; exact ⟨rfl, hb⟩))
 ·replace H : (eB (codec_reader_count.f k t208 t209 t210 2000) fun bt212 => (codec_reader_way.l0 k bt212.1 0 bt212.2.1 bt212.2.2.1 bt212.2.2.2 t207 ([] : List Int))) = some r := H
  have A2 := aM A20
  clear A20
  rcases eB_cases H with ⟨xe_, A90, H⟩ | ⟨⟨t212, t213, t214, t215⟩, A90, H⟩
  ·subst H
   have A9 := aM A90
   clear A90
   go_enter Try.func39, Try.ntmps39
   go_wp2_with (first | ((with_reducible refine gate_dst (N := 1) rfl ?_); refine bx (N := 1) (cs := #[.pointer (some ⟨g, 0, none⟩)]) (t := 81) ?_; intro gb205 hg w10 hbox hb; have BK205 := aM (hbox); have GW205 := aM (gk HK hg); have GE205 := aM (Nat.le_trans HW0.out (gk HK hg)); have NB0_205 := aM (ni164 HI0 hg); have NB205_0 := aM (ni164 HI0 hg).symm; replace HI0 := aM (IsS164.below (iS164 HI0) hb); replace HK := aM (kt HK hb); replace HB := aM (bS (iB164 HB) hb); clear hb hbox hg) | ((with_reducible refine gate_dst (N := 2) rfl ?_); refine bx (N := 2) (cs := #[.int .i64 0, .slice none 0 0, .slice none 0 0]) (t := 56) ?_; intro gb206 hg w11 hbox hb; have BK206 := aM (hbox); have GW206 := aM (gk HK hg); have GE206 := aM (Nat.le_trans HW0.out (gk HK hg)); have NB205_206 := aM (nb BK205 hg); have NB206_205 := aM (nb BK205 hg).symm; have NB0_206 := aM (ni164 HI0 hg); have NB206_0 := aM (ni164 HI0 hg).symm; replace HI0 := aM (IsS164.below (iS164 HI0) hb); replace BK205 := aM (kB (kl BK205) hb); replace HK := aM (kt HK hb); replace HB := aM (bS (iB164 HB) hb); clear hb hbox hg; obtain ⟨hnb12, hnc12⟩ := nn NB205_206; obtain ⟨hnb13, hnc13⟩ := nn NB205_0; obtain ⟨hcz14_0, hfz14_0⟩ := bc1 BK205) | ((with_reducible refine gate_callee (f := 86) rfl ?_); refine gL (some 5) Try.func86 #[.agg #[.pointer (some ⟨g, 0, none⟩)]] ?_; (with_reducible refine (codec_reader_int.calls k g s0_0 s0_1 s0_2 (.ok (t207, t208, t209, t210)) w0 _ (iS164 HI0) (iB164 HB) A2.out).mono ?_); rintro e w15 ⟨rfl, hi, hb, hk⟩; refine ⟨_, rfl, ?_⟩; replace BK205 := aM (k0 hk BK205 NB205_0); replace BK206 := aM (k0 hk BK206 NB206_0); replace HK := aM (ku HK hk); replace HB := aM (hb); replace HI0 := aM (hi); (try clear hb); (try clear hk); (try clear hi)) | ((with_reducible refine gate_dst (N := 3) rfl ?_); refine bx (N := 3) (cs := #[.int .i64 0, .slice none 0 0, .slice none 0 0]) (t := 56) ?_; intro gb211 hg w16 hbox hb; have n0_ := aM (IsS164.below (iS164 HI0) hb); have n1_ := aM (kB (kl BK205) hb); have n2_ := aM (kB (kl BK206) hb); have n3_ := aM (kt HK hb); have n4_ := aM (bS (iB164 HB) hb); have n5_ := aM (hbox); have n7_ := aM (Nat.le_trans HW0.out (gk HK hg)); have n8_ := aM (nb BK205 hg); have n9_ := aM (nb BK205 hg).symm; have n10_ := aM (nb BK206 hg); have n11_ := aM (nb BK206 hg).symm; have n12_ := aM (ni164 HI0 hg); have n13_ := aM (ni164 HI0 hg).symm; (try clear HI0); (try clear BK205); (try clear BK206); (try clear HK); (try clear HB); have HI0 := n0_; have BK205 := n1_; have BK206 := n2_; have HK := n3_; have HB := n4_; have BK211 := n5_; have GE211 := n7_; have NB205_211 := n8_; have NB211_205 := n9_; have NB206_211 := n10_; have NB211_206 := n11_; have NB0_211 := n12_; have NB211_0 := n13_; clear n0_ n1_ n2_ n3_ n4_ n5_ n7_ n8_ n9_ n10_ n11_ n12_ n13_ hb hbox hg; obtain ⟨hnb17, hnc17⟩ := nn NB211_205; obtain ⟨hnb18, hnc18⟩ := nn NB211_206; obtain ⟨hnb19, hnc19⟩ := nn NB211_0; obtain ⟨hcz20_0, hcz20_1, hcz20_2, hfz20_0, hfz20_1, hfz20_2⟩ := bc3 BK211; obtain ⟨hcz21_0, hfz21_0⟩ := bc1 BK205) | (go_at_call 37; (with_reducible refine (codec_reader_count.calls k g t208 t209 t210 2000 (.error xe_) w0 _ (iS164 HI0) (iB164 HB) A9.out).mono ?_); rintro e w22 ⟨rfl, hb⟩))
   (first | exact ⟨rfl, rfl, hb⟩ | exact ⟨rfl, hb⟩ | (go_simp; exact ⟨rfl, hb⟩) | (simp; exact ⟨rfl, hb⟩))
  ·replace H : (codec_reader_way.l0 k t212 0 t213 t214 t215 t207 ([] : List Int)) = some r := H
   have A9 := aM A90
   clear A90
   have H' := aM H
   clear H
   go_enter Try.func39, Try.ntmps39
   go_wp2_with (first | ((with_reducible refine gate_dst (N := 1) rfl ?_); refine bx (N := 1) (cs := #[.pointer (some ⟨g, 0, none⟩)]) (t := 81) ?_; intro gb205 hg w23 hbox hb; have BK205 := aM (hbox); have GW205 := aM (gk HK hg); have GE205 := aM (Nat.le_trans HW0.out (gk HK hg)); have NB0_205 := aM (ni164 HI0 hg); have NB205_0 := aM (ni164 HI0 hg).symm; replace HI0 := aM (IsS164.below (iS164 HI0) hb); replace HK := aM (kt HK hb); replace HB := aM (bS (iB164 HB) hb); clear hb hbox hg) | ((with_reducible refine gate_dst (N := 2) rfl ?_); refine bx (N := 2) (cs := #[.int .i64 0, .slice none 0 0, .slice none 0 0]) (t := 56) ?_; intro gb206 hg w24 hbox hb; have BK206 := aM (hbox); have GW206 := aM (gk HK hg); have GE206 := aM (Nat.le_trans HW0.out (gk HK hg)); have NB205_206 := aM (nb BK205 hg); have NB206_205 := aM (nb BK205 hg).symm; have NB0_206 := aM (ni164 HI0 hg); have NB206_0 := aM (ni164 HI0 hg).symm; replace HI0 := aM (IsS164.below (iS164 HI0) hb); replace BK205 := aM (kB (kl BK205) hb); replace HK := aM (kt HK hb); replace HB := aM (bS (iB164 HB) hb); clear hb hbox hg; obtain ⟨hnb25, hnc25⟩ := nn NB205_206; obtain ⟨hnb26, hnc26⟩ := nn NB205_0; obtain ⟨hcz27_0, hfz27_0⟩ := bc1 BK205) | ((with_reducible refine gate_callee (f := 86) rfl ?_); refine gL (some 5) Try.func86 #[.agg #[.pointer (some ⟨g, 0, none⟩)]] ?_; (with_reducible refine (codec_reader_int.calls k g s0_0 s0_1 s0_2 (.ok (t207, t208, t209, t210)) w0 _ (iS164 HI0) (iB164 HB) A2.out).mono ?_); rintro e w28 ⟨rfl, hi, hb, hk⟩; refine ⟨_, rfl, ?_⟩; replace BK205 := aM (k0 hk BK205 NB205_0); replace BK206 := aM (k0 hk BK206 NB206_0); replace HK := aM (ku HK hk); replace HB := aM (hb); replace HI0 := aM (hi); (try clear hb); (try clear hk); (try clear hi)) | ((with_reducible refine gate_dst (N := 3) rfl ?_); refine bx (N := 3) (cs := #[.int .i64 0, .slice none 0 0, .slice none 0 0]) (t := 56) ?_; intro gb211 hg w29 hbox hb; have BK211 := aM (hbox); have GW211 := aM (gk HK hg); have GE211 := aM (Nat.le_trans HW0.out (gk HK hg)); have NB205_211 := aM (nb BK205 hg); have NB211_205 := aM (nb BK205 hg).symm; have NB206_211 := aM (nb BK206 hg); have NB211_206 := aM (nb BK206 hg).symm; have NB0_211 := aM (ni164 HI0 hg); have NB211_0 := aM (ni164 HI0 hg).symm; replace HI0 := aM (IsS164.below (iS164 HI0) hb); replace BK205 := aM (kB (kl BK205) hb); replace BK206 := aM (kB (kl BK206) hb); replace HK := aM (kt HK hb); replace HB := aM (bS (iB164 HB) hb); clear hb hbox hg; obtain ⟨hnb30, hnc30⟩ := nn NB211_205; obtain ⟨hnb31, hnc31⟩ := nn NB211_206; obtain ⟨hnb32, hnc32⟩ := nn NB211_0; obtain ⟨hcz33_0, hcz33_1, hcz33_2, hfz33_0, hfz33_1, hfz33_2⟩ := bc3 BK211; obtain ⟨hcz34_0, hfz34_0⟩ := bc1 BK205) | ((with_reducible refine gate_callee (f := 37) rfl ?_); refine gL (some 8) Try.func37 #[.agg #[.pointer (some ⟨g, 0, none⟩)], .int .i64 2000] ?_; (with_reducible refine (codec_reader_count.calls k g t208 t209 t210 2000 (.ok (t212, t213, t214, t215)) w0 _ (iS164 HI0) (iB164 HB) A9.out).mono ?_); rintro e w35 ⟨rfl, hi, hb, hk⟩; refine ⟨_, rfl, ?_⟩; replace BK205 := aM (kb hk BK205 NB205_0 (.cells #[.pointer (some ⟨g, 0, none⟩)] 81 (0, 0))); replace BK206 := aM (kb hk BK206 NB206_0 (.cells #[.int .i64 0, .slice none 0 0, .slice none 0 0] 56 (0, 0))); replace BK211 := aM (kb hk BK211 NB211_0 (.cells #[.int .i64 t207, .slice none 0 0, .slice none 0 0] 56 (0, 0))); replace HK := aM (ku HK hk); replace HB := aM (hb); replace HI0 := aM (hi); (try clear hb); (try clear hk); (try clear hi)))
   go_loopg [9] k (fun kq v9 w' => ∃ (x9_1 : Int) (x1000_1 : ByteArray) (x1001_1 : Int) (x1002_1 : Int) (x212001_1 : List Int) (u212001 : Value), v9 = .int .i64 x9_1 ∧ Aside0 (codec_reader_way.l0 kq t212 x9_1 x1000_1 x1001_1 x1002_1 t207 x212001_1 = some r) ∧ Aside0 (kq ≤ k) ∧ Aside0 (Kd.R (Kd.int .i64) 3 w' w.heap.size (fun _ => True) u212001 x212001_1) ∧ Aside0 (w'.heap[gb205]? = some (.cells #[.pointer (some ⟨g, 0, none⟩)] 81 (0, 0))) ∧ Aside0 (w'.heap[gb206]? = some (.cells #[.int .i64 0, (.slice none 0 0), (.slice none 0 0)] 56 (0, 0))) ∧ Aside0 (w'.heap[gb211]? = some (.cells #[.int .i64 t207, u212001, (.slice none 0 0)] 56 (0, 0))) ∧ Aside0 (IsS164 w0 w' g x1000_1 x1001_1 x1002_1) ∧ Aside0 (KeepBut w w' g none) ∧ Aside0 (Below w0.heap.size w0 w'))
   case atStart => exact ⟨(0), (t213), (t214), (t215), (([] : List Int)), (.slice none 0 0), (by first | rfl | (simp; done) | (simp [*]; done)), H', ⟨Nat.le_refl _⟩, ⟨by first | exact Kd.R_nil _ _ _ _ _ | exact Kd.N_nil _ _ _ _ _ | exact Kd.V_nil _ _ _ _ _ | exact Kd.Q_nil _ _ _ _ _ | exact Kd.S_nil _ _ _ _ _⟩, ⟨kl BK205⟩, ⟨kl BK206⟩, ⟨kl BK211⟩, ⟨iS164 HI0⟩, ⟨kp HK⟩, ⟨iB164 HB⟩⟩
   case round =>
    clear H'
    try clear c1
    try clear c2
    try clear p2
    try clear c3
    try clear c5
    try clear c6
    try clear c8
    try clear c12
    try clear c13
    try clear c17
    try clear c18
    try clear c19
    try clear c25
    try clear c26
    try clear c30
    try clear c31
    try clear c32
    try clear hcz14_0 hfz14_0
    try clear hcz20_0 hcz20_1 hcz20_2 hfz20_0 hfz20_1 hfz20_2
    try clear hcz21_0 hfz21_0
    try clear hcz27_0 hfz27_0
    try clear hcz33_0 hcz33_1 hcz33_2 hfz33_0 hfz33_1 hfz33_2
    try clear hcz34_0 hfz34_0
    try clear hcz7_0 hfz7_0
    obtain ⟨x9_1, x1000_1, x1001_1, x1002_1, x212001_1, u212001, rfl, HA, HK1, HO_212001, BK205, BK206, BK211, HI0, HK, HB⟩ := hrel
    cases gk with
    | zero => exact absurd HA.out (by simp [codec_reader_way.l0])
    | succ k1 =>
     have H := HA.out
     clear HA
     simp only [codec_reader_way.l0] at H
     by_cases c36 : x9_1 < t212
     ·rw [if_pos c36] at H
      have c36b0 : decide (x9_1 < t212) = true := decide_eq_true c36
      clear c36
      rcases eB_cases H with ⟨xe_, A370, H⟩ | ⟨⟨t216, t217, t218, t219⟩, A370, H⟩
      ·subst H
       have A37 := aM A370
       clear A370
       go_wp2
       replace BK205 := aM (kD BK205.out)
       replace BK211 := aM (kD BK211.out)
       replace HI0 := aM (IsS164.drew HI0.out)
       replace HB := aM (bD HB.out)
       clear HO_212001 BK206 HK
       refine start_ (n := 8) (S := fun w' => w'.cell? ⟨gb211, 0, none⟩ = some (.int .i64 t207) ∧ w'.cell? ⟨gb211, 1, none⟩ = some (u212001) ∧ w'.cell? ⟨gb211, 2, none⟩ = some (.slice none 0 0) ∧ w'.cell? ⟨gb205, 0, none⟩ = some (.pointer (some ⟨g, 0, none⟩))) (ds := [7]) #[false, false, false, false, false, false, false, false] (by kernel_rfl) rfl rfl ⟨(kC BK211.out 0).trans rfl, (kC BK211.out 1).trans rfl, (kC BK211.out 2).trans rfl, (kC BK205.out 0).trans rfl⟩ (fun hHeld => ?_); refine with_tabW codec_reader_way.tab4 codec_reader_way.bits4 (fun HT_ HW_ => ?_)
       generalize wr.drew = w39 at BK205 BK211 HI0 HB hHeld ⊢
       refine pure_ (i := 0) (N := some 11) (v := ?_) (a' := ?_) (ba 8 1) rfl rfl (any_of HT_.out (by kernel_rfl)) (fun _ _ _ h => h) (Or.inl ⟨by rfl, ?_⟩) ?_ ?_
       rotate_left
       ·intro w'
        go_simp
        with_reducible rfl
       rotate_left
       ·simp only [Act.put, sA, sB, sC, i64_w, i32_w]
        rfl
       refine take_ (i := 1) (N := some 12) (v := ?_) (a' := ?_) (ba 8 3) rfl rfl (take_ofW HT_.out HW_.out (by kernel_rfl)) (fun _ _ _ h => h) (Or.inl ⟨by rfl, ?_⟩) hHeld ?_ ?_
       rotate_left
       ·rintro w' ⟨s0, s1, s2, s3⟩
        go_simp
        with_reducible rfl
       rotate_left
       ·simp only [Act.put, sA, sB, sC, i64_w, i32_w]
        rfl
       refine take_ (i := 2) (N := some 13) (v := ?_) (a' := ?_) (ba 8 7) rfl rfl (take_ofW HT_.out HW_.out (by kernel_rfl)) (fun _ _ _ h => h) (Or.inl ⟨by rfl, ?_⟩) hHeld ?_ ?_
       rotate_left
       ·rintro w' ⟨s0, s1, s2, s3⟩
        go_simp
        with_reducible rfl
       rotate_left
       ·simp only [Act.put, sA, sB, sC, i64_w, i32_w]
        rfl
       refine one_ (i := 3) (N := some 14) (ba 8 15) rfl rfl (one_of HT_.out (by kernel_rfl)) (by decide) (fun K hK => ?_)
       refine goesP_ Try.func86 (by kernel_rfl) rfl #[.agg #[.pointer (some ⟨g, 0, none⟩)]] (by rfl) rfl rfl (by (try simp only [List.map_toArray, List.map_cons, List.map_nil]); first | done | rfl | (simp only [List.length_drop, List.length_take]; rfl)) ?_
       with_reducible refine (codec_reader_int.calls k1 g x1000_1 x1001_1 x1002_1 (.error xe_) w0 _ ?side1 ?side2 A37.out).mono ?_
       (case side1 => repeat (first | (with_reducible first | exact HI0.out | apply IsS164.alloc | apply IsS164.drewN | apply IsS164.drew | apply IsS164.set_0 | apply IsS164.set_1 | apply IsS164.set_2 | refine IsS164.far ?_ NB0_205.out _ | refine IsS164.far ?_ NB0_206.out _ | refine IsS164.far ?_ NB0_211.out _) | exact HI0.out))
       (case side2 => repeat (first | (with_reducible first | exact HB.out | apply bA | apply bN | apply bD | refine bT ?_ (IsS164.ge HI0.out) | refine bT ?_ GE205.out | refine bT ?_ GE206.out | refine bT ?_ GE211.out) | exact HB.out))
       rintro e wP_ ⟨rfl, hb⟩
       refine ⟨_, rfl, ?_⟩
       (first | exact ⟨rfl, rfl, hb⟩ | exact ⟨rfl, hb⟩ | (go_simp; exact ⟨rfl, hb⟩) | (simp; exact ⟨rfl, hb⟩))
      ·replace H : (if x212001_1.length < 17592186044416 then (codec_reader_way.l0 k1 t212 (wrap64 (x9_1 + 1)) t217 t218 t219 t207 (x212001_1 ++ [t216])) else (none)) = some r := H
       have A37 := aM A370
       clear A370
       by_cases c44 : x212001_1.length < 17592186044416
       ·rw [if_pos c44] at H
        have LMc44 := aM c44
        clear c44
        obtain ⟨y220, hy220⟩ : ∃ y_ : List Int, y_ = (x212001_1 ++ [t216]) := ⟨_, rfl⟩
        replace H : (codec_reader_way.l0 k1 t212 (wrap64 (x9_1 + 1)) t217 t218 t219 t207 y220) = some r := by first | (rw [hy220]; with_reducible exact H) | (have H2_ := (Option.bind_some _ _).symm.trans H; rw [hy220]; with_reducible exact H2_) | (have H2_ := (Option.bind_some _ _).symm.trans H; with_reducible exact H2_) | with_reducible exact H | (rw [hy220]; exact H) | exact H
        have Ny220 := aM hy220
        clear hy220
        have H' := aM H
        clear H
        try go_wp2
        replace HO_212001 := aM (rD HO_212001.out)
        replace BK205 := aM (kD BK205.out)
        replace BK206 := aM (kD BK206.out)
        replace BK211 := aM (kD BK211.out)
        replace HI0 := aM (IsS164.drew HI0.out)
        replace HK := aM (keep_drew HK.out)
        replace HB := aM (bD HB.out)
        refine start_ (n := 8) (S := fun w' => w'.cell? ⟨gb211, 0, none⟩ = some (.int .i64 t207) ∧ w'.cell? ⟨gb211, 1, none⟩ = some (u212001) ∧ w'.cell? ⟨gb211, 2, none⟩ = some (.slice none 0 0) ∧ w'.cell? ⟨gb205, 0, none⟩ = some (.pointer (some ⟨g, 0, none⟩))) (ds := [7]) #[false, false, false, false, false, false, false, false] (by kernel_rfl) rfl rfl ⟨(kC BK211.out 0).trans rfl, (kC BK211.out 1).trans rfl, (kC BK211.out 2).trans rfl, (kC BK205.out 0).trans rfl⟩ (fun hHeld => ?_); refine with_tabW codec_reader_way.tab4 codec_reader_way.bits4 (fun HT_ HW_ => ?_)
        generalize wr.drew = w45 at HO_212001 BK205 BK206 BK211 HI0 HK HB hHeld ⊢
        refine pure_ (i := 0) (N := some 11) (v := ?_) (a' := ?_) (ba 8 1) rfl rfl (any_of HT_.out (by kernel_rfl)) (fun _ _ _ h => h) (Or.inl ⟨by rfl, ?_⟩) ?_ ?_
        rotate_left
        ·intro w'
         go_simp
         with_reducible rfl
        rotate_left
        ·simp only [Act.put, sA, sB, sC, i64_w, i32_w]
         rfl
        refine take_ (i := 1) (N := some 12) (v := ?_) (a' := ?_) (ba 8 3) rfl rfl (take_ofW HT_.out HW_.out (by kernel_rfl)) (fun _ _ _ h => h) (Or.inl ⟨by rfl, ?_⟩) hHeld ?_ ?_
        rotate_left
        ·rintro w' ⟨s0, s1, s2, s3⟩
         go_simp
         with_reducible rfl
        rotate_left
        ·simp only [Act.put, sA, sB, sC, i64_w, i32_w]
         rfl
        refine take_ (i := 2) (N := some 13) (v := ?_) (a' := ?_) (ba 8 7) rfl rfl (take_ofW HT_.out HW_.out (by kernel_rfl)) (fun _ _ _ h => h) (Or.inl ⟨by rfl, ?_⟩) hHeld ?_ ?_
        rotate_left
        ·rintro w' ⟨s0, s1, s2, s3⟩
         go_simp
         with_reducible rfl
        rotate_left
        ·simp only [Act.put, sA, sB, sC, i64_w, i32_w]
         rfl
        refine one_ (i := 3) (N := some 14) (ba 8 15) rfl rfl (one_of HT_.out (by kernel_rfl)) (by decide) (fun K hK => ?_)
        refine goes_ Try.func86 (by kernel_rfl) rfl #[.agg #[.pointer (some ⟨g, 0, none⟩)]] (by rfl) rfl rfl (by (try simp only [List.map_toArray, List.map_cons, List.map_nil]); first | done | rfl | (simp only [List.length_drop, List.length_take]; rfl)) ?_
        with_reducible refine (codec_reader_int.calls k1 g x1000_1 x1001_1 x1002_1 (.ok (t216, t217, t218, t219)) w0 _ ?side1 ?side2 A37.out).mono ?_
        (case side1 => repeat (first | (with_reducible first | exact HI0.out | apply IsS164.alloc | apply IsS164.drewN | apply IsS164.drew | apply IsS164.set_0 | apply IsS164.set_1 | apply IsS164.set_2 | refine IsS164.far ?_ NB0_205.out _ | refine IsS164.far ?_ NB0_206.out _ | refine IsS164.far ?_ NB0_211.out _) | exact HI0.out))
        (case side2 => repeat (first | (with_reducible first | exact HB.out | apply bA | apply bN | apply bD | refine bT ?_ (IsS164.ge HI0.out) | refine bT ?_ GE205.out | refine bT ?_ GE206.out | refine bT ?_ GE211.out) | exact HB.out))
        rintro e w46 ⟨rfl, hi, hb, hk⟩
        refine ⟨_, rfl, ?_⟩
        replace HO_212001 := aM (rM (Kd.R_keep (IsS164.apart (show IsS164 w0 _ g x1000_1 x1001_1 x1002_1 from iS164 HI0) (rl HO_212001) (by decide)) hk (fun _ h => h.2)) (fun _ h => h.1))
        replace BK205 := aM (k0 hk BK205 NB205_0)
        replace BK206 := aM (k0 hk BK206 NB206_0)
        replace BK211 := aM (k0 hk BK211 NB211_0)
        replace HK := aM (ku HK hk)
        replace HB := aM (hb)
        replace HI0 := aM (hi)
        (try clear hb)
        (try clear hb2)
        (try clear hk)
        (try clear hi)
        refine hK.out _ _ ⟨(kC BK211.out 0).trans rfl, (kC BK211.out 1).trans rfl, (kC BK211.out 2).trans rfl, (kC BK205.out 0).trans rfl⟩ (fun hHeld => ?_)
        clear hK K
        refine norm_ (a' := ?_) ?_ ?_
        rotate_left
        ·show Act.put _ (some 14) _ = _
         simp only [Act.put, sA, sB, sC, i64_w, i32_w]
         rfl
        refine one_ (i := 4) (N := some 15) (ba 8 31) rfl rfl (one_of HT_.out (by kernel_rfl)) (by decide) (fun K hK => ?_)
        refine value_ (w1 := ?_) (v := ?_) (by rfl) rfl ?_ ?_
        rotate_left 2
        ·go_simp
         constructor
         ·rfl
         ·rfl
        refine hK.out _ _ ⟨(kC (kA BK211.out _) 0).trans rfl, (kC (kA BK211.out _) 1).trans rfl, (kC (kA BK211.out _) 2).trans rfl, (kC (kA BK205.out _) 0).trans rfl⟩ (fun hHeld => ?_)
        clear hK K
        refine norm_ (a' := ?_) ?_ ?_
        rotate_left
        ·show Act.put _ (some 15) _ = _
         simp only [Act.put, sA, sB, sC, i64_w, i32_w]
         rfl
        refine one_ (i := 5) (N := some 16) (ba 8 63) rfl rfl (one_of HT_.out (by kernel_rfl)) (by decide) (fun K hK => ?_)
        refine Kd.R_append_step (Kd.int .i64) w.heap.size (by rfl) (.tmp 12) (.tmp 15) 54 3 (.int .i64 0) 8 rfl Try.underlying54 info3 rfl (by decide) (by omega) u212001 x212001_1 t216 [.int .i64 t216] (fun _ => True) (fun _ => False) rfl rfl ?aP (fun _ hk => hk.elim) ?aF ?aO (Below.refl _ _) ?aS ?aL ?_
        (case aP => exact rfl)
        (case aF => exact (fun _ _ => trivial))
        (case aO => exact (rl HO_212001))
        (case aS => exact (keep_size (w := w) (g := g) (row := none) (kp HK)))
        (case aL => have := LMc44.out; omega)
        intro v221 w47 ho hb hg hat
        rw [← Ny220.out] at ho
        have HO222 := aM (ho)
        replace BK205 := aM (blk_grown (kl BK205) hg (Kd.R_ne HO_212001.out BK205.out (by decide)))
        replace BK206 := aM (blk_grown (kl BK206) hg (Kd.R_ne HO_212001.out BK206.out (by decide)))
        replace BK211 := aM (blk_grown (kl BK211) hg (Kd.R_ne HO_212001.out BK211.out (by decide)))
        replace HI0 := aM (IsS164.grown (show IsS164 w0 _ g t217 t218 t219 from iS164 HI0) hg (IsS164.own_ne HI0.out HO_212001.out (by decide)))
        replace HK := aM (KeepBut.trans (kp HK) (KeepBut.of_grown hg g) (Kd.R_base2 HO_212001.out))
        replace HB := aM (below_weaken (iB164 HB) HL.out hb)
        clear HO_212001 ho hb hg hat
        obtain ⟨Ao48, co48, eo48⟩ := Kd.R_slice HO222.out
        (first | subst eo48 | (injection eo48 with f1_ f2_ f3_; have f4_ := f1_.symm; have f5_ := f3_.symm; clear f1_ f2_ f3_; subst f4_; subst f5_))
        refine hK.out _ _ ⟨(kC BK211.out 0).trans rfl, (kC BK211.out 1).trans rfl, (kC BK211.out 2).trans rfl, (kC BK205.out 0).trans rfl⟩ (fun hHeld => ?_)
        clear hK K
        refine norm_ (a' := ?_) ?_ ?_
        rotate_left
        ·show Act.put _ (some 16) _ = _
         simp only [Act.put, sA, sB, sC, i64_w, i32_w]
         rfl
        refine pure_ (i := 6) (N := some 17) (v := ?_) (a' := ?_) (ba 8 127) rfl rfl (any_of HT_.out (by kernel_rfl)) (fun _ _ _ h => h) (Or.inl ⟨by rfl, ?_⟩) ?_ ?_
        rotate_left
        ·intro w'
         go_simp
         with_reducible rfl
        rotate_left
        ·simp only [Act.put, sA, sB, sC, i64_w, i32_w]
         rfl
        refine last_ (i := 7) (N := none) (ba 8 255) rfl rfl (one_of HT_.out (by kernel_rfl)) (by decide) (fun K hK => ?_)
        have hs49 : w47.cell? ⟨gb211, 1, none⟩ = some (u212001) := (kC BK211.out 1).trans rfl
        have hfs49 := kF BK211.out 1
        have hns49_0 := NB205_211.out
        have hns49_1 := NB206_211.out
        have hms49_0 := NB211_205.out
        have hms49_1 := NB211_206.out
        refine skip_ (w1 := ?_) (by rfl) rfl ?_ ?_
        rotate_left
        ·go_simp
         rfl
        refine hK.out _ _ ?_
        clear hK K
        refine done_ (done_of HT_.out (by kernel_rfl)) ?_
        try go_wp2
        go_roundg k1
        case measure => have := HK1.out; omega
        case rel => exact ⟨(wrap64 (x9_1 + 1)), (t217), (t218), (t219), (y220), (.slice Ao48 y220.length co48), (by first | rfl | (simp; done) | (simp [*]; done)), H', ⟨by have := HK1.out; omega⟩, ⟨by (with_reducible repeat (first | apply rA | apply rN | apply rD)); exact rM (Kd.R_far (p := ⟨gb211, 1, none⟩) (Kd.R_types HO222.out BK211.out (by decide)) (fun _ hk => hk.2) (.slice Ao48 y220.length co48)) (fun _ hk => trivial)⟩, ⟨bk BK205⟩, ⟨bk BK206⟩, ⟨bk BK211⟩, ⟨iS164 HI0⟩, ⟨kp HK⟩, ⟨iB164 HB⟩⟩
       ·rw [if_neg c44] at H
        exact absurd H (by simp)
     ·rw [if_neg c36] at H
      have c36b0 : decide (x9_1 < t212) = false := decide_eq_false c36
      clear c36
      rcases eB_cases H with ⟨xe_, A500, H⟩ | ⟨⟨t223, t226, t227, t228⟩, A500, H⟩
      ·subst H
       have A50 := aM A500
       clear A500
       obtain ⟨hnb51, hnc51⟩ := nn NB205_206
       obtain ⟨hnb52, hnc52⟩ := nn NB205_211
       obtain ⟨hnb53, hnc53⟩ := nn NB205_0
       obtain ⟨hcz54_0, hfz54_0⟩ := bc1 BK205
       go_wp2_with (first | (go_at_call 87; (with_reducible refine (codec_reader_tags.calls k1 g x1000_1 x1001_1 x1002_1 (.error xe_) w0 _ (iS164 HI0) (iB164 HB) A50.out).mono ?_); rintro e w55 ⟨rfl, hb⟩))
       (first | exact ⟨rfl, rfl, hb⟩ | exact ⟨rfl, hb⟩ | (go_simp; exact ⟨rfl, hb⟩) | (simp; exact ⟨rfl, hb⟩))
      ·replace H : (some (.ok (t207, x212001_1, t223, t226, t227, t228))) = some r := H
       have A50 := aM A500
       clear A500
       obtain rfl := Option.some.inj H
       obtain ⟨hnb56, hnc56⟩ := nn NB205_206
       obtain ⟨hnb57, hnc57⟩ := nn NB205_211
       obtain ⟨hnb58, hnc58⟩ := nn NB205_0
       obtain ⟨hcz59_0, hfz59_0⟩ := bc1 BK205
       go_wp2_with (first | ((with_reducible refine gate_callee (f := 87) rfl ?_); refine gL (some 20) Try.func87 #[.agg #[.pointer (some ⟨g, 0, none⟩)]] ?_; (with_reducible refine (codec_reader_tags.calls k1 g x1000_1 x1001_1 x1002_1 (.ok (t223, t226, t227, t228)) w0 _ (iS164 HI0) (iB164 HB) A50.out).mono ?_); rintro e w60 ⟨v224, rfl, ho0, hi, hb, hk⟩; refine ⟨_, rfl, ?_⟩; replace HO_212001 := aM (rM (Kd.R_keep (IsS164.apart (show IsS164 w0 _ g x1000_1 x1001_1 x1002_1 from iS164 HI0) (rl HO_212001) (by decide)) hk (fun _ h => h.2)) (fun _ h => h.1)); replace BK206 := aM (k0 hk BK206 NB206_0); replace BK211 := aM (k0 hk BK211 NB211_0); have HO225 := aM (Kd.R_lower ho0 (keep_size (w := w) (g := g) (row := none) (kp HK))); replace HK := aM (ku HK hk); replace HB := aM (hb); replace HI0 := aM (hi); clear BK205; (try clear hb); (try clear hk); (try clear hi); (try clear ho0); obtain ⟨Ao61, co61, eo61⟩ := Kd.R_slice HO225.out; subst eo61; obtain ⟨hnb62, hnc62⟩ := nn NB211_206; obtain ⟨hnb63, hnc63⟩ := nn NB211_0; obtain ⟨hcz64_0, hcz64_1, hcz64_2, hfz64_0, hfz64_1, hfz64_2⟩ := bc3 BK211; obtain ⟨hnb65, hnc65⟩ := nn NB206_0; obtain ⟨hcz66_0, hcz66_1, hcz66_2, hfz66_0, hfz66_1, hfz66_2⟩ := bc3 BK206; obtain ⟨Ao67, co67, eo67⟩ := Kd.R_slice HO_212001.out; subst eo67))
       refine bodyPost_ret (results_cell_row rfl _ _ gb206 56 #[.int .i64 t207, .slice Ao67 x212001_1.length co67, .slice Ao61 t223.length co61] (0, 0) _ rfl (bk BK206) Try.underlying56 rfl (by kernel_rfl)) rfl ?_
       exact ⟨_, _, by first | rfl | (simp [errW_none, errW_some] <;> rfl) | (simp [*, errW_none, errW_some] <;> rfl), by (with_reducible repeat (first | apply rA | apply rN | apply rD)); exact rM (Kd.R_far (p := ⟨gb206, 2, none⟩) (Kd.R_far (p := ⟨gb206, 1, none⟩) (Kd.R_far (p := ⟨gb206, 0, none⟩) (Kd.R_far (p := ⟨gb211, 2, none⟩) (Kd.R_types (Kd.R_types HO_212001.out BK211.out (by decide)) BK206.out (by decide)) (fun _ hk => hk.1.2) (.slice Ao61 t223.length co61)) (fun _ hk => hk.2) (.int .i64 t207)) (fun _ hk => hk.2) (.slice Ao67 x212001_1.length co67)) (fun _ hk => hk.2) (.slice Ao61 t223.length co61)) (fun _ hk => trivial), by (with_reducible repeat (first | apply rA | apply rN | apply rD)); exact rM (Kd.R_far (p := ⟨gb206, 2, none⟩) (Kd.R_far (p := ⟨gb206, 1, none⟩) (Kd.R_far (p := ⟨gb206, 0, none⟩) (Kd.R_far (p := ⟨gb211, 2, none⟩) (Kd.R_types (Kd.R_types HO225.out BK211.out (by decide)) BK206.out (by decide)) (fun _ hk => hk.1.2) (.slice Ao61 t223.length co61)) (fun _ hk => hk.2) (.int .i64 t207)) (fun _ hk => hk.2) (.slice Ao67 x212001_1.length co67)) (fun _ hk => hk.2) (.slice Ao61 t223.length co61)) (fun _ hk => trivial), iS164 HI0, iB164 HB, kp HK⟩
def codec_reader_rel.l0 : Nat → Int → Int → ByteArray → Int → Int → Int → List (S63) → Option (Except Int (Int × (List (S63)) × (List (S130)) × ByteArray × Int × Int))
 | 0, _, _, _, _, _, _, _ => none
 | k + 1, x9, x10, x1000, x1001, x1002, x236000, x236001 => if x10 < x9 then (eB (codec_reader_int.f k x1000 x1001 x1002) fun bt240 => (eB (codec_reader_int.f k bt240.2.1 bt240.2.2.1 bt240.2.2.2) fun bt245 => (eB (codec_reader_text.f k bt245.2.1 bt245.2.2.1 bt245.2.2.2) fun bt249 => (if x236001.length < 4398046511104 then (codec_reader_rel.l0 k x9 (wrap64 (x10 + 1)) bt249.2.1 bt249.2.2.1 bt249.2.2.2 x236000 (x236001 ++ [(⟨(⟨bt240.1, bt245.1⟩ : S61), bt249.1⟩ : S63)])) else (none))))) else (eB (codec_reader_tags.f k x1000 x1001 x1002) fun bt256 => (some (.ok (x236000, x236001, bt256.1, bt256.2.1, bt256.2.2.1, bt256.2.2.2))))
def codec_reader_rel.f (k : Nat) (s0_0 : ByteArray) (s0_1 : Int) (s0_2 : Int) : Option (Except Int (Int × (List (S63)) × (List (S130)) × ByteArray × Int × Int)) := eB (codec_reader_int.f k s0_0 s0_1 s0_2) fun bt231 => (eB (codec_reader_count.f k bt231.2.1 bt231.2.2.1 bt231.2.2.2 200) fun bt236 => (codec_reader_rel.l0 k bt236.1 0 bt236.2.1 bt236.2.2.1 bt236.2.2.2 bt231.1 ([] : List (S63))))
theorem codec_reader_rel.mono_l : ∀ k, (∀ y0 y1 y2 y3 y4 y5 y6, LeO (codec_reader_rel.l0 k y0 y1 y2 y3 y4 y5 y6) (codec_reader_rel.l0 (k + 1) y0 y1 y2 y3 y4 y5 y6))
 | 0 => fun _ _ _ _ _ _ _ r h => by simp [codec_reader_rel.l0] at h
 | k + 1 => by
  have ih0 := codec_reader_rel.mono_l k
  ·intro y0 y1 y2 y3 y4 y5 y6
   unfold codec_reader_rel.l0
   repeat' first
   | (with_reducible exact ih0 _ _ _ _ _ _ _)
   | (with_reducible exact codec_reader_count.mono _ _ _ _ _)
   | (with_reducible exact codec_reader_int.mono _ _ _ _)
   | (with_reducible exact codec_reader_tags.mono _ _ _ _)
   | (with_reducible exact codec_reader_text.mono _ _ _ _)
   | (with_reducible exact LeO.refl _)
   | (with_reducible exact LeO.none _)
   | (with_reducible refine LeO.ite ?_ ?_)
   | (with_reducible refine LeO.eB ?_ (fun _ => ?_))
   | (with_reducible refine LeO.bind ?_ (fun _ => ?_))
   | exact ih0 _ _ _ _ _ _ _
   | exact codec_reader_count.mono _ _ _ _ _
   | exact codec_reader_int.mono _ _ _ _
   | exact codec_reader_tags.mono _ _ _ _
   | exact codec_reader_text.mono _ _ _ _
   | exact LeO.none _
   | refine LeO.ite ?_ ?_
   | refine LeO.bind ?_ (fun _ => ?_)
theorem codec_reader_rel.mono : ∀ a0 a1 a2 k, LeO (codec_reader_rel.f k a0 a1 a2) (codec_reader_rel.f (k + 1) a0 a1 a2) := by
 intro a0 a1 a2 k
 have ih0 := codec_reader_rel.mono_l k
 unfold codec_reader_rel.f
 repeat' first
   | (with_reducible exact ih0 _ _ _ _ _ _ _)
   | (with_reducible exact codec_reader_count.mono _ _ _ _ _)
   | (with_reducible exact codec_reader_int.mono _ _ _ _)
   | (with_reducible exact codec_reader_tags.mono _ _ _ _)
   | (with_reducible exact codec_reader_text.mono _ _ _ _)
   | (with_reducible exact LeO.refl _)
   | (with_reducible exact LeO.none _)
   | (with_reducible refine LeO.ite ?_ ?_)
   | (with_reducible refine LeO.eB ?_ (fun _ => ?_))
   | (with_reducible refine LeO.bind ?_ (fun _ => ?_))
   | exact ih0 _ _ _ _ _ _ _
   | exact codec_reader_count.mono _ _ _ _ _
   | exact codec_reader_int.mono _ _ _ _
   | exact codec_reader_tags.mono _ _ _ _
   | exact codec_reader_text.mono _ _ _ _
   | exact LeO.none _
   | refine LeO.ite ?_ ?_
   | refine LeO.bind ?_ (fun _ => ?_)
def codec_reader_rel.Post (w0 w : World) (g : Nat) : Except Int (Int × (List (S63)) × (List (S130)) × ByteArray × Int × Int) → Ending → World → Prop
 | .ok (r1, r2, r3, r4, r5, r6), e, w' => ∃ v1_ v2_ : Value, e = .returned (.agg #[.int .i64 r1, v1_, v2_]) ∧ Kd.R k63 63 w' w.heap.size (fun _ => True) v1_ r2 ∧ Kd.R k130 130 w' w.heap.size (fun _ => True) v2_ r3 ∧ IsS164 w0 w' g r4 r5 r6 ∧ Below w0.heap.size w0 w' ∧ KeepBut w w' g none
 | .error xe_, e, w' => e = .panicked [{ v := .iface 139 (.int .i64 xe_), recovered := false }] ∧ Below w0.heap.size w0 w'
set_option maxHeartbeats 8000000 in
set_option maxRecDepth 100000 in
theorem codec_reader_rel.calls (k : Nat) (g : Nat) (s0_0 : ByteArray) (s0_1 : Int) (s0_2 : Int) (r : Except Int (Int × (List (S63)) × (List (S130)) × ByteArray × Int × Int)) (w0 w : World) (hI : IsS164 w0 w g s0_0 s0_1 s0_2) (hB : Below w0.heap.size w0 w) (h : codec_reader_rel.f k s0_0 s0_1 s0_2 = some r) :
  Calls Try.prog 40 #[.agg #[.pointer (some ⟨g, 0, none⟩)]] w (codec_reader_rel.Post w0 w g r) := by
 have hu81 := Try.underlying81
 have hu59 := Try.underlying59
 have hu61 := Try.underlying61
 have hu63 := Try.underlying63
 have HI0 := aM hI
 have HK := aM (KeepBut.refl w g none)
 have HL := aM hB.size
 clear hI
 have HW0 := aM hB.size
 have HB := aM hB
 clear hB
 have H : (eB (codec_reader_int.f k s0_0 s0_1 s0_2) fun bt231 => (eB (codec_reader_count.f k bt231.2.1 bt231.2.2.1 bt231.2.2.2 200) fun bt236 => (codec_reader_rel.l0 k bt236.1 0 bt236.2.1 bt236.2.2.1 bt236.2.2.2 bt231.1 ([] : List (S63))))) = some r := h
 clear h
 rcases eB_cases H with ⟨xe_, A20, H⟩ | ⟨⟨t231, t232, t233, t234⟩, A20, H⟩
 ·subst H
  have A2 := aM A20
  clear A20
  go_enter Try.func40, Try.ntmps40
  go_wp2_with (first | ((with_reducible refine gate_dst (N := 1) rfl ?_); refine bx (N := 1) (cs := #[.pointer (some ⟨g, 0, none⟩)]) (t := 81) ?_; intro gb229 hg w3 hbox hb; have BK229 := aM (hbox); have GW229 := aM (gk HK hg); have GE229 := aM (Nat.le_trans HW0.out (gk HK hg)); have NB0_229 := aM (ni164 HI0 hg); have NB229_0 := aM (ni164 HI0 hg).symm; replace HI0 := aM (IsS164.below (iS164 HI0) hb); replace HK := aM (kt HK hb); replace HB := aM (bS (iB164 HB) hb); clear hb hbox hg) | ((with_reducible refine gate_dst (N := 2) rfl ?_); refine bx (N := 2) (cs := #[.int .i64 0, .slice none 0 0, .slice none 0 0]) (t := 59) ?_; intro gb230 hg w4 hbox hb; have n0_ := aM (IsS164.below (iS164 HI0) hb); have n1_ := aM (kB (kl BK229) hb); have n2_ := aM (kt HK hb); have n3_ := aM (bS (iB164 HB) hb); have n6_ := aM (Nat.le_trans HW0.out (gk HK hg)); have n7_ := aM (nb BK229 hg); have n8_ := aM (nb BK229 hg).symm; have n9_ := aM (ni164 HI0 hg); (try clear HI0); (try clear BK229); (try clear HK); (try clear HB); have HI0 := n0_; have BK229 := n1_; have HK := n2_; have HB := n3_; have GE230 := n6_; have NB229_230 := n7_; have NB230_229 := n8_; have NB0_230 := n9_; clear n0_ n1_ n2_ n3_ n6_ n7_ n8_ n9_ hb hbox hg; obtain ⟨hnb5, hnc5⟩ := nn NB229_230; obtain ⟨hnb6, hnc6⟩ := nn NB229_0; obtain ⟨hcz7_0, hfz7_0⟩ := bc1 BK229) | (go_at_call 86; (with_reducible refine (codec_reader_int.calls k g s0_0 s0_1 s0_2 (.error xe_) w0 _ (iS164 HI0) (iB164 HB) A2.out).mono ?_); rintro e w8 ⟨rfl, hb⟩))
  (first | exact ⟨rfl, rfl, hb⟩ | exact ⟨rfl, hb⟩ | (go_simp; exact ⟨rfl, hb⟩) | (simp; exact ⟨rfl, hb⟩))
 ·replace H : (eB (codec_reader_count.f k t232 t233 t234 200) fun bt236 => (codec_reader_rel.l0 k bt236.1 0 bt236.2.1 bt236.2.2.1 bt236.2.2.2 t231 ([] : List (S63)))) = some r := H
  have A2 := aM A20
  clear A20
  rcases eB_cases H with ⟨xe_, A90, H⟩ | ⟨⟨t236, t237, t238, t239⟩, A90, H⟩
  ·subst H
   have A9 := aM A90
   clear A90
   go_enter Try.func40, Try.ntmps40
   go_wp2_with (first | ((with_reducible refine gate_dst (N := 1) rfl ?_); refine bx (N := 1) (cs := #[.pointer (some ⟨g, 0, none⟩)]) (t := 81) ?_; intro gb229 hg w10 hbox hb; have BK229 := aM (hbox); have GW229 := aM (gk HK hg); have GE229 := aM (Nat.le_trans HW0.out (gk HK hg)); have NB0_229 := aM (ni164 HI0 hg); have NB229_0 := aM (ni164 HI0 hg).symm; replace HI0 := aM (IsS164.below (iS164 HI0) hb); replace HK := aM (kt HK hb); replace HB := aM (bS (iB164 HB) hb); clear hb hbox hg) | ((with_reducible refine gate_dst (N := 2) rfl ?_); refine bx (N := 2) (cs := #[.int .i64 0, .slice none 0 0, .slice none 0 0]) (t := 59) ?_; intro gb230 hg w11 hbox hb; have BK230 := aM (hbox); have GW230 := aM (gk HK hg); have GE230 := aM (Nat.le_trans HW0.out (gk HK hg)); have NB229_230 := aM (nb BK229 hg); have NB230_229 := aM (nb BK229 hg).symm; have NB0_230 := aM (ni164 HI0 hg); have NB230_0 := aM (ni164 HI0 hg).symm; replace HI0 := aM (IsS164.below (iS164 HI0) hb); replace BK229 := aM (kB (kl BK229) hb); replace HK := aM (kt HK hb); replace HB := aM (bS (iB164 HB) hb); clear hb hbox hg; obtain ⟨hnb12, hnc12⟩ := nn NB229_230; obtain ⟨hnb13, hnc13⟩ := nn NB229_0; obtain ⟨hcz14_0, hfz14_0⟩ := bc1 BK229) | ((with_reducible refine gate_callee (f := 86) rfl ?_); refine gL (some 6) Try.func86 #[.agg #[.pointer (some ⟨g, 0, none⟩)]] ?_; (with_reducible refine (codec_reader_int.calls k g s0_0 s0_1 s0_2 (.ok (t231, t232, t233, t234)) w0 _ (iS164 HI0) (iB164 HB) A2.out).mono ?_); rintro e w15 ⟨rfl, hi, hb, hk⟩; refine ⟨_, rfl, ?_⟩; replace BK229 := aM (k0 hk BK229 NB229_0); replace BK230 := aM (k0 hk BK230 NB230_0); replace HK := aM (ku HK hk); replace HB := aM (hb); replace HI0 := aM (hi); (try clear hb); (try clear hk); (try clear hi)) | ((with_reducible refine gate_dst (N := 3) rfl ?_); refine bx (N := 3) (cs := #[.int .i64 0, .slice none 0 0, .slice none 0 0]) (t := 59) ?_; intro gb235 hg w16 hbox hb; have n0_ := aM (IsS164.below (iS164 HI0) hb); have n1_ := aM (kB (kl BK229) hb); have n2_ := aM (kB (kl BK230) hb); have n3_ := aM (kt HK hb); have n4_ := aM (bS (iB164 HB) hb); have n5_ := aM (hbox); have n7_ := aM (Nat.le_trans HW0.out (gk HK hg)); have n8_ := aM (nb BK229 hg); have n9_ := aM (nb BK229 hg).symm; have n10_ := aM (nb BK230 hg); have n11_ := aM (nb BK230 hg).symm; have n12_ := aM (ni164 HI0 hg); have n13_ := aM (ni164 HI0 hg).symm; (try clear HI0); (try clear BK229); (try clear BK230); (try clear HK); (try clear HB); have HI0 := n0_; have BK229 := n1_; have BK230 := n2_; have HK := n3_; have HB := n4_; have BK235 := n5_; have GE235 := n7_; have NB229_235 := n8_; have NB235_229 := n9_; have NB230_235 := n10_; have NB235_230 := n11_; have NB0_235 := n12_; have NB235_0 := n13_; clear n0_ n1_ n2_ n3_ n4_ n5_ n7_ n8_ n9_ n10_ n11_ n12_ n13_ hb hbox hg; obtain ⟨hnb17, hnc17⟩ := nn NB235_229; obtain ⟨hnb18, hnc18⟩ := nn NB235_230; obtain ⟨hnb19, hnc19⟩ := nn NB235_0; obtain ⟨hcz20_0, hcz20_1, hcz20_2, hfz20_0, hfz20_1, hfz20_2⟩ := bc3 BK235; obtain ⟨hcz21_0, hfz21_0⟩ := bc1 BK229) | (go_at_call 37; (with_reducible refine (codec_reader_count.calls k g t232 t233 t234 200 (.error xe_) w0 _ (iS164 HI0) (iB164 HB) A9.out).mono ?_); rintro e w22 ⟨rfl, hb⟩))
   (first | exact ⟨rfl, rfl, hb⟩ | exact ⟨rfl, hb⟩ | (go_simp; exact ⟨rfl, hb⟩) | (simp; exact ⟨rfl, hb⟩))
  ·replace H : (codec_reader_rel.l0 k t236 0 t237 t238 t239 t231 ([] : List (S63))) = some r := H
   have A9 := aM A90
   clear A90
   have H' := aM H
   clear H
   go_enter Try.func40, Try.ntmps40
   go_wp2_with (first | ((with_reducible refine gate_dst (N := 1) rfl ?_); refine bx (N := 1) (cs := #[.pointer (some ⟨g, 0, none⟩)]) (t := 81) ?_; intro gb229 hg w23 hbox hb; have BK229 := aM (hbox); have GW229 := aM (gk HK hg); have GE229 := aM (Nat.le_trans HW0.out (gk HK hg)); have NB0_229 := aM (ni164 HI0 hg); have NB229_0 := aM (ni164 HI0 hg).symm; replace HI0 := aM (IsS164.below (iS164 HI0) hb); replace HK := aM (kt HK hb); replace HB := aM (bS (iB164 HB) hb); clear hb hbox hg) | ((with_reducible refine gate_dst (N := 2) rfl ?_); refine bx (N := 2) (cs := #[.int .i64 0, .slice none 0 0, .slice none 0 0]) (t := 59) ?_; intro gb230 hg w24 hbox hb; have BK230 := aM (hbox); have GW230 := aM (gk HK hg); have GE230 := aM (Nat.le_trans HW0.out (gk HK hg)); have NB229_230 := aM (nb BK229 hg); have NB230_229 := aM (nb BK229 hg).symm; have NB0_230 := aM (ni164 HI0 hg); have NB230_0 := aM (ni164 HI0 hg).symm; replace HI0 := aM (IsS164.below (iS164 HI0) hb); replace BK229 := aM (kB (kl BK229) hb); replace HK := aM (kt HK hb); replace HB := aM (bS (iB164 HB) hb); clear hb hbox hg; obtain ⟨hnb25, hnc25⟩ := nn NB229_230; obtain ⟨hnb26, hnc26⟩ := nn NB229_0; obtain ⟨hcz27_0, hfz27_0⟩ := bc1 BK229) | ((with_reducible refine gate_callee (f := 86) rfl ?_); refine gL (some 6) Try.func86 #[.agg #[.pointer (some ⟨g, 0, none⟩)]] ?_; (with_reducible refine (codec_reader_int.calls k g s0_0 s0_1 s0_2 (.ok (t231, t232, t233, t234)) w0 _ (iS164 HI0) (iB164 HB) A2.out).mono ?_); rintro e w28 ⟨rfl, hi, hb, hk⟩; refine ⟨_, rfl, ?_⟩; replace BK229 := aM (k0 hk BK229 NB229_0); replace BK230 := aM (k0 hk BK230 NB230_0); replace HK := aM (ku HK hk); replace HB := aM (hb); replace HI0 := aM (hi); (try clear hb); (try clear hk); (try clear hi)) | ((with_reducible refine gate_dst (N := 3) rfl ?_); refine bx (N := 3) (cs := #[.int .i64 0, .slice none 0 0, .slice none 0 0]) (t := 59) ?_; intro gb235 hg w29 hbox hb; have BK235 := aM (hbox); have GW235 := aM (gk HK hg); have GE235 := aM (Nat.le_trans HW0.out (gk HK hg)); have NB229_235 := aM (nb BK229 hg); have NB235_229 := aM (nb BK229 hg).symm; have NB230_235 := aM (nb BK230 hg); have NB235_230 := aM (nb BK230 hg).symm; have NB0_235 := aM (ni164 HI0 hg); have NB235_0 := aM (ni164 HI0 hg).symm; replace HI0 := aM (IsS164.below (iS164 HI0) hb); replace BK229 := aM (kB (kl BK229) hb); replace BK230 := aM (kB (kl BK230) hb); replace HK := aM (kt HK hb); replace HB := aM (bS (iB164 HB) hb); clear hb hbox hg; obtain ⟨hnb30, hnc30⟩ := nn NB235_229; obtain ⟨hnb31, hnc31⟩ := nn NB235_230; obtain ⟨hnb32, hnc32⟩ := nn NB235_0; obtain ⟨hcz33_0, hcz33_1, hcz33_2, hfz33_0, hfz33_1, hfz33_2⟩ := bc3 BK235; obtain ⟨hcz34_0, hfz34_0⟩ := bc1 BK229) | ((with_reducible refine gate_callee (f := 37) rfl ?_); refine gL (some 9) Try.func37 #[.agg #[.pointer (some ⟨g, 0, none⟩)], .int .i64 200] ?_; (with_reducible refine (codec_reader_count.calls k g t232 t233 t234 200 (.ok (t236, t237, t238, t239)) w0 _ (iS164 HI0) (iB164 HB) A9.out).mono ?_); rintro e w35 ⟨rfl, hi, hb, hk⟩; refine ⟨_, rfl, ?_⟩; replace BK229 := aM (kb hk BK229 NB229_0 (.cells #[.pointer (some ⟨g, 0, none⟩)] 81 (0, 0))); replace BK230 := aM (kb hk BK230 NB230_0 (.cells #[.int .i64 0, .slice none 0 0, .slice none 0 0] 59 (0, 0))); replace BK235 := aM (kb hk BK235 NB235_0 (.cells #[.int .i64 t231, .slice none 0 0, .slice none 0 0] 59 (0, 0))); replace HK := aM (ku HK hk); replace HB := aM (hb); replace HI0 := aM (hi); (try clear hb); (try clear hk); (try clear hi)))
   go_loopg [10] k (fun kq v10 w' => ∃ (x10_1 : Int) (x1000_1 : ByteArray) (x1001_1 : Int) (x1002_1 : Int) (x236001_1 : List (S63)) (u236001 : Value), v10 = .int .i64 x10_1 ∧ Aside0 (codec_reader_rel.l0 kq t236 x10_1 x1000_1 x1001_1 x1002_1 t231 x236001_1 = some r) ∧ Aside0 (kq ≤ k) ∧ Aside0 (Kd.R k63 63 w' w.heap.size (fun _ => True) u236001 x236001_1) ∧ Aside0 (w'.heap[gb229]? = some (.cells #[.pointer (some ⟨g, 0, none⟩)] 81 (0, 0))) ∧ Aside0 (w'.heap[gb230]? = some (.cells #[.int .i64 0, (.slice none 0 0), (.slice none 0 0)] 59 (0, 0))) ∧ Aside0 (w'.heap[gb235]? = some (.cells #[.int .i64 t231, u236001, (.slice none 0 0)] 59 (0, 0))) ∧ Aside0 (IsS164 w0 w' g x1000_1 x1001_1 x1002_1) ∧ Aside0 (KeepBut w w' g none) ∧ Aside0 (Below w0.heap.size w0 w'))
   case atStart => exact ⟨(0), (t237), (t238), (t239), (([] : List (S63))), (.slice none 0 0), (by first | rfl | (simp; done) | (simp [*]; done)), H', ⟨Nat.le_refl _⟩, ⟨by first | exact Kd.R_nil _ _ _ _ _ | exact Kd.N_nil _ _ _ _ _ | exact Kd.V_nil _ _ _ _ _ | exact Kd.Q_nil _ _ _ _ _ | exact Kd.S_nil _ _ _ _ _⟩, ⟨kl BK229⟩, ⟨kl BK230⟩, ⟨kl BK235⟩, ⟨iS164 HI0⟩, ⟨kp HK⟩, ⟨iB164 HB⟩⟩
   case round =>
    clear H'
    try clear c1
    try clear c2
    try clear p2
    try clear c3
    try clear c4
    try clear c5
    try clear c6
    try clear c8
    try clear c12
    try clear c13
    try clear c17
    try clear c18
    try clear c19
    try clear c25
    try clear c26
    try clear c30
    try clear c31
    try clear c32
    try clear hcz14_0 hfz14_0
    try clear hcz20_0 hcz20_1 hcz20_2 hfz20_0 hfz20_1 hfz20_2
    try clear hcz21_0 hfz21_0
    try clear hcz27_0 hfz27_0
    try clear hcz33_0 hcz33_1 hcz33_2 hfz33_0 hfz33_1 hfz33_2
    try clear hcz34_0 hfz34_0
    try clear hcz7_0 hfz7_0
    obtain ⟨x10_1, x1000_1, x1001_1, x1002_1, x236001_1, u236001, rfl, HA, HK1, HO_236001, BK229, BK230, BK235, HI0, HK, HB⟩ := hrel
    cases gk with
    | zero => exact absurd HA.out (by simp [codec_reader_rel.l0])
    | succ k1 =>
     have H := HA.out
     clear HA
     simp only [codec_reader_rel.l0] at H
     by_cases c36 : x10_1 < t236
     ·rw [if_pos c36] at H
      have c36b0 : decide (x10_1 < t236) = true := decide_eq_true c36
      clear c36
      rcases eB_cases H with ⟨xe_, A370, H⟩ | ⟨⟨t240, t241, t242, t243⟩, A370, H⟩
      ·subst H
       have A37 := aM A370
       clear A370
       obtain ⟨hnb38, hnc38⟩ := nn NB229_230
       obtain ⟨hnb39, hnc39⟩ := nn NB229_235
       obtain ⟨hnb40, hnc40⟩ := nn NB229_0
       obtain ⟨hcz41_0, hfz41_0⟩ := bc1 BK229
       go_wp2_with (first | (go_at_call 86; (with_reducible refine (codec_reader_int.calls k1 g x1000_1 x1001_1 x1002_1 (.error xe_) w0 _ (iS164 HI0) (iB164 HB) A37.out).mono ?_); rintro e w42 ⟨rfl, hb⟩))
       (first | exact ⟨rfl, rfl, hb⟩ | exact ⟨rfl, hb⟩ | (go_simp; exact ⟨rfl, hb⟩) | (simp; exact ⟨rfl, hb⟩))
      ·replace H : (eB (codec_reader_int.f k1 t241 t242 t243) fun bt245 => (eB (codec_reader_text.f k1 bt245.2.1 bt245.2.2.1 bt245.2.2.2) fun bt249 => (if x236001_1.length < 4398046511104 then (codec_reader_rel.l0 k1 t236 (wrap64 (x10_1 + 1)) bt249.2.1 bt249.2.2.1 bt249.2.2.2 t231 (x236001_1 ++ [(⟨(⟨t240, bt245.1⟩ : S61), bt249.1⟩ : S63)])) else (none)))) = some r := H
       have A37 := aM A370
       clear A370
       rcases eB_cases H with ⟨xe_, A430, H⟩ | ⟨⟨t245, t246, t247, t248⟩, A430, H⟩
       ·subst H
        have A43 := aM A430
        clear A430
        obtain ⟨hnb44, hnc44⟩ := nn NB229_230
        obtain ⟨hnb45, hnc45⟩ := nn NB229_235
        obtain ⟨hnb46, hnc46⟩ := nn NB229_0
        obtain ⟨hcz47_0, hfz47_0⟩ := bc1 BK229
        go_wp2_with (first | ((with_reducible refine gate_callee (f := 86) rfl ?_); refine gL (some 13) Try.func86 #[.agg #[.pointer (some ⟨g, 0, none⟩)]] ?_; (with_reducible refine (codec_reader_int.calls k1 g x1000_1 x1001_1 x1002_1 (.ok (t240, t241, t242, t243)) w0 _ (iS164 HI0) (iB164 HB) A37.out).mono ?_); rintro e w48 ⟨rfl, hi, hb, hk⟩; refine ⟨_, rfl, ?_⟩; have n1_ := aM (k0 hk BK229 NB229_0); have n2_ := aM (k0 hk BK230 NB230_0); have n3_ := aM (k0 hk BK235 NB235_0); have n4_ := aM (ku HK hk); have n5_ := aM (hb); have n6_ := aM (hi); (try clear HO_236001); (try clear BK229); (try clear BK230); (try clear BK235); (try clear HK); (try clear HB); (try clear HI0); have BK229 := n1_; have BK230 := n2_; have BK235 := n3_; have HK := n4_; have HB := n5_; have HI0 := n6_; clear n1_ n2_ n3_ n4_ n5_ n6_; (try clear hb); (try clear hk); (try clear hi)) | ((with_reducible refine gate_dst (N := 4) rfl ?_); refine bx (N := 4) (cs := #[.int .i64 0, .int .i64 0, .string (⟨#[]⟩ : ByteArray)]) (t := 63) ?_; intro gb244 hg w49 hbox hb; have n1_ := aM (kB (kl BK229) hb); have n2_ := aM (kB (kl BK230) hb); have n3_ := aM (kB (kl BK235) hb); have n4_ := aM (IsS164.below (iS164 HI0) hb); have n5_ := aM (kt HK hb); have n6_ := aM (bS (iB164 HB) hb); have n7_ := aM (hbox); have n9_ := aM (Nat.le_trans HW0.out (gk HK hg)); have n10_ := aM (nb BK229 hg); have n11_ := aM (nb BK229 hg).symm; have n12_ := aM (nb BK230 hg); have n13_ := aM (nb BK230 hg).symm; have n14_ := aM (nb BK235 hg); have n15_ := aM (nb BK235 hg).symm; have n16_ := aM (ni164 HI0 hg); have n17_ := aM (ni164 HI0 hg).symm; (try clear BK229); (try clear BK230); (try clear BK235); (try clear HI0); (try clear HK); (try clear HB); have BK229 := n1_; have BK230 := n2_; have BK235 := n3_; have HI0 := n4_; have HK := n5_; have HB := n6_; have BK244 := n7_; have GE244 := n9_; have NB229_244 := n10_; have NB244_229 := n11_; have NB230_244 := n12_; have NB244_230 := n13_; have NB235_244 := n14_; have NB244_235 := n15_; have NB0_244 := n16_; have NB244_0 := n17_; clear n1_ n2_ n3_ n4_ n5_ n6_ n7_ n9_ n10_ n11_ n12_ n13_ n14_ n15_ n16_ n17_ hb hbox hg; obtain ⟨hnb50, hnc50⟩ := nn NB244_229; obtain ⟨hnb51, hnc51⟩ := nn NB244_230; obtain ⟨hnb52, hnc52⟩ := nn NB244_235; obtain ⟨hnb53, hnc53⟩ := nn NB244_0; obtain ⟨hcz54_0, hcz54_1, hcz54_2, hfz54_0, hfz54_1, hfz54_2⟩ := bc3 BK244; obtain ⟨hcz55_0, hfz55_0⟩ := bc1 BK229) | (go_at_call 86; (with_reducible refine (codec_reader_int.calls k1 g t241 t242 t243 (.error xe_) w0 _ (iS164 HI0) (iB164 HB) A43.out).mono ?_); rintro e w56 ⟨rfl, hb⟩))
        (first | exact ⟨rfl, rfl, hb⟩ | exact ⟨rfl, hb⟩ | (go_simp; exact ⟨rfl, hb⟩) | (simp; exact ⟨rfl, hb⟩))
       ·replace H : (eB (codec_reader_text.f k1 t246 t247 t248) fun bt249 => (if x236001_1.length < 4398046511104 then (codec_reader_rel.l0 k1 t236 (wrap64 (x10_1 + 1)) bt249.2.1 bt249.2.2.1 bt249.2.2.2 t231 (x236001_1 ++ [(⟨(⟨t240, t245⟩ : S61), bt249.1⟩ : S63)])) else (none))) = some r := H
        have A43 := aM A430
        clear A430
        rcases eB_cases H with ⟨xe_, A570, H⟩ | ⟨⟨t249, t250, t251, t252⟩, A570, H⟩
        ·subst H
         have A57 := aM A570
         clear A570
         obtain ⟨hnb58, hnc58⟩ := nn NB229_230
         obtain ⟨hnb59, hnc59⟩ := nn NB229_235
         obtain ⟨hnb60, hnc60⟩ := nn NB229_0
         obtain ⟨hcz61_0, hfz61_0⟩ := bc1 BK229
         go_wp2_with (first | ((with_reducible refine gate_callee (f := 86) rfl ?_); refine gL (some 13) Try.func86 #[.agg #[.pointer (some ⟨g, 0, none⟩)]] ?_; (with_reducible refine (codec_reader_int.calls k1 g x1000_1 x1001_1 x1002_1 (.ok (t240, t241, t242, t243)) w0 _ (iS164 HI0) (iB164 HB) A37.out).mono ?_); rintro e w62 ⟨rfl, hi, hb, hk⟩; refine ⟨_, rfl, ?_⟩; have n1_ := aM (k0 hk BK229 NB229_0); have n2_ := aM (k0 hk BK230 NB230_0); have n3_ := aM (k0 hk BK235 NB235_0); have n4_ := aM (ku HK hk); have n5_ := aM (hb); have n6_ := aM (hi); (try clear HO_236001); (try clear BK229); (try clear BK230); (try clear BK235); (try clear HK); (try clear HB); (try clear HI0); have BK229 := n1_; have BK230 := n2_; have BK235 := n3_; have HK := n4_; have HB := n5_; have HI0 := n6_; clear n1_ n2_ n3_ n4_ n5_ n6_; (try clear hb); (try clear hk); (try clear hi)) | ((with_reducible refine gate_dst (N := 4) rfl ?_); refine bx (N := 4) (cs := #[.int .i64 0, .int .i64 0, .string (⟨#[]⟩ : ByteArray)]) (t := 63) ?_; intro gb244 hg w63 hbox hb; have n1_ := aM (kB (kl BK229) hb); have n2_ := aM (kB (kl BK230) hb); have n3_ := aM (kB (kl BK235) hb); have n4_ := aM (IsS164.below (iS164 HI0) hb); have n5_ := aM (kt HK hb); have n6_ := aM (bS (iB164 HB) hb); have n7_ := aM (hbox); have n8_ := aM (gk HK hg); have n9_ := aM (Nat.le_trans HW0.out (gk HK hg)); have n10_ := aM (nb BK229 hg); have n11_ := aM (nb BK229 hg).symm; have n12_ := aM (nb BK230 hg); have n13_ := aM (nb BK230 hg).symm; have n14_ := aM (nb BK235 hg); have n15_ := aM (nb BK235 hg).symm; have n16_ := aM (ni164 HI0 hg); have n17_ := aM (ni164 HI0 hg).symm; (try clear BK229); (try clear BK230); (try clear BK235); (try clear HI0); (try clear HK); (try clear HB); have BK229 := n1_; have BK230 := n2_; have BK235 := n3_; have HI0 := n4_; have HK := n5_; have HB := n6_; have BK244 := n7_; have GW244 := n8_; have GE244 := n9_; have NB229_244 := n10_; have NB244_229 := n11_; have NB230_244 := n12_; have NB244_230 := n13_; have NB235_244 := n14_; have NB244_235 := n15_; have NB0_244 := n16_; have NB244_0 := n17_; clear n1_ n2_ n3_ n4_ n5_ n6_ n7_ n8_ n9_ n10_ n11_ n12_ n13_ n14_ n15_ n16_ n17_ hb hbox hg; obtain ⟨hnb64, hnc64⟩ := nn NB244_229; obtain ⟨hnb65, hnc65⟩ := nn NB244_230; obtain ⟨hnb66, hnc66⟩ := nn NB244_235; obtain ⟨hnb67, hnc67⟩ := nn NB244_0; obtain ⟨hcz68_0, hcz68_1, hcz68_2, hfz68_0, hfz68_1, hfz68_2⟩ := bc3 BK244; obtain ⟨hcz69_0, hfz69_0⟩ := bc1 BK229) | ((with_reducible refine gate_callee (f := 86) rfl ?_); refine gL (some 17) Try.func86 #[.agg #[.pointer (some ⟨g, 0, none⟩)]] ?_; (with_reducible refine (codec_reader_int.calls k1 g t241 t242 t243 (.ok (t245, t246, t247, t248)) w0 _ (iS164 HI0) (iB164 HB) A43.out).mono ?_); rintro e w70 ⟨rfl, hi, hb, hk⟩; refine ⟨_, rfl, ?_⟩; have n1_ := aM (kb hk BK229 NB229_0 (.cells #[.pointer (some ⟨g, 0, none⟩)] 81 (0, 0))); have n2_ := aM (kb hk BK230 NB230_0 (.cells #[.int .i64 0, .slice none 0 0, .slice none 0 0] 59 (0, 0))); have n3_ := aM (kb hk BK235 NB235_0 (.cells #[.int .i64 t231, u236001, .slice none 0 0] 59 (0, 0))); have n4_ := aM (kb hk BK244 NB244_0 (.cells #[.int .i64 t240, .int .i64 0, .string (⟨#[]⟩ : ByteArray)] 63 (0, 0))); have n5_ := aM (ku HK hk); have n6_ := aM (hb); have n7_ := aM (hi); (try clear BK229); (try clear BK230); (try clear BK235); (try clear BK244); (try clear HK); (try clear HB); (try clear HI0); have BK229 := n1_; have BK230 := n2_; have BK235 := n3_; have BK244 := n4_; have HK := n5_; have HB := n6_; have HI0 := n7_; clear n1_ n2_ n3_ n4_ n5_ n6_ n7_; (try clear hb); (try clear hk); (try clear hi); obtain ⟨hcz71_0, hcz71_1, hcz71_2, hfz71_0, hfz71_1, hfz71_2⟩ := bc3 BK244; obtain ⟨hcz72_0, hfz72_0⟩ := bc1 BK229) | (go_at_call 88; (with_reducible refine (codec_reader_text.calls k1 g t246 t247 t248 (.error xe_) w0 _ (iS164 HI0) (iB164 HB) A57.out).mono ?_); rintro e w73 ⟨rfl, hb⟩))
         (first | exact ⟨rfl, rfl, hb⟩ | exact ⟨rfl, hb⟩ | (go_simp; exact ⟨rfl, hb⟩) | (simp; exact ⟨rfl, hb⟩))
        ·replace H : (if x236001_1.length < 4398046511104 then (codec_reader_rel.l0 k1 t236 (wrap64 (x10_1 + 1)) t250 t251 t252 t231 (x236001_1 ++ [(⟨(⟨t240, t245⟩ : S61), t249⟩ : S63)])) else (none)) = some r := H
         have A57 := aM A570
         clear A570
         by_cases c74 : x236001_1.length < 4398046511104
         ·rw [if_pos c74] at H
          have LMc74 := aM c74
          clear c74
          obtain ⟨y253, hy253⟩ : ∃ y_ : List (S63), y_ = (x236001_1 ++ [(⟨(⟨t240, t245⟩ : S61), t249⟩ : S63)]) := ⟨_, rfl⟩
          replace H : (codec_reader_rel.l0 k1 t236 (wrap64 (x10_1 + 1)) t250 t251 t252 t231 y253) = some r := by first | (rw [hy253]; with_reducible exact H) | (have H2_ := (Option.bind_some _ _).symm.trans H; rw [hy253]; with_reducible exact H2_) | (have H2_ := (Option.bind_some _ _).symm.trans H; with_reducible exact H2_) | with_reducible exact H | (rw [hy253]; exact H) | exact H
          have Ny253 := aM hy253
          clear hy253
          have H' := aM H
          clear H
          obtain ⟨hnb75, hnc75⟩ := nn NB229_230
          obtain ⟨hnb76, hnc76⟩ := nn NB229_235
          obtain ⟨hnb77, hnc77⟩ := nn NB229_0
          obtain ⟨hcz78_0, hfz78_0⟩ := bc1 BK229
          go_wp2_with (first | ((with_reducible refine gate_callee (f := 86) rfl ?_); refine gL (some 13) Try.func86 #[.agg #[.pointer (some ⟨g, 0, none⟩)]] ?_; (with_reducible refine (codec_reader_int.calls k1 g x1000_1 x1001_1 x1002_1 (.ok (t240, t241, t242, t243)) w0 _ (iS164 HI0) (iB164 HB) A37.out).mono ?_); rintro e w79 ⟨rfl, hi, hb, hk⟩; refine ⟨_, rfl, ?_⟩; replace HO_236001 := aM (rM (Kd.R_keep (IsS164.apart (show IsS164 w0 _ g x1000_1 x1001_1 x1002_1 from iS164 HI0) (rl HO_236001) (by decide)) hk (fun _ h => h.2)) (fun _ h => h.1)); replace BK229 := aM (k0 hk BK229 NB229_0); replace BK230 := aM (k0 hk BK230 NB230_0); replace BK235 := aM (k0 hk BK235 NB235_0); replace HK := aM (ku HK hk); replace HB := aM (hb); replace HI0 := aM (hi); (try clear hb); (try clear hk); (try clear hi)) | ((with_reducible refine gate_dst (N := 4) rfl ?_); refine bx (N := 4) (cs := #[.int .i64 0, .int .i64 0, .string (⟨#[]⟩ : ByteArray)]) (t := 63) ?_; intro gb244 hg w80 hbox hb; have BK244 := aM (hbox); have GW244 := aM (gk HK hg); have GE244 := aM (Nat.le_trans HW0.out (gk HK hg)); have NB229_244 := aM (nb BK229 hg); have NB244_229 := aM (nb BK229 hg).symm; have NB230_244 := aM (nb BK230 hg); have NB244_230 := aM (nb BK230 hg).symm; have NB235_244 := aM (nb BK235 hg); have NB244_235 := aM (nb BK235 hg).symm; have NB0_244 := aM (ni164 HI0 hg); have NB244_0 := aM (ni164 HI0 hg).symm; replace HO_236001 := aM (rB (rL (rl HO_236001) gb244 (Nat.le_of_eq hg.symm)) hb); replace BK229 := aM (kB (kl BK229) hb); replace BK230 := aM (kB (kl BK230) hb); replace BK235 := aM (kB (kl BK235) hb); replace HI0 := aM (IsS164.below (iS164 HI0) hb); replace HK := aM (kt HK hb); replace HB := aM (bS (iB164 HB) hb); clear hb hbox hg; obtain ⟨hnb81, hnc81⟩ := nn NB244_229; obtain ⟨hnb82, hnc82⟩ := nn NB244_230; obtain ⟨hnb83, hnc83⟩ := nn NB244_235; obtain ⟨hnb84, hnc84⟩ := nn NB244_0; obtain ⟨hcz85_0, hcz85_1, hcz85_2, hfz85_0, hfz85_1, hfz85_2⟩ := bc3 BK244; obtain ⟨hcz86_0, hfz86_0⟩ := bc1 BK229) | ((with_reducible refine gate_callee (f := 86) rfl ?_); refine gL (some 17) Try.func86 #[.agg #[.pointer (some ⟨g, 0, none⟩)]] ?_; (with_reducible refine (codec_reader_int.calls k1 g t241 t242 t243 (.ok (t245, t246, t247, t248)) w0 _ (iS164 HI0) (iB164 HB) A43.out).mono ?_); rintro e w87 ⟨rfl, hi, hb, hk⟩; refine ⟨_, rfl, ?_⟩; replace HO_236001 := aM (rM (Kd.R_keep (IsS164.apart (show IsS164 w0 _ g t241 t242 t243 from iS164 HI0) (by (with_reducible repeat (first | apply rA | apply rN | apply rD)); exact (rM (Kd.R_far (p := ⟨gb244, 2, none⟩) (Kd.R_far (p := ⟨gb244, 1, none⟩) (Kd.R_far (p := ⟨gb244, 0, none⟩) (rM HO_236001.out (fun k_ hk => (⟨hk, hk.2⟩ : _ ∧ k_ ≠ gb244))) (fun _ hk => hk.2) (.int .i64 t240)) (fun _ hk => hk.2) (.int .i64 0)) (fun _ hk => hk.2) (.string (⟨#[]⟩ : ByteArray))) (fun _ h_ => h_.1))) (by decide)) hk (fun _ h => h.2)) (fun _ h => h.1)); replace BK229 := aM (kb hk BK229 NB229_0 (.cells #[.pointer (some ⟨g, 0, none⟩)] 81 (0, 0))); replace BK230 := aM (kb hk BK230 NB230_0 (.cells #[.int .i64 0, .slice none 0 0, .slice none 0 0] 59 (0, 0))); replace BK235 := aM (kb hk BK235 NB235_0 (.cells #[.int .i64 t231, u236001, .slice none 0 0] 59 (0, 0))); replace BK244 := aM (kb hk BK244 NB244_0 (.cells #[.int .i64 t240, .int .i64 0, .string (⟨#[]⟩ : ByteArray)] 63 (0, 0))); replace HK := aM (ku HK hk); replace HB := aM (hb); replace HI0 := aM (hi); (try clear hb); (try clear hk); (try clear hi); obtain ⟨hcz88_0, hcz88_1, hcz88_2, hfz88_0, hfz88_1, hfz88_2⟩ := bc3 BK244; obtain ⟨hcz89_0, hfz89_0⟩ := bc1 BK229) | ((with_reducible refine gate_callee (f := 88) rfl ?_); refine gL (some 21) Try.func88 #[.agg #[.pointer (some ⟨g, 0, none⟩)]] ?_; (with_reducible refine (codec_reader_text.calls k1 g t246 t247 t248 (.ok (t249, t250, t251, t252)) w0 _ (iS164 HI0) (iB164 HB) A57.out).mono ?_); rintro e w90 ⟨rfl, hi, hb, hk⟩; refine ⟨_, rfl, ?_⟩; replace HO_236001 := aM (rM (Kd.R_keep (IsS164.apart (show IsS164 w0 _ g t246 t247 t248 from iS164 HI0) (by (with_reducible repeat (first | apply rA | apply rN | apply rD)); exact (rM (Kd.R_far (p := ⟨gb244, 1, none⟩) (rM HO_236001.out (fun k_ hk => (⟨hk, hk.2⟩ : _ ∧ k_ ≠ gb244))) (fun _ hk => hk.2) (.int .i64 t245)) (fun _ h_ => h_.1))) (by decide)) hk (fun _ h => h.2)) (fun _ h => h.1)); replace BK229 := aM (kb hk BK229 NB229_0 (.cells #[.pointer (some ⟨g, 0, none⟩)] 81 (0, 0))); replace BK230 := aM (kb hk BK230 NB230_0 (.cells #[.int .i64 0, .slice none 0 0, .slice none 0 0] 59 (0, 0))); replace BK235 := aM (kb hk BK235 NB235_0 (.cells #[.int .i64 t231, u236001, .slice none 0 0] 59 (0, 0))); replace BK244 := aM (kb hk BK244 NB244_0 (.cells #[.int .i64 t240, .int .i64 t245, .string (⟨#[]⟩ : ByteArray)] 63 (0, 0))); replace HK := aM (ku HK hk); replace HB := aM (hb); replace HI0 := aM (hi); (try clear hb); (try clear hk); (try clear hi); obtain ⟨hcz91_0, hcz91_1, hcz91_2, hfz91_0, hfz91_1, hfz91_2⟩ := bc3 BK244; obtain ⟨hnb92, hnc92⟩ := nn NB235_230; obtain ⟨hnb93, hnc93⟩ := nn NB235_0; obtain ⟨hcz94_0, hcz94_1, hcz94_2, hfz94_0, hfz94_1, hfz94_2⟩ := bc3 BK235) | ((with_reducible refine gate_builtin (b := .append) (xs := #[.tmp 24, .tmp 26]) rfl ?_); at_builtin; refine Kd.R_append k63 w.heap.size rfl (.tmp 24) (.tmp 26) 57 63 (.agg #[(.int .i64 0), (.int .i64 0), (.string ⟨#[]⟩)]) 32 rfl Try.underlying57 info63 rfl (by decide) (by omega) u236001 x236001_1 (⟨(⟨t240, t245⟩ : S61), t249⟩ : S63) [.int .i64 t240, .int .i64 t245, .string t249] (fun k_ => k_ ≠ gb244) (fun _ => False) rfl (by first | (go_simp; done) | (go_simp; rfl)) ?aP (fun _ hk => hk.elim) ?aF ?aO (Below.refl _ _) ?aS ?aL ?_; (case aP => exact k63_mkM _ _ _ (⟨(⟨t240, t245⟩ : S61), t249⟩ : S63)); (case aF => exact (fun k_ hk => Kd.freshB (g := gb244) (o := .cells #[.int .i64 t240, .int .i64 t245, .string t249] 63 (0, 0)) (bk BK244) k_ hk)); (case aO => exact (by (with_reducible repeat (first | apply rA | apply rN | apply rD)); exact rM (Kd.R_far (p := ⟨gb244, 2, none⟩) (rM HO_236001.out (fun k_ hk => (⟨hk, hk.2⟩ : _ ∧ k_ ≠ gb244))) (fun _ hk => hk.2) (.string t249)) (fun _ hk => hk.1.2))); (case aS => exact (keep_size (w := w) (g := g) (row := none) (kp HK))); (case aL => have := LMc74.out; omega); intro v254 w95 ho hb hg hat; rw [← Ny253.out] at ho; have HO255 := aM (ho); replace BK229 := aM (blk_grown (g := gb229) (o := .cells #[.pointer (some ⟨g, 0, none⟩)] 81 (0, 0)) (bk BK229) hg (Kd.R_ne HO_236001.out BK229.out (by decide))); replace BK230 := aM (blk_grown (g := gb230) (o := .cells #[.int .i64 0, .slice none 0 0, .slice none 0 0] 59 (0, 0)) (bk BK230) hg (Kd.R_ne HO_236001.out BK230.out (by decide))); replace BK235 := aM (blk_grown (g := gb235) (o := .cells #[.int .i64 t231, u236001, .slice none 0 0] 59 (0, 0)) (bk BK235) hg (Kd.R_ne HO_236001.out BK235.out (by decide))); replace HI0 := aM (IsS164.grown (show IsS164 w0 _ g t250 t251 t252 from iS164 HI0) hg (IsS164.own_ne HI0.out HO_236001.out (by decide))); replace BK244 := aM (blk_grown (g := gb244) (o := .cells #[.int .i64 t240, .int .i64 t245, .string t249] 63 (0, 0)) (bk BK244) hg (Kd.R_away HO_236001.out (fun _ hk => hk.2))); replace HK := aM (KeepBut.trans (kp HK) (KeepBut.of_grown hg g) (Kd.R_base2 HO_236001.out)); replace HB := aM (below_weaken (iB164 HB) HL.out hb); clear HO_236001 ho hb hg hat; obtain ⟨Ao96, co96, eo96⟩ := Kd.R_slice HO255.out; subst eo96; obtain ⟨hcz97_0, hcz97_1, hcz97_2, hfz97_0, hfz97_1, hfz97_2⟩ := bc3 BK235))
          go_roundg k1
          case measure => have := HK1.out; omega
          case rel => exact ⟨(wrap64 (x10_1 + 1)), (t250), (t251), (t252), (y253), (.slice Ao96 y253.length co96), (by first | rfl | (simp; done) | (simp [*]; done)), H', ⟨by have := HK1.out; omega⟩, ⟨by (with_reducible repeat (first | apply rA | apply rN | apply rD)); exact rM (Kd.R_far (p := ⟨gb235, 1, none⟩) (Kd.R_types HO255.out BK235.out (by decide)) (fun _ hk => hk.2) (.slice Ao96 y253.length co96)) (fun _ hk => trivial)⟩, ⟨bk BK229⟩, ⟨bk BK230⟩, ⟨bk BK235⟩, ⟨iS164 HI0⟩, ⟨kp HK⟩, ⟨iB164 HB⟩⟩
         ·rw [if_neg c74] at H
          exact absurd H (by simp)
     ·rw [if_neg c36] at H
      have c36b0 : decide (x10_1 < t236) = false := decide_eq_false c36
      clear c36
      rcases eB_cases H with ⟨xe_, A980, H⟩ | ⟨⟨t256, t259, t260, t261⟩, A980, H⟩
      ·subst H
       have A98 := aM A980
       clear A980
       obtain ⟨hnb99, hnc99⟩ := nn NB229_230
       obtain ⟨hnb100, hnc100⟩ := nn NB229_235
       obtain ⟨hnb101, hnc101⟩ := nn NB229_0
       obtain ⟨hcz102_0, hfz102_0⟩ := bc1 BK229
       go_wp2_with (first | (go_at_call 87; (with_reducible refine (codec_reader_tags.calls k1 g x1000_1 x1001_1 x1002_1 (.error xe_) w0 _ (iS164 HI0) (iB164 HB) A98.out).mono ?_); rintro e w103 ⟨rfl, hb⟩))
       (first | exact ⟨rfl, rfl, hb⟩ | exact ⟨rfl, hb⟩ | (go_simp; exact ⟨rfl, hb⟩) | (simp; exact ⟨rfl, hb⟩))
      ·replace H : (some (.ok (t231, x236001_1, t256, t259, t260, t261))) = some r := H
       have A98 := aM A980
       clear A980
       obtain rfl := Option.some.inj H
       obtain ⟨hnb104, hnc104⟩ := nn NB229_230
       obtain ⟨hnb105, hnc105⟩ := nn NB229_235
       obtain ⟨hnb106, hnc106⟩ := nn NB229_0
       obtain ⟨hcz107_0, hfz107_0⟩ := bc1 BK229
       go_wp2_with (first | ((with_reducible refine gate_callee (f := 87) rfl ?_); refine gL (some 31) Try.func87 #[.agg #[.pointer (some ⟨g, 0, none⟩)]] ?_; (with_reducible refine (codec_reader_tags.calls k1 g x1000_1 x1001_1 x1002_1 (.ok (t256, t259, t260, t261)) w0 _ (iS164 HI0) (iB164 HB) A98.out).mono ?_); rintro e w108 ⟨v257, rfl, ho0, hi, hb, hk⟩; refine ⟨_, rfl, ?_⟩; replace HO_236001 := aM (rM (Kd.R_keep (IsS164.apart (show IsS164 w0 _ g x1000_1 x1001_1 x1002_1 from iS164 HI0) (rl HO_236001) (by decide)) hk (fun _ h => h.2)) (fun _ h => h.1)); replace BK230 := aM (k0 hk BK230 NB230_0); replace BK235 := aM (k0 hk BK235 NB235_0); have HO258 := aM (Kd.R_lower ho0 (keep_size (w := w) (g := g) (row := none) (kp HK))); replace HK := aM (ku HK hk); replace HB := aM (hb); replace HI0 := aM (hi); clear BK229; (try clear hb); (try clear hk); (try clear hi); (try clear ho0); obtain ⟨Ao109, co109, eo109⟩ := Kd.R_slice HO258.out; subst eo109; obtain ⟨hnb110, hnc110⟩ := nn NB235_230; obtain ⟨hnb111, hnc111⟩ := nn NB235_0; obtain ⟨hcz112_0, hcz112_1, hcz112_2, hfz112_0, hfz112_1, hfz112_2⟩ := bc3 BK235; obtain ⟨hnb113, hnc113⟩ := nn NB230_0; obtain ⟨hcz114_0, hcz114_1, hcz114_2, hfz114_0, hfz114_1, hfz114_2⟩ := bc3 BK230; obtain ⟨Ao115, co115, eo115⟩ := Kd.R_slice HO_236001.out; subst eo115))
       refine bodyPost_ret (results_cell_row rfl _ _ gb230 59 #[.int .i64 t231, .slice Ao115 x236001_1.length co115, .slice Ao109 t256.length co109] (0, 0) _ rfl (bk BK230) Try.underlying59 rfl (by kernel_rfl)) rfl ?_
       exact ⟨_, _, by first | rfl | (simp [errW_none, errW_some] <;> rfl) | (simp [*, errW_none, errW_some] <;> rfl), by (with_reducible repeat (first | apply rA | apply rN | apply rD)); exact rM (Kd.R_far (p := ⟨gb230, 2, none⟩) (Kd.R_far (p := ⟨gb230, 1, none⟩) (Kd.R_far (p := ⟨gb230, 0, none⟩) (Kd.R_far (p := ⟨gb235, 2, none⟩) (Kd.R_types (Kd.R_types HO_236001.out BK235.out (by decide)) BK230.out (by decide)) (fun _ hk => hk.1.2) (.slice Ao109 t256.length co109)) (fun _ hk => hk.2) (.int .i64 t231)) (fun _ hk => hk.2) (.slice Ao115 x236001_1.length co115)) (fun _ hk => hk.2) (.slice Ao109 t256.length co109)) (fun _ hk => trivial), by (with_reducible repeat (first | apply rA | apply rN | apply rD)); exact rM (Kd.R_far (p := ⟨gb230, 2, none⟩) (Kd.R_far (p := ⟨gb230, 1, none⟩) (Kd.R_far (p := ⟨gb230, 0, none⟩) (Kd.R_far (p := ⟨gb235, 2, none⟩) (Kd.R_types (Kd.R_types HO258.out BK235.out (by decide)) BK230.out (by decide)) (fun _ hk => hk.1.2) (.slice Ao109 t256.length co109)) (fun _ hk => hk.2) (.int .i64 t231)) (fun _ hk => hk.2) (.slice Ao115 x236001_1.length co115)) (fun _ hk => hk.2) (.slice Ao109 t256.length co109)) (fun _ hk => trivial), iS164 HI0, iB164 HB, kp HK⟩
end Go.Proofs.Ytefambkodalomaa.PAll
