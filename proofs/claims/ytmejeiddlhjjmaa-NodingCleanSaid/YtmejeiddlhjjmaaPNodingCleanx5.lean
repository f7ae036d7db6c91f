-- out of a driver of this session's prover over the kit's print: Lean checks it
import Derived.Test.YtmejeiddlhjjmaaPNodingCleanx0
import Derived.Test.YtmejeiddlhjjmaaPNodingCleanx3
import Derived.Test.YtmejeiddlhjjmaaPNodingCleanx4
namespace Go.Proofs.Ytmejeiddlhjjmaa.PNodingClean
open Go.Proofs.YtmejeiddlhjjmaaG Go.Shelf Go.Lib
open Go.RowKit Go.Proofs.YtmejeiddlhjjmaaW.PrintWords Go.Proofs.YtmejeiddlhjjmaaW.PrintLast Go.Proofs.YtmejeiddlhjjmaaW.PrintMore
attribute [local go_sem] max2_int min2_int max_two min_two max_three min_three max_four min_four   -- for this text's walks alone
set_option linter.unusedVariables false
set_option linter.unusedSimpArgs false
def ixOf {α : Type} (p : α → Bool) (l : List α) : Int := match l.findIdx? p with | some i => (i : Int) | none => -1
theorem ixOf_hit {α : Type} (p : α → Bool) (l : List α) (z : α) (k : Nat) (hk : k < l.length) (h : p (l.getD k z) = true) (hb : ∀ j, j < k → p (l.getD j z) = false) : ixOf p l = k := by
 have e : l.findIdx? p = some k := by
  rw [List.findIdx?_eq_some_iff_getElem]
  refine ⟨hk, ?_, fun j hj => ?_⟩
  ·simpa [List.getD_eq_getElem?_getD, List.getElem?_eq_getElem hk] using h
  ·have := hb j hj
   simpa [List.getD_eq_getElem?_getD, List.getElem?_eq_getElem (show j < l.length by omega)] using this
 unfold ixOf
 rw [e]
theorem ixOf_miss {α : Type} (p : α → Bool) (l : List α) (z : α) (hb : ∀ j, j < l.length → p (l.getD j z) = false) : ixOf p l = -1 := by
 have e : l.findIdx? p = none := by
  rw [List.findIdx?_eq_none_iff]
  intro x hx
  obtain ⟨j, hj, rfl⟩ := List.getElem_of_mem hx
  have := hb j hj
  simpa [List.getD_eq_getElem?_getD, List.getElem?_eq_getElem hj] using this
 unfold ixOf
 rw [e]
set_option maxHeartbeats 4000000 in
set_option maxRecDepth 100000 in
theorem ix58 (p : S35 → Bool) (g : Nat) (lb : Array Value) (eg : ∀ args w, (callFunc g args).run Try.prog w = .ok (.enter g args) w) (A0 : Option Addr) (c0 : Nat) (l0 : List S35) (w : World) (hr0 : Kd.C k35 w A0 l0.length l0)
  (hp : ∀ (W : World) (x : S35), x ∈ l0 → Below w.heap.size w W → Calls Try.prog g (#[.agg #[.int .i64 x.f0.f0, .int .i64 x.f0.f1, .int .i64 x.f1.f0, .int .i64 x.f1.f1]] ++ lb) W fun e w' => e = .returned (.bool (p x)) ∧ Below w.heap.size w w') :
  Calls Try.prog 58 #[.slice A0 l0.length c0, .func (.func g) #[] lb] w fun e w' => e = .returned (.int .i64 (ixOf p l0)) ∧ Below w.heap.size w w' := by
 have hbig : l0.length ≤ 9223372036854775807 := hr0.2.1
 have HR0 := aM hr0
 clear hr0
 have HP := aM hp
 clear hp
 go_enter Try.func58, Try.ntmps58
 go_wp2
 go_loopg [5, 8] l0.length (fun gg _ s8 wr => ∃ kk : Int, 0 ≤ kk ∧ kk ≤ (l0.length : Int) ∧ (l0.length : Int) - kk ≤ gg ∧ s8 = .int .i64 kk ∧ Aside0 (Below w.heap.size w wr) ∧ Aside0 (∀ j : Nat, (j : Int) < kk → p (l0.getD j z35) = false))
 case atStart => exact ⟨0, by omega, by omega, by omega, rfl, ⟨Below.refl _ w⟩, ⟨fun j hj => absurd hj (by omega)⟩⟩
 case round =>
  obtain ⟨kk, hk0, hkk, hg, rfl, BW, AA⟩ := hrel
  by_cases hlt : kk < (l0.length : Int)
  ·obtain ⟨ad, e0, hx0, hx1, hx2, hx3⟩ := at_T35 (Kd.C_below HR0.out BW.out) kk hk0 hlt
   cases e0
   have hcall := HP.out wr (rd_T35 l0 kk) (by unfold rd_T35; rw [List.getD_eq_getElem?_getD, List.getElem?_eq_getElem (show kk.toNat < l0.length by omega)]; exact List.getElem_mem _) BW.out
   have B := aM (show rd_T35 l0 kk = l0.getD kk.toNat z35 from rfl)
   generalize rd_T35 l0 kk = y at hcall hx0 hx1 hx2 hx3 B
   cases hq : p y with
   | true =>
    rw [hq] at hcall
    have HQ := aM hq
    clear hq
    go_wp2_with (go_at_fn g; refine hcall.mono ?_; rintro e w' ⟨rfl, hb'⟩)
    go_ret
    refine ⟨?_, hb'⟩
    rw [ixOf_hit p l0 z35 kk.toNat (by omega) (by rw [← B.out]; exact HQ.out) (fun j hj => AA.out j (by omega))]
    rw [Int.toNat_of_nonneg hk0]
    rfl
   | false =>
    rw [hq] at hcall
    have HQ := aM hq
    clear hq
    go_wp2_with (go_at_fn g; refine hcall.mono ?_; rintro e w' ⟨rfl, hb'⟩)
    go_roundg (l0.length - (kk.toNat + 1))
    case measure => omega
    case rel =>
     refine ⟨kk + 1, by omega, by omega, by omega, by go_num, ⟨hb'⟩, ⟨fun j hj => ?_⟩⟩
     by_cases e : (j : Int) = kk
     ·have : j = kk.toNat := by omega
      subst this
      rw [← B.out]; exact HQ.out
     ·exact AA.out j (by omega)
  ·have : kk = (l0.length : Int) := by omega
   subst this
   go_wp2
   go_ret
   refine ⟨?_, BW.out⟩
   rw [ixOf_miss p l0 z35 (fun j hj => AA.out j (by omega))]
   rfl
structure Deld {α : Type} (p : α → Bool) (l : List α) (jj ii : Nat) (cur : List α) : Prop where
 len : cur.length = l.length
 le : jj ≤ l.length
 ile : ii < jj
 kept : cur.take ii = (l.take jj).filter (fun x => !p x)
 rest : cur.drop jj = l.drop jj
theorem Deld.step_yes {α : Type} {p : α → Bool} {l cur : List α} {jj ii : Nat} (h : Deld p l jj ii cur) (hj : jj < l.length) (hp : p l[jj] = true) : Deld p l (jj + 1) ii cur where
 len := h.len
 le := hj
 ile := by have := h.ile; omega
 kept := by rw [List.take_succ_eq_append_getElem hj, List.filter_append, h.kept]; simp [hp]
 rest := by
  have := congrArg (List.drop 1) h.rest
  rwa [List.drop_drop, List.drop_drop] at this
theorem Deld.step_no {α : Type} {p : α → Bool} {l cur : List α} {jj ii : Nat} (h : Deld p l jj ii cur) (hj : jj < l.length) (hp : p l[jj] = false) : Deld p l (jj + 1) (ii + 1) (cur.set ii l[jj]) where
 len := by rw [List.length_set]; exact h.len
 le := hj
 ile := by have := h.ile; omega
 kept := by
  have hi : ii < cur.length := by rw [h.len]; have := h.ile; omega
  rw [List.take_succ_eq_append_getElem hj, List.filter_append, ← h.kept, List.take_succ_eq_append_getElem (by rw [List.length_set]; exact hi), List.getElem_set_self, List.take_set_of_le (Nat.le_refl _)]
  simp [hp]
 rest := by
  rw [List.drop_set_of_lt (by have := h.ile; omega)]
  have := congrArg (List.drop 1) h.rest
  rwa [List.drop_drop, List.drop_drop] at this
theorem Deld.start {α : Type} {p : α → Bool} {l : List α} {i : Nat} (hi : i < l.length) (hp : p l[i] = true) (hb : ∀ j (hj : j < i), p l[j] = false) : Deld p l (i + 1) i l where
 len := rfl
 le := hi
 ile := by omega
 kept := by
  rw [List.take_succ_eq_append_getElem hi, List.filter_append]
  have : (l.take i).filter (fun x => !p x) = l.take i := by
   rw [List.filter_eq_self]
   intro x hx
   obtain ⟨j, hj, rfl⟩ := List.getElem_of_mem hx
   rw [List.length_take] at hj
   rw [List.getElem_take, hb j (by omega)]; rfl
  rw [this]
  simp [hp]
 rest := rfl
theorem Deld.get {α : Type} {p : α → Bool} {l cur : List α} {jj ii : Nat} (h : Deld p l jj ii cur) (hj : jj < l.length) (z : α) : cur.getD jj z = l[jj] := by
 have h1 := congrArg (fun q => q[0]?) h.rest
 simp only [List.getElem?_drop, Nat.add_zero] at h1
 rw [List.getD_eq_getElem?_getD, h1, List.getElem?_eq_getElem hj]
 rfl
theorem Deld.done {α : Type} {p : α → Bool} {l cur : List α} {jj ii : Nat} (h : Deld p l jj ii cur) (hj : jj = l.length) : cur.take ii = l.filter (fun x => !p x) ∧ ii = (l.filter (fun x => !p x)).length := by
 have h1 := h.kept
 rw [hj, List.take_length] at h1
 refine ⟨h1, ?_⟩
 rw [← h1, List.length_take, h.len]
 have := h.ile
 omega
set_option maxHeartbeats 4000000 in
set_option maxRecDepth 100000 in
theorem df36 (p : S35 → Bool) (g : Nat) (lb : Array Value) (eg : ∀ args w, (callFunc g args).run Try.prog w = .ok (.enter g args) w) (base : Nat) (A : Option Addr) (c : Nat) (l : List S35) (w0 w : World)
  (HO : Kd.R k35 35 w base (fun _ => True) (.slice A l.length c) l) (hb0 : Below base w0 w) (hbase : base ≤ w.heap.size)
  (hp : ∀ (W : World) (x : S35), x ∈ l → w.grownBy W (Value.slice A l.length c).ownBlock → Calls Try.prog g (#[.agg #[.int .i64 x.f0.f0, .int .i64 x.f0.f1, .int .i64 x.f1.f0, .int .i64 x.f1.f1]] ++ lb) W fun e w' => e = .returned (.bool (p x)) ∧ Below W.heap.size W w') :
  Calls Try.prog 36 #[.slice A l.length c, .func (.func g) #[] lb] w fun e w' => e = .returned (.slice A (l.filter (fun x => !p x)).length c) ∧ Kd.R k35 35 w' base (fun _ => True) (.slice A (l.filter (fun x => !p x)).length c) (l.filter (fun x => !p x)) ∧ Below base w0 w' ∧ w.grownBy w' (Value.slice A l.length c).ownBlock := by
 have hreads := rR HO
 have hix := ix58 p g lb eg A c l w hreads.2.2 (fun W x hx hb => (hp W x hx (grown_of_below hb _)).mono (fun e w' ⟨h1, h2⟩ => ⟨h1, bS hb h2⟩))
 have hbig : l.length ≤ 9223372036854775807 := hreads.2.2.2.1
 have hO := aM HO
 have HB0 := aM hb0
 have HP := aM hp
 clear hreads HO hb0 hp
 cases hf : l.findIdx? p with
 | none =>
  have hnone : ixOf p l = -1 := by unfold ixOf; rw [hf]
  rw [hnone] at hix
  have hfil : l.filter (fun x => !p x) = l := by
   rw [List.filter_eq_self]
   intro x hx
   rw [List.findIdx?_eq_none_iff] at hf
   rw [hf x hx]; rfl
  rw [hfil]
  clear hf hnone hfil
  go_enter Try.func36, Try.ntmps36
  go_wp2_with (go_at_call 58; refine hix.mono ?_; rintro e w' ⟨rfl, hb'⟩)
  go_ret
  exact ⟨rfl, rB hO.out hb', HB0.out.trans (hb'.mono hbase), grown_of_below hb' _⟩
 | some i0 =>
  rw [List.findIdx?_eq_some_iff_getElem] at hf
  obtain ⟨hi0, hpi, hbi⟩ := hf
  have hsome : ixOf p l = (i0 : Int) := ixOf_hit p l z35 i0 hi0 (by rw [List.getD_eq_getElem?_getD, List.getElem?_eq_getElem hi0]; exact hpi) (fun j hj => by rw [List.getD_eq_getElem?_getD, List.getElem?_eq_getElem (show j < l.length by omega)]; simpa using hbi j hj)
  rw [hsome] at hix
  have HD0 := aM (Deld.start hi0 hpi (fun j hj => by simpa using hbi j hj))
  clear hpi hbi hsome
  obtain ⟨ga, rfl⟩ := R_head hO.out (by omega)
  go_enter Try.func36, Try.ntmps36
  go_wp2_with (go_at_call 58; refine hix.mono ?_; rintro e w1 ⟨rfl, hb1⟩)
  clear hix
  have HG1 := aM (grown_of_below hb1 (Value.slice (some ⟨ga, 0, none⟩) l.length c).ownBlock)
  have HB1 := aM (HB0.out.trans (hb1.mono hbase))
  have HO1 := aM (rB hO.out hb1)
  have HS1 := aM hb1.size
  clear hb1
  go_loopg [5, 6] l.length (fun gg v5 v6 wr => ∃ (jj ii : Nat) (cur : List S35), jj ≤ l.length ∧ l.length - jj ≤ gg ∧ v5 = .int .i64 ii ∧ v6 = .int .i64 jj ∧ Aside0 (Deld p l jj ii cur) ∧ Aside0 (Kd.R k35 35 wr base (fun _ => True) (.slice (some ⟨ga, 0, none⟩) l.length c) cur) ∧ Aside0 (Below base w0 wr) ∧ Aside0 (w.grownBy wr (Value.slice (some ⟨ga, 0, none⟩) l.length c).ownBlock))
  case atStart => exact ⟨i0 + 1, i0, l, by omega, by omega, rfl, by go_num, HD0, HO1, HB1, HG1⟩
  case round =>
   clear HO1 HB1 HG1 HS1 HD0 hO HB0
   obtain ⟨jj, ii, cur, hjl, hgg, rfl, rfl, HD, HO, HB, HG⟩ := hrel
   have hii : ii < jj := HD.out.ile
   have hlen := HD.out.len
   by_cases hlt : jj < l.length
   ·have hltI : (jj : Int) < (l.length : Int) := by omega
    have hiiI : (ii : Int) < (l.length : Int) := by omega
    obtain ⟨ad, e0, hx0, hx1, hx2, hx3⟩ := at_T35 (rR HO.out).2.2 (jj : Int) (by omega) (by omega)
    cases e0
    have hy : rd_T35 cur (jj : Int) = l[jj] := by unfold rd_T35; rw [Int.toNat_natCast]; exact HD.out.get hlt z35
    rw [hy, Int.toNat_natCast, Addr.add_lit, Nat.zero_add] at hx0 hx1 hx2 hx3
    replace hx1 : wr.cell? ⟨ga, jj * 4 + 1, none⟩ = some (.int .i64 l[jj].f0.f1) := hx1; replace hx2 : wr.cell? ⟨ga, jj * 4 + 2, none⟩ = some (.int .i64 l[jj].f1.f0) := hx2; replace hx3 : wr.cell? ⟨ga, jj * 4 + 3, none⟩ = some (.int .i64 l[jj].f1.f1) := hx3
    have hcall := HP.out (wr.alloc (.cells #[.int .i64 l[jj].f0.f0, .int .i64 l[jj].f0.f1, .int .i64 l[jj].f1.f0, .int .i64 l[jj].f1.f1] 35)) l[jj] (List.getElem_mem _) (HG.out.trans (World.grownBy_alloc wr _ _))
    have HSY := aM (show ∀ q : Bool, p l[jj] = q → p l[jj] = q from fun _ h => h)
    have HDN := aM (fun hq : p l[jj] = false => HD.out.step_no hlt hq)
    have HDY := aM (fun hq : p l[jj] = true => HD.out.step_yes hlt hq)
    clear hy HD
    generalize l[jj] = y at hcall hx0 hx1 hx2 hx3 HDN HDY HSY
    cases hq : p y with
    | true =>
     rw [hq] at hcall
     have HDY' := aM (HDY.out hq)
     clear hq HDN HDY HSY
     go_wp2_with (go_at_fn g; refine hcall.mono ?_; rintro e w2 ⟨rfl, hb2⟩)
     go_roundg (l.length - (jj + 1))
     case measure => omega
     case rel => exact ⟨jj + 1, ii, cur, by omega, by omega, rfl, by go_num, HDY', ⟨rB (rA HO.out _) hb2⟩, ⟨(HB.out.alloc (by have := HG.out.size; omega) _).trans (hb2.mono (by simp; have := HG.out.size; omega))⟩, ⟨HG.out.trans ((World.grownBy_alloc wr _ _).trans (grown_of_below hb2 _))⟩⟩
    | false =>
     rw [hq] at hcall
     have HDN' := aM (HDN.out hq)
     clear hq HDN HDY HSY
     go_wp2_with (first
      | (go_at_fn g; refine hcall.mono ?_; rintro e w2 ⟨rfl, hb2⟩; have hv0 : w2.cell? ⟨wr.heap.size, 0, none⟩ = some (.int .i64 y.f0.f0) := (hb2.cell (p := ⟨wr.heap.size, 0, none⟩) (by simp)).trans (by simp); have hv1 : w2.cell? ⟨wr.heap.size, 1, none⟩ = some (.int .i64 y.f0.f1) := (hb2.cell (p := ⟨wr.heap.size, 1, none⟩) (by simp)).trans (by simp); have hv2 : w2.cell? ⟨wr.heap.size, 2, none⟩ = some (.int .i64 y.f1.f0) := (hb2.cell (p := ⟨wr.heap.size, 2, none⟩) (by simp)).trans (by simp); have hv3 : w2.cell? ⟨wr.heap.size, 3, none⟩ = some (.int .i64 y.f1.f1) := (hb2.cell (p := ⟨wr.heap.size, 3, none⟩) (by simp)).trans (by simp); have HO2 := aM (rB (rA HO.out _) hb2); have HB2 := aM ((HB.out.alloc (by have := HG.out.size; omega) _).trans (hb2.mono (by simp; have := HG.out.size; omega))); have HG2 := aM (HG.out.trans ((World.grownBy_alloc wr _ _).trans (grown_of_below hb2 _))); clear hb2)
      | ((with_reducible refine gate_ (.store 35 (.tmp 33) (.tmp 32)) rfl ?_); obtain ⟨ad2, c2, he2, hc2, _, hcc2⟩ := Kd.C_get (rR HO2.out).2.2 z35 (ii : Int) (by omega) (by omega); cases he2; refine Kd.R_store k35 (w0 := w0) base rfl rfl 35 (.tmp 33) (.tmp 32) rfl 35 (o' := ii * 4) (ii : Int) 0 cur y (.agg #[.int .i64 y.f0.f0, .int .i64 y.f0.f1, .int .i64 y.f1.f0, .int .i64 y.f1.f1]) [.int .i64 y.f0.f0, .int .i64 y.f0.f1, .int .i64 y.f1.f0, .int .i64 y.f1.f1] c2 (fun _ => True) (fun _ => False) rfl rfl rfl rfl (by kernel_rfl) (by intro u hu; simp at hu; rcases hu with rfl | rfl | rfl | rfl <;> rfl) HO2.out (by omega) hiiI hc2 (fun j u hu => ?cc) (Nat.le_refl 4) ?mm (fun k hk => hk.elim) HB2.out ?_; (case cc => have := hcc2 j u hu; rw [Addr.add_lit, Nat.zero_add] at this; exact this); (case mm => have hl2 : c2.length = 4 := hc2; rw [List.take_zero, List.nil_append, List.drop_eq_nil_of_le (by rw [hl2]; exact Nat.le_refl 4), List.append_nil]; exact k35_mkM _ _ _ y); intro w3 ho3 hb3 hg3; have HO3 := aM ho3; have HB3 := aM hb3; have HG3 := aM (HG2.out.trans hg3); clear ho3 hb3 hg3))
     go_roundg (l.length - (jj + 1))
     case measure => omega
     case rel => exact ⟨jj + 1, ii + 1, cur.set ii y, by omega, by omega, by go_num, by go_num, HDN', HO3, HB3, HG3⟩
   ·have hjl2 : jj = l.length := by omega
    obtain ⟨hd1, hd2⟩ := HD.out.done hjl2
    subst hjl2
    clear HD
    have hcap := R_cap HO.out
    rw [hlen] at hcap
    have hii' : ii < l.length := hii
    have hiic : ii < c := by omega
    have hnn : (ii : Int) ≤ (l.length : Int) := by omega
    have HD1 := aM hd1
    have HD2 := aM hd2
    have HLN := aM hlen
    clear hd1 hd2 hlen
    go_wp2
    obtain ⟨w2, hrun, ho2, hg2⟩ := R_clear_run (P := Try.prog) k35 base 35 23 0 Try.underlying23 (.agg #[(.int .i64 0), (.int .i64 0), (.int .i64 0), (.int .i64 0)]) zv35 rfl (by decide) z35 (.slice (some ⟨ga, 0, none⟩) l.length c) cur ii (l.length - ii) ga (c - ii) (fun _ => True) (k35_mkM _ _ _ z35) HO.out (by rw [HLN.out]; omega) rfl
    have HO2 := aM ho2
    have HG2 := aM hg2
    clear ho2 hg2
    have hrun' : (Builtin.clear_ #[23] 0 #[Value.slice (some { block := ga, off := ii * 4 }) (l.length - ii) (c - ii)]).run Try.prog wr = .ok (.tuple #[]) w2 := hrun
    rw [hrun']
    simp only [Result.andThen_ok, Oper.upon_value]
    clear hrun hrun'
    go_wp2
    go_ret
    have e1 : (cur.take ii ++ (List.replicate (l.length - ii) z35 ++ cur.drop (ii + (l.length - ii)))).take ii = l.filter (fun x => !p x) := by
     rw [List.take_append_of_le_length (by rw [List.length_take, HLN.out]; omega), List.take_take, Nat.min_self]
     exact HD1.out
    have e2 := HD2.out
    have ho3 := Kd.R_take (m := ii) HO2.out (by simp [HLN.out]; omega)
    rw [e1] at ho3
    rw [← e2]
    exact ⟨rfl, ho3, HB.out.grown HG2.out (by have := HG.out.size; omega) (fun k hk => own_base (Kd.R_own HO.out).choose_spec k hk), HG.out.trans HG2.out⟩
section
open Go.WideElems (Fit rd rg pl rd_val elemAt)
open Go.Maps (Keyed)
open Go.ChangeShapes Go.WideShapes Go.MapKept
theorem types0 : ∃ m, Try.prog.types.size = m + 3 := ⟨Try.prog.types.size - 3, by
 have h : 3 ≤ Try.prog.types.size := of_decide_eq_true (by kernel_rfl)
 omega⟩
theorem keyLaw35 : WideMaps.KeyLaw Try.prog 35 := deep_law_laid (by kernel_rfl) (m := 4) (by omega) (of_decide_eq_true (by kernel_rfl)) (by kernel_rfl) (by rw [Try.underlying35])
theorem zero3 (w : World) : (zeroValue 3).run Try.prog w = .ok (.int .i64 0) w := by kernel_rfl
theorem foll : Try.prog.follows Departure.mapOpAssignEntry = true := by kernel_rfl
section
variable {H : Type} {P : Program} {k : TypeId} {w : World} {b n : Nat} {D : DataW H}
theorem entry_own {t e : TypeId} {q : IntKind} (h : w.ownsMap P k (plainElem P e) b n D) (KL : WideMaps.KeyLaw P k) (ht : P.underlying t = some (.map k e)) (he : P.underlying e = some (.int q))
  (hz : ∀ u : World, (zeroValue e).run P u = .ok (.int q 0) u) (hn : n < maxLen) {key : Value} {kl : Lit} (hkey : keyOf P k key = some kl) :
  ∃ (c : Int) (st : Nat) (w2 : World), (Instr.lookup t (.map (some b)) key false).run P w = .ok (.int q c) w ∧ D.atKey kl (.lit (.int q 0)) = .lit (.int q c) ∧ (Lit.int q c).wf = true ∧
   (∃ v0, (Instr.mapEntry t (.map (some b)) key).run P w = .ok (.tuple #[v0, goInt st]) w2) ∧ w.grownBy w2 (some b) ∧
   (Instr.lookup t (.map (some b)) key false).run P w2 = .ok (.int q c) w2 ∧
   ∀ c' : Int, (Lit.int q c').wf = true → ∃ w3, (Instr.entryStore t (.map (some b)) (goInt st) (.int q c')).run P w2 = .ok () w3 ∧ w3.ownsMap P k (plainElem P e) b (n + 1) (D.put kl (.lit (.int q c'))) ∧ w.grownBy w3 (some b) := by
 have K := Keyed.of_law KL
 obtain ⟨c, hlook, hat, hwf⟩ := h.lookup_int K ht he (hz w) hkey
 have h0 := h
 obtain ⟨es, clock, hb, F, hs, hD⟩ := h
 obtain ⟨v0, st, es1, clock1, hent, _, hst⟩ := Go.WideElems.entry_then_store KL ht hz hb F hkey
 have hb2 : (Go.ChangeMaps.setBlock w b (.map es1 clock1)).heap[b]? = some (.map es1 clock1) := Go.ChangeMaps.heap_setBlock_same hb _
 have hgrow : ∀ o, w.grownBy (Go.ChangeMaps.setBlock w b o) (some b) := fun o => ⟨rfl, rfl, rfl, by simp [Go.ChangeMaps.setBlock], fun i _ hi => Go.ChangeMaps.heap_setBlock_other hb _ (fun e => hi (by rw [e]))⟩
 refine ⟨c, st, _, hlook, hat, hwf, ⟨v0, hent⟩, hgrow _, ?_, ?_⟩
 ·rcases KL.find w hkey es.toList F.keys with ⟨h1, h2⟩ | ⟨j, e0, h1, h2, h3⟩
  ·-- nothing yet: what the entry holds is what a store of the zero value leaves
   have hc0 : c = 0 := by
    have e1 : (Instr.lookup t (.map (some b)) key false).run P w = .ok (.int q 0) w := by
     rcases Go.Maps.fit_look false K ht (hz w) hb F hkey with ⟨hrun, _, _⟩ | ⟨e0, y, hm, hk, _, _, _, _⟩
     ·exact hrun
     ·exact absurd hk (h2 e0 hm)
    rw [hlook] at e1
    injection e1 with e2
    injection e2
   subst hc0
   have hw0 : (Lit.int q 0).wf = true := by cases q <;> decide
   obtain ⟨w', hrun, hown', _⟩ := h0.update K ht hn hkey (plainElem_int he hw0)
   have e1 : (Instr.mapUpdate t (.map (some b)) key (.int q 0)).run P w = .ok () (Go.ChangeMaps.setBlock w b (.map es1 clock1)) := by
    have e2 : (Instr.mapEntry t (.map (some b)) key).run P w = .ok (.tuple #[.int q 0, goInt clock]) (Go.ChangeMaps.setBlock w b (.map (es.push ⟨key, .int q 0, clock⟩) (clock + 1))) := by
     simp [Instr.mapEntry, run_underlying ht, Go.MapKept.run_getObj_map hb, KL.check w false hkey, h1, hz, Go.MapKept.run_setObj_map _ hb, Result.andThen, Go.ChangeMaps.setBlock]
    rw [hent] at e2
    have e3 := (Result.ok.inj e2).2
    rw [e3]
    simp [Instr.mapUpdate, run_underlying ht, Go.MapKept.run_getObj_map hb, KL.check w false hkey, h1, Go.MapKept.run_setObj_map _ hb, Result.andThen, Go.ChangeMaps.setBlock]
   rw [hrun] at e1
   have e3 := (Result.ok.inj e1).2
   rw [e3] at hown'
   clear e3 hrun
   obtain ⟨c2, hl2, hat2, _⟩ := hown'.lookup_int K ht he (hz _) hkey
   rw [Go.Maps.atKey_put_same ⟨_, hD⟩ (K.key hkey)] at hat2
   have e5 := (Lit.int.inj (DataW.lit.inj hat2)).2
   rw [hl2, e5]
  ·have hj : es[j]? = some e0 := by simpa using h2
   have hsame : es.modify j (fun e => { e with key := key }) = es := by
    apply Array.ext'
    rw [Array.toList_modify, Go.ChangeMaps.modify_eq_set _ _ _ _ h2]
    have : ({ e0 with key := key } : MapEntry) = e0 := by rw [← h3]
    rw [this]
    exact Go.WideElems.set_self _ _ _ h2
   have e2 : (Instr.mapEntry t (.map (some b)) key).run P w = .ok (.tuple #[e0.val, goInt e0.born]) (Go.ChangeMaps.setBlock w b (.map es clock)) := by
    simp [Instr.mapEntry, run_underlying ht, Go.MapKept.run_getObj_map hb, KL.check w false hkey, h1, hj, h3, KL.stays w hkey, hsame, Go.MapKept.run_setObj_map _ hb, Result.andThen, Go.ChangeMaps.setBlock]
   rw [hent] at e2
   have e3 := (Result.ok.inj e2).2
   rw [e3]
   have hown2 : (Go.ChangeMaps.setBlock w b (.map es clock)).ownsMap P k (plainElem P e) b n D := ⟨es, clock, Go.ChangeMaps.heap_setBlock_same hb _, F, hs, hD⟩
   obtain ⟨c2, hl2, hat2, _⟩ := hown2.lookup_int K ht he (hz _) hkey
   rw [hat] at hat2
   have e5 := (Lit.int.inj (DataW.lit.inj hat2)).2
   rw [hl2, e5]
 ·intro c' hc'
  obtain ⟨es', clock', hrun, hup⟩ := hst _ (.int q c') hb2
  obtain ⟨w', hrun', hown', hg'⟩ := h0.update K ht hn hkey (plainElem_int he hc')
  rw [hup] at hrun'
  have e3 := (Result.ok.inj hrun').2
  rw [← e3] at hown' hg'
  refine ⟨_, hrun, ?_⟩
  have e4 : Go.ChangeMaps.setBlock (Go.ChangeMaps.setBlock w b (.map es1 clock1)) b (.map es' clock') = Go.ChangeMaps.setBlock w b (.map es' clock') := by
   simp [Go.ChangeMaps.setBlock]
  rw [e4]
  exact ⟨hown', hg'⟩
end
def InS (s : S35) : Prop := (Lit.int .i64 s.f0.f0).wf = true ∧ (Lit.int .i64 s.f0.f1).wf = true ∧ (Lit.int .i64 s.f1.f0).wf = true ∧ (Lit.int .i64 s.f1.f1).wf = true
theorem keyType35 : Try.prog.keyType 35 = true := by kernel_rfl
theorem cells35 : Try.prog.cellsOf 35 = 4 := by kernel_rfl
theorem cells33 : Try.prog.cellsOf 33 = 2 := by kernel_rfl
theorem cells3 : Try.prog.cellsOf 3 = 1 := by kernel_rfl
theorem lits3 (d : Nat) (a : Int) (h : (Lit.int .i64 a).wf = true) : Try.prog.keyLits (d + 1) 3 [.int .i64 a] = some [.int .i64 a] := by
 simp only [Program.keyLits, Try.underlying3]
 exact if_pos ⟨trivial, h⟩
theorem lits33 (d : Nat) (a b : Int) (h : (Lit.int .i64 a).wf = true) (h' : (Lit.int .i64 b).wf = true) : Try.prog.keyLits (d + 2) 33 [.int .i64 a, .int .i64 b] = some [.int .i64 a, .int .i64 b] := by
 unfold Program.keyLits
 simp only [Try.underlying33]
 rw [if_pos ⟨by rw [cells33]; rfl, by decide +kernel⟩]
 simp [cells3, lits3 d a h, lits3 d b h']
theorem key_ok (s : S35) (h : InS s) : ∃ kl, keyOf Try.prog 35 (.agg #[.int .i64 s.f0.f0, .int .i64 s.f0.f1, .int .i64 s.f1.f0, .int .i64 s.f1.f1]) = some kl := by
 obtain ⟨m, hm⟩ := types0
 obtain ⟨h1, h2, h3, h4⟩ := h
 have hf : (Value.agg #[.int .i64 s.f0.f0, .int .i64 s.f0.f1, .int .i64 s.f1.f0, .int .i64 s.f1.f1]).formed Try.prog 35 = true := by simp [Value.formed, Try.underlying35, cells35]
 have hl : Try.prog.keyLits (m + 4) 35 [.int .i64 s.f0.f0, .int .i64 s.f0.f1, .int .i64 s.f1.f0, .int .i64 s.f1.f1] = some [.int .i64 s.f0.f0, .int .i64 s.f0.f1, .int .i64 s.f1.f0, .int .i64 s.f1.f1] := by
  unfold Program.keyLits
  simp only [Try.underlying35]
  rw [if_pos ⟨by rw [cells35]; rfl, by decide +kernel⟩]
  simp [cells33, lits33 (m + 1) _ _ h1 h2, lits33 (m + 1) _ _ h3 h4]
 unfold keyOf
 simp only [Try.underlying35, keyType35, hf, Bool.and_self, if_true, hm]
 exact ⟨_, congrArg (Option.map _) hl⟩
end
theorem keyed35 : Go.Maps.Keyed Try.prog 35 := Go.Maps.Keyed.of_law keyLaw35
def aggS (s : S35) : Value := .agg #[.int .i64 s.f0.f0, .int .i64 s.f0.f1, .int .i64 s.f1.f0, .int .i64 s.f1.f1]
theorem aggS_inj {s s' : S35} (h : aggS s = aggS s') : s = s' := by
 obtain ⟨⟨a, b⟩, ⟨c, d⟩⟩ := s
 obtain ⟨⟨a', b'⟩, ⟨c', d'⟩⟩ := s'
 simp [aggS] at h
 obtain ⟨rfl, rfl, rfl, rfl⟩ := h
 rfl
noncomputable def klS (s : S35) : Lit := (keyOf Try.prog 35 (aggS s)).getD (.bool true)
theorem klS_key {s : S35} (h : InS s) : keyOf Try.prog 35 (aggS s) = some (klS s) := by
 obtain ⟨kl, hk⟩ := key_ok s h
 have hk' : keyOf Try.prog 35 (aggS s) = some kl := hk
 unfold klS
 rw [hk']
 rfl
theorem klS_inj {s s' : S35} (h : InS s) (h' : InS s') (e : klS s = klS s') : s = s' := by
 have h1 := klS_key h
 rw [e] at h1
 exact aggS_inj (keyed35.inj h1 (klS_key h'))
instance : DecidableEq S33 := fun a b => decidable_of_iff (a.f0 = b.f0 ∧ a.f1 = b.f1) (by obtain ⟨a, b⟩ := a; rename_i b'; obtain ⟨c, d⟩ := b'; simp)
instance : DecidableEq S35 := fun a b => decidable_of_iff (a.f0 = b.f0 ∧ a.f1 = b.f1) (by obtain ⟨a, b⟩ := a; rename_i b'; obtain ⟨c, d⟩ := b'; simp)
def ctS (t : List S35) (s : S35) : Nat := t.count s
def InL (t : List S35) : Prop := ∀ s ∈ t, InS s
instance (s : S35) : Decidable (InS s) := by unfold InS; exact inferInstance
instance (t : List S35) : Decidable (InL t) := by unfold InL; exact inferInstance
def Counts (t : List S35) (D : DataW Unit) : Prop := Go.Maps.IsMap D ∧ ∀ s, InS s → D.atKey (klS s) (.lit (.int .i64 0)) = .lit (.int .i64 (ctS t s : Int))
theorem counts_nil : Counts [] (.map []) := ⟨⟨_, rfl⟩, fun s _ => rfl⟩
theorem counts_snoc {t : List S35} {D : DataW Unit} {s : S35} (h : Counts t D) (hs : InS s) : Counts (t ++ [s]) (D.put (klS s) (.lit (.int .i64 ((ctS t s : Int) + 1)))) := by
 obtain ⟨h1, h2⟩ := h
 refine ⟨?_, fun s' hs' => ?_⟩
 ·obtain ⟨es, rfl⟩ := h1
  exact ⟨_, rfl⟩
 ·by_cases he : s' = s
  ·subst he
   rw [Go.Maps.atKey_put_same h1 (keyed35.key (klS_key hs))]
   simp [ctS]
  ·rw [Go.Maps.atKey_put_other (fun e => he (klS_inj hs' hs e)), h2 s' hs']
   unfold ctS
   rw [List.count_append, List.count_singleton]
   have : (s == s') = false := by rw [beq_eq_false_iff_ne]; exact fun e => he e.symm
   rw [this]; simp
theorem wf_nat {n : Nat} (h : n ≤ 9223372036854775807) : (Lit.int .i64 (n : Int)).wf = true := by
 simp [Lit.wf, IntKind.min, IntKind.max, IntKind.bits, IntKind.signed]
 omega
set_option maxHeartbeats 4000000 in
set_option maxRecDepth 100000 in
theorem oddClosed (mb vb n : Nat) (D : DataW Unit) (t : List S35) (W : World) (x : S35) (hx : InS x) (hD : Counts t D) (hown : W.ownsMap Try.prog 35 (plainElem Try.prog 3) mb n D)
  (hc : W.cell? ⟨vb, 0, none⟩ = some (.map (some mb))) (hv : vb < W.heap.size) :
  Calls Try.prog 37 (#[aggS x] ++ #[.pointer (some ⟨vb, 0, none⟩)]) W fun e w' => e = .returned (.bool (decide (ctS t x % 2 = 0))) ∧ Below W.heap.size W w' := by
 have hne : vb ≠ W.heap.size := by omega
 have HB := aM (Below.refl W.heap.size W)
 have hown2 := hown.alloc (.cells #[.int .i64 x.f0.f0, .int .i64 x.f0.f1, .int .i64 x.f1.f0, .int .i64 x.f1.f1] 35)
 obtain ⟨c, hlook, hat, _⟩ := hown2.lookup_int keyed35 Try.underlying45 Try.underlying3 (zero3 _) (klS_key hx)
 rw [hD.2 x hx] at hat
 have hc2 := (Lit.int.inj (DataW.lit.inj hat)).2
 have he : decide (ctS t x % 2 = 0) = ((c.tmod 2) == 0) := by
  rw [← hc2]
  have : (Int.tmod (ctS t x : Int) 2) = ((ctS t x % 2 : Nat) : Int) := by
   rw [Int.tmod_eq_emod_of_nonneg (by omega)]; omega
  rw [this]
  by_cases h0 : ctS t x % 2 = 0
  ·simp [h0]
  ·simp [h0]; omega
 rw [he]
 clear hat hc2 he hown hown2
 unfold aggS at hlook
 show Calls Try.prog 37 #[.agg #[.int .i64 x.f0.f0, .int .i64 x.f0.f1, .int .i64 x.f1.f0, .int .i64 x.f1.f1], .pointer (some ⟨vb, 0, none⟩)] W _
 go_enter Try.func37, Try.ntmps37
 go_wp2
 go_ret
 exact ⟨rfl, by repeat (first | (with_reducible first | exact HB.out | apply bN | apply bD) | (refine (HB.out.alloc HB.out.size _)))⟩
def noding_Odd.f (k : Nat) (l0 : List (S35)) : Option (List (S35)) := (noding_canon.f k l0).bind fun t => (noding_Unique.f k l0).bind fun u => if InL t ∧ InL u ∧ t.length ≤ 1000000 then some (u.filter (fun x => !decide (ctS t x % 2 = 0))) else none
theorem noding_Odd.mono : ∀ (l0 : List (S35)) (k : Nat), LeO (noding_Odd.f k l0) (noding_Odd.f (k + 1) l0) := by
 intro l0 k
 unfold noding_Odd.f
 exact LeO.bind (noding_canon.mono _ _) (fun _ => LeO.bind (noding_Unique.mono _ _) (fun _ => LeO.refl _))
theorem oddFoll : Try.prog.follows Departure.mixedOrders = true := by kernel_rfl
set_option maxHeartbeats 8000000 in
set_option maxRecDepth 100000 in
theorem noding_Odd.calls (k : Nat) (A0 : Option Addr) (c0 : Nat) (l0 : List (S35)) (r : List (S35)) (w : World) (hr0 : Kd.C k35 w A0 l0.length l0) (hc0 : l0.length ≤ c0) (h : noding_Odd.f k l0 = some r) :
  Calls Try.prog 17 #[.slice A0 l0.length c0] w fun e w' => ∃ v0_ : Value, e = .returned (v0_) ∧ Kd.R k35 35 w' w.heap.size (fun _ => True) v0_ r ∧ Below w.heap.size w w' := by
 have mixed := oddFoll
 unfold noding_Odd.f at h
 obtain ⟨t, ht, h⟩ := Option.bind_eq_some_iff.mp h
 obtain ⟨u, hu, h⟩ := Option.bind_eq_some_iff.mp h
 split at h
 case isFalse => cases h
 rename_i hin
 obtain ⟨hint, hinu, htl⟩ := hin
 obtain rfl := Option.some.inj h
 clear h
 have HT := aM hint
 have HU := aM hinu
 have Ht := aM ht
 have Hu := aM hu
 have HR := aM hr0
 clear hint hinu ht hu hr0
 have eg : ∀ args w, (callFunc 37 args).run Try.prog w = .ok (.enter 37 args) w := enters_of Try.func37 (by kernel_rfl) rfl
 have hmm := @run_makeMap Try.prog
 -- the world behind the making of the map
 obtain ⟨wa, hwa⟩ : ∃ wa, wa = (w.alloc (.map #[] 0)).alloc (.cells #[.map (some w.heap.size)] 45) := ⟨_, rfl⟩
 have hown0 : wa.ownsMap Try.prog 35 (plainElem Try.prog 3) w.heap.size 0 (.map [] : DataW Unit) := by rw [hwa]; exact (World.ownsMap_made _ _ _ _).alloc _
 have hcell0 : wa.cell? ⟨w.heap.size + 1, 0, none⟩ = some (.map (some w.heap.size)) := by rw [hwa]; simp
 have hb0 : Below w.heap.size w wa := by rw [hwa]; exact ((Below.refl _ w).alloc (Nat.le_refl _) _).alloc (by simp) _
 have hsz0 : wa.heap.size = w.heap.size + 2 := by rw [hwa]; simp
 have HC0 := aM (noding_canon.calls k A0 c0 l0 t wa (Kd.C_below HR.out hb0) hc0 Ht.out)
 go_enter Try.func17, Try.ntmps17
 go_wp2_with (first | (go_at_call 29; refine (show Calls Try.prog 29 #[.slice A0 l0.length c0] _ _ from by rw [← hwa]; exact HC0.out).mono ?_; rintro e w1 ⟨v8, rfl, ho1, hb1⟩; obtain ⟨A8, c8, rfl⟩ := Kd.R_slice ho1) | go_in)
 have HB1 := aM (hb0.trans (hb1.mono (by omega)))
 have hcell1 : w1.cell? ⟨w.heap.size + 1, 0, none⟩ = some (.map (some w.heap.size)) := (hb1.cell (p := ⟨w.heap.size + 1, 0, none⟩) (by rw [hsz0]; simp)).trans hcell0
 have hown1 : w1.ownsMap Try.prog 35 (plainElem Try.prog 3) w.heap.size 0 (.map [] : DataW Unit) := hown0.kept (grown_of_below hb1 none) (by simp)
 have HS1 := aM (show w.heap.size + 2 ≤ w1.heap.size from hsz0 ▸ hb1.size)
 rw [hsz0] at ho1
 have HO1 := aM ho1
 have HW1 := aM hown1
 have HL1 := aM hcell1
 clear hown0 hown1 hcell0 hcell1 hb0 hb1 ho1 HC0 hmm
 have hbase8 := Kd.R_base HO1.out
 go_loopg [10] t.length (fun gg v10 wr => ∃ (j : Nat) (D : DataW Unit), j ≤ t.length ∧ t.length - j ≤ gg ∧ v10 = .int .i64 j ∧ Aside0 (Counts (t.take j) D) ∧ Aside0 (wr.ownsMap Try.prog 35 (plainElem Try.prog 3) w.heap.size j D) ∧ Aside0 (wr.cell? ⟨w.heap.size + 1, 0, none⟩ = some (.map (some w.heap.size))) ∧ Aside0 (Kd.R k35 35 wr (w.heap.size + 2) (fun _ => True) (.slice A8 t.length c8) t) ∧ Aside0 (Below w.heap.size w wr) ∧ Aside0 (w.heap.size + 2 ≤ wr.heap.size))
 case atStart => exact ⟨0, .map [], by omega, by omega, rfl, ⟨by simpa using counts_nil⟩, HW1, HL1, HO1, HB1, HS1⟩
 case round =>
  obtain ⟨j, D, hj, hg, rfl, CD, OW, CL, RO, BW, SZ⟩ := hrel
  by_cases hlt : j < t.length
  ·have hltI : (j : Int) < (t.length : Int) := by omega
   obtain ⟨ad, e0, hx0, hx1, hx2, hx3⟩ := at_T35 (rR RO.out).2.2 (j : Int) (by omega) (by omega)
   cases e0
   have hy : rd_T35 t (j : Int) = t[j] := by unfold rd_T35; rw [Int.toNat_natCast, List.getD_eq_getElem?_getD, List.getElem?_eq_getElem hlt]; rfl
   rw [hy, Int.toNat_natCast] at hx0 hx1 hx2 hx3
   have hyin := HT.out t[j] (List.getElem_mem hlt)
   have hstep := List.take_succ_eq_append_getElem hlt
   generalize t[j] = y at hx0 hx1 hx2 hx3 hyin hstep
   have hcd := counts_snoc CD.out hyin
   rw [← hstep] at hcd
   have hsz := SZ.out
   have hown2 := OW.out.alloc (.cells #[.int .i64 y.f0.f0, .int .i64 y.f0.f1, .int .i64 y.f1.f0, .int .i64 y.f1.f1] 35)
   obtain ⟨c, st, w2, hlook, hat, hwf, ⟨v0, hent⟩, hgr2, hlook2, hstore⟩ := entry_own hown2.drew keyLaw35 Try.underlying45 Try.underlying3 zero3 (by unfold maxLen; omega) (klS_key hyin)
   rw [CD.out.2 y hyin] at hat
   have hc2 := (Lit.int.inj (DataW.lit.inj hat)).2
   have hcle : ctS (t.take j) y ≤ 1000000 := by unfold ctS; exact Nat.le_trans List.count_le_length (by rw [List.length_take]; omega)
   have hcb : 0 ≤ c ∧ c ≤ 1000000 := by omega
   obtain ⟨w3, hst3, hown3, hgr3⟩ := hstore (c + 1) (by have := wf_nat (n := (c + 1).toNat) (by omega); rwa [Int.toNat_of_nonneg (by omega)] at this)
   rw [hc2] at hcd
   replace hent : _ = Result.ok (Value.tuple #[v0, .int .i64 (st : Int)]) w2 := hent
   replace hst3 : (Instr.entryStore 45 (.map (some w.heap.size)) (.int .i64 (st : Int)) (.int .i64 (c + 1))).run Try.prog w2 = .ok () w3 := hst3
   clear hstore hwf hat hown2
   have hne1 : w.heap.size + 1 ≠ wr.heap.size := by omega
   have hcl := CL.out
   have hloadm : (wr.alloc (.cells #[.int .i64 y.f0.f0, .int .i64 y.f0.f1, .int .i64 y.f1.f0, .int .i64 y.f1.f1] 35)).cell? ⟨w.heap.size + 1, 0, none⟩ = some (.map (some w.heap.size)) := by
    rw [← hcl]; exact (((Below.refl _ wr).alloc (Nat.le_refl _) _).cell (p := ⟨w.heap.size + 1, 0, none⟩) (by show w.heap.size + 1 < wr.heap.size; omega))
   unfold aggS at hlook hlook2 hent
   have hs0 : (wr.alloc (.cells #[.int .i64 y.f0.f0, .int .i64 y.f0.f1, .int .i64 y.f1.f0, .int .i64 y.f1.f1] 35)).cell? ⟨wr.heap.size, 0, none⟩ = some (.int .i64 y.f0.f0) := by simp
   have hs1 : (wr.alloc (.cells #[.int .i64 y.f0.f0, .int .i64 y.f0.f1, .int .i64 y.f1.f0, .int .i64 y.f1.f1] 35)).cell? ⟨wr.heap.size, 1, none⟩ = some (.int .i64 y.f0.f1) := by simp
   have hs2 : (wr.alloc (.cells #[.int .i64 y.f0.f0, .int .i64 y.f0.f1, .int .i64 y.f1.f0, .int .i64 y.f1.f1] 35)).cell? ⟨wr.heap.size, 2, none⟩ = some (.int .i64 y.f1.f0) := by simp
   have hs3 : (wr.alloc (.cells #[.int .i64 y.f0.f0, .int .i64 y.f0.f1, .int .i64 y.f1.f0, .int .i64 y.f1.f1] 35)).cell? ⟨wr.heap.size, 3, none⟩ = some (.int .i64 y.f1.f1) := by simp
   have hsa := (World.grownBy_alloc wr (.cells #[.int .i64 y.f0.f0, .int .i64 y.f0.f1, .int .i64 y.f1.f0, .int .i64 y.f1.f1] 35) none)
   go_wp2
   generalize hwx : wr.alloc (.cells #[.int .i64 y.f0.f0, .int .i64 y.f0.f1, .int .i64 y.f1.f0, .int .i64 y.f1.f1] 35) = wx at hlook hlook2 hent hgr2 hgr3 hloadm hs0 hs1 hs2 hs3 hsa ⊢
   go_region
   have hg3x : wx.grownBy w3 (some w.heap.size) := ⟨hgr3.os, hgr3.tape, hgr3.output, hgr3.size, hgr3.block⟩
   have hg3 : wr.grownBy w3 (some w.heap.size) := (hwx ▸ World.grownBy_alloc wr _ _ : wr.grownBy wx (some w.heap.size)).trans hg3x
   have HCD := aM hcd
   have HO3 := aM hown3
   have HG3 := aM hg3
   clear hcd hown3 hg3 hg3x hgr3 hgr2 hlook hlook2 hent hst3 hs0 hs1 hs2 hs3 hsa hloadm
   go_wp2
   go_roundg (t.length - (j + 1))
   case measure => omega
   case rel => exact ⟨j + 1, D.put (klS y) (.lit (.int .i64 (c + 1))), by omega, by omega, by go_num, HCD, HO3, ⟨HG3.out.cell CL.out (by simp)⟩, ⟨Kd.R_grown2 RO.out rfl HG3.out (fun k hk he => by have := Kd.R_base RO.out k he.symm; cases hk; omega)⟩, ⟨BW.out.grown HG3.out BW.out.size (fun k hk => by cases hk; exact Nat.le_refl _)⟩, ⟨Nat.le_trans SZ.out HG3.out.size⟩⟩
  ·have hjt : j = t.length := by omega
   subst hjt
   have hcd : Counts t D := by have := CD.out; rwa [List.take_length] at this
   have hdel : ∀ (A : Option Addr) (c : Nat) (w4 : World), Kd.R k35 35 w4 wr.heap.size (fun _ => True) (.slice A u.length c) u → Below wr.heap.size wr w4 →
     Calls Try.prog 36 #[.slice A u.length c, .func (.func 37) #[] #[.pointer (some ⟨w.heap.size + 1, 0, none⟩)]] w4 fun e w' => ∃ v0_ : Value, e = .returned (v0_) ∧ Kd.R k35 35 w' w.heap.size (fun _ => True) v0_ (u.filter (fun x => !decide (ctS t x % 2 = 0))) ∧ Below w.heap.size w w' := by
    intro A c w4 h1 h2
    have hsz := SZ.out
    refine (df36 (fun x => decide (ctS t x % 2 = 0)) 37 #[.pointer (some ⟨w.heap.size + 1, 0, none⟩)] eg wr.heap.size A c u wr w4 h1 h2 h2.size ?_).mono ?_
    ·intro W x hx hg
     have hne : ∀ k, (Value.slice A u.length c).ownBlock = some k → wr.heap.size ≤ k := Kd.R_base h1
     have hs := hg.size
     have hs2 := h2.size
     have o4 : w4.ownsMap Try.prog 35 (plainElem Try.prog 3) w.heap.size t.length D := OW.out.kept (grown_of_below h2 none) (by simp)
     have c4 : w4.cell? ⟨w.heap.size + 1, 0, none⟩ = some (.map (some w.heap.size)) := (h2.cell (p := ⟨w.heap.size + 1, 0, none⟩) (by show w.heap.size + 1 < wr.heap.size; omega)).trans CL.out
     exact oddClosed w.heap.size (w.heap.size + 1) t.length D t W x (HU.out x hx) hcd (o4.kept hg (fun he => by have := hne _ he.symm; omega)) (hg.cell c4 (fun he => by have := hne _ he.symm; simp at this; omega)) (by omega)
    ·rintro e w' ⟨rfl, g1, g2, _⟩
     exact ⟨_, rfl, Kd.R_lower g1 (by omega), BW.out.trans (g2.mono BW.out.size)⟩
   have HD := aM hdel
   clear hdel hcd
   go_wp2_with (first | (go_at_call 15; refine (noding_Unique.calls k A0 c0 l0 u _ (Kd.C_below HR.out BW.out) hc0 Hu.out).mono ?_; rintro e w4 ⟨v22, rfl, ho4, hb4⟩; obtain ⟨A9, c9, rfl⟩ := Kd.R_slice ho4) | (go_at_call 36; refine (HD.out _ _ _ ho4 hb4).mono ?_; rintro e w5 ⟨v5, rfl, h5, h6⟩) | go_in)
   go_ret
   exact ⟨_, rfl, h5, h6⟩
-- NOT PRINTED: function 39 (api_Point_39)
def ddGo33 (q : S33 → S33 → Bool) : S33 → List S33 → List S33
 | _, [] => []
 | p, y :: l => if q y p = true then ddGo33 q y l else y :: ddGo33 q y l
def dd33 (q : S33 → S33 → Bool) : List S33 → List S33
 | [] => []
 | x :: l => x :: ddGo33 q x l
theorem ddGo_snoc33 (q : S33 → S33 → Bool) (z : S33) : ∀ (l : List S33) (p y : S33), ddGo33 q p (l ++ [y]) = ddGo33 q p l ++ (if q y ((p :: l).getLast (by simp)) = true then [] else [y])
 | [], p, y => by
  simp only [List.nil_append, ddGo33, List.getLast_singleton]
  first | rfl | (split <;> rfl)
 | x :: l, p, y => by
  have ih := ddGo_snoc33 q z l x y
  simp only [List.cons_append, ddGo33]
  rw [ih]
  have e : (p :: x :: l).getLast (by simp) = (x :: l).getLast (by simp) := rfl
  rw [e]
  by_cases h : q x p = true
  ·rw [if_pos h, if_pos h]
  ·rw [if_neg h, if_neg h, List.cons_append]
theorem dd_snoc33 (q : S33 → S33 → Bool) (l : List S33) (j : Nat) (h0 : 0 < j) (hj : j < l.length) : dd33 q (l.take (j + 1)) = dd33 q (l.take j) ++ (if q l[j] l[j - 1] = true then [] else [l[j]]) := by
 rw [List.take_succ_eq_append_getElem hj]
 cases l with
 | nil => simp at hj
 | cons x l =>
  obtain ⟨i, rfl⟩ : ∃ i, j = i + 1 := ⟨j - 1, by omega⟩
  simp only [List.take_succ_cons, List.cons_append, dd33]
  rw [ddGo_snoc33 q x]
  have e : (x :: l.take i).getLast (by simp) = (x :: l)[i] := by
   rw [List.getLast_eq_getElem]
   simp only [List.length_cons, List.length_take]
   have hm : min i l.length = i := by simp at hj; omega
   simp only [hm, Nat.add_sub_cancel]
   cases i with
   | zero => rfl
   | succ i => simp
  rw [e]
  rfl
structure Cmpd33 (q : S33 → S33 → Bool) (l : List S33) (jj kk : Nat) (cur : List S33) : Prop where
 len : cur.length = l.length
 le : jj ≤ l.length
 ile : kk < jj
 kept : cur.take kk = dd33 q (l.take jj)
 rest : cur.drop (jj - 1) = l.drop (jj - 1)
theorem Cmpd33.get {q : S33 → S33 → Bool} {l cur : List S33} {jj kk : Nat} (h : Cmpd33 q l jj kk cur) (i : Nat) (hi : jj - 1 ≤ i) (hl : i < l.length) (z : S33) : cur.getD i z = l[i] := by
 have h1 := congrArg (fun t => t[i - (jj - 1)]?) h.rest
 simp only [List.getElem?_drop] at h1
 rw [show jj - 1 + (i - (jj - 1)) = i by omega] at h1
 rw [List.getD_eq_getElem?_getD, h1, List.getElem?_eq_getElem hl]
 rfl
theorem Cmpd33.step_yes {q : S33 → S33 → Bool} {l cur : List S33} {jj kk : Nat} (h : Cmpd33 q l jj kk cur) (hj : jj < l.length) (hp : q l[jj] l[jj - 1] = true) : Cmpd33 q l (jj + 1) kk cur where
 len := h.len
 le := hj
 ile := by have := h.ile; omega
 kept := by rw [dd_snoc33 q l jj (by have := h.ile; omega) hj, if_pos hp, List.append_nil]; exact h.kept
 rest := by
  have h0 := h.ile
  have := congrArg (List.drop 1) h.rest
  rw [List.drop_drop, List.drop_drop, show jj - 1 + 1 = jj + 1 - 1 by omega] at this
  exact this
theorem Cmpd33.step_no {q : S33 → S33 → Bool} {l cur : List S33} {jj kk : Nat} (h : Cmpd33 q l jj kk cur) (hj : jj < l.length) (hp : q l[jj] l[jj - 1] = false) : Cmpd33 q l (jj + 1) (kk + 1) (cur.set kk l[jj]) where
 len := by rw [List.length_set]; exact h.len
 le := hj
 ile := by have := h.ile; omega
 kept := by
  have h0 := h.ile
  have hi : kk < cur.length := by rw [h.len]; omega
  rw [dd_snoc33 q l jj (by omega) hj, if_neg (by rw [hp]; exact Bool.false_ne_true), ← h.kept, List.take_succ_eq_append_getElem (by rw [List.length_set]; exact hi), List.getElem_set_self, List.take_set_of_le (Nat.le_refl _)]
 rest := by
  have h0 := h.ile
  rw [List.drop_set_of_lt (by omega)]
  have := congrArg (List.drop 1) h.rest
  rw [List.drop_drop, List.drop_drop, show jj - 1 + 1 = jj + 1 - 1 by omega] at this
  exact this
theorem Cmpd33.done {q : S33 → S33 → Bool} {l cur : List S33} {kk : Nat} (h : Cmpd33 q l l.length kk cur) : cur.take kk = dd33 q l ∧ kk = (dd33 q l).length := by
 have h1 := h.kept
 rw [List.take_length] at h1
 refine ⟨h1, ?_⟩
 rw [← h1, List.length_take, h.len]
 have := h.ile
 omega
theorem dd_pre33 (q : S33 → S33 → Bool) (l : List S33) : ∀ j, j ≤ l.length → (∀ i, 0 < i → (hi : i < j) → (hl : i < l.length) → q l[i] l[i - 1] = false) → dd33 q (l.take j) = l.take j
 | 0, _, _ => rfl
 | 1, hj, _ => by
  cases l with
  | nil => rfl
  | cons x l => rfl
 | j + 2, hj, h => by
  rw [dd_snoc33 q l (j + 1) (by omega) (by omega), if_neg (by rw [h (j + 1) (by omega) (by omega) (by omega)]; exact Bool.false_ne_true), dd_pre33 q l (j + 1) (by omega) (fun i h0 h1 h2 => h i h0 (by omega) h2), List.take_succ_eq_append_getElem (show j + 1 < l.length by omega)]
theorem Cmpd33.start {q : S33 → S33 → Bool} {l : List S33} {k : Nat} (h0 : 0 < k) (hk : k < l.length) (hp : q l[k] l[k - 1] = true) (hb : ∀ i, 0 < i → (hi : i < k) → (hl : i < l.length) → q l[i] l[i - 1] = false) : Cmpd33 q l (k + 1) k l where
 len := rfl
 le := hk
 ile := by omega
 kept := by rw [dd_snoc33 q l k h0 hk, if_pos hp, List.append_nil, dd_pre33 q l k (by omega) hb]
 rest := rfl
attribute [local go_sem high] eqG33
theorem zv33 (w : World) : (zeroValue 33).run Try.prog w = .ok ((.agg #[(.int .i64 0), (.int .i64 0)])) w := by
 have h := info33
 cases hq : Try.prog.info? 33 with
 | none => rw [hq] at h; cases h
 | some i =>
  rw [hq] at h
  simp only [Option.map_some, Option.some.injEq, Prod.mk.injEq] at h
  simp [zeroValue, typeInfo, hq, h.1]
def eqs33 (x y : S33) : Bool := (x.f0 == y.f0 && (x.f1 == y.f1))
set_option maxHeartbeats 4000000 in
set_option maxRecDepth 100000 in
theorem cp42 (base : Nat) (A : Option Addr) (c : Nat) (l : List S33) (w0 w : World) (P0_ : Nat → Prop)
  (HO : Kd.R k33 33 w base P0_ (.slice A l.length c) l) (hb0 : Below base w0 w) (hbase : base ≤ w.heap.size) :
  Calls Try.prog 42 #[.slice A l.length c] w fun e w' => ∃ v, e = .returned v ∧ Kd.R k33 33 w' base P0_ v (dd33 eqs33 l) ∧ Below base w0 w' ∧ w.grownBy w' (Value.slice A l.length c).ownBlock := by
 have hreads := rR HO
 have hbig : l.length ≤ 9223372036854775807 := hreads.2.2.2.1
 have hO := aM HO
 have HB0 := aM hb0
 clear hreads HO hb0
 by_cases hs : l.length < 2
 ·have hdd : dd33 eqs33 l = l := by
   have := dd_pre33 eqs33 l l.length (Nat.le_refl _) (fun i h0 h1 h2 => by omega)
   rwa [List.take_length] at this
  rw [hdd]
  clear hdd
  have hsI : decide ((l.length : Int) < 2) = true := decide_eq_true (by omega)
  have hsI2 : (l.length : Int) < 2 := by omega
  go_enter Try.func42, Try.ntmps42
  go_wp2
  go_ret
  exact ⟨_, rfl, hO.out, HB0.out, World.grownBy.refl w _⟩
 ·have hsI : ¬ ((l.length : Int) < 2) := by omega
  obtain ⟨ga, rfl⟩ := R_head hO.out (by omega)
  go_enter Try.func42, Try.ntmps42
  go_wp2
  have mixed : Try.prog.follows Departure.mixedOrders = true := by kernel_rfl
  go_loopg [3] l.length (fun gg v3 wr => ∃ m : Nat, m + 1 ≤ l.length ∧ l.length - (m + 1) ≤ gg ∧ v3 = .int .i64 ((m : Int) + 1) ∧ Aside0 (Below w.heap.size w wr) ∧ Aside0 (∀ i, 0 < i → (hi : i < m + 1) → (hl : i < l.length) → eqs33 l[i] l[i - 1] = false))
  case atStart => exact ⟨0, by omega, by omega, by go_num, ⟨Below.refl _ _⟩, ⟨fun i h0 h1 h2 => by omega⟩⟩
  case round =>
   obtain ⟨m, hml, hgg, rfl, HB, HP⟩ := hrel
   by_cases hlt : m + 1 < l.length
   ·have hltI : (m : Int) + 1 < (l.length : Int) := by omega
    have HC := Kd.C_below (rR hO.out).2.2 HB.out
    obtain ⟨ad, e0, hx0, hx1⟩ := at_T33 HC (m : Int) (by omega) (by omega)
    obtain ⟨ad', e0', hy0, hy1⟩ := at_T33 HC ((m + 1 : Nat) : Int) (by omega) (by omega)
    cases e0; cases e0'
    have hy : rd_T33 l ((m + 1 : Nat) : Int) = l[m + 1] := by unfold rd_T33; rw [Int.toNat_natCast, List.getD_eq_getElem?_getD, List.getElem?_eq_getElem hlt]; rfl
    have hx : rd_T33 l (m : Int) = l[m] := by unfold rd_T33; rw [Int.toNat_natCast, List.getD_eq_getElem?_getD, List.getElem?_eq_getElem (show m < l.length by omega)]; rfl
    rw [hx, Int.toNat_natCast, Addr.add_lit, Nat.zero_add] at hx0 hx1
    rw [hy, Int.toNat_natCast, Addr.add_lit, Nat.zero_add] at hy0 hy1
    clear hx hy
    have hw1 : IntKind.i64.wrap ((m : Int) + 1 - 1) = (m : Int) := by rw [IntKind.wrap_i64]; omega
    have hw2 : (m : Int) + 1 - 1 = (m : Int) := by omega
    have ht1 : ((m : Int) + 1).toNat = m + 1 := by omega
    have hb1 : (0 : Int) ≤ (m : Int) + 1 := by omega
    have hb2 : (m : Int) < (l.length : Int) := by omega
    have hb3 : (0 : Int) ≤ (m : Int) := by omega
    have HPY := aM (fun h : eqs33 l[m + 1] l[m] = true => Cmpd33.start (q := eqs33) (k := m + 1) (by omega) hlt h HP.out)
    have HPN := aM (fun (h : eqs33 l[m + 1] l[m] = false) i (h0 : 0 < i) (hi : i < m + 1 + 1) (hl : i < l.length) => (show eqs33 l[i] l[i - 1] = false from by
     by_cases e : i = m + 1
     ·subst e; exact h
     ·exact HP.out i h0 (by omega) hl))
    clear HP HC
    generalize l[m + 1] = y at hy0 hy1 HPY HPN
    generalize l[m] = x at hx0 hx1 HPY HPN
    have hQ : ∀ b, eqs33 y x = b → eqs33 y x = b := fun _ h => h
    cases hq : eqs33 y x with
    | true =>
     have HS := aM (HPY.out hq)
     clear HPY HPN hQ
     unfold eqs33 at hq
     have hcap := R_cap hO.out
     have hcm : ¬ (c = m + 1) := by omega
     have hcm2 : m + 1 ≤ l.length := by omega
     have HO1 := aM (rB hO.out HB.out)
     have HB1 := aM (HB0.out.trans (HB.out.mono hbase))
     have HG1 := aM (grown_of_below HB.out (Value.slice (some ⟨ga, 0, none⟩) l.length c).ownBlock)
     clear HB hO HB0
     go_wp2
     go_region
     go_wp2
     clear hq hx0 hx1 hy0 hy1 hw1 hw2 ht1 hb1 hb2 hb3 hltI
     have HO1' := aM (show Kd.R k33 33 wr.drew base P0_ (.slice (some ⟨ga, 0, none⟩) l.length c) l from rB HO1.out (bD (Below.refl _ _)))
     have HB1' := aM (bD HB1.out)
     have HG1' := aM (HG1.out.trans (grown_of_below (bD (Below.refl wr.heap.size wr)) _))
     clear HO1 HB1 HG1
     go_loopg [3, 5] l.length (fun gg v3 v5 wr => ∃ (n kk : Nat) (cur : List S33), m + 1 + n + 1 ≤ l.length ∧ l.length - (m + 1 + n + 1) ≤ gg ∧ v3 = .int .i64 kk ∧ v5 = .int .i64 ((n : Int) + 1) ∧ Aside0 (Cmpd33 eqs33 l (m + 1 + n + 1) kk cur) ∧ Aside0 (Kd.R k33 33 wr base P0_ (.slice (some ⟨ga, 0, none⟩) l.length c) cur) ∧ Aside0 (Below base w0 wr) ∧ Aside0 (w.grownBy wr (Value.slice (some ⟨ga, 0, none⟩) l.length c).ownBlock))
     case atStart => exact ⟨0, m + 1, l, by omega, by omega, by go_num, by go_num, HS, HO1', HB1', HG1'⟩
     case round =>
      clear HO1' HB1' HG1' HS
      obtain ⟨n, kk, cur, hnl, hgg2, rfl, rfl, HD, HO, HB, HG⟩ := hrel
      have hkk := HD.out.ile
      have hlen := HD.out.len
      by_cases hlt2 : m + 1 + n + 1 < l.length
      ·have hltJ : (n : Int) + 1 < ((l.length - (m + 1) : Nat) : Int) := by omega
       have HC := (rR HO.out).2.2
       obtain ⟨ad, e0, hx0, hx1⟩ := at_T33 HC ((m + 1 + n : Nat) : Int) (by omega) (by omega)
       obtain ⟨ad', e0', hy0, hy1⟩ := at_T33 HC ((m + 1 + n + 1 : Nat) : Int) (by omega) (by omega)
       cases e0; cases e0'
       have hx : rd_T33 cur ((m + 1 + n : Nat) : Int) = l[m + 1 + n] := by unfold rd_T33; rw [Int.toNat_natCast]; exact HD.out.get (m + 1 + n) (by omega) (by omega) z33
       have hy : rd_T33 cur ((m + 1 + n + 1 : Nat) : Int) = l[m + 1 + n + 1] := by unfold rd_T33; rw [Int.toNat_natCast]; exact HD.out.get (m + 1 + n + 1) (by omega) (by omega) z33
       rw [hx, Int.toNat_natCast, Addr.add_lit, Nat.zero_add, Nat.add_mul (m + 1) n] at hx0 hx1
       rw [hy, Int.toNat_natCast, Addr.add_lit, Nat.zero_add] at hy0 hy1
       clear hx hy HC
       have hw1 : IntKind.i64.wrap ((n : Int) + 1 - 1) = (n : Int) := by rw [IntKind.wrap_i64]; omega
       have hw2 : (n : Int) + 1 - 1 = (n : Int) := by omega
       have ht1 : ((n : Int) + 1).toNat = n + 1 := by omega
       have hb1 : (0 : Int) ≤ (n : Int) + 1 := by omega
       have hb2 : (n : Int) < ((l.length - (m + 1) : Nat) : Int) := by omega
       have hb3 : (0 : Int) ≤ (n : Int) := by omega
       have hkI : (kk : Int) < (l.length : Int) := by omega
       have HDY := aM (fun h : eqs33 l[m + 1 + n + 1] l[m + 1 + n] = true => HD.out.step_yes hlt2 h)
       have HDN := aM (fun h : eqs33 l[m + 1 + n + 1] l[m + 1 + n] = false => HD.out.step_no hlt2 h)
       clear HD
       generalize l[m + 1 + n + 1] = y at hy0 hy1 HDY HDN
       generalize l[m + 1 + n] = x at hx0 hx1 HDY HDN
       rw [Nat.add_assoc (m + 1) n 1, Nat.add_mul (m + 1) (n + 1)] at hy0 hy1
       cases hq : eqs33 y x with
       | true =>
        have HS := aM (HDY.out hq)
        clear HDY HDN
        unfold eqs33 at hq
        go_wp2
        go_region
        go_wp2
        go_roundg (l.length - (m + 1 + n + 1 + 1))
        case measure => omega
        case rel => exact ⟨n + 1, kk, cur, by omega, by omega, by go_num, by go_num, HS, ⟨rB HO.out (bD (Below.refl _ _))⟩, ⟨bD HB.out⟩, ⟨HG.out.trans (grown_of_below (bD (Below.refl wr.heap.size wr)) _)⟩⟩
       | false =>
        have HS := aM (HDN.out hq)
        clear HDY HDN
        unfold eqs33 at hq
        have HO2 := aM (show Kd.R k33 33 wr.drew base P0_ (.slice (some ⟨ga, 0, none⟩) l.length c) cur from rB HO.out (bD (Below.refl _ _)))
        have HB2 := aM (bD HB.out)
        have HG2 := aM (HG.out.trans (grown_of_below (bD (Below.refl wr.heap.size wr)) (Value.slice (some ⟨ga, 0, none⟩) l.length c).ownBlock))
        clear HO HB HG
        go_wp2
        go_region
        clear hq hx0 hx1
        go_wp2_with ((with_reducible refine gate_ (.store 33 (.tmp 51) (.tmp 50)) rfl ?_); obtain ⟨ad2, c2, he2, hc2, _, hcc2⟩ := Kd.C_get (rR HO2.out).2.2 z33 (kk : Int) (by omega) (by omega); cases he2; refine Kd.R_store k33 (w0 := w0) base rfl rfl 33 (.tmp 51) (.tmp 50) rfl 33 (o' := kk * 2) (kk : Int) 0 cur y (.agg #[.int .i64 y.f0, .int .i64 y.f1]) [.int .i64 y.f0, .int .i64 y.f1] c2 P0_ (fun _ => False) rfl rfl rfl rfl (by kernel_rfl) (by intro u hu; simp at hu; rcases hu with rfl | rfl <;> rfl) HO2.out (by omega) hkI hc2 (fun j u hu => ?cc) (Nat.le_refl 2) ?mm (fun k hk => hk.elim) HB2.out ?_; (case cc => have := hcc2 j u hu; rw [Addr.add_lit, Nat.zero_add] at this; exact this); (case mm => have hl2 : c2.length = 2 := hc2; rw [List.take_zero, List.nil_append, List.drop_eq_nil_of_le (by rw [hl2]; exact Nat.le_refl 2), List.append_nil]; exact k33_mkM _ _ _ y); intro w3 ho3 hb3 hg3; have HO3 := aM ho3; have HB3 := aM hb3; have HG3 := aM (HG2.out.trans hg3); clear ho3 hb3 hg3)
        go_roundg (l.length - (m + 1 + n + 1 + 1))
        case measure => omega
        case rel => exact ⟨n + 1, kk + 1, cur.set kk y, by omega, by omega, by go_num, by go_num, HS, HO3, HB3, HG3⟩
      ·have hend : m + 1 + n + 1 = l.length := by omega
       have hd := HD.out
       rw [hend] at hd
       obtain ⟨hd1, hd2⟩ := hd.done
       have hge : ¬ ((n : Int) + 1 < ((l.length - (m + 1) : Nat) : Int)) := by omega
       have hkc : kk < c := by omega
       have hkn : (kk : Int) ≤ (l.length : Int) := by omega
       have hkl : kk < l.length := by omega
       clear HD hd
       have HD1 := aM hd1
       have HD2 := aM hd2
       have HLN := aM hlen
       clear hd1 hd2 hlen
       go_wp2
       obtain ⟨w2, hrun, ho2, hg2⟩ := R_clear_run (P := Try.prog) k33 base 33 22 0 Try.underlying22 (.agg #[(.int .i64 0), (.int .i64 0)]) zv33 rfl (by decide) z33 (.slice (some ⟨ga, 0, none⟩) l.length c) cur kk (l.length - kk) ga (c - kk) P0_ (k33_mkM _ _ _ z33) HO.out (by rw [HLN.out]; omega) rfl
       have HO2 := aM ho2
       have HG2 := aM hg2
       clear ho2 hg2
       have hrun' : (Builtin.clear_ #[22] 0 #[Value.slice (some { block := ga, off := kk * 2 }) (l.length - kk) (c - kk)]).run Try.prog wr = .ok (.tuple #[]) w2 := hrun
       rw [hrun']
       simp only [Result.andThen_ok, Oper.upon_value]
       clear hrun hrun'
       go_wp2
       go_ret
       have e1 : (cur.take kk ++ (List.replicate (l.length - kk) z33 ++ cur.drop (kk + (l.length - kk)))).take kk = dd33 eqs33 l := by
        rw [List.take_append_of_le_length (by rw [List.length_take, HLN.out]; omega), List.take_take, Nat.min_self]
        exact HD1.out
       have ho3 := Kd.R_take (m := kk) HO2.out (by simp [HLN.out]; omega)
       rw [e1] at ho3
       exact ⟨_, rfl, ho3, HB.out.grown HG2.out (by have := HG.out.size; omega) (fun k hk => own_base (Kd.R_own HO.out).choose_spec k hk), HG.out.trans HG2.out⟩
    | false =>
     have HP := aM (HPN.out hq)
     clear HPY HPN hQ
     unfold eqs33 at hq
     go_wp2
     go_region
     go_wp2
     go_roundg (l.length - (m + 1 + 1))
     case measure => omega
     case rel => exact ⟨m + 1, by omega, by omega, by go_num, ⟨by repeat (first | exact HB.out | apply bN | apply bD)⟩, HP⟩
   ·have hml2 : m + 1 = l.length := by omega
    have hdd : dd33 eqs33 l = l := by
     have := dd_pre33 eqs33 l l.length (Nat.le_refl _) (fun i h0 h1 h2 => HP.out i h0 (by omega) h2)
     rwa [List.take_length] at this
    have hge : ¬ ((m : Int) + 1 < (l.length : Int)) := by omega
    have HDD := aM hdd
    clear hdd
    go_wp2
    go_ret
    rw [HDD.out]
    exact ⟨_, rfl, rB hO.out HB.out, HB0.out.trans (HB.out.mono hbase), grown_of_below HB.out _⟩
def api_Point_42.f (l0 : List S33) : Option (List S33) := some (dd33 eqs33 l0)
theorem api_Point_42.calls (P0_ : Nat → Prop) (u9000_ : Value) (l0 : List (S33)) (r : List (S33)) (w0 w : World) (hB : Below w0.heap.size w0 w) (ho0 : Kd.R k33 33 w w0.heap.size P0_ u9000_ l0) (h : api_Point_42.f l0 = some r) :
  Calls Try.prog 42 #[u9000_] w fun e w' => ∃ v0_ : Value, e = .returned (v0_) ∧ Kd.R k33 33 w' w0.heap.size (fun k_ => (P0_ k_ ∨ w.heap.size ≤ k_)) v0_ r ∧ Below w0.heap.size w0 w' ∧ Kept w w' (fun k_ => P0_ k_) := by
 obtain rfl := Option.some.inj h
 obtain ⟨A, c, rfl⟩ := Kd.R_slice ho0
 have hP := ho0.1
 refine (cp42 w0.heap.size A c l0 w0 w P0_ ho0 hB hB.size).mono ?_
 rintro e w' ⟨v, rfl, h1, h2, hg⟩
 exact ⟨v, rfl, rM h1 (fun _ hk => .inl hk), h2, hg.size, fun i hi hne => hg.block i hi (fun he => hne (hP i he.symm))⟩
end Go.Proofs.Ytmejeiddlhjjmaa.PNodingClean
