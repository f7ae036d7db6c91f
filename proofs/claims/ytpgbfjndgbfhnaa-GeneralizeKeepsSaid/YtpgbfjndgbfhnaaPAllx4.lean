-- out of a driver of this session's prover over the kit's print: Lean checks it
import Derived.Test.YtpgbfjndgbfhnaaPAllx0
import Derived.Test.YtpgbfjndgbfhnaaPAllx3
namespace Go.Proofs.Ytpgbfjndgbfhnaa.PAll
open Go.Proofs.YtpgbfjndgbfhnaaG Go.Shelf Go.Lib
open Go.RowKit Go.Proofs.YtpgbfjndgbfhnaaW.PrintWords Go.Proofs.YtpgbfjndgbfhnaaW.PrintLast Go.Proofs.YtpgbfjndgbfhnaaW.PrintMore
attribute [local go_sem] max2_int min2_int max_two min_two max_three min_three max_four min_four   -- for this text's walks alone
set_option linter.unusedVariables false
set_option linter.unusedSimpArgs false
def ixOf {α : Type} (p : α → Bool) (l : List α) : Int := match l.findIdx? p with | some i => (i : Int) | none => -1
theorem ixOf_hit {α : Type} (p : α → Bool) (l : List α) (z : α) (k : Nat) (hk : k < l.length) (h : p (l.getD k z) = true) (hb : ∀ j, j < k → p (l.getD j z) = false) : ixOf p l = k := by
 have e : l.findIdx? p = some k := by
  rw [List.findIdx?_eq_some_iff_getElem]
  refine ⟨hk, ?_, fun j hj => ?_⟩
  ·simpa [List.getD_eq_getElem?_getD, List.getElem?_eq_getElem hk] using h
  ·have := hb j hj
   simpa [List.getD_eq_getElem?_getD, List.getElem?_eq_getElem (show j < l.length by omega)] using this
 unfold ixOf
 rw [e]
theorem ixOf_miss {α : Type} (p : α → Bool) (l : List α) (z : α) (hb : ∀ j, j < l.length → p (l.getD j z) = false) : ixOf p l = -1 := by
 have e : l.findIdx? p = none := by
  rw [List.findIdx?_eq_none_iff]
  intro x hx
  obtain ⟨j, hj, rfl⟩ := List.getElem_of_mem hx
  have := hb j hj
  simpa [List.getD_eq_getElem?_getD, List.getElem?_eq_getElem hj] using this
 unfold ixOf
 rw [e]
set_option maxHeartbeats 4000000 in
set_option maxRecDepth 100000 in
theorem ix37 (p : S40 → Bool) (g : Nat) (lb : Array Value) (eg : ∀ args w, (callFunc g args).run Try.prog w = .ok (.enter g args) w) (A0 : Option Addr) (c0 : Nat) (l0 : List S40) (w : World) (hr0 : Kd.C k40 w A0 l0.length l0)
  (hp : ∀ (W : World) (x : S40), x ∈ l0 → Below w.heap.size w W → Calls Try.prog g (#[.agg #[.int .i64 x.f0, .int .i64 x.f1]] ++ lb) W fun e w' => e = .returned (.bool (p x)) ∧ Below w.heap.size w w') :
  Calls Try.prog 37 #[.slice A0 l0.length c0, .func (.func g) #[] lb] w fun e w' => e = .returned (.int .i64 (ixOf p l0)) ∧ Below w.heap.size w w' := by
 have hbig : l0.length ≤ 9223372036854775807 := hr0.2.1
 have HR0 := aM hr0
 clear hr0
 have HP := aM hp
 clear hp
 go_enter Try.func37, Try.ntmps37
 go_wp2
 go_loopg [5, 8] l0.length (fun gg _ s8 wr => ∃ kk : Int, 0 ≤ kk ∧ kk ≤ (l0.length : Int) ∧ (l0.length : Int) - kk ≤ gg ∧ s8 = .int .i64 kk ∧ Aside0 (Below w.heap.size w wr) ∧ Aside0 (∀ j : Nat, (j : Int) < kk → p (l0.getD j z40) = false))
 case atStart => exact ⟨0, by omega, by omega, by omega, rfl, ⟨Below.refl _ w⟩, ⟨fun j hj => absurd hj (by omega)⟩⟩
 case round =>
  obtain ⟨kk, hk0, hkk, hg, rfl, BW, AA⟩ := hrel
  by_cases hlt : kk < (l0.length : Int)
  ·obtain ⟨ad, e0, hx0, hx1⟩ := at_T40 (Kd.C_below HR0.out BW.out) kk hk0 hlt
   cases e0
   have hcall := HP.out wr (rd_T40 l0 kk) (by unfold rd_T40; rw [List.getD_eq_getElem?_getD, List.getElem?_eq_getElem (show kk.toNat < l0.length by omega)]; exact List.getElem_mem _) BW.out
   have B := aM (show rd_T40 l0 kk = l0.getD kk.toNat z40 from rfl)
   generalize rd_T40 l0 kk = y at hcall hx0 hx1 B
   cases hq : p y with
   | true =>
    rw [hq] at hcall
    have HQ := aM hq
    clear hq
    go_wp2_with (go_at_fn g; refine hcall.mono ?_; rintro e w' ⟨rfl, hb'⟩)
    go_ret
    refine ⟨?_, hb'⟩
    rw [ixOf_hit p l0 z40 kk.toNat (by omega) (by rw [← B.out]; exact HQ.out) (fun j hj => AA.out j (by omega))]
    rw [Int.toNat_of_nonneg hk0]
    rfl
   | false =>
    rw [hq] at hcall
    have HQ := aM hq
    clear hq
    go_wp2_with (go_at_fn g; refine hcall.mono ?_; rintro e w' ⟨rfl, hb'⟩)
    go_roundg (l0.length - (kk.toNat + 1))
    case measure => omega
    case rel =>
     refine ⟨kk + 1, by omega, by omega, by omega, by go_num, ⟨hb'⟩, ⟨fun j hj => ?_⟩⟩
     by_cases e : (j : Int) = kk
     ·have : j = kk.toNat := by omega
      subst this
      rw [← B.out]; exact HQ.out
     ·exact AA.out j (by omega)
  ·have : kk = (l0.length : Int) := by omega
   subst this
   go_wp2
   go_ret
   refine ⟨?_, BW.out⟩
   rw [ixOf_miss p l0 z40 (fun j hj => AA.out j (by omega))]
   rfl
structure Deld {α : Type} (p : α → Bool) (l : List α) (jj ii : Nat) (cur : List α) : Prop where
 len : cur.length = l.length
 le : jj ≤ l.length
 ile : ii < jj
 kept : cur.take ii = (l.take jj).filter (fun x => !p x)
 rest : cur.drop jj = l.drop jj
theorem Deld.step_yes {α : Type} {p : α → Bool} {l cur : List α} {jj ii : Nat} (h : Deld p l jj ii cur) (hj : jj < l.length) (hp : p l[jj] = true) : Deld p l (jj + 1) ii cur where
 len := h.len
 le := hj
 ile := by have := h.ile; omega
 kept := by rw [List.take_succ_eq_append_getElem hj, List.filter_append, h.kept]; simp [hp]
 rest := by
  have := congrArg (List.drop 1) h.rest
  rwa [List.drop_drop, List.drop_drop] at this
theorem Deld.step_no {α : Type} {p : α → Bool} {l cur : List α} {jj ii : Nat} (h : Deld p l jj ii cur) (hj : jj < l.length) (hp : p l[jj] = false) : Deld p l (jj + 1) (ii + 1) (cur.set ii l[jj]) where
 len := by rw [List.length_set]; exact h.len
 le := hj
 ile := by have := h.ile; omega
 kept := by
  have hi : ii < cur.length := by rw [h.len]; have := h.ile; omega
  rw [List.take_succ_eq_append_getElem hj, List.filter_append, ← h.kept, List.take_succ_eq_append_getElem (by rw [List.length_set]; exact hi), List.getElem_set_self, List.take_set_of_le (Nat.le_refl _)]
  simp [hp]
 rest := by
  rw [List.drop_set_of_lt (by have := h.ile; omega)]
  have := congrArg (List.drop 1) h.rest
  rwa [List.drop_drop, List.drop_drop] at this
theorem Deld.start {α : Type} {p : α → Bool} {l : List α} {i : Nat} (hi : i < l.length) (hp : p l[i] = true) (hb : ∀ j (hj : j < i), p l[j] = false) : Deld p l (i + 1) i l where
 len := rfl
 le := hi
 ile := by omega
 kept := by
  rw [List.take_succ_eq_append_getElem hi, List.filter_append]
  have : (l.take i).filter (fun x => !p x) = l.take i := by
   rw [List.filter_eq_self]
   intro x hx
   obtain ⟨j, hj, rfl⟩ := List.getElem_of_mem hx
   rw [List.length_take] at hj
   rw [List.getElem_take, hb j (by omega)]; rfl
  rw [this]
  simp [hp]
 rest := rfl
theorem Deld.get {α : Type} {p : α → Bool} {l cur : List α} {jj ii : Nat} (h : Deld p l jj ii cur) (hj : jj < l.length) (z : α) : cur.getD jj z = l[jj] := by
 have h1 := congrArg (fun q => q[0]?) h.rest
 simp only [List.getElem?_drop, Nat.add_zero] at h1
 rw [List.getD_eq_getElem?_getD, h1, List.getElem?_eq_getElem hj]
 rfl
theorem Deld.done {α : Type} {p : α → Bool} {l cur : List α} {jj ii : Nat} (h : Deld p l jj ii cur) (hj : jj = l.length) : cur.take ii = l.filter (fun x => !p x) ∧ ii = (l.filter (fun x => !p x)).length := by
 have h1 := h.kept
 rw [hj, List.take_length] at h1
 refine ⟨h1, ?_⟩
 rw [← h1, List.length_take, h.len]
 have := h.ile
 omega
set_option maxHeartbeats 4000000 in
set_option maxRecDepth 100000 in
theorem df21 (p : S40 → Bool) (g : Nat) (lb : Array Value) (eg : ∀ args w, (callFunc g args).run Try.prog w = .ok (.enter g args) w) (base : Nat) (A : Option Addr) (c : Nat) (l : List S40) (w0 w : World)
  (HO : Kd.R k40 40 w base (fun _ => True) (.slice A l.length c) l) (hb0 : Below base w0 w) (hbase : base ≤ w.heap.size)
  (hp : ∀ (W : World) (x : S40), x ∈ l → w.grownBy W (Value.slice A l.length c).ownBlock → Calls Try.prog g (#[.agg #[.int .i64 x.f0, .int .i64 x.f1]] ++ lb) W fun e w' => e = .returned (.bool (p x)) ∧ Below W.heap.size W w') :
  Calls Try.prog 21 #[.slice A l.length c, .func (.func g) #[] lb] w fun e w' => e = .returned (.slice A (l.filter (fun x => !p x)).length c) ∧ Kd.R k40 40 w' base (fun _ => True) (.slice A (l.filter (fun x => !p x)).length c) (l.filter (fun x => !p x)) ∧ Below base w0 w' ∧ w.grownBy w' (Value.slice A l.length c).ownBlock := by
 have hreads := rR HO
 have hix := ix37 p g lb eg A c l w hreads.2.2 (fun W x hx hb => (hp W x hx (grown_of_below hb _)).mono (fun e w' ⟨h1, h2⟩ => ⟨h1, bS hb h2⟩))
 have hbig : l.length ≤ 9223372036854775807 := hreads.2.2.2.1
 have hO := aM HO
 have HB0 := aM hb0
 have HP := aM hp
 clear hreads HO hb0 hp
 cases hf : l.findIdx? p with
 | none =>
  have hnone : ixOf p l = -1 := by unfold ixOf; rw [hf]
  rw [hnone] at hix
  have hfil : l.filter (fun x => !p x) = l := by
   rw [List.filter_eq_self]
   intro x hx
   rw [List.findIdx?_eq_none_iff] at hf
   rw [hf x hx]; rfl
  rw [hfil]
  clear hf hnone hfil
  go_enter Try.func21, Try.ntmps21
  go_wp2_with (go_at_call 37; refine hix.mono ?_; rintro e w' ⟨rfl, hb'⟩)
  go_ret
  exact ⟨rfl, rB hO.out hb', HB0.out.trans (hb'.mono hbase), grown_of_below hb' _⟩
 | some i0 =>
  rw [List.findIdx?_eq_some_iff_getElem] at hf
  obtain ⟨hi0, hpi, hbi⟩ := hf
  have hsome : ixOf p l = (i0 : Int) := ixOf_hit p l z40 i0 hi0 (by rw [List.getD_eq_getElem?_getD, List.getElem?_eq_getElem hi0]; exact hpi) (fun j hj => by rw [List.getD_eq_getElem?_getD, List.getElem?_eq_getElem (show j < l.length by omega)]; simpa using hbi j hj)
  rw [hsome] at hix
  have HD0 := aM (Deld.start hi0 hpi (fun j hj => by simpa using hbi j hj))
  clear hpi hbi hsome
  obtain ⟨ga, rfl⟩ := R_head hO.out (by omega)
  go_enter Try.func21, Try.ntmps21
  go_wp2_with (go_at_call 37; refine hix.mono ?_; rintro e w1 ⟨rfl, hb1⟩)
  clear hix
  have HG1 := aM (grown_of_below hb1 (Value.slice (some ⟨ga, 0, none⟩) l.length c).ownBlock)
  have HB1 := aM (HB0.out.trans (hb1.mono hbase))
  have HO1 := aM (rB hO.out hb1)
  have HS1 := aM hb1.size
  clear hb1
  go_loopg [5, 6] l.length (fun gg v5 v6 wr => ∃ (jj ii : Nat) (cur : List S40), jj ≤ l.length ∧ l.length - jj ≤ gg ∧ v5 = .int .i64 ii ∧ v6 = .int .i64 jj ∧ Aside0 (Deld p l jj ii cur) ∧ Aside0 (Kd.R k40 40 wr base (fun _ => True) (.slice (some ⟨ga, 0, none⟩) l.length c) cur) ∧ Aside0 (Below base w0 wr) ∧ Aside0 (w.grownBy wr (Value.slice (some ⟨ga, 0, none⟩) l.length c).ownBlock))
  case atStart => exact ⟨i0 + 1, i0, l, by omega, by omega, rfl, by go_num, HD0, HO1, HB1, HG1⟩
  case round =>
   clear HO1 HB1 HG1 HS1 HD0 hO HB0
   obtain ⟨jj, ii, cur, hjl, hgg, rfl, rfl, HD, HO, HB, HG⟩ := hrel
   have hii : ii < jj := HD.out.ile
   have hlen := HD.out.len
   by_cases hlt : jj < l.length
   ·have hltI : (jj : Int) < (l.length : Int) := by omega
    have hiiI : (ii : Int) < (l.length : Int) := by omega
    obtain ⟨ad, e0, hx0, hx1⟩ := at_T40 (rR HO.out).2.2 (jj : Int) (by omega) (by omega)
    cases e0
    have hy : rd_T40 cur (jj : Int) = l[jj] := by unfold rd_T40; rw [Int.toNat_natCast]; exact HD.out.get hlt z40
    rw [hy, Int.toNat_natCast, Addr.add_lit, Nat.zero_add] at hx0 hx1
    replace hx1 : wr.cell? ⟨ga, jj * 2 + 1, none⟩ = some (.int .i64 l[jj].f1) := hx1
    have hcall := HP.out (wr.alloc (.cells #[.int .i64 l[jj].f0, .int .i64 l[jj].f1] 40)) l[jj] (List.getElem_mem _) (HG.out.trans (World.grownBy_alloc wr _ _))
    have HSY := aM (show ∀ q : Bool, p l[jj] = q → p l[jj] = q from fun _ h => h)
    have HDN := aM (fun hq : p l[jj] = false => HD.out.step_no hlt hq)
    have HDY := aM (fun hq : p l[jj] = true => HD.out.step_yes hlt hq)
    clear hy HD
    generalize l[jj] = y at hcall hx0 hx1 HDN HDY HSY
    cases hq : p y with
    | true =>
     rw [hq] at hcall
     have HDY' := aM (HDY.out hq)
     clear hq HDN HDY HSY
     go_wp2_with (go_at_fn g; refine hcall.mono ?_; rintro e w2 ⟨rfl, hb2⟩)
     go_roundg (l.length - (jj + 1))
     case measure => omega
     case rel => exact ⟨jj + 1, ii, cur, by omega, by omega, rfl, by go_num, HDY', ⟨rB (rA HO.out _) hb2⟩, ⟨(HB.out.alloc (by have := HG.out.size; omega) _).trans (hb2.mono (by simp; have := HG.out.size; omega))⟩, ⟨HG.out.trans ((World.grownBy_alloc wr _ _).trans (grown_of_below hb2 _))⟩⟩
    | false =>
     rw [hq] at hcall
     have HDN' := aM (HDN.out hq)
     clear hq HDN HDY HSY
     go_wp2_with (first
      | (go_at_fn g; refine hcall.mono ?_; rintro e w2 ⟨rfl, hb2⟩; have hv0 : w2.cell? ⟨wr.heap.size, 0, none⟩ = some (.int .i64 y.f0) := (hb2.cell (p := ⟨wr.heap.size, 0, none⟩) (by simp)).trans (by simp); have hv1 : w2.cell? ⟨wr.heap.size, 1, none⟩ = some (.int .i64 y.f1) := (hb2.cell (p := ⟨wr.heap.size, 1, none⟩) (by simp)).trans (by simp); have HO2 := aM (rB (rA HO.out _) hb2); have HB2 := aM ((HB.out.alloc (by have := HG.out.size; omega) _).trans (hb2.mono (by simp; have := HG.out.size; omega))); have HG2 := aM (HG.out.trans ((World.grownBy_alloc wr _ _).trans (grown_of_below hb2 _))); clear hb2)
      | ((with_reducible refine gate_ (.store 40 (.tmp 33) (.tmp 32)) rfl ?_); obtain ⟨ad2, c2, he2, hc2, _, hcc2⟩ := Kd.C_get (rR HO2.out).2.2 z40 (ii : Int) (by omega) (by omega); cases he2; refine Kd.R_store k40 (w0 := w0) base rfl rfl 40 (.tmp 33) (.tmp 32) rfl 40 (o' := ii * 2) (ii : Int) 0 cur y (.agg #[.int .i64 y.f0, .int .i64 y.f1]) [.int .i64 y.f0, .int .i64 y.f1] c2 (fun _ => True) (fun _ => False) rfl rfl rfl rfl (by kernel_rfl) (by intro u hu; simp at hu; rcases hu with rfl | rfl <;> rfl) HO2.out (by omega) hiiI hc2 (fun j u hu => ?cc) (Nat.le_refl 2) ?mm (fun k hk => hk.elim) HB2.out ?_; (case cc => have := hcc2 j u hu; rw [Addr.add_lit, Nat.zero_add] at this; exact this); (case mm => have hl2 : c2.length = 2 := hc2; rw [List.take_zero, List.nil_append, List.drop_eq_nil_of_le (by rw [hl2]; exact Nat.le_refl 2), List.append_nil]; exact k40_mkM _ _ _ y); intro w3 ho3 hb3 hg3; have HO3 := aM ho3; have HB3 := aM hb3; have HG3 := aM (HG2.out.trans hg3); clear ho3 hb3 hg3))
     go_roundg (l.length - (jj + 1))
     case measure => omega
     case rel => exact ⟨jj + 1, ii + 1, cur.set ii y, by omega, by omega, by go_num, by go_num, HDN', HO3, HB3, HG3⟩
   ·have hjl2 : jj = l.length := by omega
    obtain ⟨hd1, hd2⟩ := HD.out.done hjl2
    subst hjl2
    clear HD
    have hcap := R_cap HO.out
    rw [hlen] at hcap
    have hii' : ii < l.length := hii
    have hiic : ii < c := by omega
    have hnn : (ii : Int) ≤ (l.length : Int) := by omega
    have HD1 := aM hd1
    have HD2 := aM hd2
    have HLN := aM hlen
    clear hd1 hd2 hlen
    go_wp2
    obtain ⟨w2, hrun, ho2, hg2⟩ := R_clear_run (P := Try.prog) k40 base 40 26 0 Try.underlying26 (.agg #[(.int .i64 0), (.int .i64 0)]) zv40 rfl (by decide) z40 (.slice (some ⟨ga, 0, none⟩) l.length c) cur ii (l.length - ii) ga (c - ii) (fun _ => True) (k40_mkM _ _ _ z40) HO.out (by rw [HLN.out]; omega) rfl
    have HO2 := aM ho2
    have HG2 := aM hg2
    clear ho2 hg2
    have hrun' : (Builtin.clear_ #[26] 0 #[Value.slice (some { block := ga, off := ii * 2 }) (l.length - ii) (c - ii)]).run Try.prog wr = .ok (.tuple #[]) w2 := hrun
    rw [hrun']
    simp only [Result.andThen_ok, Oper.upon_value]
    clear hrun hrun'
    go_wp2
    go_ret
    have e1 : (cur.take ii ++ (List.replicate (l.length - ii) z40 ++ cur.drop (ii + (l.length - ii)))).take ii = l.filter (fun x => !p x) := by
     rw [List.take_append_of_le_length (by rw [List.length_take, HLN.out]; omega), List.take_take, Nat.min_self]
     exact HD1.out
    have e2 := HD2.out
    have ho3 := Kd.R_take (m := ii) HO2.out (by simp [HLN.out]; omega)
    rw [e1] at ho3
    rw [← e2]
    exact ⟨rfl, ho3, HB.out.grown HG2.out (by have := HG.out.size; omega) (fun k hk => own_base (Kd.R_own HO.out).choose_spec k hk), HG.out.trans HG2.out⟩
def vld (x : S40) : Bool := decide (0 ≤ x.f0) && decide (x.f0 < 32768) && decide (0 ≤ x.f1) && decide (x.f1 < 32768)
theorem valid_vld (x : S40) : grid_Valid.f x.f0 x.f1 = some (vld x) := by
 unfold grid_Valid.f vld
 by_cases h1 : 0 ≤ x.f0 <;> by_cases h2 : x.f0 < 32768 <;> by_cases h3 : 0 ≤ x.f1 <;> simp [h1, h2, h3]
theorem ixOf_any {α : Type} (p : α → Bool) (l : List α) : decide (0 ≤ ixOf p l) = l.any p := by
 unfold ixOf
 cases h : l.findIdx? p with
 | none =>
  have h2 := List.findIdx?_eq_none_iff.mp h
  have : l.any p = false := by rw [List.any_eq_false]; intro x hx; rw [h2 x hx]; exact Bool.false_ne_true
  rw [this]; rfl
 | some i =>
  have h2 := List.findIdx?_eq_some_iff_getElem.mp h
  obtain ⟨hi, hp, _⟩ := h2
  have : l.any p = true := List.any_eq_true.mpr ⟨_, List.getElem_mem hi, hp⟩
  rw [this]
  exact decide_eq_true (by show (0 : Int) ≤ (i : Int); omega)
theorem closure44 (W : World) (x : S40) : Calls Try.prog 44 (#[.agg #[.int .i64 x.f0, .int .i64 x.f1]] ++ #[]) W fun e w' => e = .returned (.bool (!vld x)) ∧ Below W.heap.size W w' := by
 have HV := aM (valid_vld x)
 have HB := aM (Below.refl W.heap.size W)
 generalize vld x = v at HV ⊢
 show Calls Try.prog 44 #[.agg #[.int .i64 x.f0, .int .i64 x.f1]] W _
 go_enter Try.func44, Try.ntmps44
 go_wp2_with (first | (go_at_call 23; refine (grid_Valid.calls _ _ _ _ HV.out).mono ?_; rintro e w1 ⟨rfl, hb1⟩) | go_in)
 go_ret
 exact ⟨rfl, (HB.out.alloc HB.out.size _).trans (hb1.mono (by simp))⟩
def api_Point_by_generalize_valid_1.f (l0 : List (S40)) : Option Bool := some (l0.any (fun x => !vld x))
theorem api_Point_by_generalize_valid_1.calls (A0 : Option Addr) (c0 : Nat) (l0 : List (S40)) (r : Bool) (w : World) (hr0 : Kd.C k40 w A0 l0.length l0) (hc0 : l0.length ≤ c0) (h : api_Point_by_generalize_valid_1.f l0 = some r) :
  Calls Try.prog 43 #[.slice A0 l0.length c0, .func (.func 44) #[] #[]] w fun e w' => e = .returned (.bool r) ∧ Below w.heap.size w w' := by
 obtain rfl := Option.some.inj h
 have eg : ∀ args w, (callFunc 44 args).run Try.prog w = .ok (.enter 44 args) w := enters_of Try.func44 (by kernel_rfl) rfl
 have HX := aM (ix37 (fun x => !vld x) 44 #[] eg A0 c0 l0 w hr0 (fun W x _ hb => (closure44 W x).mono (fun e w' h => ⟨h.1, hb.trans (h.2.mono hb.size)⟩)))
 have HA := aM (ixOf_any (fun x => !vld x) l0)
 clear hr0 eg h
 generalize l0.any (fun x => !vld x) = r at HA ⊢
 generalize ixOf (fun x => !vld x) l0 = n at HA HX
 go_enter Try.func43, Try.ntmps43
 go_wp2_with (first | (go_at_call 37; refine HX.out.mono ?_; rintro e w1 ⟨rfl, hb1⟩) | go_in)
 go_ret
 refine ⟨?_, hb1⟩
 rw [← HA.out]
 rfl
section
open Go.WideElems (Fit rd rg pl rd_val elemAt)
open Go.Maps (Keyed)
open Go.ChangeShapes Go.WideShapes Go.MapKept
section
variable {H : Type} {P : Program} {k : TypeId} {w : World} {b n : Nat} {D : DataW H}
theorem entry_own {t e : TypeId} {q : IntKind} (h : w.ownsMap P k (plainElem P e) b n D) (KL : WideMaps.KeyLaw P k) (ht : P.underlying t = some (.map k e)) (he : P.underlying e = some (.int q))
  (hz : ∀ u : World, (zeroValue e).run P u = .ok (.int q 0) u) (hn : n < maxLen) {key : Value} {kl : Lit} (hkey : keyOf P k key = some kl) :
  ∃ (c : Int) (st : Nat) (w2 : World), (Instr.lookup t (.map (some b)) key false).run P w = .ok (.int q c) w ∧ D.atKey kl (.lit (.int q 0)) = .lit (.int q c) ∧ (Lit.int q c).wf = true ∧
   (∃ v0, (Instr.mapEntry t (.map (some b)) key).run P w = .ok (.tuple #[v0, goInt st]) w2) ∧ w.grownBy w2 (some b) ∧
   (Instr.lookup t (.map (some b)) key false).run P w2 = .ok (.int q c) w2 ∧
   ∀ c' : Int, (Lit.int q c').wf = true → ∃ w3, (Instr.entryStore t (.map (some b)) (goInt st) (.int q c')).run P w2 = .ok () w3 ∧ w3.ownsMap P k (plainElem P e) b (n + 1) (D.put kl (.lit (.int q c'))) ∧ w.grownBy w3 (some b) := by
 have K := Keyed.of_law KL
 obtain ⟨c, hlook, hat, hwf⟩ := h.lookup_int K ht he (hz w) hkey
 have h0 := h
 obtain ⟨es, clock, hb, F, hs, hD⟩ := h
 obtain ⟨v0, st, es1, clock1, hent, _, hst⟩ := Go.WideElems.entry_then_store KL ht hz hb F hkey
 have hb2 : (Go.ChangeMaps.setBlock w b (.map es1 clock1)).heap[b]? = some (.map es1 clock1) := Go.ChangeMaps.heap_setBlock_same hb _
 have hgrow : ∀ o, w.grownBy (Go.ChangeMaps.setBlock w b o) (some b) := fun o => ⟨rfl, rfl, rfl, by simp [Go.ChangeMaps.setBlock], fun i _ hi => Go.ChangeMaps.heap_setBlock_other hb _ (fun e => hi (by rw [e]))⟩
 refine ⟨c, st, _, hlook, hat, hwf, ⟨v0, hent⟩, hgrow _, ?_, ?_⟩
 ·rcases KL.find w hkey es.toList F.keys with ⟨h1, h2⟩ | ⟨j, e0, h1, h2, h3⟩
  ·-- nothing yet: what the entry holds is what a store of the zero value leaves
   have hc0 : c = 0 := by
    have e1 : (Instr.lookup t (.map (some b)) key false).run P w = .ok (.int q 0) w := by
     rcases Go.Maps.fit_look false K ht (hz w) hb F hkey with ⟨hrun, _, _⟩ | ⟨e0, y, hm, hk, _, _, _, _⟩
     ·exact hrun
     ·exact absurd hk (h2 e0 hm)
    rw [hlook] at e1
    injection e1 with e2
    injection e2
   subst hc0
   have hw0 : (Lit.int q 0).wf = true := by cases q <;> decide
   obtain ⟨w', hrun, hown', _⟩ := h0.update K ht hn hkey (plainElem_int he hw0)
   have e1 : (Instr.mapUpdate t (.map (some b)) key (.int q 0)).run P w = .ok () (Go.ChangeMaps.setBlock w b (.map es1 clock1)) := by
    have e2 : (Instr.mapEntry t (.map (some b)) key).run P w = .ok (.tuple #[.int q 0, goInt clock]) (Go.ChangeMaps.setBlock w b (.map (es.push ⟨key, .int q 0, clock⟩) (clock + 1))) := by
     simp [Instr.mapEntry, run_underlying ht, Go.MapKept.run_getObj_map hb, KL.check w false hkey, h1, hz, Go.MapKept.run_setObj_map _ hb, Result.andThen, Go.ChangeMaps.setBlock]
    rw [hent] at e2
    have e3 := (Result.ok.inj e2).2
    rw [e3]
    simp [Instr.mapUpdate, run_underlying ht, Go.MapKept.run_getObj_map hb, KL.check w false hkey, h1, Go.MapKept.run_setObj_map _ hb, Result.andThen, Go.ChangeMaps.setBlock]
   rw [hrun] at e1
   have e3 := (Result.ok.inj e1).2
   rw [e3] at hown'
   clear e3 hrun
   obtain ⟨c2, hl2, hat2, _⟩ := hown'.lookup_int K ht he (hz _) hkey
   rw [Go.Maps.atKey_put_same ⟨_, hD⟩ (K.key hkey)] at hat2
   have e5 := (Lit.int.inj (DataW.lit.inj hat2)).2
   rw [hl2, e5]
  ·have hj : es[j]? = some e0 := by simpa using h2
   have hsame : es.modify j (fun e => { e with key := key }) = es := by
    apply Array.ext'
    rw [Array.toList_modify, Go.ChangeMaps.modify_eq_set _ _ _ _ h2]
    have : ({ e0 with key := key } : MapEntry) = e0 := by rw [← h3]
    rw [this]
    exact Go.WideElems.set_self _ _ _ h2
   have e2 : (Instr.mapEntry t (.map (some b)) key).run P w = .ok (.tuple #[e0.val, goInt e0.born]) (Go.ChangeMaps.setBlock w b (.map es clock)) := by
    simp [Instr.mapEntry, run_underlying ht, Go.MapKept.run_getObj_map hb, KL.check w false hkey, h1, hj, h3, KL.stays w hkey, hsame, Go.MapKept.run_setObj_map _ hb, Result.andThen, Go.ChangeMaps.setBlock]
   rw [hent] at e2
   have e3 := (Result.ok.inj e2).2
   rw [e3]
   have hown2 : (Go.ChangeMaps.setBlock w b (.map es clock)).ownsMap P k (plainElem P e) b n D := ⟨es, clock, Go.ChangeMaps.heap_setBlock_same hb _, F, hs, hD⟩
   obtain ⟨c2, hl2, hat2, _⟩ := hown2.lookup_int K ht he (hz _) hkey
   rw [hat] at hat2
   have e5 := (Lit.int.inj (DataW.lit.inj hat2)).2
   rw [hl2, e5]
 ·intro c' hc'
  obtain ⟨es', clock', hrun, hup⟩ := hst _ (.int q c') hb2
  obtain ⟨w', hrun', hown', hg'⟩ := h0.update K ht hn hkey (plainElem_int he hc')
  rw [hup] at hrun'
  have e3 := (Result.ok.inj hrun').2
  rw [← e3] at hown' hg'
  refine ⟨_, hrun, ?_⟩
  have e4 : Go.ChangeMaps.setBlock (Go.ChangeMaps.setBlock w b (.map es1 clock1)) b (.map es' clock') = Go.ChangeMaps.setBlock w b (.map es' clock') := by
   simp [Go.ChangeMaps.setBlock]
  rw [e4]
  exact ⟨hown', hg'⟩
end
end
theorem closure22 (W : World) (x : S40) : Calls Try.prog 22 (#[.agg #[.int .i64 x.f0, .int .i64 x.f1]] ++ #[]) W fun e w' => e = .returned (.bool (!vld x)) ∧ Below W.heap.size W w' := by
 have HV := aM (valid_vld x)
 have HB := aM (Below.refl W.heap.size W)
 generalize vld x = v at HV ⊢
 show Calls Try.prog 22 #[.agg #[.int .i64 x.f0, .int .i64 x.f1]] W _
 go_enter Try.func22, Try.ntmps22
 go_wp2_with (first | (go_at_call 23; refine (grid_Valid.calls _ _ _ _ HV.out).mono ?_; rintro e w1 ⟨rfl, hb1⟩) | go_in)
 go_ret
 exact ⟨rfl, (HB.out.alloc HB.out.size _).trans (hb1.mono (by simp))⟩
section
open Go.WideElems (Fit rd rg pl rd_val elemAt)
open Go.Maps (Keyed)
open Go.ChangeShapes Go.WideShapes Go.MapKept
theorem types0 : ∃ m, Try.prog.types.size = m + 3 := ⟨Try.prog.types.size - 3, by
 have h : 3 ≤ Try.prog.types.size := of_decide_eq_true (by kernel_rfl)
 omega⟩
theorem keyLaw40 : WideMaps.KeyLaw Try.prog 40 := deep_law_laid (by kernel_rfl) (m := 4) (by omega) (of_decide_eq_true (by kernel_rfl)) (by kernel_rfl) (by rw [Try.underlying40])
theorem zero3 (w : World) : (zeroValue 3).run Try.prog w = .ok (.int .i64 0) w := by kernel_rfl
def InS (s : S40) : Prop := (Lit.int .i64 s.f0).wf = true ∧ (Lit.int .i64 s.f1).wf = true
theorem keyType40 : Try.prog.keyType 40 = true := by kernel_rfl
theorem cells40 : Try.prog.cellsOf 40 = 2 := by kernel_rfl
theorem cells3 : Try.prog.cellsOf 3 = 1 := by kernel_rfl
theorem lits3 (d : Nat) (a : Int) (h : (Lit.int .i64 a).wf = true) : Try.prog.keyLits (d + 1) 3 [.int .i64 a] = some [.int .i64 a] := by
 simp only [Program.keyLits, Try.underlying3]
 exact if_pos ⟨trivial, h⟩
theorem key_ok (s : S40) (h : InS s) : ∃ kl, keyOf Try.prog 40 (.agg #[.int .i64 s.f0, .int .i64 s.f1]) = some kl := by
 obtain ⟨m, hm⟩ := types0
 obtain ⟨h1, h2⟩ := h
 have hf : (Value.agg #[.int .i64 s.f0, .int .i64 s.f1]).formed Try.prog 40 = true := by simp [Value.formed, Try.underlying40, cells40]
 have hl : Try.prog.keyLits (m + 4) 40 [.int .i64 s.f0, .int .i64 s.f1] = some [.int .i64 s.f0, .int .i64 s.f1] := by
  unfold Program.keyLits
  simp only [Try.underlying40]
  rw [if_pos ⟨by rw [cells40]; rfl, by decide +kernel⟩]
  simp [cells3, lits3 (m + 2) _ h1, lits3 (m + 2) _ h2]
 unfold keyOf
 simp only [Try.underlying40, keyType40, hf, Bool.and_self, if_true, hm]
 exact ⟨_, congrArg (Option.map _) hl⟩
end
theorem keyed40 : Go.Maps.Keyed Try.prog 40 := Go.Maps.Keyed.of_law keyLaw40
def aggS (s : S40) : Value := .agg #[.int .i64 s.f0, .int .i64 s.f1]
theorem aggS_inj {s s' : S40} (h : aggS s = aggS s') : s = s' := by
 obtain ⟨a, b⟩ := s
 obtain ⟨a', b'⟩ := s'
 simp [aggS] at h
 obtain ⟨rfl, rfl⟩ := h
 rfl
noncomputable def klS (s : S40) : Lit := (keyOf Try.prog 40 (aggS s)).getD (.bool true)
theorem klS_key {s : S40} (h : InS s) : keyOf Try.prog 40 (aggS s) = some (klS s) := by
 obtain ⟨kl, hk⟩ := key_ok s h
 have hk' : keyOf Try.prog 40 (aggS s) = some kl := hk
 unfold klS
 rw [hk']
 rfl
theorem klS_inj {s s' : S40} (h : InS s) (h' : InS s') (e : klS s = klS s') : s = s' := by
 have h1 := klS_key h
 rw [e] at h1
 exact aggS_inj (keyed40.inj h1 (klS_key h'))
instance : DecidableEq S40 := fun a b => decidable_of_iff (a.f0 = b.f0 ∧ a.f1 = b.f1) (by obtain ⟨a, b⟩ := a; rename_i b'; obtain ⟨c, d⟩ := b'; simp)
def ctS (t : List S40) (s : S40) : Nat := t.count s
def InL (t : List S40) : Prop := ∀ s ∈ t, InS s
instance (s : S40) : Decidable (InS s) := by unfold InS; exact inferInstance
instance (t : List S40) : Decidable (InL t) := by unfold InL; exact inferInstance
def Counts (t : List S40) (D : DataW Unit) : Prop := Go.Maps.IsMap D ∧ ∀ s, InS s → D.atKey (klS s) (.lit (.int .i64 0)) = .lit (.int .i64 (ctS t s : Int))
theorem counts_nil : Counts [] (.map []) := ⟨⟨_, rfl⟩, fun s _ => rfl⟩
theorem counts_snoc {t : List S40} {D : DataW Unit} {s : S40} (h : Counts t D) (hs : InS s) : Counts (t ++ [s]) (D.put (klS s) (.lit (.int .i64 ((ctS t s : Int) + 1)))) := by
 obtain ⟨h1, h2⟩ := h
 refine ⟨?_, fun s' hs' => ?_⟩
 ·obtain ⟨es, rfl⟩ := h1
  exact ⟨_, rfl⟩
 ·by_cases he : s' = s
  ·subst he
   rw [Go.Maps.atKey_put_same h1 (keyed40.key (klS_key hs))]
   simp [ctS]
  ·rw [Go.Maps.atKey_put_other (fun e => he (klS_inj hs' hs e)), h2 s' hs']
   unfold ctS
   rw [List.count_append, List.count_singleton]
   have : (s == s') = false := by rw [beq_eq_false_iff_ne]; exact fun e => he e.symm
   rw [this]; simp
theorem wf_nat {n : Nat} (h : n ≤ 9223372036854775807) : (Lit.int .i64 (n : Int)).wf = true := by
 simp [Lit.wf, IntKind.min, IntKind.max, IntKind.bits, IntKind.signed]
 omega
def endsGo (n : Nat) : Nat → List S40 → List (S40 × Bool)
 | _, [] => []
 | j, p :: l => (p, decide (j = 0) || decide (j + 1 = n)) :: endsGo n (j + 1) l
def ends (l : List S40) : List (S40 × Bool) := endsGo l.length 0 l
def keepGo : List S40 → List S40 → List (S40 × Bool) → List S40 × List S40
 | t, acc, [] => (t, acc)
 | t, acc, (p, e) :: r => keepGo (t ++ [p]) (if (e || decide (1 < ctS (t ++ [p]) p)) = true then acc ++ [p] else acc) r
theorem keepGo_append : ∀ (a b : List (S40 × Bool)) (t acc : List S40), keepGo t acc (a ++ b) = keepGo (keepGo t acc a).1 (keepGo t acc a).2 b
 | [], _, _, _ => rfl
 | (p, e) :: a, b, t, acc => by simp only [List.cons_append, keepGo]; exact keepGo_append a b _ _
theorem keepGo_fst : ∀ (a : List (S40 × Bool)) (t acc : List S40), (keepGo t acc a).1 = t ++ a.map (·.1)
 | [], t, _ => by simp [keepGo]
 | (p, e) :: a, t, acc => by simp only [keepGo]; rw [keepGo_fst a]; simp
theorem keepGo_len : ∀ (a : List (S40 × Bool)) (t acc : List S40), (keepGo t acc a).2.length ≤ acc.length + a.length
 | [], t, _ => by simp [keepGo]
 | (p, e) :: a, t, acc => by
  simp only [keepGo]
  have := keepGo_len a (t ++ [p]) (if (e || decide (1 < ctS (t ++ [p]) p)) = true then acc ++ [p] else acc)
  refine Nat.le_trans this ?_
  split <;> simp <;> omega
theorem endsGo_map (n : Nat) : ∀ (l : List S40) (j : Nat), (endsGo n j l).map (·.1) = l
 | [], _ => rfl
 | p :: l, j => by simp [endsGo, endsGo_map n l]
theorem endsGo_len (n : Nat) : ∀ (l : List S40) (j : Nat), (endsGo n j l).length = l.length
 | [], _ => rfl
 | p :: l, j => by simp [endsGo, endsGo_len n l]
def allEnds (l : List S31) : List (S40 × Bool) := l.flatMap fun x => ends x.f1
def allPts (l : List S31) : List S40 := l.flatMap fun x => x.f1
theorem allEnds_map : ∀ l : List S31, (allEnds l).map (·.1) = allPts l
 | [] => rfl
 | x :: l => by
  have ih := allEnds_map l
  unfold allEnds allPts at *
  rw [List.flatMap_cons, List.flatMap_cons, List.map_append, ih]
  unfold ends
  rw [endsGo_map]
def generalize_Fixed.f (l0 : List S31) : Option (List S40) := if InL (allPts l0) ∧ (allPts l0).length ≤ 1000000 ∧ l0.length ≤ 1000000 then ((api_Point_by_generalize_order.f ((keepGo [] [] (allEnds l0)).2.filter vld)).bind fun s => api_Point_26.f s) else none
theorem drop_ends (n : Nat) (l : List S40) (j : Nat) (hj : j < l.length) : endsGo n j (l.drop j) = (l[j], decide (j = 0) || decide (j + 1 = n)) :: endsGo n (j + 1) (l.drop (j + 1)) := by
 rw [List.drop_eq_getElem_cons hj]
 rfl
theorem fixMixed : Try.prog.follows Departure.mixedOrders = true := by kernel_rfl
theorem allPts_snoc (l : List S31) (i : Nat) (hi : i < l.length) : allPts (l.take (i + 1)) = allPts (l.take i) ++ l[i].f1 := by
 unfold allPts
 rw [List.take_succ_eq_append_getElem hi, List.flatMap_append]
 simp
theorem allEnds_snoc (l : List S31) (i : Nat) (hi : i < l.length) : allEnds (l.take (i + 1)) = allEnds (l.take i) ++ ends l[i].f1 := by
 unfold allEnds
 rw [List.take_succ_eq_append_getElem hi, List.flatMap_append]
 simp
theorem allPts_le (l : List S31) (i : Nat) : (allPts (l.take i)).length ≤ (allPts l).length := by
 have h := congrArg allPts (List.take_append_drop i l)
 have h2 : allPts (l.take i ++ l.drop i) = allPts (l.take i) ++ allPts (l.drop i) := by unfold allPts; rw [List.flatMap_append]
 rw [h2] at h
 rw [← h, List.length_append]
 omega
set_option maxHeartbeats 8000000 in
set_option maxRecDepth 100000 in
theorem generalize_Fixed.calls (A0 : Option Addr) (c0 : Nat) (l0 : List (S31)) (r : List (S40)) (w : World) (hr0 : Kd.C k31 w A0 l0.length l0) (hc0 : l0.length ≤ c0) (h : generalize_Fixed.f l0 = some r) :
  Calls Try.prog 10 #[.slice A0 l0.length c0] w fun e w' => ∃ v0_ : Value, e = .returned (v0_) ∧ Kd.R k40 40 w' w.heap.size (fun _ => True) v0_ r ∧ Below w.heap.size w w' := by
 have mixed := fixMixed
 unfold generalize_Fixed.f at h
 split at h
 case isFalse => cases h
 rename_i hin
 obtain ⟨hinl, hpl, hll⟩ := hin
 obtain ⟨s, hs, h⟩ := Option.bind_eq_some_iff.mp h
 have HS := aM hs
 have HC := aM h
 have HR := aM hr0
 have HI := aM hinl
 have HPL := aM hpl
 have hbig : l0.length ≤ 9223372036854775807 := by omega
 clear h hs hinl hpl hr0
 have eg : ∀ args w, (callFunc 22 args).run Try.prog w = .ok (.enter 22 args) w := enters_of Try.func22 (by kernel_rfl) rfl
 have hmm := @run_makeMap Try.prog
 obtain ⟨wa, hwa⟩ : ∃ wa, wa = w.alloc (.map #[] 0) := ⟨_, rfl⟩
 have hown0 : wa.ownsMap Try.prog 40 (plainElem Try.prog 3) w.heap.size 0 (.map [] : DataW Unit) := by rw [hwa]; exact World.ownsMap_made _ _ _ _
 have hb0 : Below w.heap.size w wa := by rw [hwa]; exact (Below.refl _ w).alloc (Nat.le_refl _) _
 have hsz0 : wa.heap.size = w.heap.size + 1 := by rw [hwa]; simp
 have HW0 := aM hown0
 have HB0 := aM hb0
 have HZ0 := aM hsz0
 clear hown0 hb0 hsz0
 go_enter Try.func10, Try.ntmps10
 go_wp2
 rw [← hwa]
 clear hwa hmm
 obtain ⟨mb, hmb⟩ : ∃ mb, mb = w.heap.size := ⟨_, rfl⟩
 rw [← hmb] at HW0 HB0 HZ0
 rw [← hmb]
 have HMB := aM hmb
 clear hmb
 go_loopg [12, 4] l0.length (fun gg v12 v4 wr => ∃ (i : Nat) (D : DataW Unit), i ≤ l0.length ∧ l0.length - i ≤ gg ∧ v12 = .int .i64 i ∧ Aside0 (Counts (allPts (l0.take i)) D) ∧ Aside0 (wr.ownsMap Try.prog 40 (plainElem Try.prog 3) mb (allPts (l0.take i)).length D) ∧ Aside0 (Kd.R k40 40 wr (mb + 1) (fun _ => True) v4 (keepGo [] [] (allEnds (l0.take i))).2) ∧ Aside0 (Below mb w wr) ∧ Aside0 (mb + 1 ≤ wr.heap.size))
 case atStart => exact ⟨0, .map [], by omega, by omega, rfl, ⟨by rw [List.take_zero]; exact counts_nil⟩, ⟨by rw [List.take_zero]; exact HW0.out⟩, ⟨by rw [List.take_zero]; exact Kd.R_nil _ _ _ _ _⟩, HB0, ⟨by rw [HZ0.out]; exact Nat.le_refl _⟩⟩
 case round =>
  clear HW0 HB0 HZ0
  obtain ⟨i, D, hi, hg, rfl, CD, OW, RO, BW, SZ⟩ := hrel
  by_cases hlt : i < l0.length
  ·have hltI : (i : Int) < (l0.length : Int) := by omega
   obtain ⟨ad, A1, c1, A2, c2, A3, c3, e0, hx0, hx1, hx2, hx3, g1, G1, g2, _, g3, _⟩ := at_T31 HR.out (i : Int) (by omega) (by omega)
   cases e0
   have hbw : Below w.heap.size w wr := HMB.out ▸ BW.out
   replace hx0 := (hbw.cell (World.block_lt_of_cell? w _ hx0)).trans hx0
   replace hx1 := (hbw.cell (World.block_lt_of_cell? w _ hx1)).trans hx1
   replace hx2 := (hbw.cell (World.block_lt_of_cell? w _ hx2)).trans hx2
   replace hx3 := (hbw.cell (World.block_lt_of_cell? w _ hx3)).trans hx3
   clear hbw
   have hy : rd_T31 l0 (i : Int) = l0[i] := by unfold rd_T31; rw [Int.toNat_natCast, List.getD_eq_getElem?_getD, List.getElem?_eq_getElem hlt]; rfl
   rw [hy] at hx0 hx1 hx2 hx3 g1 G1 g2 g3
   rw [Int.toNat_natCast] at hx0 hx1 hx2 hx3
   have HAP := aM (allPts_snoc l0 i hlt)
   have HAE := aM (allEnds_snoc l0 i hlt)
   have HLE := aM (allPts_le l0 (i + 1))
   have HIN := aM (show InL l0[i].f1 from fun p hp => HI.out p (List.mem_flatMap.2 ⟨l0[i], List.getElem_mem hlt, hp⟩))
   clear hy
   generalize l0[i] = x at hx0 hx1 hx2 hx3 g1 G1 g2 g3 HAP HAE HIN
   have HG1 := aM G1
   have HW := aM (OW.out.alloc (.cells #[.int .i64 x.f0, .slice A1 x.f1.length c1, .slice A2 x.f2.length c2, .slice A3 x.f3.length c3] 31))
   have HRO := aM (rA RO.out (.cells #[.int .i64 x.f0, .slice A1 x.f1.length c1, .slice A2 x.f2.length c2, .slice A3 x.f3.length c3] 31))
   have HBW := aM (BW.out.alloc (by have := SZ.out; omega) (.cells #[.int .i64 x.f0, .slice A1 x.f1.length c1, .slice A2 x.f2.length c2, .slice A3 x.f3.length c3] 31))
   have hxc : (wr.alloc (.cells #[.int .i64 x.f0, .slice A1 x.f1.length c1, .slice A2 x.f2.length c2, .slice A3 x.f3.length c3] 31)).cell? ⟨wr.heap.size, 1, none⟩ = some (.slice A1 x.f1.length c1) := by simp
   have HXC := aM hxc
   have HNX := aM (show ∀ k, u4.ownBlock = some k → k ≠ wr.heap.size from fun k hk => by have := Kd.R_lt RO.out k hk; omega)
   have HSZ := aM (show mb + 1 ≤ wr.heap.size ∧ (wr.alloc (.cells #[.int .i64 x.f0, .slice A1 x.f1.length c1, .slice A2 x.f2.length c2, .slice A3 x.f3.length c3] 31)).heap.size = wr.heap.size + 1 from ⟨SZ.out, by simp⟩)
   have hnb : x.f1.length ≤ 9223372036854775807 := G1.2.1
   clear hxc OW RO BW SZ G1
   go_wp2
   obtain ⟨xb, hxb⟩ : ∃ xb, xb = wr.heap.size := ⟨_, rfl⟩
   rw [← hxb] at HXC HSZ HNX
   rw [← hxb]
   clear hxb hx0 hx1 hx2 hx3 g1 g2 g3
   generalize wr.alloc (.cells #[.int .i64 x.f0, .slice A1 x.f1.length c1, .slice A2 x.f2.length c2, .slice A3 x.f3.length c3] 31) = wb at HW HRO HBW HXC HSZ ⊢
   generalize hT0 : allPts (l0.take i) = T0 at CD HW HAP
   generalize hE0 : (keepGo [] [] (allEnds (l0.take i))).2 = acc0 at HRO
   have HF0 := aM (show (keepGo [] [] (allEnds (l0.take i))).1 = T0 from by rw [keepGo_fst, allEnds_map, List.nil_append]; exact hT0)
   have HE0 := aM hE0
   clear hT0 hE0
   go_loopg [19, 4] x.f1.length (fun g2 v19 v4 wi => ∃ (j : Nat) (D : DataW Unit) (acc : List S40), j ≤ x.f1.length ∧ x.f1.length - j ≤ g2 ∧ v19 = .int .i64 j ∧ Aside0 (keepGo (T0 ++ x.f1.take j) acc (endsGo x.f1.length j (x.f1.drop j)) = keepGo T0 acc0 (ends x.f1)) ∧ Aside0 (acc.length ≤ 1000000 + j ∧ acc.length ≤ T0.length + j) ∧ Aside0 (Counts (T0 ++ x.f1.take j) D) ∧ Aside0 (wi.ownsMap Try.prog 40 (plainElem Try.prog 3) mb (T0.length + j) D) ∧ Aside0 (Kd.R k40 40 wi (mb + 1) (fun _ => True) v4 acc) ∧ Aside0 (Below mb w wi) ∧ Aside0 (xb + 1 ≤ wi.heap.size) ∧ Aside0 (wi.cell? ⟨xb, 1, none⟩ = some (.slice A1 x.f1.length c1)) ∧ Aside0 (∀ k, v4.ownBlock = some k → k ≠ xb))
   case atStart => exact ⟨0, D, acc0, by omega, by omega, rfl, ⟨by rw [List.take_zero, List.append_nil, List.drop_zero]; rfl⟩, ⟨by
    have h1 := keepGo_len (allEnds (l0.take i)) [] []
    have h2 := allEnds_map (l0.take i)
    have h3 := congrArg List.length h2
    have h4 := HF0.out
    rw [keepGo_fst, h2, List.nil_append] at h4
    rw [HE0.out] at h1
    rw [List.length_map, h4] at h3
    have h5 := HAP.out
    have h6 := HLE.out
    have h7 := HPL.out
    rw [h5, List.length_append] at h6
    simp at h1
    omega⟩, ⟨by rw [List.take_zero, List.append_nil]; exact CD.out⟩, HW, HRO, HBW, ⟨by have := HSZ.out.2; omega⟩, HXC, HNX⟩
   case round =>
    clear CD HW HRO HBW HXC HNX
    obtain ⟨j, D, acc, hj, hg2, rfl, KG, AL, CD, OW, RO, BW, SZ, XC, NX⟩ := hrel
    by_cases hjl : j < x.f1.length
    ·have hjI : (j : Int) < (x.f1.length : Int) := by omega
     obtain ⟨ap, e0, hy0, hy1⟩ := at_T40 (Kd.C_below HG1.out (HMB.out ▸ BW.out)) (j : Int) (by omega) (by omega)
     cases e0
     have hy : rd_T40 x.f1 (j : Int) = x.f1[j] := by unfold rd_T40; rw [Int.toNat_natCast, List.getD_eq_getElem?_getD, List.getElem?_eq_getElem hjl]; rfl
     rw [hy, Int.toNat_natCast] at hy0 hy1
     have hpin := HIN.out _ (List.getElem_mem hjl)
     have KS := aM (drop_ends x.f1.length x.f1 j hjl)
     have TK := aM (List.take_succ_eq_append_getElem hjl)
     clear hy
     generalize x.f1[j] = p at hy0 hy1 hpin KS TK
     have hcd := counts_snoc CD.out hpin
     have hsz := SZ.out
     have hszm := HSZ.out.1
     have htl : (T0 ++ x.f1.take j).length ≤ 1000000 := by have h1 := HAP.out; have h2 := HLE.out; have h3 := HPL.out; rw [h1, List.length_append] at h2; rw [List.length_append, List.length_take]; omega
     have hown2 := OW.out.alloc (.cells #[.int .i64 p.f0, .int .i64 p.f1] 40)
     obtain ⟨c, st, w2, hlook, hat, hwf, ⟨v0, hent⟩, hgr2, hlook2, hstore⟩ := entry_own hown2.drew keyLaw40 Try.underlying43 Try.underlying3 zero3 (by unfold maxLen; rw [List.length_append, List.length_take] at htl; omega) (klS_key hpin)
     rw [CD.out.2 p hpin] at hat
     have hc2 := (Lit.int.inj (DataW.lit.inj hat)).2
     have hcle : ctS (T0 ++ x.f1.take j) p ≤ 1000000 := by unfold ctS; exact Nat.le_trans List.count_le_length htl
     have hcb : 0 ≤ c ∧ c ≤ 1000000 := by omega
     obtain ⟨w3, hst3, hown3, hgr3⟩ := hstore (c + 1) (by have := wf_nat (n := (c + 1).toNat) (by omega); rwa [Int.toNat_of_nonneg (by omega)] at this)
     rw [hc2] at hcd
     obtain ⟨c3', hlook3, hat3, _⟩ := hown3.lookup_int keyed40 Try.underlying43 Try.underlying3 (zero3 _) (klS_key hpin)
     rw [hcd.2 p hpin] at hat3
     have hc3 : c3' = c + 1 := by
      have h1 := (Lit.int.inj (DataW.lit.inj hat3)).2
      rw [← h1, ← hc2]; unfold ctS; rw [List.count_append (l₂ := [p])]; simp
     subst hc3
     replace hent : _ = Result.ok (Value.tuple #[v0, .int .i64 (st : Int)]) w2 := hent
     replace hst3 : (Instr.entryStore 43 (.map (some mb)) (.int .i64 (st : Int)) (.int .i64 (c + 1))).run Try.prog w2 = .ok () w3 := hst3
     have hnewc : (ctS (T0 ++ x.f1.take j ++ [p]) p : Int) = c + 1 := (Lit.int.inj (DataW.lit.inj hat3)).2
     clear hstore hwf hat hown2 hat3
     have hne1 : xb ≠ wr.heap.size := by omega
     have hxc := XC.out
     have hloadm : (wr.alloc (.cells #[.int .i64 p.f0, .int .i64 p.f1] 40)).cell? ⟨xb, 1, none⟩ = some (.slice (some ap) x.f1.length c1) := by
      rw [← hxc]; exact (((Below.refl _ wr).alloc (Nat.le_refl _) _).cell (p := ⟨xb, 1, none⟩) (by show xb < wr.heap.size; omega))
     unfold aggS at hlook hlook2 hent hlook3
     have hs0 : (wr.alloc (.cells #[.int .i64 p.f0, .int .i64 p.f1] 40)).cell? ⟨wr.heap.size, 0, none⟩ = some (.int .i64 p.f0) := by simp
     have hs1 : (wr.alloc (.cells #[.int .i64 p.f0, .int .i64 p.f1] 40)).cell? ⟨wr.heap.size, 1, none⟩ = some (.int .i64 p.f1) := by simp
     have hgx : (wr.alloc (.cells #[.int .i64 p.f0, .int .i64 p.f1] 40)).grownBy w3 (some mb) := ⟨hgr3.os, hgr3.tape, hgr3.output, hgr3.size, hgr3.block⟩
     have hg3 : wr.grownBy w3 (some mb) := (World.grownBy_alloc wr _ _ : wr.grownBy _ (some mb)).trans hgx
     have hq0 : w3.cell? ⟨wr.heap.size, 0, none⟩ = some (.int .i64 p.f0) := hgx.cell hs0 (by simp; omega)
     have hq1 : w3.cell? ⟨wr.heap.size, 1, none⟩ = some (.int .i64 p.f1) := hgx.cell hs1 (by simp; omega)
     have hqx : w3.cell? ⟨xb, 1, none⟩ = some (.slice (some ap) x.f1.length c1) := hgx.cell hloadm (by simp; omega)
     have hsz3 : wr.heap.size + 1 ≤ w3.heap.size := by have := hgx.size; simp at this; exact this
     have RO3 := aM (Kd.R_grown2 RO.out rfl hg3 (fun k hk he => by have := Kd.R_base RO.out k he.symm; cases hk; omega))
     have BW3 := aM ((BW.out.grown hg3 (by omega) (fun k hk => by cases hk; exact Nat.le_refl _) : Below mb w w3))
     have SZ3 := aM (show mb + 1 ≤ w3.heap.size by omega)
     have SZX := aM (show xb + 1 ≤ w3.heap.size by omega)
     have XC3 := aM hqx
     have NB3 := aM (show ∀ k, u4.ownBlock = some k → k < wr.heap.size from fun k hk => Kd.R_lt RO.out k hk)
     have OW3 := aM hown3
     have CD3 := aM hcd
     have hal := AL.out
     have ALN := aM hal
     have ACL := aM (show (acc.length + 1) * 16 ≤ 140737488355328 by rw [List.length_append, List.length_take] at htl; omega)
     have HKN := aM hnewc
     clear RO BW hsz3 hqx hown3 hcd hal htl hnewc hcle AL OW CD XC hg3 hgx
     go_wp2
     generalize hwx : wr.alloc (.cells #[.int .i64 p.f0, .int .i64 p.f1] 40) = wx at hlook hlook2 hent hgr2 hgr3 hloadm hs0 hs1 ⊢
     go_region
     clear hlook hlook2 hent hst3 hs0 hs1 hgr2 hgr3 hloadm hwx
     have hcx := XC3.out
     by_cases hj0 : j = 0
     ·have e1 : ((j : Int) == 0) = true := by rw [hj0]; rfl
      have HK := aM (show keepGo (T0 ++ x.f1.take (j + 1)) (acc ++ [p]) (endsGo x.f1.length (j + 1) (x.f1.drop (j + 1))) = keepGo T0 acc0 (ends x.f1) from by
       have h1 := KG.out
       rw [KS.out] at h1
       simp only [keepGo] at h1
       rw [if_pos (by rw [decide_eq_true hj0]; rfl)] at h1
       rw [TK.out, ← List.append_assoc]; exact h1)
      go_wp2_with (first | ((with_reducible refine gate_builtin (b := .append) (xs := #[.tmp 46, .tmp 48]) rfl ?_); at_builtin; refine Kd.R_append k40 (w0 := w3) (mb + 1) rfl (.tmp 46) (.tmp 48) 26 40 (.agg #[(.int .i64 0), (.int .i64 0)]) 16 rfl Try.underlying26 info40 rfl (by decide) (by omega) u4 acc p [.int .i64 p.f0, .int .i64 p.f1] (fun _ => True) (fun _ => False) rfl rfl (k40_mkM _ _ _ p) (fun _ hk => hk.elim) (fun _ _ => trivial) RO3.out (Below.refl _ _) SZ3.out ACL.out ?_; intro v6 w6 ho6 hb6 hg6 hat6; have HO6 := aM ho6; have HB6 := aM hb6; have HG6 := aM hg6; have HA6 := aM hat6; clear ho6 hb6 hg6 hat6) | go_in)
      have hlt6 := HG6.out.size
      go_roundg (x.f1.length - (j + 1))
      case measure => omega
      case rel =>
       refine ⟨j + 1, D.put (klS p) (.lit (.int .i64 (c + 1))), acc ++ [p], by omega, by omega, by go_num, HK, ⟨by have := ALN.out; rw [List.length_append, List.length_singleton]; omega⟩, ⟨by rw [TK.out, ← List.append_assoc]; exact CD3.out⟩, ⟨OW3.out.kept HG6.out (fun he => by have := Kd.R_base RO3.out mb he.symm; omega)⟩, HO6, ⟨BW3.out.trans (HB6.out.mono (by omega))⟩, ⟨by have := SZX.out; omega⟩, ⟨HG6.out.cell XC3.out (fun he => NX.out xb he.symm rfl)⟩, ⟨fun k hk => ?_⟩⟩
       rcases HA6.out with ha | ⟨b, hb, hle⟩
       ·rw [ha] at hk; exact NX.out k hk
       ·rw [hb] at hk; cases hk; have := SZX.out; omega
     ·have e1 : ((j : Int) == 0) = false := beq_eq_false_iff_ne.mpr (by omega)
      have hpos : (0 : Int) ≤ (x.f1.length : Int) - 1 := by omega
      have hww : IntKind.i64.wrap ((x.f1.length : Int) - 1) = (x.f1.length : Int) - 1 := by rw [IntKind.wrap_i64]; omega
      by_cases hjn : j + 1 = x.f1.length
      ·have e2 : ((j : Int) == (x.f1.length : Int) - 1) = true := beq_iff_eq.mpr (by omega)
       have HK := aM (show keepGo (T0 ++ x.f1.take (j + 1)) (acc ++ [p]) (endsGo x.f1.length (j + 1) (x.f1.drop (j + 1))) = keepGo T0 acc0 (ends x.f1) from by
        have h1 := KG.out
        rw [KS.out] at h1
        simp only [keepGo] at h1
        rw [if_pos (by rw [decide_eq_true hjn]; simp)] at h1
        rw [TK.out, ← List.append_assoc]; exact h1)
       go_wp2_with (first | ((with_reducible refine gate_builtin (b := .append) (xs := #[.tmp 46, .tmp 48]) rfl ?_); at_builtin; refine Kd.R_append k40 (w0 := w3) (mb + 1) rfl (.tmp 46) (.tmp 48) 26 40 (.agg #[(.int .i64 0), (.int .i64 0)]) 16 rfl Try.underlying26 info40 rfl (by decide) (by omega) u4 acc p [.int .i64 p.f0, .int .i64 p.f1] (fun _ => True) (fun _ => False) rfl rfl (k40_mkM _ _ _ p) (fun _ hk => hk.elim) (fun _ _ => trivial) RO3.out (Below.refl _ _) SZ3.out ACL.out ?_; intro v6 w6 ho6 hb6 hg6 hat6; have HO6 := aM ho6; have HB6 := aM hb6; have HG6 := aM hg6; have HA6 := aM hat6; clear ho6 hb6 hg6 hat6) | go_in)
       have hlt6 := HG6.out.size
       go_roundg (x.f1.length - (j + 1))
       case measure => omega
       case rel =>
        refine ⟨j + 1, D.put (klS p) (.lit (.int .i64 (c + 1))), acc ++ [p], by omega, by omega, by go_num, HK, ⟨by have := ALN.out; rw [List.length_append, List.length_singleton]; omega⟩, ⟨by rw [TK.out, ← List.append_assoc]; exact CD3.out⟩, ⟨OW3.out.kept HG6.out (fun he => by have := Kd.R_base RO3.out mb he.symm; omega)⟩, HO6, ⟨BW3.out.trans (HB6.out.mono (by omega))⟩, ⟨by have := SZX.out; omega⟩, ⟨HG6.out.cell XC3.out (fun he => NX.out xb he.symm rfl)⟩, ⟨fun k hk => ?_⟩⟩
        rcases HA6.out with ha | ⟨b, hb, hle⟩
        ·rw [ha] at hk; exact NX.out k hk
        ·rw [hb] at hk; cases hk; have := SZX.out; omega
      ·have e2 : ((j : Int) == (x.f1.length : Int) - 1) = false := beq_eq_false_iff_ne.mpr (by omega)
       by_cases hc1 : 1 < c + 1
       ·have e3 : decide (1 < c + 1) = true := decide_eq_true hc1
        have HK := aM (show keepGo (T0 ++ x.f1.take (j + 1)) (acc ++ [p]) (endsGo x.f1.length (j + 1) (x.f1.drop (j + 1))) = keepGo T0 acc0 (ends x.f1) from by
         have h1 := KG.out
         rw [KS.out] at h1
         simp only [keepGo] at h1
         rw [if_pos (by rw [decide_eq_true (show 1 < ctS (T0 ++ x.f1.take j ++ [p]) p by have := HKN.out; omega)]; simp)] at h1
         rw [TK.out, ← List.append_assoc]; exact h1)
        go_wp2_with (first | ((with_reducible refine gate_builtin (b := .append) (xs := #[.tmp 46, .tmp 48]) rfl ?_); at_builtin; refine Kd.R_append k40 (w0 := w3) (mb + 1) rfl (.tmp 46) (.tmp 48) 26 40 (.agg #[(.int .i64 0), (.int .i64 0)]) 16 rfl Try.underlying26 info40 rfl (by decide) (by omega) u4 acc p [.int .i64 p.f0, .int .i64 p.f1] (fun _ => True) (fun _ => False) rfl rfl (k40_mkM _ _ _ p) (fun _ hk => hk.elim) (fun _ _ => trivial) RO3.out (Below.refl _ _) SZ3.out ACL.out ?_; intro v6 w6 ho6 hb6 hg6 hat6; have HO6 := aM ho6; have HB6 := aM hb6; have HG6 := aM hg6; have HA6 := aM hat6; clear ho6 hb6 hg6 hat6) | go_in)
        have hlt6 := HG6.out.size
        go_roundg (x.f1.length - (j + 1))
        case measure => omega
        case rel =>
         refine ⟨j + 1, D.put (klS p) (.lit (.int .i64 (c + 1))), acc ++ [p], by omega, by omega, by go_num, HK, ⟨by have := ALN.out; rw [List.length_append, List.length_singleton]; omega⟩, ⟨by rw [TK.out, ← List.append_assoc]; exact CD3.out⟩, ⟨OW3.out.kept HG6.out (fun he => by have := Kd.R_base RO3.out mb he.symm; omega)⟩, HO6, ⟨BW3.out.trans (HB6.out.mono (by omega))⟩, ⟨by have := SZX.out; omega⟩, ⟨HG6.out.cell XC3.out (fun he => NX.out xb he.symm rfl)⟩, ⟨fun k hk => ?_⟩⟩
         rcases HA6.out with ha | ⟨b, hb, hle⟩
         ·rw [ha] at hk; exact NX.out k hk
         ·rw [hb] at hk; cases hk; have := SZX.out; omega
       ·have e3 : decide (1 < c + 1) = false := decide_eq_false hc1
        have HK := aM (show keepGo (T0 ++ x.f1.take (j + 1)) acc (endsGo x.f1.length (j + 1) (x.f1.drop (j + 1))) = keepGo T0 acc0 (ends x.f1) from by
         have h1 := KG.out
         rw [KS.out] at h1
         simp only [keepGo] at h1
         rw [if_neg (by rw [decide_eq_false hj0, decide_eq_false hjn, decide_eq_false (show ¬ 1 < ctS (T0 ++ x.f1.take j ++ [p]) p by have := HKN.out; omega)]; simp)] at h1
         rw [TK.out, ← List.append_assoc]; exact h1)
        go_wp2
        go_roundg (x.f1.length - (j + 1))
        case measure => omega
        case rel => exact ⟨j + 1, D.put (klS p) (.lit (.int .i64 (c + 1))), acc, by omega, by omega, by go_num, HK, ⟨by have := ALN.out; omega⟩, ⟨by rw [TK.out, ← List.append_assoc]; exact CD3.out⟩, OW3, RO3, BW3, SZX, XC3, NX⟩
    ·have hjn : j = x.f1.length := by omega
     subst hjn
     have h1 := KG.out
     rw [List.drop_length] at h1
     have hacc := congrArg (·.2) h1
     have hN : (keepGo [] [] (allEnds (l0.take (i + 1)))).2 = acc := by
      rw [HAE.out, keepGo_append, HF0.out, HE0.out]
      exact hacc.symm
     have HN := aM hN
     have h2 := CD.out
     rw [List.take_length, ← HAP.out] at h2
     have HCD := aM h2
     have h3 := OW.out
     rw [show T0.length + x.f1.length = (allPts (l0.take (i + 1))).length from by rw [HAP.out, List.length_append]] at h3
     have HOW := aM h3
     clear h1 hacc hN h2 h3 CD OW
     go_wp2
     have hszx := SZ.out
     have hszm := HSZ.out.1
     go_roundg (l0.length - (i + 1))
     case measure => omega
     case rel => exact ⟨i + 1, D, by omega, by omega, by go_num, HCD, HOW, ⟨by rw [HN.out]; exact RO.out⟩, BW, ⟨by omega⟩⟩
  ·have hil : i = l0.length := by omega
   subst hil
   rw [List.take_length] at RO
   have hszm := SZ.out
   obtain ⟨A4, c4, rfl⟩ := Kd.R_slice RO.out
   have HDL := aM (df21 (fun x => !vld x) 22 #[] eg (mb + 1) A4 c4 _ wr wr RO.out (Below.refl _ _) SZ.out (fun W x _ _ => closure22 W x))
   have hff : (keepGo [] [] (allEnds l0)).2.filter (fun x => !(!vld x)) = (keepGo [] [] (allEnds l0)).2.filter vld := by
    congr 1; funext x; simp
   rw [hff] at HDL
   have BW0 := aM (show Below w.heap.size w wr from HMB.out ▸ BW.out)
   have hm := HMB.out
   clear hff RO BW
   generalize (keepGo [] [] (allEnds l0)).2 = kk at HDL HS
   go_wp2_with (first
    | (go_at_call 21; refine HDL.out.mono ?_; rintro e w5 ⟨rfl, ho5, hb5, _⟩; have HO5 := aM (Kd.R_lower (base' := w.heap.size) ho5 (by omega)); have HB5 := aM (BW0.out.trans (hb5.mono (by omega))); clear ho5 hb5)
    | (go_at_call 24; refine (api_Point_by_generalize_order.calls (fun _ => True) _ _ s w _ HB5.out HO5.out HS.out).mono ?_; rintro e w6 ⟨rfl, ho6, hb6, _⟩; have HO6 := aM (rM (ok' := fun _ => True) ho6 (fun _ _ => trivial)); have HB6 := aM hb6; clear ho6 hb6)
    | (go_at_call 26; refine (api_Point_26.calls (fun _ => True) _ s r w _ HB6.out HO6.out HC.out).mono ?_; rintro e w7 ⟨v7, rfl, ho7, hb7, _⟩)
    | go_in)
   go_ret
   exact ⟨_, rfl, rM ho7 (fun _ _ => trivial), hb7⟩
end Go.Proofs.Ytpgbfjndgbfhnaa.PAll
