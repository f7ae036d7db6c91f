-- out of a driver of this session's prover over the kit's print: Lean checks it
import Derived.Test.YtolhkhaglopioaaPEdx0
import Derived.Test.YtolhkhaglopioaaPEdx1
import Derived.Test.YtolhkhaglopioaaPEdx2
namespace Go.Proofs.Ytolhkhaglopioaa.PEd
open Go.Proofs.YtolhkhaglopioaaG Go.Shelf Go.Lib
open Go.RowKit Go.Proofs.YtolhkhaglopioaaW.PrintWords Go.Proofs.YtolhkhaglopioaaW.PrintLast Go.Proofs.YtolhkhaglopioaaW.PrintMore
attribute [local go_sem] max2_int min2_int max_two min_two max_three min_three max_four min_four   -- for this text's walks alone
set_option linter.unusedVariables false
set_option linter.unusedSimpArgs false


/-! ### tags_Set: function 23 -/
set_option maxHeartbeats 4000000 in
set_option maxRecDepth 100000 in
theorem ins35 (A : Option Addr) (l : List S32) (i : Nat) (hi : i ≤ l.length) (t : S32) (B : Option Addr) (cb : Nat) (w : World) (base : Nat)
    (ho : k32.R 32 w base (fun _ => True) (.slice A l.length l.length) l) (hv : Kd.C k32 w B 1 [t]) (hbase : base ≤ w.heap.size) (hsz : (l.length + 1) * 32 ≤ 140737488355328) :
    Calls Try.prog 35 #[.slice A l.length l.length, .int .i64 i, .slice B 1 cb] w fun e w' => ∃ v, e = .returned v ∧ k32.R 32 w' base (fun _ => True) v (l.take i ++ t :: l.drop i) ∧ Below base w w' := by
  have HO := Aside0.mk ho
  have HV := Aside0.mk hv
  have HSZ := Aside0.mk hsz
  clear ho hv
  have hiI : (i : Int) ≤ (l.length : Int) := by omega
  have hbig : l.length + 1 ≤ 140737488355328 := by omega
  clear hsz
  by_cases hin : i = l.length
  · subst hin
    rw [List.take_length, List.drop_length]
    go_enter Try.func35, Try.ntmps35
    go_wp2_with ((with_reducible refine gate_dst (N := 25) rfl ?_); refine Kd.R_append_rows (Rr := Kd.K k32 w) k32 (w0 := w) base rfl (.tmp 23) (.tmp 24) 22 32 (.agg #[(.string ⟨#[]⟩), (.string ⟨#[]⟩)]) 32 rfl Try.underlying22 info32 rfl (by decide) (by decide) (.slice A l.length l.length) l [t] B 1 cb (fun _ => True) (fun _ => False) rfl rfl HO.out HV.out (fun x cs h => by obtain rfl := k32_open h; exact k32_mkM _ _ _ x) (fun k h => h.elim) (fun _ _ => trivial) (Below.refl _ _) hbase HSZ.out ?_; intro v1 w1 ho1 hb1 hg1 hn1; obtain ⟨A1, cc1, rfl⟩ := Kd.R_slice ho1; rw [List.length_append, List.length_singleton] at ho1; have HO1 := Aside0.mk ho1; have HB1 := Aside0.mk hb1; clear ho1 hb1 hg1 hn1)
    go_ret
    exact ⟨_, rfl, HO1.out, HB1.out⟩
  · have hlt : i < l.length := by omega
    have hltI : (i : Int) < (l.length : Int) := by omega
    obtain ⟨ga, rfl⟩ := R_head HO.out (by omega)
    have htl : (l.take i).length = i := by rw [List.length_take]; omega
    have HT : k32.R 32 w base (fun _ => True) (.slice (some ⟨ga, 0, none⟩) (l.take i).length l.length) (l.take i) := by rw [htl]; exact Kd.R_take HO.out (by omega)
    obtain ⟨c1, w1, hrun1, ho1, hb1⟩ := R_zeros_new_run (P := Try.prog) (W := w) k32 base 22 3 22 32 (.agg #[(.string ⟨#[]⟩), (.string ⟨#[]⟩)]) 32 Try.underlying22 Try.underlying3 info32 rfl (by decide) (by decide) (some ⟨ga, 0, none⟩) l.length (l.take i) z32 (k32_mkM _ _ _ z32) (fun _ _ => trivial) HT .i64 (l.length + 1 - i) (by omega) (by omega) (by rw [htl, show i + (l.length + 1 - i) = l.length + 1 by omega]; exact HSZ.out) hbase
    rw [htl, show i + (l.length + 1 - i) = l.length + 1 by omega, show ((l.length + 1 - i : Nat) : Int) = (l.length : Int) + 1 - (i : Int) by omega] at hrun1
    rw [htl, show i + (l.length + 1 - i) = l.length + 1 by omega] at ho1
    have hN1 : w.heap.size ≤ w1.heap.size := hb1.size
    have hcap := R_cap ho1
    have hxl : (l.take i ++ List.replicate (l.length + 1 - i) z32).length = l.length + 1 := by rw [List.length_append, htl, List.length_replicate]; omega
    rw [hxl] at hcap
    obtain ⟨w2, hrun2, ho2, hg2⟩ := R_copy_run (P := Try.prog) k32 base 3 22 22 32 Try.underlying22 (by kernel_rfl) (by decide) (.slice (some ⟨w.heap.size, 0, none⟩) (l.length + 1) c1) _ [t] i 1 (some ⟨w.heap.size, i * 2, none⟩) B (l.length + 1 - i) (c1 - i) 1 cb (fun _ => True) (fun _ => False) ho1 (Kd.C_below HV.out hb1)
      (fun x cs h => by obtain rfl := k32_open h; exact k32_mkM _ _ _ x) (fun k h => h.elim) (by simp only [Nat.min_def]; split <;> omega) (by rw [hxl]; omega) (fun _ => ⟨_, rfl, rfl⟩)
    have hb2 : Below w.heap.size w w2 := hb1.grown hg2 hN1 (fun k hk => by simp [Value.ownBlock] at hk; omega)
    have hb2d : Below w.heap.size w w2.drew := below_drew1 hb2
    have ho2d := Kd.R_below ho2 (below_drew1 (Below.refl w2.heap.size w2))
    have hx2 : (l.take i ++ List.replicate (l.length + 1 - i) z32).take i ++ ([t].take 1 ++ (l.take i ++ List.replicate (l.length + 1 - i) z32).drop (i + 1)) = l.take i ++ t :: List.replicate (l.length - i) z32 := by
      rw [List.take_append_of_le_length (by rw [htl]; omega), List.take_take, Nat.min_self, List.drop_append, htl, List.drop_eq_nil_of_le (by rw [htl]; omega), List.drop_replicate]
      simp
      omega
    rw [hx2] at ho2d
    clear hx2 ho2
    have hx2l : (l.take i ++ t :: List.replicate (l.length - i) z32).length = l.length + 1 := by rw [List.length_append, htl, List.length_cons, List.length_replicate]; omega
    obtain ⟨w3, hrun3, ho3, hg3⟩ := R_copy_run (P := Try.prog) k32 base 3 22 22 32 Try.underlying22 (by kernel_rfl) (by decide) (.slice (some ⟨w.heap.size, 0, none⟩) (l.length + 1) c1) _ (l.drop i) (i + 1) (l.length - i) (some ⟨w.heap.size, (i + 1) * 2, none⟩) (some ⟨ga, i * 2, none⟩) (l.length + 1 - (i + 1)) (c1 - (i + 1)) (l.length - i) (l.length - i) (fun _ => True) (fun _ => False) ho2d (k32_C_drop (Kd.C_below (Kd.R_reads' HO.out).2.2 hb2d) i (by omega))
      (fun x cs h => by obtain rfl := k32_open h; exact k32_mkM _ _ _ x) (fun k h => h.elim) (by simp only [Nat.min_def]; split <;> omega) (by rw [hx2l]; omega) (fun _ => ⟨_, rfl, rfl⟩)
    have hx3 : (l.take i ++ t :: List.replicate (l.length - i) z32).take (i + 1) ++ ((l.drop i).take (l.length - i) ++ (l.take i ++ t :: List.replicate (l.length - i) z32).drop (i + 1 + (l.length - i))) = l.take i ++ t :: l.drop i := by
      have hd0 : (l.take i ++ t :: List.replicate (l.length - i) z32).drop (i + 1 + (l.length - i)) = [] := List.drop_eq_nil_of_le (by rw [hx2l]; omega)
      have hd1 : (l.drop i).take (l.length - i) = l.drop i := List.take_of_length_le (by rw [List.length_drop]; exact Nat.le_refl _)
      have hd2 : (l.take i ++ t :: List.replicate (l.length - i) z32).take (i + 1) = l.take i ++ [t] := by
        rw [List.take_append, List.take_of_length_le (by rw [htl]; omega), htl, show i + 1 - i = 1 by omega]
        rfl
      rw [hd0, hd1, hd2, List.append_nil, List.append_assoc]
      rfl
    rw [hx3] at ho3
    have hb3 : Below w.heap.size w w3 := hb2d.grown hg3 hb2d.size (fun k hk => by simp [Value.ownBlock] at hk; omega)
    have HO3 := Aside0.mk ho3
    have HB3 := Aside0.mk hb3
    clear ho3 hb3 hx3 hx2l ho2d hb2d hb2 hxl ho1 HT htl hb1 hg2 hg3
    have HR1 := Aside0.mk hrun1
    have HR2 := Aside0.mk hrun2
    have HR3 := Aside0.mk hrun3
    clear hrun1 hrun2 hrun3
    go_enter Try.func35, Try.ntmps35
    go_wp2_with (first | ((with_reducible refine gate_dst (N := 40) rfl ?_); refine ev_append rfl (.tmp 34) (.tmp 39) 22 3 rfl _ _ rfl rfl HR1.out ?_) | ((with_reducible refine gate_dst (N := 45) rfl ?_); refine ev_copy rfl (.tmp 43) (.tmp 44) 22 22 rfl _ _ rfl rfl HR2.out ?_))
    have mixed : Try.prog.follows Departure.mixedOrders = true := by kernel_rfl
    have hw1 : IntKind.i64.wrap ((i : Int) + 1) = (i : Int) + 1 := by rw [IntKind.wrap_i64]; omega
    have hb1 : (0 : Int) ≤ (i : Int) + 1 := by omega
    have hb2 : (i : Int) + 1 ≤ (l.length : Int) + 1 := by omega
    have hb3 : ((i : Int) + 1).toNat = i + 1 := by omega
    have hb4 : ¬ (c1 = i + 1) := by omega
    have hb5 : ¬ (l.length = i) := by omega
    have hb6 : (0 : Int) ≤ (i : Int) := by omega
    have hb7 : i + 1 ≤ l.length + 1 := by omega
    have hb8 : i ≤ l.length := by omega
    go_region_law_o (refine st_copy rfl (.tmp 50) (.tmp 53) 22 22 rfl _ _ (by simp [Act.eval, Act.put]) (by simp [Act.eval, Act.put]) HR3.out ?_)
    go_wp2
    go_ret
    exact ⟨_, rfl, HO3.out, HB3.out.mono hbase⟩

def keyGt (a1 : ByteArray) (t : S32) : Bool := Op.bytesLess a1.toList t.f0.toList

set_option maxHeartbeats 4000000 in
set_option maxRecDepth 100000 in
theorem closedBy34 (a1 : ByteArray) (B : Nat) (W : World) (x : S32) (hc : W.cell? ⟨B, 0, none⟩ = some (.string a1)) (hBW : B < W.heap.size) :
    Calls Try.prog 34 (#[.agg #[.string x.f0, .string x.f1]] ++ #[.pointer (some ⟨B, 0, none⟩)]) W fun e w' => e = .returned (.bool (keyGt a1 x)) ∧ Below W.heap.size W w' := by
  have hne : B ≠ W.heap.size := by omega
  have HB := Aside0.mk (Below.refl W.heap.size W)
  show Calls Try.prog 34 #[.agg #[.string x.f0, .string x.f1], .pointer (some ⟨B, 0, none⟩)] W _
  go_enter Try.func34, Try.ntmps34
  go_wp2
  go_ret
  exact ⟨rfl, by repeat (first | (with_reducible first | exact HB.out | apply pw_below_drewN | apply below_drew1) | (refine (HB.out.alloc HB.out.size _)))⟩

def setGo (a1 a2 : ByteArray) (at_ : Int) : Nat → List S32 → List S32
  | _, [] => []
  | i, x :: l => if (i : Int) = at_ then ⟨a1, a2⟩ :: setGo a1 a2 at_ (i + 1) l else if keyIs a1 x = true then setGo a1 a2 at_ (i + 1) l else x :: setGo a1 a2 at_ (i + 1) l
def setTo (a1 : ByteArray) (l : List S32) : Nat := if ixOf (keyGt a1) l < 0 then l.length else (ixOf (keyGt a1) l).toNat
theorem ixOf_bound {α : Type} (p : α → Bool) (l : List α) : -1 ≤ ixOf p l ∧ ixOf p l < l.length := by
  unfold ixOf
  cases h : l.findIdx? p with
  | none => simp only; omega
  | some i =>
    rw [List.findIdx?_eq_some_iff_getElem] at h
    obtain ⟨hi, _⟩ := h
    simp only
    omega
theorem setTo_le (a1 : ByteArray) (l : List S32) : setTo a1 l ≤ l.length := by
  unfold setTo
  have := ixOf_bound (keyGt a1) l
  split <;> omega
def tags_Set.f (l0 : List (S32)) (a1 a2 : ByteArray) : Option (List (S32)) := if l0.length < 4398046511104 then some (if ixOf (keyIs a1) l0 < 0 then l0.take (setTo a1 l0) ++ ⟨a1, a2⟩ :: l0.drop (setTo a1 l0) else setGo a1 a2 (ixOf (keyIs a1) l0) 0 l0) else none
set_option maxHeartbeats 4000000 in
set_option maxRecDepth 100000 in
theorem tags_Set.calls (A0 : Option Addr) (c0 : Nat) (l0 : List (S32)) (a1 a2 : ByteArray) (r : List (S32)) (w : World) (hr0 : Kd.C k32 w A0 l0.length l0) (hc0 : l0.length ≤ c0) (h : tags_Set.f l0 a1 a2 = some r) :
    Calls Try.prog 23 #[.slice A0 l0.length c0, .string a1, .string a2] w fun e w' => ∃ v0_ : Value, e = .returned (v0_) ∧ Kd.R k32 32 w' w.heap.size (fun _ => True) v0_ r ∧ Below w.heap.size w w' := by
  unfold tags_Set.f at h
  by_cases hb : l0.length < 4398046511104
  case neg => rw [if_neg hb] at h; cases h
  rw [if_pos hb] at h
  obtain rfl := Option.some.inj h
  clear h
  have eg : ∀ args w, (callFunc 34 args).run Try.prog w = .ok (.enter 34 args) w := enters_of Try.func34 (by kernel_rfl) rfl
  have hfind := tags_find.calls A0 c0 l0 a1 (ixOf (keyIs a1) l0) (w.alloc (.cells #[.string a1] 9)) (Kd.C_alloc hr0 _) hc0 rfl
  have hbnd := ixOf_bound (keyIs a1) l0
  by_cases hlt : ixOf (keyIs a1) l0 < 0
  · rw [if_pos hlt]
    have hto := setTo_le a1 l0
    have HIX := Aside0.mk (fun (w1 : World) (hb1 : Below (w.alloc (.cells #[.string a1] 9)).heap.size (w.alloc (.cells #[.string a1] 9)) w1) =>
      (ix33 (keyGt a1) 34 #[.pointer (some ⟨w.heap.size, 0, none⟩)] eg A0 c0 l0 w1 (Kd.C_below (Kd.C_alloc hr0 _) hb1) (fun W x hW =>
        (closedBy34 a1 w.heap.size W x ((hW.cell (p := ⟨w.heap.size, 0, none⟩) (by have := hb1.size; simp at this ⊢; omega)).trans ((hb1.cell (p := ⟨w.heap.size, 0, none⟩) (by simp)).trans (by simp))) (by have := hb1.size; have := hW.size; simp at *; omega)).mono (by rintro e w' ⟨h1, h2⟩; exact ⟨h1, below_step hW h2⟩))))
    have HR0 := Aside0.mk hr0
    have HB := Aside0.mk hb
    obtain ⟨pos_, heq⟩ : ∃ pos_, pos_ = setTo a1 l0 := ⟨_, rfl⟩
    have HINS := Aside0.mk (fun (A : Option Addr) (W : World) (B : Option Addr) (h1 : Kd.R k32 32 W w.heap.size (fun _ => True) (.slice A l0.length l0.length) l0) (h2 : Kd.C k32 W B 1 [(⟨a1, a2⟩ : S32)]) (h3 : w.heap.size ≤ W.heap.size) =>
      ins35 A l0 pos_ (by rw [heq]; exact hto) ⟨a1, a2⟩ B 1 W w.heap.size h1 h2 h3 (by omega))
    have HED := Aside0.mk (fun (W : World) (hW : Below (w.alloc (.cells #[.string a1] 9)).heap.size (w.alloc (.cells #[.string a1] 9)) W) =>
      edx36 A0 c0 l0 w.heap.size W (Kd.C_below (Kd.C_alloc HR0.out _) hW) (by omega) (by have := hW.size; simp at this; omega))
    have HCL := Aside0.mk (fun (W : World) => (Kd.R_reads' (R_of_alloc (W := W) k32 W.heap.size 32 (xs := [(⟨a1, a2⟩ : S32)]) (inner := [.string a1, .string a2]) (ok := fun _ => True) (okp := fun _ => False) ⟨rfl, fun j p hj => by
      cases j with
      | zero => simp at hj; subst hj; exact k32_mkM _ _ _ _
      | succ j => simp at hj⟩ (fun _ _ => trivial) trivial (Nat.le_refl _) (by simp))).2.2)
    have hgt : (ixOf (keyGt a1) l0 < 0 ∧ pos_ = l0.length) ∨ (¬ ixOf (keyGt a1) l0 < 0 ∧ ixOf (keyGt a1) l0 = (pos_ : Int)) := by
      unfold setTo at heq
      by_cases h : ixOf (keyGt a1) l0 < 0
      · rw [if_pos h] at heq; exact .inl ⟨h, heq⟩
      · rw [if_neg h] at heq; exact .inr ⟨h, by omega⟩
    rw [← heq] at hto ⊢
    clear heq
    rcases hgt with ⟨hgt, htl⟩ | ⟨hgt, htl⟩
    · subst htl
      generalize ixOf (keyGt a1) l0 = ix at *
      go_enter Try.func23, Try.ntmps23
      go_wp2_with (first | (go_at_call 32; refine hfind.mono ?_; rintro e w1 ⟨rfl, hb1⟩) | (go_at_call 33; refine (HIX.out _ hb1).mono ?_; rintro e w2 ⟨rfl, hb2⟩))
      have hb12 := hb1.trans (hb2.mono hb1.size)
      have hcell2 : w2.cell? ⟨w.heap.size, 0, none⟩ = some (.string a1) := (hb12.cell (p := ⟨w.heap.size, 0, none⟩) (by simp)).trans (by simp)
      have hbl : Below w.heap.size w w2 := ((Below.refl _ w).alloc (Nat.le_refl _) _).trans (hb12.mono (by simp))
      have HBL := Aside0.mk hbl
      have HB12 := Aside0.mk hb12
      have hsz2 : w.heap.size + 1 ≤ w2.heap.size := by have := hb12.size; simpa using this
      have hsz3 := Aside0.mk hsz2
      have hne : w.heap.size ≠ w2.heap.size := by omega
      have hcell3 : (w2.drew.alloc (.cells #[.string a1, .string a2] 32)).cell? ⟨w.heap.size, 0, none⟩ = some (.string a1) := Go.Lib.cell?_alloc_some _ hcell2
      clear hb12 hbl hb1 hb2
      have mixed : Try.prog.follows Departure.mixedOrders = true := by kernel_rfl
      go_region_with (first
        | (go_at_call 36; refine (HED.out (w2.drew.alloc (.cells #[.string a1, .string a2] 32)) (below_alloc (below_drew1 HB12.out) _)).mono ?_; rintro e w3 ⟨A3, rfl, h1, h2, h3⟩; have hC3 := Kd.C_below (HCL.out w2.drew) h2; have HI := Aside0.mk (HINS.out A3 w3 _ h1 hC3 (by have := h2.size; simp at this; omega)); clear h1 hC3 h3; have HB3 := Aside0.mk ((below_alloc (below_drew1 HBL.out) _).trans (h2.mono (by simp; omega))); clear h2)
        | (go_at_call 36; refine (HED.out w2.drew (below_drew1 HB12.out)).mono ?_; rintro e w3 ⟨A3, rfl, h1, h2, h3⟩; have hC3 := HCL.out w3; have HI := Aside0.mk (HINS.out A3 _ _ (Kd.R_alloc h1 _) hC3 (by have := h2.size; simp at this ⊢; omega)); clear h1 hC3 h3; have HB3 := Aside0.mk (below_alloc ((below_drew1 HBL.out).trans (h2.mono (by simp; omega))) (.cells #[.string a1, .string a2] 32)); have hcell4 : w3.cell? ⟨w.heap.size, 0, none⟩ = some (.string a1) := (h2.cell (p := ⟨w.heap.size, 0, none⟩) (by simp; omega)).trans (by simpa using hcell2); clear h2)
        | (go_at_call 35; refine HI.out.mono ?_; rintro e w4 ⟨v4, rfl, h4, h5⟩))
      all_goals (go_wp2; go_ret; exact ⟨_, rfl, h4, HB3.out.trans h5⟩)
    · rw [htl] at HIX hgt
      clear htl
      go_enter Try.func23, Try.ntmps23
      go_wp2_with (first | (go_at_call 32; refine hfind.mono ?_; rintro e w1 ⟨rfl, hb1⟩) | (go_at_call 33; refine (HIX.out _ hb1).mono ?_; rintro e w2 ⟨rfl, hb2⟩))
      have hb12 := hb1.trans (hb2.mono hb1.size)
      have hcell2 : w2.cell? ⟨w.heap.size, 0, none⟩ = some (.string a1) := (hb12.cell (p := ⟨w.heap.size, 0, none⟩) (by simp)).trans (by simp)
      have hbl : Below w.heap.size w w2 := ((Below.refl _ w).alloc (Nat.le_refl _) _).trans (hb12.mono (by simp))
      have HBL := Aside0.mk hbl
      have HB12 := Aside0.mk hb12
      have hsz2 : w.heap.size + 1 ≤ w2.heap.size := by have := hb12.size; simpa using this
      have hsz3 := Aside0.mk hsz2
      have hne : w.heap.size ≠ w2.heap.size := by omega
      have hcell3 : (w2.drew.alloc (.cells #[.string a1, .string a2] 32)).cell? ⟨w.heap.size, 0, none⟩ = some (.string a1) := Go.Lib.cell?_alloc_some _ hcell2
      clear hb12 hbl hb1 hb2
      have mixed : Try.prog.follows Departure.mixedOrders = true := by kernel_rfl
      go_region_with (first
        | (go_at_call 36; refine (HED.out (w2.drew.alloc (.cells #[.string a1, .string a2] 32)) (below_alloc (below_drew1 HB12.out) _)).mono ?_; rintro e w3 ⟨A3, rfl, h1, h2, h3⟩; have hC3 := Kd.C_below (HCL.out w2.drew) h2; have HI := Aside0.mk (HINS.out A3 w3 _ h1 hC3 (by have := h2.size; simp at this; omega)); clear h1 hC3 h3; have HB3 := Aside0.mk ((below_alloc (below_drew1 HBL.out) _).trans (h2.mono (by simp; omega))); clear h2)
        | (go_at_call 36; refine (HED.out w2.drew (below_drew1 HB12.out)).mono ?_; rintro e w3 ⟨A3, rfl, h1, h2, h3⟩; have hC3 := HCL.out w3; have HI := Aside0.mk (HINS.out A3 _ _ (Kd.R_alloc h1 _) hC3 (by have := h2.size; simp at this ⊢; omega)); clear h1 hC3 h3; have HB3 := Aside0.mk (below_alloc ((below_drew1 HBL.out).trans (h2.mono (by simp; omega))) (.cells #[.string a1, .string a2] 32)); have hcell4 : w3.cell? ⟨w.heap.size, 0, none⟩ = some (.string a1) := (h2.cell (p := ⟨w.heap.size, 0, none⟩) (by simp; omega)).trans (by simpa using hcell2); clear h2)
        | (go_at_call 35; refine HI.out.mono ?_; rintro e w4 ⟨v4, rfl, h4, h5⟩))
      all_goals (go_wp2; go_ret; exact ⟨_, rfl, h4, HB3.out.trans h5⟩)
  · rw [if_neg hlt]
    have hpos : 0 ≤ ixOf (keyIs a1) l0 := by omega
    have HR0 := Aside0.mk hr0
    have HB := Aside0.mk hb
    clear hr0
    generalize ixOf (keyIs a1) l0 = at_ at *
    go_enter Try.func23, Try.ntmps23
    go_wp2_with (go_at_call 32; refine hfind.mono ?_; rintro e w1 ⟨rfl, hb1⟩)
    clear hfind
    have HB1 := Aside0.mk hb1
    clear hb1
    go_loopg [9, 34] l0.length (fun gg v9 v34 wr => ∃ (kk : Nat) (A1 : Option Addr) (c1 : Nat) (out : List S32), kk ≤ l0.length ∧ l0.length - kk ≤ gg ∧ v9 = .slice A1 out.length c1 ∧ v34 = .int .i64 kk ∧ Aside0 (Kd.R k32 32 wr (w.heap.size + 1) (fun _ => True) (.slice A1 out.length c1) out) ∧ Aside0 (Below (w.heap.size + 1) (w.alloc (.cells #[.string a1] 9)) wr) ∧ Aside0 (out ++ setGo a1 a2 at_ kk (l0.drop kk) = setGo a1 a2 at_ 0 l0) ∧ Aside0 (out.length ≤ kk))
    case atStart => exact ⟨0, none, 0, [], by omega, by omega, rfl, rfl, ⟨Kd.R_nil _ _ _ _ _⟩, ⟨HB1.out.mono (by simp)⟩, ⟨by rw [List.drop_zero, List.nil_append]⟩, ⟨by simp⟩⟩
    case round =>
      obtain ⟨kk, A1, c1, out, hkl, hgg, rfl, rfl, HO, HW, HE, HL⟩ := hrel
      have hcell : wr.cell? ⟨w.heap.size, 0, none⟩ = some (.string a1) := (HW.out.cell (p := ⟨w.heap.size, 0, none⟩) (by simp)).trans (by simp)
      have hsz : w.heap.size + 1 ≤ wr.heap.size := by have := HW.out.size; simpa using this
      have hne : w.heap.size ≠ wr.heap.size := by omega
      have hbl : Below w.heap.size w wr := ((Below.refl _ w).alloc (Nat.le_refl _) _).trans (HW.out.mono (by omega))
      by_cases hlt2 : kk < l0.length
      · have hltI : (kk : Int) < (l0.length : Int) := by omega
        obtain ⟨ad, e0, hx0, hx1⟩ := at_T32 (Kd.C_below HR0.out hbl) (kk : Int) (by omega) hltI
        cases e0
        have hy : rd_T32 l0 (kk : Int) = l0[kk] := by unfold rd_T32; rw [Int.toNat_natCast, List.getD_eq_getElem?_getD, List.getElem?_eq_getElem hlt2]; rfl
        rw [hy, Int.toNat_natCast] at hx0 hx1
        have HBL := Aside0.mk hbl
        clear hbl
        have HEQ := HE.out
        rw [List.drop_eq_getElem_cons hlt2, setGo] at HEQ
        clear hy
        generalize l0[kk] = y at HEQ hx0 hx1
        have hcell2 : (wr.alloc (.cells #[.string y.f0, .string y.f1] 32)).cell? ⟨w.heap.size, 0, none⟩ = some (.string a1) := Go.Lib.cell?_alloc_some _ hcell
        have HLL := Aside0.mk (show (out.length + 1) * 32 ≤ 140737488355328 by have := HL.out; have := HB.out; omega)
        by_cases hat : (kk : Int) = at_
        · rw [if_pos hat] at HEQ
          subst hat
          have HEN := Aside0.mk (show (out ++ [⟨a1, a2⟩]) ++ setGo a1 a2 (kk : Int) (kk + 1) (l0.drop (kk + 1)) = setGo a1 a2 (kk : Int) 0 l0 by rw [List.append_assoc]; exact HEQ)
          clear HEQ HE
          go_wp2_with ((with_reducible refine gate_dst (N := 48) rfl ?_); refine Kd.R_append k32 (w0 := w.alloc (.cells #[.string a1] 9)) (w.heap.size + 1) rfl (.tmp 43) (.tmp 47) 22 32 (.agg #[(.string ⟨#[]⟩), (.string ⟨#[]⟩)]) 32 rfl Try.underlying22 info32 rfl (by decide) (by omega) (.slice A1 out.length c1) out (⟨a1, a2⟩ : S32) [.string a1, .string a2] (fun _ => True) (fun _ => False) rfl (by first | rfl | simp [Act.eval]) (k32_mkM _ _ _ (⟨a1, a2⟩ : S32)) (fun _ hk => hk.elim) (fun _ _ => trivial) (Kd.R_alloc HO.out _) (HW.out.alloc hsz _) (by simp; omega) HLL.out ?_; intro v1 w2 ho hb hg hat2; obtain ⟨A2, c2, rfl⟩ := Kd.R_slice ho; have HO2 := Aside0.mk ho; have HW2 := Aside0.mk hb; clear ho hb hg hat2)
          go_roundg (l0.length - (kk + 1))
          case measure => omega
          case rel => exact ⟨kk + 1, A2, c2, out ++ [⟨a1, a2⟩], by omega, by omega, by rw [List.length_append, List.length_singleton], by go_num, HO2, HW2, HEN, ⟨by rw [List.length_append, List.length_singleton]; have := HL.out; omega⟩⟩
        · rw [if_neg hat] at HEQ
          cases hkey : keyIs a1 y with
          | true =>
            rw [hkey, if_pos rfl] at HEQ
            have HEN := Aside0.mk HEQ
            clear HEQ HE
            unfold keyIs at hkey
            have hkey2 : (y.f0.toList != a1.toList) = false := by unfold bne; rw [hkey]; rfl
            go_wp2
            go_roundg (l0.length - (kk + 1))
            case measure => omega
            case rel => exact ⟨kk + 1, A1, c1, out, by omega, by omega, rfl, by go_num, ⟨Kd.R_alloc HO.out _⟩, ⟨HW.out.alloc hsz _⟩, HEN, ⟨by have := HL.out; omega⟩⟩
          | false =>
            rw [hkey, if_neg Bool.false_ne_true] at HEQ
            have HEN := Aside0.mk (show (out ++ [y]) ++ setGo a1 a2 at_ (kk + 1) (l0.drop (kk + 1)) = setGo a1 a2 at_ 0 l0 by rw [List.append_assoc]; exact HEQ)
            clear HEQ HE
            unfold keyIs at hkey
            have hkey2 : (y.f0.toList != a1.toList) = true := by unfold bne; rw [hkey]; rfl
            go_wp2_with ((with_reducible refine gate_dst (N := 57) rfl ?_); refine Kd.R_append k32 (w0 := w.alloc (.cells #[.string a1] 9)) (w.heap.size + 1) rfl (.tmp 54) (.tmp 56) 22 32 (.agg #[(.string ⟨#[]⟩), (.string ⟨#[]⟩)]) 32 rfl Try.underlying22 info32 rfl (by decide) (by omega) (.slice A1 out.length c1) out y [.string y.f0, .string y.f1] (fun _ => True) (fun _ => False) rfl (by first | rfl | simp [Act.eval]) (k32_mkM _ _ _ y) (fun _ hk => hk.elim) (fun _ _ => trivial) (Kd.R_alloc HO.out _) (HW.out.alloc hsz _) (by simp; omega) HLL.out ?_; intro v1 w2 ho hb hg hat2; obtain ⟨A2, c2, rfl⟩ := Kd.R_slice ho; have HO2 := Aside0.mk ho; have HW2 := Aside0.mk hb; clear ho hb hg hat2)
            go_roundg (l0.length - (kk + 1))
            case measure => omega
            case rel => exact ⟨kk + 1, A2, c2, out ++ [y], by omega, by omega, by rw [List.length_append, List.length_singleton], by go_num, HO2, HW2, HEN, ⟨by rw [List.length_append, List.length_singleton]; have := HL.out; omega⟩⟩
      · have hk2 : kk = l0.length := by omega
        subst hk2
        have HEQ := HE.out
        rw [List.drop_length, setGo, List.append_nil] at HEQ
        have HEN := Aside0.mk HEQ
        have HBL := Aside0.mk hbl
        clear HEQ HE hbl
        go_wp2
        go_ret
        refine ⟨_, rfl, ?_, HBL.out⟩
        rw [← HEN.out]
        exact Kd.R_lower HO.out (by omega)


/-! ### mapmakerlaw18_ClassifyAreas: function 5 -/
mutual
def mapmakerlaw18_ClassifyAreas.j0 : Nat → List (S32) → Int → Bool → Option (Bool)
  | 0, _, _, _ => none
  | k + 1, x0, x3, x38 => if x38 = true then (some false) else (if x3 = 4 then ((classify_Class.f x0).bind fun t160 => ((classify_Speed.f t160).bind fun t161 => (if t161 ≤ 0 then (mapmakerlaw18_ClassifyAreas.j1 k x0 x3 true) else (if x3 < 0 then (mapmakerlaw18_ClassifyAreas.j1 k x0 x3 true) else (mapmakerlaw18_ClassifyAreas.j1 k x0 x3 (decide (x3 > 6))))))) else (if x3 < 0 then (mapmakerlaw18_ClassifyAreas.j1 k x0 x3 true) else (mapmakerlaw18_ClassifyAreas.j1 k x0 x3 (decide (x3 > 6)))))
def mapmakerlaw18_ClassifyAreas.j1 : Nat → List (S32) → Int → Bool → Option (Bool)
  | 0, _, _, _ => none
  | k + 1, x0, x3, x54 => if x54 = true then (some false) else ((tags_Set.f x0 (⟨#[97, 114, 101, 97]⟩ : ByteArray) (⟨#[110, 111]⟩ : ByteArray)).bind fun t162 => ((classify_IsArea.f k t162).bind fun t165 => (if t165 = true then (some false) else ((classify_Theme.f k t162).bind fun t166 => (if t166 = x3 then ((mapmakerlaw18_lives.f k).bind fun t167 => (some t167)) else (some false))))))
end
def mapmakerlaw18_ClassifyAreas.f (k : Nat) (l0 : List (S32)) : Option (Bool) := (mapmakerlaw06_Small.f k l0).bind fun t155 => (if t155 = true then ((classify_Theme.f k l0).bind fun t157 => ((classify_MinZoom.f k l0).bind fun t158 => ((classify_IsArea.f k l0).bind fun t159 => (if t159 = true then (if t157 = 0 then (mapmakerlaw18_ClassifyAreas.j0 k l0 t157 true) else (if t157 = 4 then (mapmakerlaw18_ClassifyAreas.j0 k l0 t157 true) else (if t157 = 6 then (mapmakerlaw18_ClassifyAreas.j0 k l0 t157 true) else (if t158 < 0 then (mapmakerlaw18_ClassifyAreas.j0 k l0 t157 true) else (mapmakerlaw18_ClassifyAreas.j0 k l0 t157 ((decide (t158 > 7)) != (t157 == 0))))))) else (if t158 < 0 then (mapmakerlaw18_ClassifyAreas.j0 k l0 t157 true) else (mapmakerlaw18_ClassifyAreas.j0 k l0 t157 ((decide (t158 > 7)) != (t157 == 0)))))))) else ((mapmakerlaw18_lives.f k).bind fun t156 => (some t156)))
theorem mapmakerlaw18_ClassifyAreas.mono_l : ∀ k, (∀ y0 y1 y2, LeO (mapmakerlaw18_ClassifyAreas.j0 k y0 y1 y2) (mapmakerlaw18_ClassifyAreas.j0 (k + 1) y0 y1 y2)) ∧ (∀ y0 y1 y2, LeO (mapmakerlaw18_ClassifyAreas.j1 k y0 y1 y2) (mapmakerlaw18_ClassifyAreas.j1 (k + 1) y0 y1 y2))
  | 0 => ⟨fun _ _ _ r h => by simp [mapmakerlaw18_ClassifyAreas.j0] at h, fun _ _ _ r h => by simp [mapmakerlaw18_ClassifyAreas.j1] at h⟩
  | k + 1 => by
    obtain ⟨ih0, ih1⟩ := mapmakerlaw18_ClassifyAreas.mono_l k
    refine ⟨?_, ?_⟩
    · intro y0 y1 y2
      unfold mapmakerlaw18_ClassifyAreas.j0
      repeat' first
      | (with_reducible exact ih0 _ _ _)
      | (with_reducible exact ih1 _ _ _)
      | (with_reducible exact classify_IsArea.mono _ _)
      | (with_reducible exact classify_MinZoom.mono _ _)
      | (with_reducible exact classify_Theme.mono _ _)
      | (with_reducible exact mapmakerlaw06_Small.mono _ _)
      | (with_reducible exact mapmakerlaw18_lives.mono _)
      | (with_reducible exact LeO.refl _)
      | (with_reducible exact LeO.none _)
      | (with_reducible refine LeO.ite ?_ ?_)
      | (with_reducible refine LeO.bind ?_ (fun _ => ?_))
      | exact ih0 _ _ _
      | exact ih1 _ _ _
      | exact classify_IsArea.mono _ _
      | exact classify_MinZoom.mono _ _
      | exact classify_Theme.mono _ _
      | exact mapmakerlaw06_Small.mono _ _
      | exact mapmakerlaw18_lives.mono _
      | exact LeO.none _
      | refine LeO.ite ?_ ?_
      | refine LeO.bind ?_ (fun _ => ?_)
    · intro y0 y1 y2
      unfold mapmakerlaw18_ClassifyAreas.j1
      repeat' first
      | (with_reducible exact ih0 _ _ _)
      | (with_reducible exact ih1 _ _ _)
      | (with_reducible exact classify_IsArea.mono _ _)
      | (with_reducible exact classify_MinZoom.mono _ _)
      | (with_reducible exact classify_Theme.mono _ _)
      | (with_reducible exact mapmakerlaw06_Small.mono _ _)
      | (with_reducible exact mapmakerlaw18_lives.mono _)
      | (with_reducible exact LeO.refl _)
      | (with_reducible exact LeO.none _)
      | (with_reducible refine LeO.ite ?_ ?_)
      | (with_reducible refine LeO.bind ?_ (fun _ => ?_))
      | exact ih0 _ _ _
      | exact ih1 _ _ _
      | exact classify_IsArea.mono _ _
      | exact classify_MinZoom.mono _ _
      | exact classify_Theme.mono _ _
      | exact mapmakerlaw06_Small.mono _ _
      | exact mapmakerlaw18_lives.mono _
      | exact LeO.none _
      | refine LeO.ite ?_ ?_
      | refine LeO.bind ?_ (fun _ => ?_)
theorem mapmakerlaw18_ClassifyAreas.mono : ∀ a0 k, LeO (mapmakerlaw18_ClassifyAreas.f k a0) (mapmakerlaw18_ClassifyAreas.f (k + 1) a0) := by
  intro a0 k
  obtain ⟨ih0, ih1⟩ := mapmakerlaw18_ClassifyAreas.mono_l k
  unfold mapmakerlaw18_ClassifyAreas.f
  repeat' first
      | (with_reducible exact ih0 _ _ _)
      | (with_reducible exact ih1 _ _ _)
      | (with_reducible exact classify_IsArea.mono _ _)
      | (with_reducible exact classify_MinZoom.mono _ _)
      | (with_reducible exact classify_Theme.mono _ _)
      | (with_reducible exact mapmakerlaw06_Small.mono _ _)
      | (with_reducible exact mapmakerlaw18_lives.mono _)
      | (with_reducible exact LeO.refl _)
      | (with_reducible exact LeO.none _)
      | (with_reducible refine LeO.ite ?_ ?_)
      | (with_reducible refine LeO.bind ?_ (fun _ => ?_))
      | exact ih0 _ _ _
      | exact ih1 _ _ _
      | exact classify_IsArea.mono _ _
      | exact classify_MinZoom.mono _ _
      | exact classify_Theme.mono _ _
      | exact mapmakerlaw06_Small.mono _ _
      | exact mapmakerlaw18_lives.mono _
      | exact LeO.none _
      | refine LeO.ite ?_ ?_
      | refine LeO.bind ?_ (fun _ => ?_)
set_option maxHeartbeats 8000000 in
set_option maxRecDepth 100000 in
theorem mapmakerlaw18_ClassifyAreas.calls (k : Nat) (A0 : Option Addr) (c0 : Nat) (l0 : List (S32)) (r : Bool) (w : World) (hr0 : Kd.C k32 w A0 l0.length l0) (hc0 : l0.length ≤ c0) (h : mapmakerlaw18_ClassifyAreas.f k l0 = some r) :
    Calls Try.prog 5 #[.slice A0 l0.length c0] w fun e w' => e = .returned (.bool r) ∧ Below w.heap.size w w' := by
  have HR0 := Aside0.mk hr0
  have HC0 := Aside0.mk hc0
  clear hr0 hc0
  have HB := Aside0.mk (Below.refl w.heap.size w)
  have H : ((mapmakerlaw06_Small.f k l0).bind fun t155 => (if t155 = true then ((classify_Theme.f k l0).bind fun t157 => ((classify_MinZoom.f k l0).bind fun t158 => ((classify_IsArea.f k l0).bind fun t159 => (if t159 = true then (if t157 = 0 then (mapmakerlaw18_ClassifyAreas.j0 k l0 t157 true) else (if t157 = 4 then (mapmakerlaw18_ClassifyAreas.j0 k l0 t157 true) else (if t157 = 6 then (mapmakerlaw18_ClassifyAreas.j0 k l0 t157 true) else (if t158 < 0 then (mapmakerlaw18_ClassifyAreas.j0 k l0 t157 true) else (mapmakerlaw18_ClassifyAreas.j0 k l0 t157 ((decide (t158 > 7)) != (t157 == 0))))))) else (if t158 < 0 then (mapmakerlaw18_ClassifyAreas.j0 k l0 t157 true) else (mapmakerlaw18_ClassifyAreas.j0 k l0 t157 ((decide (t158 > 7)) != (t157 == 0)))))))) else ((mapmakerlaw18_lives.f k).bind fun t156 => (some t156)))) = some r := h
  clear h
  replace H := Option.bind_eq_some_iff.mp H
  obtain ⟨t155, A20, H⟩ := H
  replace H : (if t155 = true then ((classify_Theme.f k l0).bind fun t157 => ((classify_MinZoom.f k l0).bind fun t158 => ((classify_IsArea.f k l0).bind fun t159 => (if t159 = true then (if t157 = 0 then (mapmakerlaw18_ClassifyAreas.j0 k l0 t157 true) else (if t157 = 4 then (mapmakerlaw18_ClassifyAreas.j0 k l0 t157 true) else (if t157 = 6 then (mapmakerlaw18_ClassifyAreas.j0 k l0 t157 true) else (if t158 < 0 then (mapmakerlaw18_ClassifyAreas.j0 k l0 t157 true) else (mapmakerlaw18_ClassifyAreas.j0 k l0 t157 ((decide (t158 > 7)) != (t157 == 0))))))) else (if t158 < 0 then (mapmakerlaw18_ClassifyAreas.j0 k l0 t157 true) else (mapmakerlaw18_ClassifyAreas.j0 k l0 t157 ((decide (t158 > 7)) != (t157 == 0)))))))) else ((mapmakerlaw18_lives.f k).bind fun t156 => (some t156))) = some r := H
  have A2 := Aside0.mk A20
  clear A20
  by_cases c3 : t155 = true
  · subst c3
    have H1 : ((classify_Theme.f k l0).bind fun t157 => ((classify_MinZoom.f k l0).bind fun t158 => ((classify_IsArea.f k l0).bind fun t159 => (if t159 = true then (if t157 = 0 then (mapmakerlaw18_ClassifyAreas.j0 k l0 t157 true) else (if t157 = 4 then (mapmakerlaw18_ClassifyAreas.j0 k l0 t157 true) else (if t157 = 6 then (mapmakerlaw18_ClassifyAreas.j0 k l0 t157 true) else (if t158 < 0 then (mapmakerlaw18_ClassifyAreas.j0 k l0 t157 true) else (mapmakerlaw18_ClassifyAreas.j0 k l0 t157 ((decide (t158 > 7)) != (t157 == 0))))))) else (if t158 < 0 then (mapmakerlaw18_ClassifyAreas.j0 k l0 t157 true) else (mapmakerlaw18_ClassifyAreas.j0 k l0 t157 ((decide (t158 > 7)) != (t157 == 0)))))))) = some r := by rw [if_pos rfl] at H; exact H
    clear H
    have H := H1
    clear H1
    replace H := Option.bind_eq_some_iff.mp H
    obtain ⟨t157, A40, H⟩ := H
    replace H : ((classify_MinZoom.f k l0).bind fun t158 => ((classify_IsArea.f k l0).bind fun t159 => (if t159 = true then (if t157 = 0 then (mapmakerlaw18_ClassifyAreas.j0 k l0 t157 true) else (if t157 = 4 then (mapmakerlaw18_ClassifyAreas.j0 k l0 t157 true) else (if t157 = 6 then (mapmakerlaw18_ClassifyAreas.j0 k l0 t157 true) else (if t158 < 0 then (mapmakerlaw18_ClassifyAreas.j0 k l0 t157 true) else (mapmakerlaw18_ClassifyAreas.j0 k l0 t157 ((decide (t158 > 7)) != (t157 == 0))))))) else (if t158 < 0 then (mapmakerlaw18_ClassifyAreas.j0 k l0 t157 true) else (mapmakerlaw18_ClassifyAreas.j0 k l0 t157 ((decide (t158 > 7)) != (t157 == 0))))))) = some r := H
    have A4 := Aside0.mk A40
    clear A40
    replace H := Option.bind_eq_some_iff.mp H
    obtain ⟨t158, A50, H⟩ := H
    replace H : ((classify_IsArea.f k l0).bind fun t159 => (if t159 = true then (if t157 = 0 then (mapmakerlaw18_ClassifyAreas.j0 k l0 t157 true) else (if t157 = 4 then (mapmakerlaw18_ClassifyAreas.j0 k l0 t157 true) else (if t157 = 6 then (mapmakerlaw18_ClassifyAreas.j0 k l0 t157 true) else (if t158 < 0 then (mapmakerlaw18_ClassifyAreas.j0 k l0 t157 true) else (mapmakerlaw18_ClassifyAreas.j0 k l0 t157 ((decide (t158 > 7)) != (t157 == 0))))))) else (if t158 < 0 then (mapmakerlaw18_ClassifyAreas.j0 k l0 t157 true) else (mapmakerlaw18_ClassifyAreas.j0 k l0 t157 ((decide (t158 > 7)) != (t157 == 0)))))) = some r := H
    have A5 := Aside0.mk A50
    clear A50
    have HC6 := Aside0.mk H
    clear H
    go_enter Try.func5, Try.ntmps5
    go_upto_region 4 with (first | ((with_reducible refine gate_callee (f := 7) rfl ?_); refine goesL_ (some 7) rfl rfl Try.func7 (by kernel_rfl) rfl #[.slice A0 l0.length c0] rfl (by (try simp only [List.map_toArray, List.map_cons, List.map_nil]); first | done | rfl | (simp only [List.length_drop, List.length_take]; rfl)) ?_; (with_reducible refine (mapmakerlaw06_Small.calls k _ _ l0 true _ ?side1 ?side2 A2.out).mono ?_); (case side1 => repeat (first | exact HR0.out | (with_reducible refine Kd.C_alloc ?_ _) | (with_reducible refine Kd.C_drewN ?_ _) | (with_reducible refine Kd.C_drew ?_))); (case side2 => exact HC0.out); rintro e w' ⟨rfl, ⟨nd, rfl⟩⟩; refine ⟨_, rfl, ?_⟩) | ((with_reducible refine gate_callee (f := 9) rfl ?_); refine goesL_ (some 11) rfl rfl Try.func9 (by kernel_rfl) rfl #[.slice A0 l0.length c0] rfl (by (try simp only [List.map_toArray, List.map_cons, List.map_nil]); first | done | rfl | (simp only [List.length_drop, List.length_take]; rfl)) ?_; (with_reducible refine (classify_Theme.calls k _ _ l0 t157 _ ?side1 ?side2 A4.out).mono ?_); (case side1 => repeat (first | exact HR0.out | (with_reducible refine Kd.C_alloc ?_ _) | (with_reducible refine Kd.C_drewN ?_ _) | (with_reducible refine Kd.C_drew ?_))); (case side2 => exact HC0.out); rintro e w7 ⟨rfl, hb⟩; refine ⟨_, rfl, ?_⟩; have n0_ := Aside0.mk (below_step (by repeat (first | (with_reducible first | exact HB.out | apply below_alloc | apply pw_below_drewN | apply below_drew1) | exact HB.out)) hb); clear HB; have HB := n0_; clear n0_; (try clear hb); (try clear hb2); (try clear hk); (try clear hi)) | ((with_reducible refine gate_callee (f := 13) rfl ?_); refine goesL_ (some 13) rfl rfl Try.func13 (by kernel_rfl) rfl #[.slice A0 l0.length c0] rfl (by (try simp only [List.map_toArray, List.map_cons, List.map_nil]); first | done | rfl | (simp only [List.length_drop, List.length_take]; rfl)) ?_; (with_reducible refine (classify_MinZoom.calls k _ _ l0 t158 _ ?side1 ?side2 A5.out).mono ?_); (case side1 => repeat (first | exact (Kd.C_below HR0.out HB.out) | (with_reducible refine Kd.C_alloc ?_ _) | (with_reducible refine Kd.C_drewN ?_ _) | (with_reducible refine Kd.C_drew ?_))); (case side2 => exact HC0.out); rintro e w8 ⟨rfl, hb⟩; refine ⟨_, rfl, ?_⟩; have n0_ := Aside0.mk (below_step (by repeat (first | (with_reducible first | exact HB.out | apply below_alloc | apply pw_below_drewN | apply below_drew1) | exact HB.out)) hb); clear HB; have HB := n0_; clear n0_; (try clear hb); (try clear hb2); (try clear hk); (try clear hi)))
    (try simp only [Act.put, List.setIfInBounds_toArray, List.set_cons_zero, List.set_cons_succ])
    go_cut [38] (fun v38 wc => ∃ (kq : Nat) (x38_5 : Bool), v38 = .bool x38_5 ∧ Aside0 (mapmakerlaw18_ClassifyAreas.j0 kq l0 t157 x38_5 = some r) ∧ Aside0 (kq ≤ k) ∧ Aside0 (Below w.heap.size w wc))
    case first =>
      have H := HC6.out
      clear HC6
      replace H := Option.bind_eq_some_iff.mp H
      obtain ⟨t159, A90, H⟩ := H
      replace H : (if t159 = true then (if t157 = 0 then (mapmakerlaw18_ClassifyAreas.j0 k l0 t157 true) else (if t157 = 4 then (mapmakerlaw18_ClassifyAreas.j0 k l0 t157 true) else (if t157 = 6 then (mapmakerlaw18_ClassifyAreas.j0 k l0 t157 true) else (if t158 < 0 then (mapmakerlaw18_ClassifyAreas.j0 k l0 t157 true) else (mapmakerlaw18_ClassifyAreas.j0 k l0 t157 ((decide (t158 > 7)) != (t157 == 0))))))) else (if t158 < 0 then (mapmakerlaw18_ClassifyAreas.j0 k l0 t157 true) else (mapmakerlaw18_ClassifyAreas.j0 k l0 t157 ((decide (t158 > 7)) != (t157 == 0))))) = some r := H
      have A9 := Aside0.mk A90
      clear A90
      by_cases c10 : t159 = true
      · subst c10
        have H1 : (if t157 = 0 then (mapmakerlaw18_ClassifyAreas.j0 k l0 t157 true) else (if t157 = 4 then (mapmakerlaw18_ClassifyAreas.j0 k l0 t157 true) else (if t157 = 6 then (mapmakerlaw18_ClassifyAreas.j0 k l0 t157 true) else (if t158 < 0 then (mapmakerlaw18_ClassifyAreas.j0 k l0 t157 true) else (mapmakerlaw18_ClassifyAreas.j0 k l0 t157 ((decide (t158 > 7)) != (t157 == 0))))))) = some r := by rw [if_pos rfl] at H; exact H
        clear H
        have H := H1
        clear H1
        by_cases c11 : t157 = 0
        · rw [if_pos c11] at H
          have c11b0 : (t157 == 0) = true := beq_iff_eq.mpr c11
          have c11b1 : (t157 != 0) = false := bne_eq_false_iff_eq.mpr c11
          clear c11
          (first | rw [c11b0] | (simp only [i64_w, i32_w]; rw [c11b0]) | skip)
          have H' := Aside0.mk H
          clear H
          go_wp2_with (first | ((with_reducible refine gate_callee (f := 11) rfl ?_); refine goesL_ (some 15) rfl rfl Try.func11 (by kernel_rfl) rfl #[.slice A0 l0.length c0] rfl (by (try simp only [List.map_toArray, List.map_cons, List.map_nil]); first | done | rfl | (simp only [List.length_drop, List.length_take]; rfl)) ?_; (with_reducible refine (classify_IsArea.calls k _ _ l0 true _ ?side1 ?side2 A9.out).mono ?_); (case side1 => repeat (first | exact (Kd.C_below HR0.out HB.out) | (with_reducible refine Kd.C_alloc ?_ _) | (with_reducible refine Kd.C_drewN ?_ _) | (with_reducible refine Kd.C_drew ?_))); (case side2 => exact HC0.out); rintro e w12 ⟨rfl, hb⟩; refine ⟨_, rfl, ?_⟩; have n0_ := Aside0.mk (below_step (by repeat (first | (with_reducible first | exact HB.out | apply below_alloc | apply pw_below_drewN | apply below_drew1) | exact HB.out)) hb); clear HB; have HB := n0_; clear n0_; (try clear hb); (try clear hb2); (try clear hk); (try clear hi)))
          go_meet
          case rel => exact ⟨_, (true), (by first | rfl | (simp; done) | (simp [*]; done)), H', ⟨by first | omega | exact Nat.le_refl _⟩, ⟨by repeat (first | (with_reducible first | exact HB.out | apply below_alloc | apply pw_below_drewN | apply below_drew1) | exact HB.out)⟩⟩
        · rw [if_neg c11] at H
          have c11b0 : (t157 == 0) = false := beq_eq_false_iff_ne.mpr c11
          have c11b1 : (t157 != 0) = true := bne_iff_ne.mpr c11
          (first | rw [c11b0] | (simp only [i64_w, i32_w]; rw [c11b0]) | skip)
          by_cases c13 : t157 = 4
          · rw [if_pos c13] at H
            have c13b0 : (t157 == 4) = true := beq_iff_eq.mpr c13
            have c13b1 : (t157 != 4) = false := bne_eq_false_iff_eq.mpr c13
            clear c13
            have H' := Aside0.mk H
            clear H
            go_wp2_with (first | ((with_reducible refine gate_callee (f := 11) rfl ?_); refine goesL_ (some 15) rfl rfl Try.func11 (by kernel_rfl) rfl #[.slice A0 l0.length c0] rfl (by (try simp only [List.map_toArray, List.map_cons, List.map_nil]); first | done | rfl | (simp only [List.length_drop, List.length_take]; rfl)) ?_; (with_reducible refine (classify_IsArea.calls k _ _ l0 true _ ?side1 ?side2 A9.out).mono ?_); (case side1 => repeat (first | exact (Kd.C_below HR0.out HB.out) | (with_reducible refine Kd.C_alloc ?_ _) | (with_reducible refine Kd.C_drewN ?_ _) | (with_reducible refine Kd.C_drew ?_))); (case side2 => exact HC0.out); rintro e w14 ⟨rfl, hb⟩; refine ⟨_, rfl, ?_⟩; have n0_ := Aside0.mk (below_step (by repeat (first | (with_reducible first | exact HB.out | apply below_alloc | apply pw_below_drewN | apply below_drew1) | exact HB.out)) hb); clear HB; have HB := n0_; clear n0_; (try clear hb); (try clear hb2); (try clear hk); (try clear hi)))
            go_meet
            case rel => exact ⟨_, (true), (by first | rfl | (simp; done) | (simp [*]; done)), H', ⟨by first | omega | exact Nat.le_refl _⟩, ⟨by repeat (first | (with_reducible first | exact HB.out | apply below_alloc | apply pw_below_drewN | apply below_drew1) | exact HB.out)⟩⟩
          · rw [if_neg c13] at H
            have c13b0 : (t157 == 4) = false := beq_eq_false_iff_ne.mpr c13
            have c13b1 : (t157 != 4) = true := bne_iff_ne.mpr c13
            by_cases c15 : t157 = 6
            · rw [if_pos c15] at H
              have c15b0 : (t157 == 6) = true := beq_iff_eq.mpr c15
              have c15b1 : (t157 != 6) = false := bne_eq_false_iff_eq.mpr c15
              clear c15
              have H' := Aside0.mk H
              clear H
              go_wp2_with (first | ((with_reducible refine gate_callee (f := 11) rfl ?_); refine goesL_ (some 15) rfl rfl Try.func11 (by kernel_rfl) rfl #[.slice A0 l0.length c0] rfl (by (try simp only [List.map_toArray, List.map_cons, List.map_nil]); first | done | rfl | (simp only [List.length_drop, List.length_take]; rfl)) ?_; (with_reducible refine (classify_IsArea.calls k _ _ l0 true _ ?side1 ?side2 A9.out).mono ?_); (case side1 => repeat (first | exact (Kd.C_below HR0.out HB.out) | (with_reducible refine Kd.C_alloc ?_ _) | (with_reducible refine Kd.C_drewN ?_ _) | (with_reducible refine Kd.C_drew ?_))); (case side2 => exact HC0.out); rintro e w16 ⟨rfl, hb⟩; refine ⟨_, rfl, ?_⟩; have n0_ := Aside0.mk (below_step (by repeat (first | (with_reducible first | exact HB.out | apply below_alloc | apply pw_below_drewN | apply below_drew1) | exact HB.out)) hb); clear HB; have HB := n0_; clear n0_; (try clear hb); (try clear hb2); (try clear hk); (try clear hi)))
              go_meet
              case rel => exact ⟨_, (true), (by first | rfl | (simp; done) | (simp [*]; done)), H', ⟨by first | omega | exact Nat.le_refl _⟩, ⟨by repeat (first | (with_reducible first | exact HB.out | apply below_alloc | apply pw_below_drewN | apply below_drew1) | exact HB.out)⟩⟩
            · rw [if_neg c15] at H
              have c15b0 : (t157 == 6) = false := beq_eq_false_iff_ne.mpr c15
              have c15b1 : (t157 != 6) = true := bne_iff_ne.mpr c15
              by_cases c17 : t158 < 0
              · rw [if_pos c17] at H
                have c17b0 : decide (t158 < 0) = true := decide_eq_true c17
                clear c17
                have H' := Aside0.mk H
                clear H
                go_wp2_with (first | ((with_reducible refine gate_callee (f := 11) rfl ?_); refine goesL_ (some 15) rfl rfl Try.func11 (by kernel_rfl) rfl #[.slice A0 l0.length c0] rfl (by (try simp only [List.map_toArray, List.map_cons, List.map_nil]); first | done | rfl | (simp only [List.length_drop, List.length_take]; rfl)) ?_; (with_reducible refine (classify_IsArea.calls k _ _ l0 true _ ?side1 ?side2 A9.out).mono ?_); (case side1 => repeat (first | exact (Kd.C_below HR0.out HB.out) | (with_reducible refine Kd.C_alloc ?_ _) | (with_reducible refine Kd.C_drewN ?_ _) | (with_reducible refine Kd.C_drew ?_))); (case side2 => exact HC0.out); rintro e w18 ⟨rfl, hb⟩; refine ⟨_, rfl, ?_⟩; have n0_ := Aside0.mk (below_step (by repeat (first | (with_reducible first | exact HB.out | apply below_alloc | apply pw_below_drewN | apply below_drew1) | exact HB.out)) hb); clear HB; have HB := n0_; clear n0_; (try clear hb); (try clear hb2); (try clear hk); (try clear hi)))
                go_meet
                case rel => exact ⟨_, (true), (by first | rfl | (simp; done) | (simp [*]; done)), H', ⟨by first | omega | exact Nat.le_refl _⟩, ⟨by repeat (first | (with_reducible first | exact HB.out | apply below_alloc | apply pw_below_drewN | apply below_drew1) | exact HB.out)⟩⟩
              · rw [if_neg c17] at H
                have c17b0 : decide (t158 < 0) = false := decide_eq_false c17
                clear c17
                have H' := Aside0.mk H
                clear H
                go_wp2_with (first | ((with_reducible refine gate_callee (f := 11) rfl ?_); refine goesL_ (some 15) rfl rfl Try.func11 (by kernel_rfl) rfl #[.slice A0 l0.length c0] rfl (by (try simp only [List.map_toArray, List.map_cons, List.map_nil]); first | done | rfl | (simp only [List.length_drop, List.length_take]; rfl)) ?_; (with_reducible refine (classify_IsArea.calls k _ _ l0 true _ ?side1 ?side2 A9.out).mono ?_); (case side1 => repeat (first | exact (Kd.C_below HR0.out HB.out) | (with_reducible refine Kd.C_alloc ?_ _) | (with_reducible refine Kd.C_drewN ?_ _) | (with_reducible refine Kd.C_drew ?_))); (case side2 => exact HC0.out); rintro e w19 ⟨rfl, hb⟩; refine ⟨_, rfl, ?_⟩; have n0_ := Aside0.mk (below_step (by repeat (first | (with_reducible first | exact HB.out | apply below_alloc | apply pw_below_drewN | apply below_drew1) | exact HB.out)) hb); clear HB; have HB := n0_; clear n0_; (try clear hb); (try clear hb2); (try clear hk); (try clear hi)))
                go_meet
                case rel => exact ⟨_, (((decide (t158 > 7)) != (t157 == 0))), (by first | rfl | (simp; done) | (simp [*]; done)), H', ⟨by first | omega | exact Nat.le_refl _⟩, ⟨by repeat (first | (with_reducible first | exact HB.out | apply below_alloc | apply pw_below_drewN | apply below_drew1) | exact HB.out)⟩⟩
      · replace c10 := Bool.eq_false_iff.mpr c10
        subst c10
        have H1 : (if t158 < 0 then (mapmakerlaw18_ClassifyAreas.j0 k l0 t157 true) else (mapmakerlaw18_ClassifyAreas.j0 k l0 t157 ((decide (t158 > 7)) != (t157 == 0)))) = some r := by rw [if_neg (show ¬ (false = true) by decide)] at H; exact H
        clear H
        have H := H1
        clear H1
        by_cases c20 : t158 < 0
        · rw [if_pos c20] at H
          have c20b0 : decide (t158 < 0) = true := decide_eq_true c20
          clear c20
          have H' := Aside0.mk H
          clear H
          go_wp2_with (first | ((with_reducible refine gate_callee (f := 11) rfl ?_); refine goesL_ (some 15) rfl rfl Try.func11 (by kernel_rfl) rfl #[.slice A0 l0.length c0] rfl (by (try simp only [List.map_toArray, List.map_cons, List.map_nil]); first | done | rfl | (simp only [List.length_drop, List.length_take]; rfl)) ?_; (with_reducible refine (classify_IsArea.calls k _ _ l0 false _ ?side1 ?side2 A9.out).mono ?_); (case side1 => repeat (first | exact (Kd.C_below HR0.out HB.out) | (with_reducible refine Kd.C_alloc ?_ _) | (with_reducible refine Kd.C_drewN ?_ _) | (with_reducible refine Kd.C_drew ?_))); (case side2 => exact HC0.out); rintro e w21 ⟨rfl, hb⟩; refine ⟨_, rfl, ?_⟩; have n0_ := Aside0.mk (below_step (by repeat (first | (with_reducible first | exact HB.out | apply below_alloc | apply pw_below_drewN | apply below_drew1) | exact HB.out)) hb); clear HB; have HB := n0_; clear n0_; (try clear hb); (try clear hb2); (try clear hk); (try clear hi)))
          go_meet
          case rel => exact ⟨_, (true), (by first | rfl | (simp; done) | (simp [*]; done)), H', ⟨by first | omega | exact Nat.le_refl _⟩, ⟨by repeat (first | (with_reducible first | exact HB.out | apply below_alloc | apply pw_below_drewN | apply below_drew1) | exact HB.out)⟩⟩
        · rw [if_neg c20] at H
          have c20b0 : decide (t158 < 0) = false := decide_eq_false c20
          clear c20
          have H' := Aside0.mk H
          clear H
          go_wp2_with (first | ((with_reducible refine gate_callee (f := 11) rfl ?_); refine goesL_ (some 15) rfl rfl Try.func11 (by kernel_rfl) rfl #[.slice A0 l0.length c0] rfl (by (try simp only [List.map_toArray, List.map_cons, List.map_nil]); first | done | rfl | (simp only [List.length_drop, List.length_take]; rfl)) ?_; (with_reducible refine (classify_IsArea.calls k _ _ l0 false _ ?side1 ?side2 A9.out).mono ?_); (case side1 => repeat (first | exact (Kd.C_below HR0.out HB.out) | (with_reducible refine Kd.C_alloc ?_ _) | (with_reducible refine Kd.C_drewN ?_ _) | (with_reducible refine Kd.C_drew ?_))); (case side2 => exact HC0.out); rintro e w22 ⟨rfl, hb⟩; refine ⟨_, rfl, ?_⟩; have n0_ := Aside0.mk (below_step (by repeat (first | (with_reducible first | exact HB.out | apply below_alloc | apply pw_below_drewN | apply below_drew1) | exact HB.out)) hb); clear HB; have HB := n0_; clear n0_; (try clear hb); (try clear hb2); (try clear hk); (try clear hi)))
          go_meet
          case rel => exact ⟨_, (((decide (t158 > 7)) != (t157 == 0))), (by first | rfl | (simp; done) | (simp [*]; done)), H', ⟨by first | omega | exact Nat.le_refl _⟩, ⟨by repeat (first | (with_reducible first | exact HB.out | apply below_alloc | apply pw_below_drewN | apply below_drew1) | exact HB.out)⟩⟩
    case rest =>
      clear HC6
      try clear c1
      try clear c2
      try clear p2
      try clear c3
      try clear c5
      try clear c7
      try clear c9
      try clear c10
      try clear c11
      try clear c11b0
      try clear c11b1
      try clear c13
      try clear c13b0
      try clear c13b1
      try clear c15
      try clear c15b0
      try clear c15b1
      try clear c17
      try clear c17b0
      try clear c20
      try clear c20b0
      obtain ⟨kq, x38_5, rfl, HA, HJ5, HB⟩ := hcut
      cases kq with
      | zero => exact absurd HA.out (by simp [mapmakerlaw18_ClassifyAreas.j0])
      | succ kj5 =>
        have H := HA.out
        clear HA
        simp only [mapmakerlaw18_ClassifyAreas.j0] at H
        by_cases c23 : x38_5 = true
        · subst c23
          have H1 : (some false) = some r := by rw [if_pos rfl] at H; exact H
          clear H
          have H := H1
          clear H1
          obtain rfl := Option.some.inj H
          go_wp2
          go_ret
          exact ⟨by first | rfl | (simp [errW_none, errW_some] <;> rfl) | (simp [*, errW_none, errW_some] <;> rfl), by repeat (first | (with_reducible first | exact HB.out | apply below_alloc | apply pw_below_drewN | apply below_drew1) | exact HB.out)⟩
        · replace c23 := Bool.eq_false_iff.mpr c23
          subst c23
          have H1 : (if t157 = 4 then ((classify_Class.f l0).bind fun t160 => ((classify_Speed.f t160).bind fun t161 => (if t161 ≤ 0 then (mapmakerlaw18_ClassifyAreas.j1 kj5 l0 t157 true) else (if t157 < 0 then (mapmakerlaw18_ClassifyAreas.j1 kj5 l0 t157 true) else (mapmakerlaw18_ClassifyAreas.j1 kj5 l0 t157 (decide (t157 > 6))))))) else (if t157 < 0 then (mapmakerlaw18_ClassifyAreas.j1 kj5 l0 t157 true) else (mapmakerlaw18_ClassifyAreas.j1 kj5 l0 t157 (decide (t157 > 6))))) = some r := by rw [if_neg (show ¬ (false = true) by decide)] at H; exact H
          clear H
          have H := H1
          clear H1
          have HC24 := Aside0.mk H
          clear H
          go_upto_region 6 with (fail)
          go_cut [54] (fun v54 wc => ∃ (kq : Nat) (x54_23 : Bool), v54 = .bool x54_23 ∧ Aside0 (mapmakerlaw18_ClassifyAreas.j1 kq l0 t157 x54_23 = some r) ∧ Aside0 (kq ≤ kj5) ∧ Aside0 (Below w.heap.size w wc))
          case first =>
            have H := HC24.out
            clear HC24
            by_cases c25 : t157 = 4
            · rw [if_pos c25] at H
              have c25b0 : (t157 == 4) = true := beq_iff_eq.mpr c25
              have c25b1 : (t157 != 4) = false := bne_eq_false_iff_eq.mpr c25
              clear c25
              (first | rw [c25b0] | (simp only [i64_w, i32_w]; rw [c25b0]) | skip)
              replace H := Option.bind_eq_some_iff.mp H
              obtain ⟨t160, A260, H⟩ := H
              replace H : ((classify_Speed.f t160).bind fun t161 => (if t161 ≤ 0 then (mapmakerlaw18_ClassifyAreas.j1 kj5 l0 t157 true) else (if t157 < 0 then (mapmakerlaw18_ClassifyAreas.j1 kj5 l0 t157 true) else (mapmakerlaw18_ClassifyAreas.j1 kj5 l0 t157 (decide (t157 > 6)))))) = some r := H
              have A26 := Aside0.mk A260
              clear A260
              replace H := Option.bind_eq_some_iff.mp H
              obtain ⟨t161, A270, H⟩ := H
              replace H : (if t161 ≤ 0 then (mapmakerlaw18_ClassifyAreas.j1 kj5 l0 t157 true) else (if t157 < 0 then (mapmakerlaw18_ClassifyAreas.j1 kj5 l0 t157 true) else (mapmakerlaw18_ClassifyAreas.j1 kj5 l0 t157 (decide (t157 > 6))))) = some r := H
              have A27 := Aside0.mk A270
              clear A270
              by_cases c28 : t161 ≤ 0
              · rw [if_pos c28] at H
                have c28b0 : decide (t161 ≤ 0) = true := decide_eq_true c28
                clear c28
                have H' := Aside0.mk H
                clear H
                go_wp2_with (first | (go_at_call 15; (with_reducible refine (classify_Class.calls _ _ l0 t160 _ ?side1 ?side2 A26.out).mono ?_); (case side1 => repeat (first | exact (Kd.C_below HR0.out HB.out) | (with_reducible refine Kd.C_alloc ?_ _) | (with_reducible refine Kd.C_drewN ?_ _) | (with_reducible refine Kd.C_drew ?_))); (case side2 => exact HC0.out); rintro e w29 ⟨rfl, hb⟩; have n0_ := Aside0.mk (below_step (by repeat (first | (with_reducible first | exact HB.out | apply below_alloc | apply pw_below_drewN | apply below_drew1) | exact HB.out)) hb); clear HB; have HB := n0_; clear n0_; (try clear hb); (try clear hb2); (try clear hk); (try clear hi)) | (go_at_call 17; (with_reducible refine (classify_Speed.calls t160 t161 _ A27.out).mono ?_); rintro e w30 ⟨rfl, hb⟩; have n0_ := Aside0.mk (below_step (by repeat (first | (with_reducible first | exact HB.out | apply below_alloc | apply pw_below_drewN | apply below_drew1) | exact HB.out)) hb); clear HB; have HB := n0_; clear n0_; (try clear hb); (try clear hb2); (try clear hk); (try clear hi)))
                go_meet
                case rel => exact ⟨_, (true), (by first | rfl | (simp; done) | (simp [*]; done)), H', ⟨by have := HJ5.out; first | omega | exact Nat.le_refl _⟩, ⟨by repeat (first | (with_reducible first | exact HB.out | apply below_alloc | apply pw_below_drewN | apply below_drew1) | exact HB.out)⟩⟩
              · rw [if_neg c28] at H
                have c28b0 : decide (t161 ≤ 0) = false := decide_eq_false c28
                clear c28
                by_cases c31 : t157 < 0
                · rw [if_pos c31] at H
                  have c31b0 : decide (t157 < 0) = true := decide_eq_true c31
                  clear c31
                  have H' := Aside0.mk H
                  clear H
                  go_wp2_with (first | (go_at_call 15; (with_reducible refine (classify_Class.calls _ _ l0 t160 _ ?side1 ?side2 A26.out).mono ?_); (case side1 => repeat (first | exact (Kd.C_below HR0.out HB.out) | (with_reducible refine Kd.C_alloc ?_ _) | (with_reducible refine Kd.C_drewN ?_ _) | (with_reducible refine Kd.C_drew ?_))); (case side2 => exact HC0.out); rintro e w32 ⟨rfl, hb⟩; have n0_ := Aside0.mk (below_step (by repeat (first | (with_reducible first | exact HB.out | apply below_alloc | apply pw_below_drewN | apply below_drew1) | exact HB.out)) hb); clear HB; have HB := n0_; clear n0_; (try clear hb); (try clear hb2); (try clear hk); (try clear hi)) | (go_at_call 17; (with_reducible refine (classify_Speed.calls t160 t161 _ A27.out).mono ?_); rintro e w33 ⟨rfl, hb⟩; have n0_ := Aside0.mk (below_step (by repeat (first | (with_reducible first | exact HB.out | apply below_alloc | apply pw_below_drewN | apply below_drew1) | exact HB.out)) hb); clear HB; have HB := n0_; clear n0_; (try clear hb); (try clear hb2); (try clear hk); (try clear hi)))
                  go_meet
                  case rel => exact ⟨_, (true), (by first | rfl | (simp; done) | (simp [*]; done)), H', ⟨by have := HJ5.out; first | omega | exact Nat.le_refl _⟩, ⟨by repeat (first | (with_reducible first | exact HB.out | apply below_alloc | apply pw_below_drewN | apply below_drew1) | exact HB.out)⟩⟩
                · rw [if_neg c31] at H
                  have c31b0 : decide (t157 < 0) = false := decide_eq_false c31
                  clear c31
                  have H' := Aside0.mk H
                  clear H
                  go_wp2_with (first | (go_at_call 15; (with_reducible refine (classify_Class.calls _ _ l0 t160 _ ?side1 ?side2 A26.out).mono ?_); (case side1 => repeat (first | exact (Kd.C_below HR0.out HB.out) | (with_reducible refine Kd.C_alloc ?_ _) | (with_reducible refine Kd.C_drewN ?_ _) | (with_reducible refine Kd.C_drew ?_))); (case side2 => exact HC0.out); rintro e w34 ⟨rfl, hb⟩; have n0_ := Aside0.mk (below_step (by repeat (first | (with_reducible first | exact HB.out | apply below_alloc | apply pw_below_drewN | apply below_drew1) | exact HB.out)) hb); clear HB; have HB := n0_; clear n0_; (try clear hb); (try clear hb2); (try clear hk); (try clear hi)) | (go_at_call 17; (with_reducible refine (classify_Speed.calls t160 t161 _ A27.out).mono ?_); rintro e w35 ⟨rfl, hb⟩; have n0_ := Aside0.mk (below_step (by repeat (first | (with_reducible first | exact HB.out | apply below_alloc | apply pw_below_drewN | apply below_drew1) | exact HB.out)) hb); clear HB; have HB := n0_; clear n0_; (try clear hb); (try clear hb2); (try clear hk); (try clear hi)))
                  go_meet
                  case rel => exact ⟨_, (decide (t157 > 6)), (by first | rfl | (simp; done) | (simp [*]; done)), H', ⟨by have := HJ5.out; first | omega | exact Nat.le_refl _⟩, ⟨by repeat (first | (with_reducible first | exact HB.out | apply below_alloc | apply pw_below_drewN | apply below_drew1) | exact HB.out)⟩⟩
            · rw [if_neg c25] at H
              have c25b0 : (t157 == 4) = false := beq_eq_false_iff_ne.mpr c25
              have c25b1 : (t157 != 4) = true := bne_iff_ne.mpr c25
              (first | rw [c25b0] | (simp only [i64_w, i32_w]; rw [c25b0]) | skip)
              by_cases c36 : t157 < 0
              · rw [if_pos c36] at H
                have c36b0 : decide (t157 < 0) = true := decide_eq_true c36
                clear c36
                have H' := Aside0.mk H
                clear H
                go_wp2
                go_meet
                case rel => exact ⟨_, (true), (by first | rfl | (simp; done) | (simp [*]; done)), H', ⟨by have := HJ5.out; first | omega | exact Nat.le_refl _⟩, ⟨by repeat (first | (with_reducible first | exact HB.out | apply below_alloc | apply pw_below_drewN | apply below_drew1) | exact HB.out)⟩⟩
              · rw [if_neg c36] at H
                have c36b0 : decide (t157 < 0) = false := decide_eq_false c36
                clear c36
                have H' := Aside0.mk H
                clear H
                go_wp2
                go_meet
                case rel => exact ⟨_, (decide (t157 > 6)), (by first | rfl | (simp; done) | (simp [*]; done)), H', ⟨by have := HJ5.out; first | omega | exact Nat.le_refl _⟩, ⟨by repeat (first | (with_reducible first | exact HB.out | apply below_alloc | apply pw_below_drewN | apply below_drew1) | exact HB.out)⟩⟩
          case rest =>
            clear HC24
            try clear c1
            try clear c2
            try clear p2
            try clear c3
            try clear c5
            try clear c7
            try clear c9
            try clear c10
            try clear c11
            try clear c11b0
            try clear c11b1
            try clear c13
            try clear c13b0
            try clear c13b1
            try clear c15
            try clear c15b0
            try clear c15b1
            try clear c17
            try clear c17b0
            try clear c20
            try clear c20b0
            try clear c23
            try clear c25
            try clear c25b0
            try clear c25b1
            try clear c28
            try clear c28b0
            try clear c31
            try clear c31b0
            try clear c36
            try clear c36b0
            try clear p2
            obtain ⟨kq, x54_23, rfl, HA, HJ23, HB⟩ := hcut
            cases kq with
            | zero => exact absurd HA.out (by simp [mapmakerlaw18_ClassifyAreas.j1])
            | succ kj23 =>
              have H := HA.out
              clear HA
              simp only [mapmakerlaw18_ClassifyAreas.j1] at H
              by_cases c37 : x54_23 = true
              · subst c37
                have H1 : (some false) = some r := by rw [if_pos rfl] at H; exact H
                clear H
                have H := H1
                clear H1
                obtain rfl := Option.some.inj H
                go_wp2
                go_ret
                exact ⟨by first | rfl | (simp [errW_none, errW_some] <;> rfl) | (simp [*, errW_none, errW_some] <;> rfl), by repeat (first | (with_reducible first | exact HB.out | apply below_alloc | apply pw_below_drewN | apply below_drew1) | exact HB.out)⟩
              · replace c37 := Bool.eq_false_iff.mpr c37
                subst c37
                have H1 : ((tags_Set.f l0 (⟨#[97, 114, 101, 97]⟩ : ByteArray) (⟨#[110, 111]⟩ : ByteArray)).bind fun t162 => ((classify_IsArea.f kj23 t162).bind fun t165 => (if t165 = true then (some false) else ((classify_Theme.f kj23 t162).bind fun t166 => (if t166 = t157 then ((mapmakerlaw18_lives.f kj23).bind fun t167 => (some t167)) else (some false)))))) = some r := by rw [if_neg (show ¬ (false = true) by decide)] at H; exact H
                clear H
                have H := H1
                clear H1
                replace H := Option.bind_eq_some_iff.mp H
                obtain ⟨t162, A380, H⟩ := H
                replace H : ((classify_IsArea.f kj23 t162).bind fun t165 => (if t165 = true then (some false) else ((classify_Theme.f kj23 t162).bind fun t166 => (if t166 = t157 then ((mapmakerlaw18_lives.f kj23).bind fun t167 => (some t167)) else (some false))))) = some r := H
                have A38 := Aside0.mk A380
                clear A380
                replace H := Option.bind_eq_some_iff.mp H
                obtain ⟨t165, A390, H⟩ := H
                replace H : (if t165 = true then (some false) else ((classify_Theme.f kj23 t162).bind fun t166 => (if t166 = t157 then ((mapmakerlaw18_lives.f kj23).bind fun t167 => (some t167)) else (some false)))) = some r := H
                have A39 := Aside0.mk A390
                clear A390
                by_cases c40 : t165 = true
                · subst c40
                  have H1 : (some false) = some r := by rw [if_pos rfl] at H; exact H
                  clear H
                  have H := H1
                  clear H1
                  obtain rfl := Option.some.inj H
                  go_wp2_with (first | ((with_reducible refine gate_callee (f := 23) rfl ?_); refine goesL_ (some 56) rfl rfl Try.func23 (by kernel_rfl) rfl #[.slice A0 l0.length c0, .string (⟨#[97, 114, 101, 97]⟩ : ByteArray), .string (⟨#[110, 111]⟩ : ByteArray)] rfl (by (try simp only [List.map_toArray, List.map_cons, List.map_nil]); first | done | rfl | (simp only [List.length_drop, List.length_take]; rfl)) ?_; (with_reducible refine (tags_Set.calls _ _ l0 (⟨#[97, 114, 101, 97]⟩ : ByteArray) (⟨#[110, 111]⟩ : ByteArray) t162 _ ?side1 ?side2 A38.out).mono ?_); (case side1 => repeat (first | exact (Kd.C_below HR0.out HB.out) | (with_reducible refine Kd.C_alloc ?_ _) | (with_reducible refine Kd.C_drewN ?_ _) | (with_reducible refine Kd.C_drew ?_))); (case side2 => exact HC0.out); rintro e w41 ⟨v163, rfl, ho0, hb⟩; refine ⟨_, rfl, ?_⟩; have n0_ := Aside0.mk (Kd.R_lower ho0 (below_size (by repeat (first | (with_reducible first | exact HB.out | apply below_alloc | apply pw_below_drewN | apply below_drew1) | exact HB.out)))); have n1_ := Aside0.mk (below_step (by repeat (first | (with_reducible first | exact HB.out | apply below_alloc | apply pw_below_drewN | apply below_drew1) | exact HB.out)) hb); clear HB; have HO164 := n0_; have HB := n1_; clear n0_ n1_; (try clear hb); (try clear hb2); (try clear hk); (try clear hi); (try clear ho0); obtain ⟨Ao42, co42, eo42⟩ := Kd.R_slice HO164.out; subst eo42) | ((with_reducible refine gate_callee (f := 11) rfl ?_); refine goesL_ (some 58) rfl rfl Try.func11 (by kernel_rfl) rfl #[.slice Ao42 t162.length co42] rfl (by (try simp only [List.map_toArray, List.map_cons, List.map_nil]); first | done | rfl | (simp only [List.length_drop, List.length_take]; rfl)) ?_; (with_reducible refine (classify_IsArea.calls kj23 _ _ t162 true _ ?side1 ?side2 A39.out).mono ?_); (case side1 => repeat (first | exact (Kd.R_reads' HO164.out).2.2 | (with_reducible refine Kd.C_alloc ?_ _) | (with_reducible refine Kd.C_drewN ?_ _) | (with_reducible refine Kd.C_drew ?_))); (case side2 => exact (Kd.R_reads' HO164.out).2.1); rintro e w43 ⟨rfl, hb⟩; refine ⟨_, rfl, ?_⟩; have n0_ := Aside0.mk (Kd.R_below (by (with_reducible repeat (first | apply Kd.R_alloc | apply Kd.R_drewN | apply Kd.R_drew)); exact HO164.out) hb); have n1_ := Aside0.mk (below_step (by repeat (first | (with_reducible first | exact HB.out | apply below_alloc | apply pw_below_drewN | apply below_drew1) | exact HB.out)) hb); clear HO164; clear HB; have HO164 := n0_; have HB := n1_; clear n0_ n1_; (try clear hb); (try clear hb2); (try clear hk); (try clear hi)))
                  go_ret
                  exact ⟨by first | rfl | (simp [errW_none, errW_some] <;> rfl) | (simp [*, errW_none, errW_some] <;> rfl), by repeat (first | (with_reducible first | exact HB.out | apply below_alloc | apply pw_below_drewN | apply below_drew1) | exact HB.out)⟩
                · replace c40 := Bool.eq_false_iff.mpr c40
                  subst c40
                  have H1 : ((classify_Theme.f kj23 t162).bind fun t166 => (if t166 = t157 then ((mapmakerlaw18_lives.f kj23).bind fun t167 => (some t167)) else (some false))) = some r := by rw [if_neg (show ¬ (false = true) by decide)] at H; exact H
                  clear H
                  have H := H1
                  clear H1
                  replace H := Option.bind_eq_some_iff.mp H
                  obtain ⟨t166, A440, H⟩ := H
                  replace H : (if t166 = t157 then ((mapmakerlaw18_lives.f kj23).bind fun t167 => (some t167)) else (some false)) = some r := H
                  have A44 := Aside0.mk A440
                  clear A440
                  by_cases c45 : t166 = t157
                  · rw [if_pos c45] at H
                    have c45b0 : (t166 == t157) = true := beq_iff_eq.mpr c45
                    have c45b1 : (t166 != t157) = false := bne_eq_false_iff_eq.mpr c45
                    clear c45
                    replace H := Option.bind_eq_some_iff.mp H
                    obtain ⟨t167, A460, H⟩ := H
                    replace H : (some t167) = some r := H
                    have A46 := Aside0.mk A460
                    clear A460
                    obtain rfl := Option.some.inj H
                    go_wp2_with (first | ((with_reducible refine gate_callee (f := 23) rfl ?_); refine goesL_ (some 56) rfl rfl Try.func23 (by kernel_rfl) rfl #[.slice A0 l0.length c0, .string (⟨#[97, 114, 101, 97]⟩ : ByteArray), .string (⟨#[110, 111]⟩ : ByteArray)] rfl (by (try simp only [List.map_toArray, List.map_cons, List.map_nil]); first | done | rfl | (simp only [List.length_drop, List.length_take]; rfl)) ?_; (with_reducible refine (tags_Set.calls _ _ l0 (⟨#[97, 114, 101, 97]⟩ : ByteArray) (⟨#[110, 111]⟩ : ByteArray) t162 _ ?side1 ?side2 A38.out).mono ?_); (case side1 => repeat (first | exact (Kd.C_below HR0.out HB.out) | (with_reducible refine Kd.C_alloc ?_ _) | (with_reducible refine Kd.C_drewN ?_ _) | (with_reducible refine Kd.C_drew ?_))); (case side2 => exact HC0.out); rintro e w47 ⟨v163, rfl, ho0, hb⟩; refine ⟨_, rfl, ?_⟩; have n0_ := Aside0.mk (Kd.R_lower ho0 (below_size (by repeat (first | (with_reducible first | exact HB.out | apply below_alloc | apply pw_below_drewN | apply below_drew1) | exact HB.out)))); have n1_ := Aside0.mk (below_step (by repeat (first | (with_reducible first | exact HB.out | apply below_alloc | apply pw_below_drewN | apply below_drew1) | exact HB.out)) hb); clear HB; have HO164 := n0_; have HB := n1_; clear n0_ n1_; (try clear hb); (try clear hb2); (try clear hk); (try clear hi); (try clear ho0); obtain ⟨Ao48, co48, eo48⟩ := Kd.R_slice HO164.out; subst eo48) | ((with_reducible refine gate_callee (f := 11) rfl ?_); refine goesL_ (some 58) rfl rfl Try.func11 (by kernel_rfl) rfl #[.slice Ao48 t162.length co48] rfl (by (try simp only [List.map_toArray, List.map_cons, List.map_nil]); first | done | rfl | (simp only [List.length_drop, List.length_take]; rfl)) ?_; (with_reducible refine (classify_IsArea.calls kj23 _ _ t162 false _ ?side1 ?side2 A39.out).mono ?_); (case side1 => repeat (first | exact (Kd.R_reads' HO164.out).2.2 | (with_reducible refine Kd.C_alloc ?_ _) | (with_reducible refine Kd.C_drewN ?_ _) | (with_reducible refine Kd.C_drew ?_))); (case side2 => exact (Kd.R_reads' HO164.out).2.1); rintro e w49 ⟨rfl, hb⟩; refine ⟨_, rfl, ?_⟩; have n0_ := Aside0.mk (Kd.R_below (by (with_reducible repeat (first | apply Kd.R_alloc | apply Kd.R_drewN | apply Kd.R_drew)); exact HO164.out) hb); have n1_ := Aside0.mk (below_step (by repeat (first | (with_reducible first | exact HB.out | apply below_alloc | apply pw_below_drewN | apply below_drew1) | exact HB.out)) hb); clear HO164; clear HB; have HO164 := n0_; have HB := n1_; clear n0_ n1_; (try clear hb); (try clear hb2); (try clear hk); (try clear hi)) | (go_at_call 9; (with_reducible refine (classify_Theme.calls kj23 _ _ t162 t166 _ ?side1 ?side2 A44.out).mono ?_); (case side1 => repeat (first | exact (Kd.R_reads' HO164.out).2.2 | (with_reducible refine Kd.C_alloc ?_ _) | (with_reducible refine Kd.C_drewN ?_ _) | (with_reducible refine Kd.C_drew ?_))); (case side2 => exact (Kd.R_reads' HO164.out).2.1); rintro e w50 ⟨rfl, hb⟩; have n0_ := Aside0.mk (Kd.R_below (by (with_reducible repeat (first | apply Kd.R_alloc | apply Kd.R_drewN | apply Kd.R_drew)); exact HO164.out) hb); have n1_ := Aside0.mk (below_step (by repeat (first | (with_reducible first | exact HB.out | apply below_alloc | apply pw_below_drewN | apply below_drew1) | exact HB.out)) hb); clear HO164; clear HB; have HO164 := n0_; have HB := n1_; clear n0_ n1_; (try clear hb); (try clear hb2); (try clear hk); (try clear hi)) | (go_at_call 8; (with_reducible refine (mapmakerlaw18_lives.calls kj23  t167 _ A46.out).mono ?_); rintro e w51 ⟨rfl, hb⟩; have n0_ := Aside0.mk (Kd.R_below (by (with_reducible repeat (first | apply Kd.R_alloc | apply Kd.R_drewN | apply Kd.R_drew)); exact HO164.out) hb); have n1_ := Aside0.mk (below_step (by repeat (first | (with_reducible first | exact HB.out | apply below_alloc | apply pw_below_drewN | apply below_drew1) | exact HB.out)) hb); clear HO164; clear HB; have HO164 := n0_; have HB := n1_; clear n0_ n1_; (try clear hb); (try clear hb2); (try clear hk); (try clear hi)))
                    go_ret
                    exact ⟨by first | rfl | (simp [errW_none, errW_some] <;> rfl) | (simp [*, errW_none, errW_some] <;> rfl), by repeat (first | (with_reducible first | exact HB.out | apply below_alloc | apply pw_below_drewN | apply below_drew1) | exact HB.out)⟩
                  · rw [if_neg c45] at H
                    have c45b0 : (t166 == t157) = false := beq_eq_false_iff_ne.mpr c45
                    have c45b1 : (t166 != t157) = true := bne_iff_ne.mpr c45
                    obtain rfl := Option.some.inj H
                    go_wp2_with (first | ((with_reducible refine gate_callee (f := 23) rfl ?_); refine goesL_ (some 56) rfl rfl Try.func23 (by kernel_rfl) rfl #[.slice A0 l0.length c0, .string (⟨#[97, 114, 101, 97]⟩ : ByteArray), .string (⟨#[110, 111]⟩ : ByteArray)] rfl (by (try simp only [List.map_toArray, List.map_cons, List.map_nil]); first | done | rfl | (simp only [List.length_drop, List.length_take]; rfl)) ?_; (with_reducible refine (tags_Set.calls _ _ l0 (⟨#[97, 114, 101, 97]⟩ : ByteArray) (⟨#[110, 111]⟩ : ByteArray) t162 _ ?side1 ?side2 A38.out).mono ?_); (case side1 => repeat (first | exact (Kd.C_below HR0.out HB.out) | (with_reducible refine Kd.C_alloc ?_ _) | (with_reducible refine Kd.C_drewN ?_ _) | (with_reducible refine Kd.C_drew ?_))); (case side2 => exact HC0.out); rintro e w52 ⟨v163, rfl, ho0, hb⟩; refine ⟨_, rfl, ?_⟩; have n0_ := Aside0.mk (Kd.R_lower ho0 (below_size (by repeat (first | (with_reducible first | exact HB.out | apply below_alloc | apply pw_below_drewN | apply below_drew1) | exact HB.out)))); have n1_ := Aside0.mk (below_step (by repeat (first | (with_reducible first | exact HB.out | apply below_alloc | apply pw_below_drewN | apply below_drew1) | exact HB.out)) hb); clear HB; have HO164 := n0_; have HB := n1_; clear n0_ n1_; (try clear hb); (try clear hb2); (try clear hk); (try clear hi); (try clear ho0); obtain ⟨Ao53, co53, eo53⟩ := Kd.R_slice HO164.out; subst eo53) | ((with_reducible refine gate_callee (f := 11) rfl ?_); refine goesL_ (some 58) rfl rfl Try.func11 (by kernel_rfl) rfl #[.slice Ao53 t162.length co53] rfl (by (try simp only [List.map_toArray, List.map_cons, List.map_nil]); first | done | rfl | (simp only [List.length_drop, List.length_take]; rfl)) ?_; (with_reducible refine (classify_IsArea.calls kj23 _ _ t162 false _ ?side1 ?side2 A39.out).mono ?_); (case side1 => repeat (first | exact (Kd.R_reads' HO164.out).2.2 | (with_reducible refine Kd.C_alloc ?_ _) | (with_reducible refine Kd.C_drewN ?_ _) | (with_reducible refine Kd.C_drew ?_))); (case side2 => exact (Kd.R_reads' HO164.out).2.1); rintro e w54 ⟨rfl, hb⟩; refine ⟨_, rfl, ?_⟩; have n0_ := Aside0.mk (Kd.R_below (by (with_reducible repeat (first | apply Kd.R_alloc | apply Kd.R_drewN | apply Kd.R_drew)); exact HO164.out) hb); have n1_ := Aside0.mk (below_step (by repeat (first | (with_reducible first | exact HB.out | apply below_alloc | apply pw_below_drewN | apply below_drew1) | exact HB.out)) hb); clear HO164; clear HB; have HO164 := n0_; have HB := n1_; clear n0_ n1_; (try clear hb); (try clear hb2); (try clear hk); (try clear hi)) | (go_at_call 9; (with_reducible refine (classify_Theme.calls kj23 _ _ t162 t166 _ ?side1 ?side2 A44.out).mono ?_); (case side1 => repeat (first | exact (Kd.R_reads' HO164.out).2.2 | (with_reducible refine Kd.C_alloc ?_ _) | (with_reducible refine Kd.C_drewN ?_ _) | (with_reducible refine Kd.C_drew ?_))); (case side2 => exact (Kd.R_reads' HO164.out).2.1); rintro e w55 ⟨rfl, hb⟩; have n0_ := Aside0.mk (Kd.R_below (by (with_reducible repeat (first | apply Kd.R_alloc | apply Kd.R_drewN | apply Kd.R_drew)); exact HO164.out) hb); have n1_ := Aside0.mk (below_step (by repeat (first | (with_reducible first | exact HB.out | apply below_alloc | apply pw_below_drewN | apply below_drew1) | exact HB.out)) hb); clear HO164; clear HB; have HO164 := n0_; have HB := n1_; clear n0_ n1_; (try clear hb); (try clear hb2); (try clear hk); (try clear hi)))
                    go_ret
                    exact ⟨by first | rfl | (simp [errW_none, errW_some] <;> rfl) | (simp [*, errW_none, errW_some] <;> rfl), by repeat (first | (with_reducible first | exact HB.out | apply below_alloc | apply pw_below_drewN | apply below_drew1) | exact HB.out)⟩
  · replace c3 := Bool.eq_false_iff.mpr c3
    subst c3
    have H1 : ((mapmakerlaw18_lives.f k).bind fun t156 => (some t156)) = some r := by rw [if_neg (show ¬ (false = true) by decide)] at H; exact H
    clear H
    have H := H1
    clear H1
    replace H := Option.bind_eq_some_iff.mp H
    obtain ⟨t156, A560, H⟩ := H
    replace H : (some t156) = some r := H
    have A56 := Aside0.mk A560
    clear A560
    obtain rfl := Option.some.inj H
    go_enter Try.func5, Try.ntmps5
    go_wp2_with (first | ((with_reducible refine gate_callee (f := 7) rfl ?_); refine goesL_ (some 7) rfl rfl Try.func7 (by kernel_rfl) rfl #[.slice A0 l0.length c0] rfl (by (try simp only [List.map_toArray, List.map_cons, List.map_nil]); first | done | rfl | (simp only [List.length_drop, List.length_take]; rfl)) ?_; (with_reducible refine (mapmakerlaw06_Small.calls k _ _ l0 false _ ?side1 ?side2 A2.out).mono ?_); (case side1 => repeat (first | exact HR0.out | (with_reducible refine Kd.C_alloc ?_ _) | (with_reducible refine Kd.C_drewN ?_ _) | (with_reducible refine Kd.C_drew ?_))); (case side2 => exact HC0.out); rintro e w' ⟨rfl, ⟨nd, rfl⟩⟩; refine ⟨_, rfl, ?_⟩) | ((with_reducible refine gate_callee (f := 8) rfl ?_); refine goesL_ (some 9) rfl rfl Try.func8 (by kernel_rfl) rfl #[] rfl (by (try simp only [List.map_toArray, List.map_cons, List.map_nil]); first | done | rfl | (simp only [List.length_drop, List.length_take]; rfl)) ?_; (with_reducible refine (mapmakerlaw18_lives.calls k  t156 _ A56.out).mono ?_); rintro e w57 ⟨rfl, hb⟩; refine ⟨_, rfl, ?_⟩; have n0_ := Aside0.mk (below_step (by repeat (first | (with_reducible first | exact HB.out | apply below_alloc | apply pw_below_drewN | apply below_drew1) | exact HB.out)) hb); clear HB; have HB := n0_; clear n0_; (try clear hb); (try clear hb2); (try clear hk); (try clear hi)))
    go_ret
    exact ⟨by first | rfl | (simp [errW_none, errW_some] <;> rfl) | (simp [*, errW_none, errW_some] <;> rfl), by repeat (first | (with_reducible first | exact HB.out | apply below_alloc | apply pw_below_drewN | apply below_drew1) | exact HB.out)⟩
def wf32 (x : S32) : Prop := x.f0.size ≤ maxLen ∧ x.f1.size ≤ maxLen
theorem opens32 : Opens Try.prog 32 k32 wf32 := by
  refine Opens.iso (d := (Kd.pair Kd.string Kd.string)) (W := fun x => x.1.size ≤ maxLen ∧ x.2.size ≤ maxLen) (f := fun x : S32 => (x.f0, x.f1)) (g := fun x => (⟨x.1, x.2⟩ : S32)) ?_ (fun _ => rfl)
  refine Opens.struct Try.underlying32 (by kernel_rfl) ?_
  exact (OpensF.cons rfl (Opens.string Try.underlying9 (by kernel_rfl)) (OpensF.one rfl (Opens.string Try.underlying9 (by kernel_rfl))))
theorem mapmakerlaw18_ClassifyAreas.opens_0 : Opens Try.prog 22 (Kd.slice 32 k32) (fun x => (x.length ≤ maxLen ∧ ∀ y ∈ x, wf32 y)) := (Opens.slice Try.underlying22 (by kernel_rfl) opens32)
/-- THE ONE PURE STATEMENT of mapmakerlaw18_ClassifyAreas. -/
def mapmakerlaw18_ClassifyAreas.Pure : Prop := ∀ (l0 : List (S32)), (l0.length ≤ maxLen ∧ ∀ y ∈ l0, wf32 y) → ∃ k, mapmakerlaw18_ClassifyAreas.f k l0 = some true
theorem mapmakerlaw18_ClassifyAreas.walk (P : mapmakerlaw18_ClassifyAreas.Pure) (w : World) (A0 : Option Addr) (c0 : Nat) (l0 : List (S32)) (hr0 : Kd.C k32 w A0 l0.length l0) (hc0 : l0.length ≤ c0) (w0 : (l0.length ≤ maxLen ∧ ∀ y ∈ l0, wf32 y)) :
    Calls Try.prog 5 #[.slice A0 l0.length c0] w fun e w' => e = .returned (.bool true) ∧ Below w.heap.size w w' := by
  obtain ⟨k, h⟩ := P l0 w0
  refine (mapmakerlaw18_ClassifyAreas.calls k A0 c0 l0 true w hr0 hc0 h).mono ?_
  rintro e w' ⟨rfl, hd⟩
  exact ⟨rfl, hd⟩

end Go.Proofs.Ytolhkhaglopioaa.PEd
