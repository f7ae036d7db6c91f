-- out of a driver of this session's prover over the kit's print: Lean checks it
import Derived.Test.YtgenbepicnbecaaPAllx0
import Derived.Test.YtgenbepicnbecaaPAllx11
namespace Go.Proofs.Ytgenbepicnbecaa.PAll
open Go.Proofs.YtgenbepicnbecaaG Go.Shelf Go.Lib
open Go.RowKit Go.Proofs.YtgenbepicnbecaaW.PrintWords Go.Proofs.YtgenbepicnbecaaW.PrintLast Go.Proofs.YtgenbepicnbecaaW.PrintMore
attribute [local go_sem] max2_int min2_int max_two min_two max_three min_three max_four min_four   -- for this text's walks alone
set_option linter.unusedVariables false
set_option linter.unusedSimpArgs false
instance inhS34 : Inhabited S34 := ⟨z34⟩
def enc34 (x : S34) : List Value := [.int .i64 x.f0, .int .i64 x.f1]
def cmpBy55 (x y : S34) : Int := if x.f0 = y.f0 then if x.f1 = y.f1 then 0 else (if x.f1 < y.f1 then -1 else 1) else (if x.f0 < y.f0 then -1 else 1)
theorem ltBy55 (x y : S34) : ltOf cmpBy55 x y = true ↔ (x.f0 < y.f0 ∨ x.f0 = y.f0 ∧ (x.f1 < y.f1)) := by
 unfold ltOf cmpBy55
 rw [decide_eq_true_iff]
 (repeat' split) <;> omega
theorem swoBy55 : Go.Sort.SWO (ltOf cmpBy55) where
 irrefl x := by rw [Bool.eq_false_iff]; intro h; rw [ltBy55] at h; omega
 trans x y z h1 h2 := by rw [ltBy55] at *; omega
 ntrans x y z h1 h2 := by
  rw [Bool.eq_false_iff] at *
  intro h3
  rw [Ne, ltBy55] at h1 h2
  rw [ltBy55] at h3
  omega
def Grw (w w' : World) : Prop := ∃ q os', w' = Go.Sort.grow (w.drewN q) os'
theorem Grw.refl (w : World) : Grw w w := ⟨0, #[], (Go.Sort.grow_empty w).symm⟩
theorem grw_alloc {w w' : World} (h : Grw w w') (o : Obj) : Grw w (w'.alloc o) := by
 obtain ⟨q, os', rfl⟩ := h
 exact ⟨q, os' ++ #[o], by rw [Go.Sort.alloc_eq_grow, Go.Sort.grow_grow]⟩
theorem grw_drewN {w w' : World} (h : Grw w w') (n : Nat) : Grw w (w'.drewN n) := by
 obtain ⟨q, os', rfl⟩ := h
 exact ⟨q + n, os', by simp [Go.Sort.grow, World.drewN, Nat.add_assoc]⟩
theorem grw_drew {w w' : World} (h : Grw w w') : Grw w w'.drew := grw_drewN h 1
section
variable {P : Program} {ops : Array Oper} {rest : List Oper} {Q : Exit → Act → World → Prop} {Kc : Act → World → Prop} {a : Act} {o : Oper}
theorem box_eventG {W : World} (hgd : o.guard = none) {N : Tmp} (_hd : o.dst = some N) {cs : Array Value} {t : TypeId}
  (hrun : (execOp a.eval o).run P W = .ok (.value (.pointer (some ⟨W.heap.size, 0, none⟩))) (W.alloc (.cells cs t (0, 0))))
  (h : ∀ g, g = W.heap.size → ∀ w1, w1.heap[g]? = some (.cells cs t (0, 0)) → Below W.heap.size W w1 → (∀ w0, Grw w0 W → Grw w0 w1) → wpList P ops Q rest (a.put o.dst (.pointer (some ⟨g, 0, none⟩))) w1) : wpList P ops Q (o :: rest) a W :=
 Kd.event_run hgd hrun (h _ rfl _ (blk_new W _) (bA (Below.refl _ _) _) (fun _ h => grw_alloc h _))
theorem lit_stepG {α : Type} (d : Kd α) {w0 W : World} (base e : Nat) (hw : Region.wanted o (yielded ops a.tmps) = true) {N : Tmp} (hd : o.dst = some N) {xs : List α} {inner : List Value} {ok okp : Nat → Prop}
  (hrun : (execOp a.eval o).run P W = .ok (.value (.slice (some ⟨W.heap.size, 0, none⟩) xs.length xs.length)) (W.alloc (.cells inner.toArray e)))
  (hrep : Reps (d.M W base okp) d.sz xs inner) (hok : ∀ k, okp k → ok k) (hfresh : ok W.heap.size) (HB : Below base w0 W) (hbase : base ≤ W.heap.size) (hm : xs.length ≤ 9223372036854775807)
  (h : ∀ v1 w1, d.R e w1 base ok v1 xs → Below base w0 w1 → W.grownBy w1 none → (∃ b, v1.ownBlock = some b ∧ W.heap.size ≤ b) → (∀ w0, Grw w0 W → Grw w0 w1) → Kc (a.put o.dst v1) w1) : if Region.wanted o (yielded ops a.tmps) = true then Oper.wp P o a W Kc Q else Kc (a.put o.dst undef) W := by
 refine event_step hw hrun (h _ _ ⟨fun k hk => ?_, inner, ?_, ?_⟩ (HB.alloc hbase _) (World.grownBy_alloc W _ none) ⟨W.heap.size, by simp [Value.ownBlock], Nat.le_refl _⟩ (fun _ h => grw_alloc h _))
 ·have : W.heap.size = k := by simpa [Value.ownBlock] using hk
  subst this
  exact hfresh
 ·have h2 := World.ownsRow_lit (base := base) (e := e) (size := d.sz) W inner.toArray xs.length hbase (by simpa [maxLen] using hm) (by simpa using hrep.1)
  simpa using h2
 ·refine hrep.imp_ (fun p c hp => d.M_mono (fun k hk => ⟨hok k hk.1, fun he => ?_⟩) (Kd.M_below (d.M_bound hp) (bA (Below.refl _ _) _)))
  have h3 : k = W.heap.size := by simpa [Value.ownBlock] using he
  have := hk.2.2.1
  omega
end
set_option maxHeartbeats 8000000 in
set_option maxRecDepth 100000 in
theorem data_Users_2.callsG (k : Nat) (a0_0 : Int) (a0_1 : Int) (a1_0 : Int) (a1_1 : Int) (r : Int) (w : World) (h : data_Users_2.f k a0_0 a0_1 a1_0 a1_1 = some r) :
  Calls Try.prog 55 #[.agg #[.int .i64 a0_0, .int .i64 a0_1], .agg #[.int .i64 a1_0, .int .i64 a1_1]] w fun e w' => e = .returned (.int .i64 r) ∧ Grw w w' := by
 have hu34 := Try.underlying34
 have HB := aM (Below.refl w.heap.size w)
 have HG := aM (Grw.refl w)
 have H : ((cmp_Compare_int.f a0_0 a1_0).bind fun t163 => ((cmp_Compare_int.f a0_1 a1_1).bind fun t164 => ((cmp_Or_int.f k (([t163, t164] : List Int))).bind fun t168 => (some t168)))) = some r := h
 clear h
 replace H := Option.bind_eq_some_iff.mp H
 obtain ⟨t163, A30, H⟩ := H
 try dsimp only at H
 have A3 := aM A30
 clear A30
 replace H := Option.bind_eq_some_iff.mp H
 obtain ⟨t164, A40, H⟩ := H
 try dsimp only at H
 have A4 := aM A40
 clear A40
 obtain ⟨y165, hy165⟩ : ∃ y_ : List Int, y_ = (([t163, t164] : List Int)) := ⟨_, rfl⟩
 replace H : ((cmp_Or_int.f k y165).bind fun t168 => (some t168)) = some r := by first | (rw [hy165]; with_reducible exact H) | (have H2_ := (Option.bind_some _ _).symm.trans H; rw [hy165]; with_reducible exact H2_) | (have H2_ := (Option.bind_some _ _).symm.trans H; with_reducible exact H2_) | with_reducible exact H | (rw [hy165]; exact H) | exact H
 have Ny165 := aM hy165
 clear hy165
 replace H := Option.bind_eq_some_iff.mp H
 obtain ⟨t168, A50, H⟩ := H
 try dsimp only at H
 have A5 := aM A50
 clear A50
 obtain rfl := Option.some.inj H
 go_enter Try.func55, Try.ntmps55
 try go_wp2_with (first | ((with_reducible refine gate_dst (N := 2) rfl ?_); refine box_eventG ?hg (N := 2) ?hd (cs := #[.int .i64 a0_0, .int .i64 a0_1]) (t := 34) ?hr ?_; (case hd => rfl); (case hg => rfl); (case hr => first | (go_simp; done) | (go_simp; rfl)); intro gb161 hg w6 hbox hb hgr; have HG2 := aM (hgr _ (by repeat (first | (with_reducible exact HG.out) | apply grw_drewN | apply grw_alloc | apply grw_drew))); clear HG hgr; have HG := HG2; clear HG2; have n0_ := aM (bS (bl) hb); have n1_ := aM (hbox); have n3_ := aM (gw (w := w) hg); (try clear HB); have HB := n0_; have BK161 := n1_; have GE161 := n3_; clear n0_ n1_ n3_ hb hbox hg) | ((with_reducible refine gate_dst (N := 3) rfl ?_); refine box_eventG ?hg (N := 3) ?hd (cs := #[.int .i64 a1_0, .int .i64 a1_1]) (t := 34) ?hr ?_; (case hd => rfl); (case hg => rfl); (case hr => first | (go_simp; done) | (go_simp; rfl)); intro gb162 hg w7 hbox hb hgr; have HG2 := aM (hgr _ (by repeat (first | (with_reducible exact HG.out) | apply grw_drewN | apply grw_alloc | apply grw_drew))); clear HG hgr; have HG := HG2; clear HG2; have n0_ := aM (kB (kl BK161) hb); have n1_ := aM (bS (bl) hb); have n2_ := aM (hbox); have n4_ := aM (gw (w := w) hg); (try clear BK161); (try clear HB); have BK161 := n0_; have HB := n1_; have BK162 := n2_; have GE162 := n4_; clear n0_ n1_ n2_ n4_ hb hbox hg))
 replace BK161 := aM (kD BK161.out)
 replace BK162 := aM (kD BK162.out)
 replace HB := aM (bD HB.out)
 have HG2 := aM (grw_drew (by repeat (first | (with_reducible exact HG.out) | apply grw_drewN | apply grw_alloc | apply grw_drew))); clear HG; have HG := HG2; clear HG2
 refine start_ (n := 13) (S := fun w' => w'.cell? ⟨gb161, 0, none⟩ = some (.int .i64 a0_0) ∧ w'.cell? ⟨gb161, 1, none⟩ = some (.int .i64 a0_1) ∧ w'.cell? ⟨gb162, 0, none⟩ = some (.int .i64 a1_0) ∧ w'.cell? ⟨gb162, 1, none⟩ = some (.int .i64 a1_1)) (ds := []) #[false, false, false, false, false, false, false, false, false, false, false, false, false] (by kernel_rfl) rfl rfl ⟨(kC BK161.out 0).trans rfl, (kC BK161.out 1).trans rfl, (kC BK162.out 0).trans rfl, (kC BK162.out 1).trans rfl⟩ (fun hHeld => ?_); refine with_tabW data_Users_2.tab1 data_Users_2.bits1 (fun HT_ HW_ => ?_)
 generalize w7.drew = w8 at HG BK161 BK162 HB hHeld ⊢
 refine pure_ (i := 0) (N := some 5) (v := ?_) (a' := ?_) (ba 13 1) rfl rfl (any_of HT_.out (by kernel_rfl)) (fun _ _ _ h => h) (Or.inl ⟨by rfl, ?_⟩) ?_ ?_
 rotate_left
 ·intro w'
  go_simp
  with_reducible rfl
 rotate_left
 ·simp only [Act.put, sA, sB, sC, i64_w, i32_w]
  rfl
 refine pure_ (i := 2) (N := some 7) (v := ?_) (a' := ?_) (ba 13 5) rfl rfl (any_of HT_.out (by kernel_rfl)) (fun _ _ _ h => h) (Or.inl ⟨by rfl, ?_⟩) ?_ ?_
 rotate_left
 ·intro w'
  go_simp
  with_reducible rfl
 rotate_left
 ·simp only [Act.put, sA, sB, sC, i64_w, i32_w]
  rfl
 refine pure_ (i := 5) (N := some 10) (v := ?_) (a' := ?_) (ba 13 37) rfl rfl (any_of HT_.out (by kernel_rfl)) (fun _ _ _ h => h) (Or.inl ⟨by rfl, ?_⟩) ?_ ?_
 rotate_left
 ·intro w'
  go_simp
  with_reducible rfl
 rotate_left
 ·simp only [Act.put, sA, sB, sC, i64_w, i32_w]
  rfl
 refine pure_ (i := 7) (N := some 12) (v := ?_) (a' := ?_) (ba 13 165) rfl rfl (any_of HT_.out (by kernel_rfl)) (fun _ _ _ h => h) (Or.inl ⟨by rfl, ?_⟩) ?_ ?_
 rotate_left
 ·intro w'
  go_simp
  with_reducible rfl
 rotate_left
 ·simp only [Act.put, sA, sB, sC, i64_w, i32_w]
  rfl
 refine take_ (i := 1) (N := some 6) (v := ?_) (a' := ?_) (ba 13 167) rfl rfl (take_ofW HT_.out HW_.out (by kernel_rfl)) (fun _ _ _ h => h) (Or.inl ⟨by rfl, ?_⟩) hHeld ?_ ?_
 rotate_left
 ·rintro w' ⟨s0, s1, s2, s3⟩
  go_simp
  with_reducible rfl
 rotate_left
 ·simp only [Act.put, sA, sB, sC, i64_w, i32_w]
  rfl
 refine take_ (i := 3) (N := some 8) (v := ?_) (a' := ?_) (ba 13 175) rfl rfl (take_ofW HT_.out HW_.out (by kernel_rfl)) (fun _ _ _ h => h) (Or.inl ⟨by rfl, ?_⟩) hHeld ?_ ?_
 rotate_left
 ·rintro w' ⟨s0, s1, s2, s3⟩
  go_simp
  with_reducible rfl
 rotate_left
 ·simp only [Act.put, sA, sB, sC, i64_w, i32_w]
  rfl
 refine take_ (i := 6) (N := some 11) (v := ?_) (a' := ?_) (ba 13 239) rfl rfl (take_ofW HT_.out HW_.out (by kernel_rfl)) (fun _ _ _ h => h) (Or.inl ⟨by rfl, ?_⟩) hHeld ?_ ?_
 rotate_left
 ·rintro w' ⟨s0, s1, s2, s3⟩
  go_simp
  with_reducible rfl
 rotate_left
 ·simp only [Act.put, sA, sB, sC, i64_w, i32_w]
  rfl
 refine take_ (i := 8) (N := some 13) (v := ?_) (a' := ?_) (ba 13 495) rfl rfl (take_ofW HT_.out HW_.out (by kernel_rfl)) (fun _ _ _ h => h) (Or.inl ⟨by rfl, ?_⟩) hHeld ?_ ?_
 rotate_left
 ·rintro w' ⟨s0, s1, s2, s3⟩
  go_simp
  with_reducible rfl
 rotate_left
 ·simp only [Act.put, sA, sB, sC, i64_w, i32_w]
  rfl
 refine one_ (i := 4) (N := some 9) (ba 13 511) rfl rfl (one_of HT_.out (by kernel_rfl)) (by decide) (fun K hK => ?_)
 refine goes_ Try.func57 (by kernel_rfl) rfl #[.int .i64 a0_0, .int .i64 a1_0] (by rfl) rfl rfl (by (try simp only [List.map_toArray, List.map_cons, List.map_nil]); first | done | rfl | (simp only [List.length_drop, List.length_take]; rfl)) ?_
 with_reducible refine (cmp_Compare_int.calls a0_0 a1_0 t163 _ A3.out).mono ?_
 rintro e w' ⟨rfl, ⟨nd, rfl⟩⟩
 refine ⟨_, rfl, ?_⟩
 refine hK.out _ _ ⟨(kC BK161.out 0).trans rfl, (kC BK161.out 1).trans rfl, (kC BK162.out 0).trans rfl, (kC BK162.out 1).trans rfl⟩ (fun hHeld => ?_)
 clear hK K
 refine norm_ (a' := ?_) ?_ ?_
 rotate_left
 ·show Act.put _ (some 9) _ = _
  simp only [Act.put, sA, sB, sC, i64_w, i32_w]
  rfl
 refine one_ (i := 9) (N := some 14) (ba 13 1023) rfl rfl (one_of HT_.out (by kernel_rfl)) (by decide) (fun K hK => ?_)
 refine goes_ Try.func57 (by kernel_rfl) rfl #[.int .i64 a0_1, .int .i64 a1_1] (by rfl) rfl rfl (by (try simp only [List.map_toArray, List.map_cons, List.map_nil]); first | done | rfl | (simp only [List.length_drop, List.length_take]; rfl)) ?_
 with_reducible refine (cmp_Compare_int.calls a0_1 a1_1 t164 _ A4.out).mono ?_
 rintro e w' ⟨rfl, ⟨nd, rfl⟩⟩
 refine ⟨_, rfl, ?_⟩
 refine hK.out _ _ ⟨(kC BK161.out 0).trans rfl, (kC BK161.out 1).trans rfl, (kC BK162.out 0).trans rfl, (kC BK162.out 1).trans rfl⟩ (fun hHeld => ?_)
 clear hK K
 refine norm_ (a' := ?_) ?_ ?_
 rotate_left
 ·show Act.put _ (some 14) _ = _
  simp only [Act.put, sA, sB, sC, i64_w, i32_w]
  rfl
 refine one_ (i := 10) (N := some 15) (ba 13 2047) rfl rfl (one_of HT_.out (by kernel_rfl)) (by decide) (fun K hK => ?_)
 refine lit_stepG (Kd.int .i64) _ 3 ?hg (N := 15) ?hd (xs := ([t163, t164] : List Int)) (inner := [.int .i64 t163, .int .i64 t164]) (ok := fun _ => True) (okp := fun _ => True) ?hr ?hp (fun _ hk => hk) trivial (Below.refl _ _) (Nat.le_refl _) (by simp) ?_; (case hd => rfl); (case hg => rfl); (case hr => first | (go_simp; done) | (go_simp; rfl)); (case hp => exact (Reps.one (show Kd.M (Kd.int .i64) _ _ _ t163 [.int .i64 t163] from rfl) (Reps.one (show Kd.M (Kd.int .i64) _ _ _ t164 [.int .i64 t164] from rfl) (Reps.none _ _))))
 intro v166 w9 ho10 hb hg_ hnew_ hgr
 have HG2 := aM (hgr _ (by repeat (first | (with_reducible exact HG.out) | apply grw_drewN | apply grw_alloc | apply grw_drew))); clear HG hgr; have HG := HG2; clear HG2
 clear hg_ hnew_
 (first | rw [← Ny165.out] at ho10 | (simp only [Int.reduceToNat] at ho10; rw [← Ny165.out] at ho10))
 have HO167 := aM (Kd.R_lower ho10 (below_size (bl)))
 replace BK161 := aM (kB (kl BK161) hb)
 replace BK162 := aM (kB (kl BK162) hb)
 clear HB hb ho10
 obtain ⟨Ao11, co11, eo11⟩ := Kd.R_slice HO167.out
 (first | subst eo11 | (injection eo11 with f1_ f2_ f3_; have f4_ := f1_.symm; have f5_ := f3_.symm; clear f1_ f2_ f3_; subst f4_; subst f5_))
 refine hK.out _ _ ⟨(kC BK161.out 0).trans rfl, (kC BK161.out 1).trans rfl, (kC BK162.out 0).trans rfl, (kC BK162.out 1).trans rfl⟩ (fun hHeld => ?_)
 clear hK K
 refine norm_ (a' := ?_) ?_ ?_
 rotate_left
 ·show Act.put _ (some 15) _ = _
  simp only [Act.put, sA, sB, sC, i64_w, i32_w]
  rfl
 refine one_ (i := 11) (N := some 16) (ba 13 4095) rfl rfl (one_of HT_.out (by kernel_rfl)) (by decide) (fun K hK => ?_)
 refine goes_ Try.func56 (by kernel_rfl) rfl #[.slice Ao11 y165.length co11] (by rfl) rfl rfl (by (try simp only [List.map_toArray, List.map_cons, List.map_nil]); first | done | rfl | (simp only [List.length_drop, List.length_take]; rfl)) ?_
 with_reducible refine (cmp_Or_int.calls k _ _ y165 t168 _ ?side1 ?side2 A5.out).mono ?_
 (case side1 => repeat (first | exact (rR HO167.out).2.2 | (with_reducible refine cA ?_ _) | (with_reducible refine cN ?_ _) | (with_reducible refine cD ?_)))
 (case side2 => exact (rR HO167.out).2.1)
 rintro e w' ⟨rfl, ⟨nd, rfl⟩⟩
 refine ⟨_, rfl, ?_⟩
 refine hK.out _ _ ⟨(kC BK161.out 0).trans rfl, (kC BK161.out 1).trans rfl, (kC BK162.out 0).trans rfl, (kC BK162.out 1).trans rfl⟩ (fun hHeld => ?_)
 clear hK K
 refine norm_ (a' := ?_) ?_ ?_
 rotate_left
 ·show Act.put _ (some 16) _ = _
  simp only [Act.put, sA, sB, sC, i64_w, i32_w]
  rfl
 refine pure_ (i := 12) (N := some 4) (v := ?_) (a' := ?_) (ba 13 8191) rfl rfl (any_of HT_.out (by kernel_rfl)) (fun _ _ _ h => h) (Or.inl ⟨by rfl, ?_⟩) ?_ ?_
 rotate_left
 ·intro w'
  go_simp
  with_reducible rfl
 rotate_left
 ·simp only [Act.put, sA, sB, sC, i64_w, i32_w]
  rfl
 refine done_ (done_of HT_.out (by kernel_rfl)) ?_
 try go_wp2
 go_ret
 exact ⟨by first | rfl | (simp [errW_none, errW_some] <;> rfl) | (simp [*, errW_none, errW_some] <;> rfl), by repeat (first | (with_reducible exact HG.out) | apply grw_drewN | apply grw_alloc | apply grw_drew)⟩
def cmpI (x y : Int) : Int := if x = y then 0 else if x < y then -1 else 1
theorem cmpI_f (x y : Int) : cmp_Compare_int.f x y = some (cmpI x y) := by
 unfold cmp_Compare_int.f cmpI
 by_cases h : x = y
 ·subst h; simp [cmp_isNaN_int.f]
 ·by_cases hl : x < y
  ·simp [h, hl, cmp_isNaN_int.f]
  ·have hg : x > y := by omega
   simp [h, hl, hg, cmp_isNaN_int.f]
theorem closureBy55 (x y : S34) (W : World) : Calls Try.prog 55 (#[.agg (enc34 x).toArray, .agg (enc34 y).toArray] ++ #[]) W fun e w' => e = .returned (.int .i64 (cmpBy55 x y)) ∧ ∃ q os', w' = Go.Sort.grow (W.drewN q) os' := by
 obtain ⟨a, b⟩ := x
 obtain ⟨a', b'⟩ := y
 have h : data_Users_2.f 3 a b a' b' = some (cmpBy55 ⟨a, b⟩ ⟨a', b'⟩) := by
  unfold data_Users_2.f
  rw [cmpI_f, cmpI_f]
  show (cmp_Or_int.f 3 [cmpI a a', cmpI b b']).bind (fun t => some t) = _
  have hres : cmpBy55 ⟨a, b⟩ ⟨a', b'⟩ = if cmpI a a' = 0 then cmpI b b' else cmpI a a' := by
   unfold cmpBy55 cmpI
   dsimp only
   (repeat' split) <;> omega
  rw [hres]
  generalize cmpI a a' = c
  generalize cmpI b b' = d
  unfold cmp_Or_int.f cmp_Or_int.l0
  by_cases hc : c = 0
  ·by_cases hd : d = 0 <;> simp [hc, hd, cmp_Or_int.l0, rd, wrap64]
  ·simp [hc, rd]
 exact data_Users_2.callsG 3 a b a' b' _ W h
def api_Ref_by_data_Users_2.f (l0 : List (S34)) : Option (List (S34)) := if l0.length < 4611686018427387904 then some (Go.Sort.pdq (ltOf cmpBy55) l0.toArray 0 l0.length (Lib.bitLen l0.length) true true).toList else none
theorem api_Ref_by_data_Users_2.spec (l0 r : List (S34)) (h : api_Ref_by_data_Users_2.f l0 = some r) : r.Perm l0 ∧ ∀ i j, i < j → j < r.length → ltOf cmpBy55 (r.getD j z34) (r.getD i z34) = false := by
 unfold api_Ref_by_data_Users_2.f at h
 split at h
 case isFalse => cases h
 obtain rfl := Option.some.inj h
 obtain ⟨⟨hs, _, hp⟩, ho⟩ := Go.Sort.pdq_sorts (ltOf cmpBy55) swoBy55 l0.toArray 0 l0.length (Lib.bitLen l0.length) true true (Nat.zero_le _) (by simp) (Or.inl rfl)
 generalize Go.Sort.pdq (ltOf cmpBy55) l0.toArray 0 l0.length (Lib.bitLen l0.length) true true = d at hs hp ho ⊢
 have hsl : d.size = l0.length := by simpa using hs
 refine ⟨?_, fun i j hij hj => ?_⟩
 ·have e1 : d.extract 0 l0.length = d := by rw [← hsl]; exact Array.extract_size
  have e2 : l0.toArray.extract 0 l0.length = l0.toArray := by
   have : l0.length = l0.toArray.size := by simp
   rw [this]; exact Array.extract_size
  rw [e1, e2] at hp
  exact hp
 ·have hj' : j < d.size := by simpa using hj
  have h1 := ho i j (Nat.zero_le _) hij (by omega)
  rw [getElem!_pos d j hj', getElem!_pos d i (by omega)] at h1
  rw [List.getD_eq_getElem?_getD, List.getD_eq_getElem?_getD, List.getElem?_eq_getElem hj, List.getElem?_eq_getElem (show i < d.toList.length by omega)]
  simpa using h1
set_option maxHeartbeats 4000000 in
set_option maxRecDepth 100000 in
theorem api_Ref_by_data_Users_2.calls (P0_ : Nat → Prop) (u9000_ : Value) (l0 : List (S34)) (r : List (S34)) (w0 w : World) (hB : Below w0.heap.size w0 w) (ho0 : Kd.R k34 34 w w0.heap.size P0_ u9000_ l0) (h : api_Ref_by_data_Users_2.f l0 = some r) :
  Calls Try.prog 54 #[u9000_, .func (.func 55) #[] #[]] w fun e w' => e = .returned (.tuple #[]) ∧ Kd.R k34 34 w' w0.heap.size (fun k_ => (P0_ k_ ∨ w.heap.size ≤ k_)) u9000_ r ∧ Below w0.heap.size w0 w' ∧ Kept w w' (fun k_ => P0_ k_) := by
 have hperm := (api_Ref_by_data_Users_2.spec l0 r h).1
 unfold api_Ref_by_data_Users_2.f at h
 split at h
 case isFalse => cases h
 rename_i hsz
 obtain ⟨A, c, rfl⟩ := Kd.R_slice ho0
 rcases Nat.eq_zero_or_pos l0.length with h0 | h0
 ·obtain rfl : l0 = [] := List.eq_nil_of_length_eq_zero h0
  obtain rfl : r = [] := List.Perm.eq_nil hperm
  refine (AnyF.slices_SortFunc_none { Try.laid54 with } A c (.func (.func 55) #[] #[]) w).mono ?_
  rintro e w' ⟨rfl, rfl⟩
  exact ⟨rfl, rM ho0 (fun _ hk => .inl hk), hB, Nat.le_refl _, fun _ _ _ => rfl⟩
 ·obtain ⟨g, rfl⟩ := R_head ho0 h0
  obtain rfl := Option.some.inj h
  obtain ⟨hH, hblk⟩ := holds_of_R enc34 (fun _ => rfl) (by decide) (fun h => k34_open h) ho0
  have eg : ∀ args w, (callFunc 55 args).run Try.prog w = .ok (.enter 55 args) w := enters_of Try.func55 (by kernel_rfl) rfl
  have hcon := AnyQ.slices_SortFunc_eq Try.laid54 2 Try.isAgg34 Try.sizeOf34 enc34 (fun _ => rfl) (fun x v hv => by simp [enc34] at hv; rcases hv with rfl | rfl <;> rfl) cmpBy55 swoBy55 55 #[] g 0 c l0.toArray w eg (fun m os dk hs x y => closureBy55 x y _) hH hblk (by simpa using hsz)
  have e1 : l0.toArray.size = l0.length := by simp
  rw [e1] at hcon
  refine hcon.mono ?_
  rintro e w' ⟨rfl, n, os, rfl⟩
  have hd : (Go.Sort.pdq (ltOf cmpBy55) l0.toArray 0 l0.length (Lib.bitLen l0.length) true true).size = l0.length := by
   have := hperm.length_eq
   simpa using this
  have hR := R_sortWorldK enc34 (fun _ => rfl) (by decide) (fun w base ok x => k34_mkM w base ok x) ho0 n (Go.Sort.pdq (ltOf cmpBy55) l0.toArray 0 l0.length (Lib.bitLen l0.length) true true) os hd
  have hg := grown_sortWorldK enc34 k34.sz w g n (Go.Sort.pdq (ltOf cmpBy55) l0.toArray 0 l0.length (Lib.bitLen l0.length) true true) os
  have hP : P0_ g := ho0.1 g rfl
  obtain ⟨inner, hown⟩ := Kd.R_own ho0
  refine ⟨rfl, rM hR (fun _ hk => .inl hk), hB.grown hg hB.size (fun k hk => own_base hown k hk), hg.size, fun i hi hne => hg.block i hi (fun he => hne ?_)⟩
  injection he with he
  rw [he]; exact hP
mutual
def data_Users.l0 : Nat → List (S34) → List (S45) → Int → Int → List (S39) → List (S45) → List (S51) → Int → Int → Option ((List (S34)))
 | 0, _, _, _, _, _, _, _, _, _ => none
 | k + 1, x5, x11, x12, x13, x170000, x170001, x170002, x171000, x171001 => if x13 < x12 then (if 0 ≤ x13 then (if x13 < (x11.length : Int) then (if x171000 = 1 then ((slices_Contains_int_int.f k ((rd_T45 x11 x13).f1) x171001).bind fun t173 => (if t173 = true then (if x5.length < 8796093022208 then (data_Users.l0 k (x5 ++ [(⟨2, (rd_T45 x11 x13).f0⟩ : S34)]) x11 x12 (wrap64 (x13 + 1)) x170000 x170001 x170002 x171000 x171001) else (none)) else (data_Users.l0 k x5 x11 x12 (wrap64 (x13 + 1)) x170000 x170001 x170002 x171000 x171001))) else (data_Users.l0 k x5 x11 x12 (wrap64 (x13 + 1)) x170000 x170001 x170002 x171000 x171001)) else (none)) else (none)) else (data_Users.l1 k x5 x170002 (x170002.length : Int) 0 x171000 x171001)
def data_Users.l1 : Nat → List (S34) → List (S51) → Int → Int → Int → Int → Option ((List (S34)))
 | 0, _, _, _, _, _, _ => none
 | k + 1, x5, x35, x36, x37, x171000, x171001 => if x37 < x36 then (if 0 ≤ x37 then (if x37 < (x35.length : Int) then ((api_Member_by_data_Users_1.f ((rd_T51 x35 x37).f1) x171000 x171001).bind fun t179 => (if t179 = true then (if x5.length < 8796093022208 then (data_Users.l1 k (x5 ++ [(⟨3, (rd_T51 x35 x37).f0⟩ : S34)]) x35 x36 (wrap64 (x37 + 1)) x171000 x171001) else (none)) else (data_Users.l1 k x5 x35 x36 (wrap64 (x37 + 1)) x171000 x171001))) else (none)) else (none)) else ((api_Ref_by_data_Users_2.f x5).bind fun t183 => ((api_Ref_58.f t183).bind fun t184 => (some t184)))
end
def data_Users.f (k : Nat) (l0_0 : List (S39)) (l0_1 : List (S45)) (l0_2 : List (S51)) (a1_0 : Int) (a1_1 : Int) : Option ((List (S34))) := data_Users.l0 k ([] : List (S34)) l0_1 (l0_1.length : Int) 0 l0_0 l0_1 l0_2 a1_0 a1_1
theorem data_Users.mono_l : ∀ k, (∀ y0 y1 y2 y3 y4 y5 y6 y7 y8, LeO (data_Users.l0 k y0 y1 y2 y3 y4 y5 y6 y7 y8) (data_Users.l0 (k + 1) y0 y1 y2 y3 y4 y5 y6 y7 y8)) ∧ (∀ y0 y1 y2 y3 y4 y5, LeO (data_Users.l1 k y0 y1 y2 y3 y4 y5) (data_Users.l1 (k + 1) y0 y1 y2 y3 y4 y5))
 | 0 => ⟨fun _ _ _ _ _ _ _ _ _ r h => by simp [data_Users.l0] at h, fun _ _ _ _ _ _ r h => by simp [data_Users.l1] at h⟩
 | k + 1 => by
  obtain ⟨ih0, ih1⟩ := data_Users.mono_l k
  refine ⟨?_, ?_⟩
  ·intro y0 y1 y2 y3 y4 y5 y6 y7 y8
   unfold data_Users.l0
   repeat' first
   | (with_reducible exact ih0 _ _ _ _ _ _ _ _ _)
   | (with_reducible exact ih1 _ _ _ _ _ _)
   | (with_reducible exact slices_Contains_int_int.mono _ _ _)
   | (with_reducible exact LeO.refl _)
   | (with_reducible exact LeO.none _)
   | (with_reducible refine LeO.ite ?_ ?_)
   | (with_reducible refine LeO.bind ?_ (fun _ => ?_))
   | exact ih0 _ _ _ _ _ _ _ _ _
   | exact ih1 _ _ _ _ _ _
   | exact slices_Contains_int_int.mono _ _ _
   | exact LeO.none _
   | refine LeO.ite ?_ ?_
   | refine LeO.bind ?_ (fun _ => ?_)
  ·intro y0 y1 y2 y3 y4 y5
   unfold data_Users.l1
   repeat' first
   | (with_reducible exact ih0 _ _ _ _ _ _ _ _ _)
   | (with_reducible exact ih1 _ _ _ _ _ _)
   | (with_reducible exact slices_Contains_int_int.mono _ _ _)
   | (with_reducible exact LeO.refl _)
   | (with_reducible exact LeO.none _)
   | (with_reducible refine LeO.ite ?_ ?_)
   | (with_reducible refine LeO.bind ?_ (fun _ => ?_))
   | exact ih0 _ _ _ _ _ _ _ _ _
   | exact ih1 _ _ _ _ _ _
   | exact slices_Contains_int_int.mono _ _ _
   | exact LeO.none _
   | refine LeO.ite ?_ ?_
   | refine LeO.bind ?_ (fun _ => ?_)
theorem data_Users.mono : ∀ a0 a1 a2 a3 a4 k, LeO (data_Users.f k a0 a1 a2 a3 a4) (data_Users.f (k + 1) a0 a1 a2 a3 a4) := by
 intro a0 a1 a2 a3 a4 k
 obtain ⟨ih0, ih1⟩ := data_Users.mono_l k
 unfold data_Users.f
 repeat' first
   | (with_reducible exact ih0 _ _ _ _ _ _ _ _ _)
   | (with_reducible exact ih1 _ _ _ _ _ _)
   | (with_reducible exact slices_Contains_int_int.mono _ _ _)
   | (with_reducible exact LeO.refl _)
   | (with_reducible exact LeO.none _)
   | (with_reducible refine LeO.ite ?_ ?_)
   | (with_reducible refine LeO.bind ?_ (fun _ => ?_))
   | exact ih0 _ _ _ _ _ _ _ _ _
   | exact ih1 _ _ _ _ _ _
   | exact slices_Contains_int_int.mono _ _ _
   | exact LeO.none _
   | refine LeO.ite ?_ ?_
   | refine LeO.bind ?_ (fun _ => ?_)
set_option maxHeartbeats 8000000 in
set_option maxRecDepth 100000 in
theorem data_Users.calls (k : Nat) (A0_0 : Option Addr) (c0_0 : Nat) (l0_0 : List (S39)) (A0_1 : Option Addr) (c0_1 : Nat) (l0_1 : List (S45)) (A0_2 : Option Addr) (c0_2 : Nat) (l0_2 : List (S51)) (a1_0 : Int) (a1_1 : Int) (r : List (S34)) (w : World) (hr0_0 : Kd.C k39 w A0_0 l0_0.length l0_0) (hc0_0 : l0_0.length ≤ c0_0) (hr0_1 : Kd.C k45 w A0_1 l0_1.length l0_1) (hc0_1 : l0_1.length ≤ c0_1) (hr0_2 : Kd.C k51 w A0_2 l0_2.length l0_2) (hc0_2 : l0_2.length ≤ c0_2) (h : data_Users.f k l0_0 l0_1 l0_2 a1_0 a1_1 = some r) :
  Calls Try.prog 24 #[.agg #[.slice A0_0 l0_0.length c0_0, .slice A0_1 l0_1.length c0_1, .slice A0_2 l0_2.length c0_2], .agg #[.int .i64 a1_0, .int .i64 a1_1]] w fun e w' => ∃ v0_ : Value, e = .returned (v0_) ∧ Kd.R k34 34 w' w.heap.size (fun _ => True) v0_ r ∧ Below w.heap.size w w' := by
 have hu26 := Try.underlying26
 have hu34 := Try.underlying34
 have hu45 := Try.underlying45
 have hu51 := Try.underlying51
 have HR0_0 := aM hr0_0
 have HC0_0 := aM hc0_0
 clear hr0_0 hc0_0
 have HR0_1 := aM hr0_1
 have HC0_1 := aM hc0_1
 clear hr0_1 hc0_1
 have HR0_2 := aM hr0_2
 have HC0_2 := aM hc0_2
 clear hr0_2 hc0_2
 have HB := aM (Below.refl w.heap.size w)
 have H : (data_Users.l0 k ([] : List (S34)) l0_1 (l0_1.length : Int) 0 l0_0 l0_1 l0_2 a1_0 a1_1) = some r := h
 clear h
 have H' := aM H
 clear H
 go_enter Try.func24, Try.ntmps24
 go_wp2_with (first | ((with_reducible refine gate_dst (N := 2) rfl ?_); refine bx (N := 2) (cs := #[.slice A0_0 l0_0.length c0_0, .slice A0_1 l0_1.length c0_1, .slice A0_2 l0_2.length c0_2]) (t := 26) ?_; intro gb169 hg w3 hbox hb; have n0_ := aM (bS (bl) hb); have n1_ := aM (hbox); have n3_ := aM (gw (w := w) hg); (try clear HB); have HB := n0_; have BK169 := n1_; have GE169 := n3_; clear n0_ n1_ n3_ hb hbox hg) | ((with_reducible refine gate_dst (N := 3) rfl ?_); refine bx (N := 3) (cs := #[.int .i64 a1_0, .int .i64 a1_1]) (t := 34) ?_; intro gb170 hg w4 hbox hb; have n0_ := aM (kB (kl BK169) hb); have n1_ := aM (bS (bl) hb); have n2_ := aM (hbox); have n4_ := aM (gw (w := w) hg); have n5_ := aM (nb BK169 hg); have n6_ := aM (nb BK169 hg).symm; (try clear BK169); (try clear HB); have BK169 := n0_; have HB := n1_; have BK170 := n2_; have GE170 := n4_; have NB169_170 := n5_; have NB170_169 := n6_; clear n0_ n1_ n2_ n4_ n5_ n6_ hb hbox hg; have hnb5 := NB169_170.out; have hnc5 := NB170_169.out; obtain ⟨hcz6_0, hcz6_1, hcz6_2, hfz6_0, hfz6_1, hfz6_2⟩ := bc3 BK169))
 go_loopg [5, 13] k (fun kq v5 v13 w' => ∃ (x5_1 : List (S34)) (x13_1 : Int), v13 = .int .i64 x13_1 ∧ Aside0 (data_Users.l0 kq x5_1 l0_1 (l0_1.length : Int) x13_1 l0_0 l0_1 l0_2 a1_0 a1_1 = some r) ∧ Aside0 (kq ≤ k) ∧ Aside0 (Kd.R k34 34 w' w.heap.size (fun k_ => k_ ≠ gb170) v5 x5_1) ∧ Aside0 (w'.heap[gb169]? = some (.cells #[(.slice A0_0 l0_0.length c0_0), (.slice A0_1 l0_1.length c0_1), (.slice A0_2 l0_2.length c0_2)] 26 (0, 0))) ∧ Aside0 (w'.heap[gb170]? = some (.cells #[.int .i64 a1_0, .int .i64 a1_1] 34 (0, 0))) ∧ Aside0 (Below w.heap.size w w'))
 case atStart => exact ⟨(([] : List (S34))), (0), (by first | rfl | (simp; done) | (simp [*]; done)), H', ⟨Nat.le_refl _⟩, ⟨by first | exact Kd.R_nil _ _ _ _ _ | exact Kd.N_nil _ _ _ _ _ | exact Kd.V_nil _ _ _ _ _ | exact Kd.Q_nil _ _ _ _ _ | exact Kd.S_nil _ _ _ _ _⟩, ⟨by (with_reducible repeat (first | refine kN ?_ _ | refine kD ?_ | refine kA ?_ _)); exact BK169.out⟩, ⟨by (with_reducible repeat (first | refine kN ?_ _ | refine kD ?_ | refine kA ?_ _)); exact BK170.out⟩, ⟨bl⟩⟩
 case round =>
  clear H'
  try clear c2
  try clear p2
  try clear c5
  try clear hcz6_0 hcz6_1 hcz6_2 hfz6_0 hfz6_1 hfz6_2
  obtain ⟨x5_1, x13_1, rfl, HA, HK1, HO_5, BK169, BK170, HB⟩ := hrel
  cases gk with
  | zero => exact absurd HA.out (by simp [data_Users.l0])
  | succ k1 =>
   have H := HA.out
   clear HA
   simp only [data_Users.l0] at H
   by_cases c7 : x13_1 < (l0_1.length : Int)
   ·rw [if_pos c7] at H
    have c7b0 : decide (x13_1 < (l0_1.length : Int)) = true := decide_eq_true c7
    clear c7
    by_cases c8 : 0 ≤ x13_1
    ·rw [if_pos c8] at H
     have c8b0 : decide (0 ≤ x13_1) = true := decide_eq_true c8
     clear c8
     by_cases c9 : x13_1 < (l0_1.length : Int)
     ·rw [if_pos c9] at H
      have c9b0 : decide (x13_1 < (l0_1.length : Int)) = true := decide_eq_true c9
      clear c9
      by_cases c10 : a1_0 = 1
      ·rw [if_pos c10] at H
       have c10b0 : (a1_0 == 1) = true := beq_iff_eq.mpr c10
       have c10b1 : (a1_0 != 1) = false := bne_eq_false_iff_eq.mpr c10
       clear c10
       replace H := Option.bind_eq_some_iff.mp H
       obtain ⟨t173, A110, H⟩ := H
       try dsimp only at H
       have A11 := aM A110
       clear A110
       by_cases c12 : t173 = true
       ·subst c12
        have H1 : (if x5_1.length < 8796093022208 then (data_Users.l0 k1 (x5_1 ++ [(⟨2, (rd_T45 l0_1 x13_1).f0⟩ : S34)]) l0_1 (l0_1.length : Int) (wrap64 (x13_1 + 1)) l0_0 l0_1 l0_2 a1_0 a1_1) else (none)) = some r := by rw [if_pos rfl] at H; exact H
        clear H
        have H := H1
        clear H1
        by_cases c13 : x5_1.length < 8796093022208
        ·rw [if_pos c13] at H
         have LMc13 := aM c13
         clear c13
         obtain ⟨y174, hy174⟩ : ∃ y_ : List (S34), y_ = (x5_1 ++ [(⟨2, (rd_T45 l0_1 x13_1).f0⟩ : S34)]) := ⟨_, rfl⟩
         replace H : (data_Users.l0 k1 y174 l0_1 (l0_1.length : Int) (wrap64 (x13_1 + 1)) l0_0 l0_1 l0_2 a1_0 a1_1) = some r := by first | (rw [hy174]; with_reducible exact H) | (have H2_ := (Option.bind_some _ _).symm.trans H; rw [hy174]; with_reducible exact H2_) | (have H2_ := (Option.bind_some _ _).symm.trans H; with_reducible exact H2_) | with_reducible exact H | (rw [hy174]; exact H) | exact H
         have Ny174 := aM hy174
         clear hy174
         have H' := aM H
         clear H
         have p171 : 0 ≤ (x13_1 : Int) := oT
         have q171 : x13_1 < (l0_1.length : Int) := oT
         obtain ⟨ad171, A171_1, c171_1, A171_2, c171_2, e171, hx171_0, hx171_1, hx171_2, hl171_1, hi171_1, hl171_2, hi171_2⟩ := at_T45 HR0_1.out x13_1 p171 q171
         cases e171
         replace hx171_0 := hs HB.out hx171_0
         replace hx171_1 := hs HB.out hx171_1
         replace hx171_2 := hs HB.out hx171_2
         have HR171_1 := aM hi171_1
         have HC171_1 := aM hl171_1
         clear hi171_1 hl171_1
         have HR171_2 := aM hi171_2
         have HC171_2 := aM hl171_2
         clear hi171_2 hl171_2
         replace p171 := eq_true p171
         replace q171 := eq_true q171
         go_wp2_with (first | ((with_reducible refine gate_dst (N := 7) rfl ?_); refine bx (N := 7) (cs := #[.int .i64 0, .slice none 0 0, .slice none 0 0]) (t := 45) ?_; intro gb172 hg w14 hbox hb; have n0_ := aM (rB (rl HO_5) hb); have n1_ := aM (kB (kl BK169) hb); have n2_ := aM (kB (kl BK170) hb); have n3_ := aM (bS (bl) hb); have n4_ := aM (hbox); have n6_ := aM (gw (w := w) hg); have n7_ := aM (nb BK169 hg); have n8_ := aM (nb BK169 hg).symm; have n9_ := aM (nb BK170 hg); have n10_ := aM (nb BK170 hg).symm; (try clear HO_5); (try clear BK169); (try clear BK170); (try clear HB); have HO_5 := n0_; have BK169 := n1_; have BK170 := n2_; have HB := n3_; have BK172 := n4_; have GE172 := n6_; have NB169_172 := n7_; have NB172_169 := n8_; have NB170_172 := n9_; have NB172_170 := n10_; clear n0_ n1_ n2_ n3_ n4_ n6_ n7_ n8_ n9_ n10_ hb hbox hg; have hnb15 := NB172_169.out; have hnc15 := NB169_172.out; have hnb16 := NB172_170.out; have hnc16 := NB170_172.out; obtain ⟨hcz17_0, hcz17_1, hcz17_2, hfz17_0, hfz17_1, hfz17_2⟩ := bc3 BK172; have hnb18 := NB170_169.out; have hnc18 := NB169_170.out; obtain ⟨hcz19_0, hcz19_1, hfz19_0, hfz19_1⟩ := bc2 BK170) | (go_at_call 51; (with_reducible refine (slices_Contains_int_int.calls k1 _ _ ((rd_T45 l0_1 x13_1).f1) a1_1 true _ ?side1 ?side2 A11.out).mono ?_); (case side1 => exact Kd.C_below HR171_1.out (bl)); (case side2 => exact HC171_1.out); rintro e w' ⟨rfl, ⟨nd, rfl⟩⟩) | ((with_reducible refine gate_builtin (b := .append) (xs := #[.tmp 27, .tmp 31]) rfl ?_); at_builtin; refine Kd.R_append k34 (w0 := w) w.heap.size rfl (.tmp 27) (.tmp 31) 57 34 (.agg #[(.int .i64 0), (.int .i64 0)]) 16 rfl Try.underlying57 info34 rfl (by decide) (by omega) u5 x5_1 (⟨2, (rd_T45 l0_1 x13_1).f0⟩ : S34) [.int .i64 2, .int .i64 ((rd_T45 l0_1 x13_1).f0)] (fun k_ => k_ ≠ gb170) (fun _ => False) rfl (by first | (go_simp; done) | (go_simp; rfl)) ?aP (fun _ hk => hk.elim) ?aF ?aO ?aB ?aS ?aL ?_; (case aP => exact k34_mkM _ _ _ (⟨2, (rd_T45 l0_1 x13_1).f0⟩ : S34)); (case aB => exact (bl)); (case aF => exact (fun k_ hk => Kd.freshB (g := gb170) (o := .cells #[.int .i64 a1_0, .int .i64 a1_1] 34 (0, 0)) (by (with_reducible repeat (first | refine kN ?_ _ | refine kD ?_ | refine kA ?_ _)); refine blk_far ?_ NB170_172.out _; (with_reducible repeat (first | refine kN ?_ _ | refine kD ?_ | refine kA ?_ _)); refine blk_far ?_ NB170_172.out _; (with_reducible repeat (first | refine kN ?_ _ | refine kD ?_ | refine kA ?_ _)); refine blk_far ?_ NB170_172.out _; (with_reducible repeat (first | refine kN ?_ _ | refine kD ?_ | refine kA ?_ _)); exact BK170.out) k_ hk)); (case aO => exact (by (with_reducible repeat (first | apply rA | apply rN | apply rD)); exact rM (Kd.R_far (p := ⟨gb172, 2, none⟩) (Kd.R_far (p := ⟨gb172, 1, none⟩) (Kd.R_far (p := ⟨gb172, 0, none⟩) (Kd.R_types HO_5.out BK172.out (by decide)) (fun _ hk => hk.2) (.int .i64 ((rd_T45 l0_1 x13_1).f0))) (fun _ hk => hk.2) (.slice A171_1 ((rd_T45 l0_1 x13_1).f1).length c171_1)) (fun _ hk => hk.2) (.slice A171_2 ((rd_T45 l0_1 x13_1).f2).length c171_2)) (fun _ hk => hk.1))); (case aS => exact (below_size (bl))); (case aL => have := LMc13.out; omega); intro v175 w20 ho hb hg hat; rw [← Ny174.out] at ho; have HO176 := aM (ho); replace BK169 := aM (blk_grown (g := gb169) (o := .cells #[.slice A0_0 l0_0.length c0_0, .slice (some ad171) l0_1.length c0_1, .slice A0_2 l0_2.length c0_2] 26 (0, 0)) (by (with_reducible repeat (first | refine kN ?_ _ | refine kD ?_ | refine kA ?_ _)); refine blk_far ?_ NB169_172.out _; (with_reducible repeat (first | refine kN ?_ _ | refine kD ?_ | refine kA ?_ _)); refine blk_far ?_ NB169_172.out _; (with_reducible repeat (first | refine kN ?_ _ | refine kD ?_ | refine kA ?_ _)); refine blk_far ?_ NB169_172.out _; (with_reducible repeat (first | refine kN ?_ _ | refine kD ?_ | refine kA ?_ _)); exact BK169.out) hg (Kd.R_ne HO_5.out BK169.out (by decide))); replace BK170 := aM (blk_grown (g := gb170) (o := .cells #[.int .i64 a1_0, .int .i64 a1_1] 34 (0, 0)) (by (with_reducible repeat (first | refine kN ?_ _ | refine kD ?_ | refine kA ?_ _)); refine blk_far ?_ NB170_172.out _; (with_reducible repeat (first | refine kN ?_ _ | refine kD ?_ | refine kA ?_ _)); refine blk_far ?_ NB170_172.out _; (with_reducible repeat (first | refine kN ?_ _ | refine kD ?_ | refine kA ?_ _)); refine blk_far ?_ NB170_172.out _; (with_reducible repeat (first | refine kN ?_ _ | refine kD ?_ | refine kA ?_ _)); exact BK170.out) hg (Kd.R_away HO_5.out (fun _ hk => hk))); replace BK172 := aM (blk_grown (g := gb172) (o := .cells #[.int .i64 ((rd_T45 l0_1 x13_1).f0), .slice A171_1 ((rd_T45 l0_1 x13_1).f1).length c171_1, .slice A171_2 ((rd_T45 l0_1 x13_1).f2).length c171_2] 45 (0, 0)) (by (with_reducible repeat (first | refine kN ?_ _ | refine kD ?_ | refine kA ?_ _)); refine kP (cs := #[.int .i64 ((rd_T45 l0_1 x13_1).f0), .slice A171_1 ((rd_T45 l0_1 x13_1).f1).length c171_1, .slice none 0 0]) ?_ 2 _ rfl; (with_reducible repeat (first | refine kN ?_ _ | refine kD ?_ | refine kA ?_ _)); refine kP (cs := #[.int .i64 ((rd_T45 l0_1 x13_1).f0), .slice none 0 0, .slice none 0 0]) ?_ 1 _ rfl; (with_reducible repeat (first | refine kN ?_ _ | refine kD ?_ | refine kA ?_ _)); refine kP (cs := #[.int .i64 0, .slice none 0 0, .slice none 0 0]) ?_ 0 _ rfl; (with_reducible repeat (first | refine kN ?_ _ | refine kD ?_ | refine kA ?_ _)); exact BK172.out) hg (Kd.R_ne HO_5.out BK172.out (by decide))); replace HB := aM (hb); clear HO_5 ho hb hg hat))
         go_roundg k1
         case measure => have := HK1.out; omega
         case rel => exact ⟨(y174), (wrap64 (x13_1 + 1)), (by first | rfl | (simp; done) | (simp [*]; done)), H', ⟨by have := HK1.out; omega⟩, ⟨by (with_reducible repeat (first | apply rA | apply rN | apply rD)); exact HO176.out⟩, ⟨by (with_reducible repeat (first | refine kN ?_ _ | refine kD ?_ | refine kA ?_ _)); exact BK169.out⟩, ⟨by (with_reducible repeat (first | refine kN ?_ _ | refine kD ?_ | refine kA ?_ _)); exact BK170.out⟩, ⟨bl⟩⟩
        ·rw [if_neg c13] at H
         exact absurd H (by simp)
       ·replace c12 := Bool.eq_false_iff.mpr c12
        subst c12
        have H1 : (data_Users.l0 k1 x5_1 l0_1 (l0_1.length : Int) (wrap64 (x13_1 + 1)) l0_0 l0_1 l0_2 a1_0 a1_1) = some r := by rw [if_neg (show ¬ (false = true) by decide)] at H; exact H
        clear H
        have H := H1
        clear H1
        have H' := aM H
        clear H
        have p171 : 0 ≤ (x13_1 : Int) := oT
        have q171 : x13_1 < (l0_1.length : Int) := oT
        obtain ⟨ad171, A171_1, c171_1, A171_2, c171_2, e171, hx171_0, hx171_1, hx171_2, hl171_1, hi171_1, hl171_2, hi171_2⟩ := at_T45 HR0_1.out x13_1 p171 q171
        cases e171
        replace hx171_0 := hs HB.out hx171_0
        replace hx171_1 := hs HB.out hx171_1
        replace hx171_2 := hs HB.out hx171_2
        have HR171_1 := aM hi171_1
        have HC171_1 := aM hl171_1
        clear hi171_1 hl171_1
        have HR171_2 := aM hi171_2
        have HC171_2 := aM hl171_2
        clear hi171_2 hl171_2
        replace p171 := eq_true p171
        replace q171 := eq_true q171
        go_wp2_with (first | ((with_reducible refine gate_dst (N := 7) rfl ?_); refine bx (N := 7) (cs := #[.int .i64 0, .slice none 0 0, .slice none 0 0]) (t := 45) ?_; intro gb172 hg w21 hbox hb; have BK172 := aM (hbox); have GE172 := aM (gw (w := w) hg); have NB169_172 := aM (nb BK169 hg); have NB172_169 := aM (nb BK169 hg).symm; have NB170_172 := aM (nb BK170 hg); have NB172_170 := aM (nb BK170 hg).symm; replace HO_5 := aM (rB (rl HO_5) hb); replace BK169 := aM (kB (kl BK169) hb); replace BK170 := aM (kB (kl BK170) hb); replace HB := aM (bS (bl) hb); clear hb hbox hg; have hnb22 := NB172_169.out; have hnc22 := NB169_172.out; have hnb23 := NB172_170.out; have hnc23 := NB170_172.out; obtain ⟨hcz24_0, hcz24_1, hcz24_2, hfz24_0, hfz24_1, hfz24_2⟩ := bc3 BK172; have hnb25 := NB170_169.out; have hnc25 := NB169_170.out; obtain ⟨hcz26_0, hcz26_1, hfz26_0, hfz26_1⟩ := bc2 BK170) | (go_at_call 51; (with_reducible refine (slices_Contains_int_int.calls k1 _ _ ((rd_T45 l0_1 x13_1).f1) a1_1 false _ ?side1 ?side2 A11.out).mono ?_); (case side1 => exact Kd.C_below HR171_1.out (bl)); (case side2 => exact HC171_1.out); rintro e w' ⟨rfl, ⟨nd, rfl⟩⟩))
        go_roundg k1
        case measure => have := HK1.out; omega
        case rel => exact ⟨(x5_1), (wrap64 (x13_1 + 1)), (by first | rfl | (simp; done) | (simp [*]; done)), H', ⟨by have := HK1.out; omega⟩, ⟨by (with_reducible repeat (first | apply rA | apply rN | apply rD)); exact rM (Kd.R_far (p := ⟨gb172, 2, none⟩) (Kd.R_far (p := ⟨gb172, 1, none⟩) (Kd.R_far (p := ⟨gb172, 0, none⟩) (Kd.R_types HO_5.out BK172.out (by decide)) (fun _ hk => hk.2) (.int .i64 ((rd_T45 l0_1 x13_1).f0))) (fun _ hk => hk.2) (.slice A171_1 ((rd_T45 l0_1 x13_1).f1).length c171_1)) (fun _ hk => hk.2) (.slice A171_2 ((rd_T45 l0_1 x13_1).f2).length c171_2)) (fun _ hk => hk.1)⟩, ⟨by (with_reducible repeat (first | refine kN ?_ _ | refine kD ?_ | refine kA ?_ _)); refine blk_far ?_ NB169_172.out _; (with_reducible repeat (first | refine kN ?_ _ | refine kD ?_ | refine kA ?_ _)); refine blk_far ?_ NB169_172.out _; (with_reducible repeat (first | refine kN ?_ _ | refine kD ?_ | refine kA ?_ _)); refine blk_far ?_ NB169_172.out _; (with_reducible repeat (first | refine kN ?_ _ | refine kD ?_ | refine kA ?_ _)); exact BK169.out⟩, ⟨by (with_reducible repeat (first | refine kN ?_ _ | refine kD ?_ | refine kA ?_ _)); refine blk_far ?_ NB170_172.out _; (with_reducible repeat (first | refine kN ?_ _ | refine kD ?_ | refine kA ?_ _)); refine blk_far ?_ NB170_172.out _; (with_reducible repeat (first | refine kN ?_ _ | refine kD ?_ | refine kA ?_ _)); refine blk_far ?_ NB170_172.out _; (with_reducible repeat (first | refine kN ?_ _ | refine kD ?_ | refine kA ?_ _)); exact BK170.out⟩, ⟨bl⟩⟩
      ·rw [if_neg c10] at H
       have c10b0 : (a1_0 == 1) = false := beq_eq_false_iff_ne.mpr c10
       have c10b1 : (a1_0 != 1) = true := bne_iff_ne.mpr c10
       have H' := aM H
       clear H
       have p171 : 0 ≤ (x13_1 : Int) := oT
       have q171 : x13_1 < (l0_1.length : Int) := oT
       obtain ⟨ad171, A171_1, c171_1, A171_2, c171_2, e171, hx171_0, hx171_1, hx171_2, hl171_1, hi171_1, hl171_2, hi171_2⟩ := at_T45 HR0_1.out x13_1 p171 q171
       cases e171
       replace hx171_0 := hs HB.out hx171_0
       replace hx171_1 := hs HB.out hx171_1
       replace hx171_2 := hs HB.out hx171_2
       have HR171_1 := aM hi171_1
       have HC171_1 := aM hl171_1
       clear hi171_1 hl171_1
       have HR171_2 := aM hi171_2
       have HC171_2 := aM hl171_2
       clear hi171_2 hl171_2
       replace p171 := eq_true p171
       replace q171 := eq_true q171
       go_wp2_with (first | ((with_reducible refine gate_dst (N := 7) rfl ?_); refine bx (N := 7) (cs := #[.int .i64 0, .slice none 0 0, .slice none 0 0]) (t := 45) ?_; intro gb172 hg w27 hbox hb; have BK172 := aM (hbox); have GE172 := aM (gw (w := w) hg); have NB169_172 := aM (nb BK169 hg); have NB172_169 := aM (nb BK169 hg).symm; have NB170_172 := aM (nb BK170 hg); have NB172_170 := aM (nb BK170 hg).symm; replace HO_5 := aM (rB (rl HO_5) hb); replace BK169 := aM (kB (kl BK169) hb); replace BK170 := aM (kB (kl BK170) hb); replace HB := aM (bS (bl) hb); clear hb hbox hg; have hnb28 := NB172_169.out; have hnc28 := NB169_172.out; have hnb29 := NB172_170.out; have hnc29 := NB170_172.out; obtain ⟨hcz30_0, hcz30_1, hcz30_2, hfz30_0, hfz30_1, hfz30_2⟩ := bc3 BK172; have hnb31 := NB170_169.out; have hnc31 := NB169_170.out; obtain ⟨hcz32_0, hcz32_1, hfz32_0, hfz32_1⟩ := bc2 BK170))
       go_roundg k1
       case measure => have := HK1.out; omega
       case rel => exact ⟨(x5_1), (wrap64 (x13_1 + 1)), (by first | rfl | (simp; done) | (simp [*]; done)), H', ⟨by have := HK1.out; omega⟩, ⟨by (with_reducible repeat (first | apply rA | apply rN | apply rD)); exact rM (Kd.R_far (p := ⟨gb172, 2, none⟩) (Kd.R_far (p := ⟨gb172, 1, none⟩) (Kd.R_far (p := ⟨gb172, 0, none⟩) (Kd.R_types HO_5.out BK172.out (by decide)) (fun _ hk => hk.2) (.int .i64 ((rd_T45 l0_1 x13_1).f0))) (fun _ hk => hk.2) (.slice A171_1 ((rd_T45 l0_1 x13_1).f1).length c171_1)) (fun _ hk => hk.2) (.slice A171_2 ((rd_T45 l0_1 x13_1).f2).length c171_2)) (fun _ hk => hk.1)⟩, ⟨by (with_reducible repeat (first | refine kN ?_ _ | refine kD ?_ | refine kA ?_ _)); refine blk_far ?_ NB169_172.out _; (with_reducible repeat (first | refine kN ?_ _ | refine kD ?_ | refine kA ?_ _)); refine blk_far ?_ NB169_172.out _; (with_reducible repeat (first | refine kN ?_ _ | refine kD ?_ | refine kA ?_ _)); refine blk_far ?_ NB169_172.out _; (with_reducible repeat (first | refine kN ?_ _ | refine kD ?_ | refine kA ?_ _)); exact BK169.out⟩, ⟨by (with_reducible repeat (first | refine kN ?_ _ | refine kD ?_ | refine kA ?_ _)); refine blk_far ?_ NB170_172.out _; (with_reducible repeat (first | refine kN ?_ _ | refine kD ?_ | refine kA ?_ _)); refine blk_far ?_ NB170_172.out _; (with_reducible repeat (first | refine kN ?_ _ | refine kD ?_ | refine kA ?_ _)); refine blk_far ?_ NB170_172.out _; (with_reducible repeat (first | refine kN ?_ _ | refine kD ?_ | refine kA ?_ _)); exact BK170.out⟩, ⟨bl⟩⟩
     ·rw [if_neg c9] at H
      exact absurd H (by simp)
    ·rw [if_neg c8] at H
     exact absurd H (by simp)
   ·rw [if_neg c7] at H
    have c7b0 : decide (x13_1 < (l0_1.length : Int)) = false := decide_eq_false c7
    clear c7
    have H' := aM H
    clear H
    have hnb33 := NB169_170.out
    have hnc33 := NB170_169.out
    obtain ⟨hcz34_0, hcz34_1, hcz34_2, hfz34_0, hfz34_1, hfz34_2⟩ := bc3 BK169
    go_wp2
    go_loopg [5, 37] k1 (fun kq v5 v37 w' => ∃ (x5_2 : List (S34)) (x37_2 : Int), v37 = .int .i64 x37_2 ∧ Aside0 (data_Users.l1 kq x5_2 l0_2 (l0_2.length : Int) x37_2 a1_0 a1_1 = some r) ∧ Aside0 (kq ≤ k1) ∧ Aside0 (Kd.R k34 34 w' w.heap.size (fun k_ => k_ ≠ gb170) v5 x5_2) ∧ Aside0 (w'.heap[gb169]? = some (.cells #[(.slice A0_0 l0_0.length c0_0), (.slice A0_1 l0_1.length c0_1), (.slice A0_2 l0_2.length c0_2)] 26 (0, 0))) ∧ Aside0 (w'.heap[gb170]? = some (.cells #[.int .i64 a1_0, .int .i64 a1_1] 34 (0, 0))) ∧ Aside0 (Below w.heap.size w w'))
    case atStart => exact ⟨(x5_1), (0), (by first | rfl | (simp; done) | (simp [*]; done)), H', ⟨Nat.le_refl _⟩, ⟨by (with_reducible repeat (first | apply rA | apply rN | apply rD)); exact HO_5.out⟩, ⟨by (with_reducible repeat (first | refine kN ?_ _ | refine kD ?_ | refine kA ?_ _)); exact BK169.out⟩, ⟨by (with_reducible repeat (first | refine kN ?_ _ | refine kD ?_ | refine kA ?_ _)); exact BK170.out⟩, ⟨bl⟩⟩
    case round =>
     clear H'
     try clear c1
     try clear p1
     try clear q1
     try clear hx1
     try clear c2
     try clear p2
     try clear c3
     try clear c5
     try clear p6
     try clear c7
     try clear c7b0
     try clear c8
     try clear c8b0
     try clear c9
     try clear c9b0
     try clear c10
     try clear c10b0
     try clear c10b1
     try clear c12
     try clear c13
     try clear c15
     try clear c16
     try clear c17
     try clear p17
     try clear q17
     try clear hx17
     try clear c18
     try clear c22
     try clear c23
     try clear c24
     try clear c25
     try clear c28
     try clear c29
     try clear c31
     try clear c33
     try clear hcz17_0 hcz17_1 hcz17_2 hfz17_0 hfz17_1 hfz17_2
     try clear hcz19_0 hcz19_1 hfz19_0 hfz19_1
     try clear hcz24_0 hcz24_1 hcz24_2 hfz24_0 hfz24_1 hfz24_2
     try clear hcz26_0 hcz26_1 hfz26_0 hfz26_1
     try clear hcz30_0 hcz30_1 hcz30_2 hfz30_0 hfz30_1 hfz30_2
     try clear hcz32_0 hcz32_1 hfz32_0 hfz32_1
     try clear hcz34_0 hcz34_1 hcz34_2 hfz34_0 hfz34_1 hfz34_2
     try clear hcz6_0 hcz6_1 hcz6_2 hfz6_0 hfz6_1 hfz6_2
     try clear hx171_0
     try clear hx171_1
     try clear hx171_2
     try clear p171
     try clear p2
     try clear q171
     obtain ⟨x5_2, x37_2, rfl, HA, HK2, HO_5, BK169, BK170, HB⟩ := hrel
     cases gk with
     | zero => exact absurd HA.out (by simp [data_Users.l1])
     | succ k2 =>
      have H := HA.out
      clear HA
      simp only [data_Users.l1] at H
      by_cases c35 : x37_2 < (l0_2.length : Int)
      ·rw [if_pos c35] at H
       have c35b0 : decide (x37_2 < (l0_2.length : Int)) = true := decide_eq_true c35
       clear c35
       by_cases c36 : 0 ≤ x37_2
       ·rw [if_pos c36] at H
        have c36b0 : decide (0 ≤ x37_2) = true := decide_eq_true c36
        clear c36
        by_cases c37 : x37_2 < (l0_2.length : Int)
        ·rw [if_pos c37] at H
         have c37b0 : decide (x37_2 < (l0_2.length : Int)) = true := decide_eq_true c37
         clear c37
         replace H := Option.bind_eq_some_iff.mp H
         obtain ⟨t179, A380, H⟩ := H
         try dsimp only at H
         have A38 := aM A380
         clear A380
         by_cases c39 : t179 = true
         ·subst c39
          have H1 : (if x5_2.length < 8796093022208 then (data_Users.l1 k2 (x5_2 ++ [(⟨3, (rd_T51 l0_2 x37_2).f0⟩ : S34)]) l0_2 (l0_2.length : Int) (wrap64 (x37_2 + 1)) a1_0 a1_1) else (none)) = some r := by rw [if_pos rfl] at H; exact H
          clear H
          have H := H1
          clear H1
          by_cases c40 : x5_2.length < 8796093022208
          ·rw [if_pos c40] at H
           have LMc40 := aM c40
           clear c40
           obtain ⟨y180, hy180⟩ : ∃ y_ : List (S34), y_ = (x5_2 ++ [(⟨3, (rd_T51 l0_2 x37_2).f0⟩ : S34)]) := ⟨_, rfl⟩
           replace H : (data_Users.l1 k2 y180 l0_2 (l0_2.length : Int) (wrap64 (x37_2 + 1)) a1_0 a1_1) = some r := by first | (rw [hy180]; with_reducible exact H) | (have H2_ := (Option.bind_some _ _).symm.trans H; rw [hy180]; with_reducible exact H2_) | (have H2_ := (Option.bind_some _ _).symm.trans H; with_reducible exact H2_) | with_reducible exact H | (rw [hy180]; exact H) | exact H
           have Ny180 := aM hy180
           clear hy180
           have H' := aM H
           clear H
           have p177 : 0 ≤ (x37_2 : Int) := oT
           have q177 : x37_2 < (l0_2.length : Int) := oT
           obtain ⟨ad177, A177_1, c177_1, A177_2, c177_2, e177, hx177_0, hx177_1, hx177_2, hl177_1, hi177_1, hl177_2, hi177_2⟩ := at_T51 HR0_2.out x37_2 p177 q177
           cases e177
           replace hx177_0 := hs HB.out hx177_0
           replace hx177_1 := hs HB.out hx177_1
           replace hx177_2 := hs HB.out hx177_2
           have HR177_1 := aM hi177_1
           have HC177_1 := aM hl177_1
           clear hi177_1 hl177_1
           have HR177_2 := aM hi177_2
           have HC177_2 := aM hl177_2
           clear hi177_2 hl177_2
           replace p177 := eq_true p177
           replace q177 := eq_true q177
           go_wp2_with (first | ((with_reducible refine gate_dst (N := 9) rfl ?_); refine bx (N := 9) (cs := #[.int .i64 0, .slice none 0 0, .slice none 0 0]) (t := 51) ?_; intro gb178 hg w41 hbox hb; have n0_ := aM (rB (rl HO_5) hb); have n1_ := aM (kB (kl BK169) hb); have n2_ := aM (kB (kl BK170) hb); have n3_ := aM (bS (bl) hb); have n4_ := aM (hbox); have n6_ := aM (gw (w := w) hg); have n7_ := aM (nb BK169 hg); have n8_ := aM (nb BK169 hg).symm; have n9_ := aM (nb BK170 hg); have n10_ := aM (nb BK170 hg).symm; (try clear HO_5); (try clear BK169); (try clear BK170); (try clear HB); have HO_5 := n0_; have BK169 := n1_; have BK170 := n2_; have HB := n3_; have BK178 := n4_; have GE178 := n6_; have NB169_178 := n7_; have NB178_169 := n8_; have NB170_178 := n9_; have NB178_170 := n10_; clear n0_ n1_ n2_ n3_ n4_ n6_ n7_ n8_ n9_ n10_ hb hbox hg; have hnb42 := NB178_169.out; have hnc42 := NB169_178.out; have hnb43 := NB178_170.out; have hnc43 := NB170_178.out; obtain ⟨hcz44_0, hcz44_1, hcz44_2, hfz44_0, hfz44_1, hfz44_2⟩ := bc3 BK178; have hnb45 := NB170_169.out; have hnc45 := NB169_170.out; obtain ⟨hcz46_0, hcz46_1, hfz46_0, hfz46_1⟩ := bc2 BK170) | ((with_reducible refine gate_callee (f := 52) rfl ?_); refine gL (some 44) Try.func52 #[.slice A177_1 ((rd_T51 l0_2 x37_2).f1).length c177_1, .func (.func 53) #[] #[.pointer (some ⟨gb170, 0, none⟩)]] ?_; (with_reducible refine (api_Member_by_data_Users_1.callsB gb170 _ _ ((rd_T51 l0_2 x37_2).f1) a1_0 a1_1 true _ ?side1 ?side2 ?sideB A38.out).mono ?_); (case sideB => exact (by (with_reducible repeat (first | refine kN ?_ _ | refine kD ?_ | refine kA ?_ _)); refine blk_far ?_ NB170_178.out _; (with_reducible repeat (first | refine kN ?_ _ | refine kD ?_ | refine kA ?_ _)); refine blk_far ?_ NB170_178.out _; (with_reducible repeat (first | refine kN ?_ _ | refine kD ?_ | refine kA ?_ _)); refine blk_far ?_ NB170_178.out _; (with_reducible repeat (first | refine kN ?_ _ | refine kD ?_ | refine kA ?_ _)); exact BK170.out)); (case side1 => exact Kd.C_below HR177_1.out (bl)); (case side2 => exact HC177_1.out); rintro e w47 ⟨rfl, hb⟩; refine ⟨_, rfl, ?_⟩; replace HO_5 := aM (rB (by (with_reducible repeat (first | apply rA | apply rN | apply rD)); exact (rM (Kd.R_far (p := ⟨gb178, 2, none⟩) (Kd.R_far (p := ⟨gb178, 1, none⟩) (Kd.R_far (p := ⟨gb178, 0, none⟩) (Kd.R_types HO_5.out BK178.out (by decide)) (fun _ hk => hk.2) (.int .i64 ((rd_T51 l0_2 x37_2).f0))) (fun _ hk => hk.2) (.slice A177_1 ((rd_T51 l0_2 x37_2).f1).length c177_1)) (fun _ hk => hk.2) (.slice A177_2 ((rd_T51 l0_2 x37_2).f2).length c177_2)) (fun _ h_ => h_.1))) hb); replace BK169 := aM (kB (g := gb169) (o := .cells #[.slice A0_0 l0_0.length c0_0, .slice A0_1 l0_1.length c0_1, .slice (some ad177) l0_2.length c0_2] 26 (0, 0)) (by (with_reducible repeat (first | refine kN ?_ _ | refine kD ?_ | refine kA ?_ _)); refine blk_far ?_ NB169_178.out _; (with_reducible repeat (first | refine kN ?_ _ | refine kD ?_ | refine kA ?_ _)); refine blk_far ?_ NB169_178.out _; (with_reducible repeat (first | refine kN ?_ _ | refine kD ?_ | refine kA ?_ _)); refine blk_far ?_ NB169_178.out _; (with_reducible repeat (first | refine kN ?_ _ | refine kD ?_ | refine kA ?_ _)); exact BK169.out) hb); replace BK170 := aM (kB (g := gb170) (o := .cells #[.int .i64 a1_0, .int .i64 a1_1] 34 (0, 0)) (by (with_reducible repeat (first | refine kN ?_ _ | refine kD ?_ | refine kA ?_ _)); refine blk_far ?_ NB170_178.out _; (with_reducible repeat (first | refine kN ?_ _ | refine kD ?_ | refine kA ?_ _)); refine blk_far ?_ NB170_178.out _; (with_reducible repeat (first | refine kN ?_ _ | refine kD ?_ | refine kA ?_ _)); refine blk_far ?_ NB170_178.out _; (with_reducible repeat (first | refine kN ?_ _ | refine kD ?_ | refine kA ?_ _)); exact BK170.out) hb); replace BK178 := aM (kB (g := gb178) (o := .cells #[.int .i64 ((rd_T51 l0_2 x37_2).f0), .slice A177_1 ((rd_T51 l0_2 x37_2).f1).length c177_1, .slice A177_2 ((rd_T51 l0_2 x37_2).f2).length c177_2] 51 (0, 0)) (by (with_reducible repeat (first | refine kN ?_ _ | refine kD ?_ | refine kA ?_ _)); refine kP (cs := #[.int .i64 ((rd_T51 l0_2 x37_2).f0), .slice A177_1 ((rd_T51 l0_2 x37_2).f1).length c177_1, .slice none 0 0]) ?_ 2 _ rfl; (with_reducible repeat (first | refine kN ?_ _ | refine kD ?_ | refine kA ?_ _)); refine kP (cs := #[.int .i64 ((rd_T51 l0_2 x37_2).f0), .slice none 0 0, .slice none 0 0]) ?_ 1 _ rfl; (with_reducible repeat (first | refine kN ?_ _ | refine kD ?_ | refine kA ?_ _)); refine kP (cs := #[.int .i64 0, .slice none 0 0, .slice none 0 0]) ?_ 0 _ rfl; (with_reducible repeat (first | refine kN ?_ _ | refine kD ?_ | refine kA ?_ _)); exact BK178.out) hb); replace HB := aM (bS (bl) hb); (try clear hb); obtain ⟨hcz48_0, hcz48_1, hcz48_2, hfz48_0, hfz48_1, hfz48_2⟩ := bc3 BK178) | ((with_reducible refine gate_builtin (b := .append) (xs := #[.tmp 45, .tmp 49]) rfl ?_); at_builtin; refine Kd.R_append k34 (w0 := w) w.heap.size rfl (.tmp 45) (.tmp 49) 57 34 (.agg #[(.int .i64 0), (.int .i64 0)]) 16 rfl Try.underlying57 info34 rfl (by decide) (by omega) u5 x5_2 (⟨3, (rd_T51 l0_2 x37_2).f0⟩ : S34) [.int .i64 3, .int .i64 ((rd_T51 l0_2 x37_2).f0)] (fun k_ => k_ ≠ gb170) (fun _ => False) rfl rfl ?aP (fun _ hk => hk.elim) ?aF ?aO ?aB ?aS ?aL ?_; (case aP => exact k34_mkM _ _ _ (⟨3, (rd_T51 l0_2 x37_2).f0⟩ : S34)); (case aB => exact (bl)); (case aF => exact (fun k_ hk => Kd.freshB (kl BK170) k_ hk)); (case aO => exact (rl HO_5)); (case aS => exact (below_size (bl))); (case aL => have := LMc40.out; omega); intro v181 w49 ho hb hg hat; rw [← Ny180.out] at ho; have HO182 := aM (ho); replace BK169 := aM (blk_grown (kl BK169) hg (Kd.R_ne HO_5.out BK169.out (by decide))); replace BK170 := aM (blk_grown (kl BK170) hg (Kd.R_away HO_5.out (fun _ hk => hk))); replace BK178 := aM (blk_grown (kl BK178) hg (Kd.R_ne HO_5.out BK178.out (by decide))); replace HB := aM (hb); clear HO_5 ho hb hg hat))
           go_roundg k2
           case measure => have := HK1.out; have := HK2.out; omega
           case rel => exact ⟨(y180), (wrap64 (x37_2 + 1)), (by first | rfl | (simp; done) | (simp [*]; done)), H', ⟨by have := HK1.out; have := HK2.out; omega⟩, ⟨by (with_reducible repeat (first | apply rA | apply rN | apply rD)); exact HO182.out⟩, ⟨by (with_reducible repeat (first | refine kN ?_ _ | refine kD ?_ | refine kA ?_ _)); exact BK169.out⟩, ⟨by (with_reducible repeat (first | refine kN ?_ _ | refine kD ?_ | refine kA ?_ _)); exact BK170.out⟩, ⟨bl⟩⟩
          ·rw [if_neg c40] at H
           exact absurd H (by simp)
         ·replace c39 := Bool.eq_false_iff.mpr c39
          subst c39
          have H1 : (data_Users.l1 k2 x5_2 l0_2 (l0_2.length : Int) (wrap64 (x37_2 + 1)) a1_0 a1_1) = some r := by rw [if_neg (show ¬ (false = true) by decide)] at H; exact H
          clear H
          have H := H1
          clear H1
          have H' := aM H
          clear H
          have p177 : 0 ≤ (x37_2 : Int) := oT
          have q177 : x37_2 < (l0_2.length : Int) := oT
          obtain ⟨ad177, A177_1, c177_1, A177_2, c177_2, e177, hx177_0, hx177_1, hx177_2, hl177_1, hi177_1, hl177_2, hi177_2⟩ := at_T51 HR0_2.out x37_2 p177 q177
          cases e177
          replace hx177_0 := hs HB.out hx177_0
          replace hx177_1 := hs HB.out hx177_1
          replace hx177_2 := hs HB.out hx177_2
          have HR177_1 := aM hi177_1
          have HC177_1 := aM hl177_1
          clear hi177_1 hl177_1
          have HR177_2 := aM hi177_2
          have HC177_2 := aM hl177_2
          clear hi177_2 hl177_2
          replace p177 := eq_true p177
          replace q177 := eq_true q177
          go_wp2_with (first | ((with_reducible refine gate_dst (N := 9) rfl ?_); refine bx (N := 9) (cs := #[.int .i64 0, .slice none 0 0, .slice none 0 0]) (t := 51) ?_; intro gb178 hg w50 hbox hb; have n0_ := aM (rB (rl HO_5) hb); have n1_ := aM (kB (kl BK169) hb); have n2_ := aM (kB (kl BK170) hb); have n3_ := aM (bS (bl) hb); have n4_ := aM (hbox); have n6_ := aM (gw (w := w) hg); have n7_ := aM (nb BK169 hg); have n8_ := aM (nb BK169 hg).symm; have n9_ := aM (nb BK170 hg); have n10_ := aM (nb BK170 hg).symm; (try clear HO_5); (try clear BK169); (try clear BK170); (try clear HB); have HO_5 := n0_; have BK169 := n1_; have BK170 := n2_; have HB := n3_; have BK178 := n4_; have GE178 := n6_; have NB169_178 := n7_; have NB178_169 := n8_; have NB170_178 := n9_; have NB178_170 := n10_; clear n0_ n1_ n2_ n3_ n4_ n6_ n7_ n8_ n9_ n10_ hb hbox hg; have hnb51 := NB178_169.out; have hnc51 := NB169_178.out; have hnb52 := NB178_170.out; have hnc52 := NB170_178.out; obtain ⟨hcz53_0, hcz53_1, hcz53_2, hfz53_0, hfz53_1, hfz53_2⟩ := bc3 BK178; have hnb54 := NB170_169.out; have hnc54 := NB169_170.out; obtain ⟨hcz55_0, hcz55_1, hfz55_0, hfz55_1⟩ := bc2 BK170) | ((with_reducible refine gate_callee (f := 52) rfl ?_); refine gL (some 44) Try.func52 #[.slice A177_1 ((rd_T51 l0_2 x37_2).f1).length c177_1, .func (.func 53) #[] #[.pointer (some ⟨gb170, 0, none⟩)]] ?_; (with_reducible refine (api_Member_by_data_Users_1.callsB gb170 _ _ ((rd_T51 l0_2 x37_2).f1) a1_0 a1_1 false _ ?side1 ?side2 ?sideB A38.out).mono ?_); (case sideB => exact (by (with_reducible repeat (first | refine kN ?_ _ | refine kD ?_ | refine kA ?_ _)); refine blk_far ?_ NB170_178.out _; (with_reducible repeat (first | refine kN ?_ _ | refine kD ?_ | refine kA ?_ _)); refine blk_far ?_ NB170_178.out _; (with_reducible repeat (first | refine kN ?_ _ | refine kD ?_ | refine kA ?_ _)); refine blk_far ?_ NB170_178.out _; (with_reducible repeat (first | refine kN ?_ _ | refine kD ?_ | refine kA ?_ _)); exact BK170.out)); (case side1 => exact Kd.C_below HR177_1.out (bl)); (case side2 => exact HC177_1.out); rintro e w56 ⟨rfl, hb⟩; refine ⟨_, rfl, ?_⟩; replace HO_5 := aM (rB (by (with_reducible repeat (first | apply rA | apply rN | apply rD)); exact (rM (Kd.R_far (p := ⟨gb178, 2, none⟩) (Kd.R_far (p := ⟨gb178, 1, none⟩) (Kd.R_far (p := ⟨gb178, 0, none⟩) (Kd.R_types HO_5.out BK178.out (by decide)) (fun _ hk => hk.2) (.int .i64 ((rd_T51 l0_2 x37_2).f0))) (fun _ hk => hk.2) (.slice A177_1 ((rd_T51 l0_2 x37_2).f1).length c177_1)) (fun _ hk => hk.2) (.slice A177_2 ((rd_T51 l0_2 x37_2).f2).length c177_2)) (fun _ h_ => h_.1))) hb); replace BK169 := aM (kB (g := gb169) (o := .cells #[.slice A0_0 l0_0.length c0_0, .slice A0_1 l0_1.length c0_1, .slice (some ad177) l0_2.length c0_2] 26 (0, 0)) (by (with_reducible repeat (first | refine kN ?_ _ | refine kD ?_ | refine kA ?_ _)); refine blk_far ?_ NB169_178.out _; (with_reducible repeat (first | refine kN ?_ _ | refine kD ?_ | refine kA ?_ _)); refine blk_far ?_ NB169_178.out _; (with_reducible repeat (first | refine kN ?_ _ | refine kD ?_ | refine kA ?_ _)); refine blk_far ?_ NB169_178.out _; (with_reducible repeat (first | refine kN ?_ _ | refine kD ?_ | refine kA ?_ _)); exact BK169.out) hb); replace BK170 := aM (kB (g := gb170) (o := .cells #[.int .i64 a1_0, .int .i64 a1_1] 34 (0, 0)) (by (with_reducible repeat (first | refine kN ?_ _ | refine kD ?_ | refine kA ?_ _)); refine blk_far ?_ NB170_178.out _; (with_reducible repeat (first | refine kN ?_ _ | refine kD ?_ | refine kA ?_ _)); refine blk_far ?_ NB170_178.out _; (with_reducible repeat (first | refine kN ?_ _ | refine kD ?_ | refine kA ?_ _)); refine blk_far ?_ NB170_178.out _; (with_reducible repeat (first | refine kN ?_ _ | refine kD ?_ | refine kA ?_ _)); exact BK170.out) hb); replace BK178 := aM (kB (g := gb178) (o := .cells #[.int .i64 ((rd_T51 l0_2 x37_2).f0), .slice A177_1 ((rd_T51 l0_2 x37_2).f1).length c177_1, .slice A177_2 ((rd_T51 l0_2 x37_2).f2).length c177_2] 51 (0, 0)) (by (with_reducible repeat (first | refine kN ?_ _ | refine kD ?_ | refine kA ?_ _)); refine kP (cs := #[.int .i64 ((rd_T51 l0_2 x37_2).f0), .slice A177_1 ((rd_T51 l0_2 x37_2).f1).length c177_1, .slice none 0 0]) ?_ 2 _ rfl; (with_reducible repeat (first | refine kN ?_ _ | refine kD ?_ | refine kA ?_ _)); refine kP (cs := #[.int .i64 ((rd_T51 l0_2 x37_2).f0), .slice none 0 0, .slice none 0 0]) ?_ 1 _ rfl; (with_reducible repeat (first | refine kN ?_ _ | refine kD ?_ | refine kA ?_ _)); refine kP (cs := #[.int .i64 0, .slice none 0 0, .slice none 0 0]) ?_ 0 _ rfl; (with_reducible repeat (first | refine kN ?_ _ | refine kD ?_ | refine kA ?_ _)); exact BK178.out) hb); replace HB := aM (bS (bl) hb); (try clear hb)))
          go_roundg k2
          case measure => have := HK1.out; have := HK2.out; omega
          case rel => exact ⟨(x5_2), (wrap64 (x37_2 + 1)), (by first | rfl | (simp; done) | (simp [*]; done)), H', ⟨by have := HK1.out; have := HK2.out; omega⟩, ⟨by (with_reducible repeat (first | apply rA | apply rN | apply rD)); exact HO_5.out⟩, ⟨by (with_reducible repeat (first | refine kN ?_ _ | refine kD ?_ | refine kA ?_ _)); exact BK169.out⟩, ⟨by (with_reducible repeat (first | refine kN ?_ _ | refine kD ?_ | refine kA ?_ _)); exact BK170.out⟩, ⟨bl⟩⟩
        ·rw [if_neg c37] at H
         exact absurd H (by simp)
       ·rw [if_neg c36] at H
        exact absurd H (by simp)
      ·rw [if_neg c35] at H
       have c35b0 : decide (x37_2 < (l0_2.length : Int)) = false := decide_eq_false c35
       clear c35
       replace H := Option.bind_eq_some_iff.mp H
       obtain ⟨t183, A570, H⟩ := H
       try dsimp only at H
       have A57 := aM A570
       clear A570
       replace H := Option.bind_eq_some_iff.mp H
       obtain ⟨t184, A580, H⟩ := H
       try dsimp only at H
       have A58 := aM A580
       clear A580
       obtain rfl := Option.some.inj H
       obtain ⟨Ao59, co59, eo59⟩ := Kd.R_slice HO_5.out
       subst eo59
       go_wp2_with (first | ((with_reducible refine gate_callee (f := 54) rfl ?_); refine gL (some 53) Try.func54 #[.slice Ao59 x5_2.length co59, .func (.func 55) #[] #[]] ?_; (with_reducible refine (api_Ref_by_data_Users_2.calls (fun k_ => some k_ = (.slice Ao59 x5_2.length co59 : Value).ownBlock) (.slice Ao59 x5_2.length co59) x5_2 t183 w _ ?side1 ?side2 A57.out).mono ?_); (case side1 => repeat (first | (with_reducible first | exact HB.out | apply bA | apply bN | apply bD | refine bT ?_ GE169.out | refine bT ?_ GE170.out) | exact HB.out)); (case side2 => exact Kd.R_tight rfl HO_5.out); rintro e w60 ⟨rfl, hy0, hb, hkp⟩; refine ⟨_, rfl, ?_⟩; have n0_ := aM (Kd.R_reok rfl hy0 (fun k_ e_ => HO_5.out.1 k_ e_)); have n2_ := aM (blk_kept (kl BK170) hkp (fun hs_ => (fun e_ => (Kd.R_away HO_5.out (fun _ hk => hk)) e_) hs_)); have n3_ := aM (hb); (try clear HO_5); (try clear BK169); (try clear BK170); (try clear HB); have HO_5 := n0_; have BK170 := n2_; have HB := n3_; clear n0_ n2_ n3_; (try clear hb); (try clear hkp); (try clear hy0)) | ((with_reducible refine gate_callee (f := 58) rfl ?_); refine gL (some 55) Try.func58 #[.slice Ao59 x5_2.length co59] ?_; (with_reducible refine (api_Ref_58.calls (fun k_ => some k_ = (.slice Ao59 x5_2.length co59 : Value).ownBlock) (.slice Ao59 x5_2.length co59) t183 t184 w _ ?side1 ?side2 A58.out).mono ?_); (case side1 => repeat (first | (with_reducible first | exact HB.out | apply bA | apply bN | apply bD | refine bT ?_ GE169.out | refine bT ?_ GE170.out) | exact HB.out)); (case side2 => exact Kd.R_tight rfl HO_5.out); rintro e w61 ⟨v185, rfl, ho0, hb, hkp⟩; refine ⟨_, rfl, ?_⟩; have n1_ := aM (blk_kept (kl BK170) hkp (fun hs_ => (fun e_ => (Kd.R_away HO_5.out (fun _ hk => hk)) e_) hs_)); have n2_ := aM (rM (ok' := fun k_ => k_ ≠ gb170) ho0 (fun k_ hk_ => Or.elim hk_ (fun hs_ => fun e_ => (Kd.R_away HO_5.out (fun _ hk => hk)) (by rw [← e_]; exact hs_)) (fun hn_ => (Kd.freshB (kl BK170) k_ hn_)))); have n3_ := aM (hb); (try clear BK170); (try clear HB); (try clear HO_5); have BK170 := n1_; have HO186 := n2_; have HB := n3_; clear n1_ n2_ n3_; (try clear hb); (try clear hkp); (try clear ho0)))
       go_ret
       exact ⟨_, by first | rfl | (simp [errW_none, errW_some] <;> rfl) | (simp [*, errW_none, errW_some] <;> rfl), by (with_reducible repeat (first | apply rA | apply rN | apply rD)); exact rM HO186.out (fun _ hk => trivial), bl⟩
end Go.Proofs.Ytgenbepicnbecaa.PAll
