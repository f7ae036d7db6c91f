-- out of a driver of this session's prover over the kit's print: Lean checks it
import Derived.Test.YtefambkodalomaaPAllx0
import Derived.Test.YtefambkodalomaaPAllx6
import Derived.Test.YtefambkodalomaaPAllx9
namespace Go.Proofs.Ytefambkodalomaa.PAll
open Go.Proofs.YtefambkodalomaaG Go.Shelf Go.Lib
open Go.RowKit Go.Proofs.YtefambkodalomaaW.PrintWords Go.Proofs.YtefambkodalomaaW.PrintLast Go.Proofs.YtefambkodalomaaW.PrintMore
attribute [local go_sem] max2_int min2_int max_two min_two max_three min_three max_four min_four   -- for this text's walks alone
set_option linter.unusedVariables false
set_option linter.unusedSimpArgs false
def wire_Reader_Left.f (s : ByteArray) (at_ er : Int) : Option (Int × ByteArray × Int × Int) := some (wrap64 ((s.size : Int) - at_), s, at_, er)
set_option maxHeartbeats 4000000 in
theorem wire_Reader_Left.calls (g : Nat) (s0_0 : ByteArray) (s0_1 s0_2 : Int) (r1 : Int) (r2 : ByteArray) (r3 r4 : Int) (w0 w : World) (hI : IsS164 w0 w g s0_0 s0_1 s0_2) (hB : Below w0.heap.size w0 w) (h : wire_Reader_Left.f s0_0 s0_1 s0_2 = some (r1, r2, r3, r4)) :
  Calls Try.prog 108 #[.pointer (some ⟨g, 0, none⟩)] w fun e w' => e = .returned (.int .i64 r1) ∧ IsS164 w0 w' g r2 r3 r4 ∧ Below w0.heap.size w0 w' ∧ KeepBut w w' g none := by
 unfold wire_Reader_Left.f at h
 simp only [Option.some.injEq, Prod.mk.injEq] at h
 obtain ⟨rfl, rfl, rfl, rfl⟩ := h
 have HI := aM hI
 have HB := aM hB
 have h0 := cellS164_0 hI.1
 have h1 := cellS164_1 hI.1
 clear hI hB
 go_enter Try.func108, Try.ntmps108
 go_wp2
 go_quiet (fail)
 try go_wp2
 go_ret
 exact ⟨by first | rfl | simp, by first | exact HI.out | exact HI.out.drewN _, by first | exact HB.out | exact bN HB.out _, by first | exact KeepBut.refl _ _ _ | exact keep_drewN (KeepBut.refl _ _ _) _⟩
def wire_Reader_Done.f (s0_0 : ByteArray) (s0_1 : Int) (s0_2 : Int) : Option (Int × ByteArray × Int × Int) := (wire_Reader_Err.f s0_0 s0_1 s0_2).bind fun bt315 => (if bt315.1 = 0 then ((wire_Reader_Left.f bt315.2.1 bt315.2.2.1 bt315.2.2.2).bind fun bt319 => (if bt319.1 > 0 then (some (5, bt319.2.1, bt319.2.2.1, bt319.2.2.2)) else (some (0, bt319.2.1, bt319.2.2.1, bt319.2.2.2)))) else (some (bt315.1, bt315.2.1, bt315.2.2.1, bt315.2.2.2)))
set_option maxHeartbeats 8000000 in
set_option maxRecDepth 100000 in
theorem wire_Reader_Done.calls (g : Nat) (s0_0 : ByteArray) (s0_1 : Int) (s0_2 : Int) (r1 : Int) (r2 : ByteArray) (r3 : Int) (r4 : Int) (w0 w : World) (hI : IsS164 w0 w g s0_0 s0_1 s0_2) (hB : Below w0.heap.size w0 w) (h : wire_Reader_Done.f s0_0 s0_1 s0_2 = some (r1, r2, r3, r4)) :
  Calls Try.prog 83 #[.pointer (some ⟨g, 0, none⟩)] w fun e w' => e = .returned (.int .i64 r1) ∧ IsS164 w0 w' g r2 r3 r4 ∧ Below w0.heap.size w0 w' ∧ KeepBut w w' g none := by
 have HI0 := aM hI
 have HK := aM (KeepBut.refl w g none)
 have HL := aM hB.size
 clear hI
 have HW0 := aM hB.size
 have HB := aM hB
 clear hB
 have H : ((wire_Reader_Err.f s0_0 s0_1 s0_2).bind fun bt315 => (if bt315.1 = 0 then ((wire_Reader_Left.f bt315.2.1 bt315.2.2.1 bt315.2.2.2).bind fun bt319 => (if bt319.1 > 0 then (some (5, bt319.2.1, bt319.2.2.1, bt319.2.2.2)) else (some (0, bt319.2.1, bt319.2.2.1, bt319.2.2.2)))) else (some (bt315.1, bt315.2.1, bt315.2.2.1, bt315.2.2.2)))) = some (r1, r2, r3, r4) := h
 clear h
 replace H := Option.bind_eq_some_iff.mp H
 obtain ⟨⟨t315, t316, t317, t318⟩, A20, H⟩ := H
 replace H : (if t315 = 0 then ((wire_Reader_Left.f t316 t317 t318).bind fun bt319 => (if bt319.1 > 0 then (some (5, bt319.2.1, bt319.2.2.1, bt319.2.2.2)) else (some (0, bt319.2.1, bt319.2.2.1, bt319.2.2.2)))) else (some (t315, t316, t317, t318))) = some (r1, r2, r3, r4) := H
 have A2 := aM A20
 clear A20
 by_cases c3 : t315 = 0
 ·rw [if_pos c3] at H
  have c3b0 : (t315 == 0) = true := beq_iff_eq.mpr c3
  have c3b1 : (t315 != 0) = false := bne_eq_false_iff_eq.mpr c3
  clear c3
  replace H := Option.bind_eq_some_iff.mp H
  obtain ⟨⟨t319, t320, t321, t322⟩, A40, H⟩ := H
  replace H : (if t319 > 0 then (some (5, t320, t321, t322)) else (some (0, t320, t321, t322))) = some (r1, r2, r3, r4) := H
  have A4 := aM A40
  clear A40
  by_cases c5 : t319 > 0
  ·rw [if_pos c5] at H
   have c5b0 : decide (0 < t319) = true := decide_eq_true c5
   clear c5
   simp only [Option.some.injEq, Prod.mk.injEq] at H
   obtain ⟨rfl, rfl, rfl, rfl⟩ := H
   go_enter Try.func83, Try.ntmps83
   go_wp2_with (first | ((with_reducible refine gate_callee (f := 85) rfl ?_); refine gL (some 5) Try.func85 #[.pointer (some ⟨g, 0, none⟩)] ?_; (with_reducible refine (wire_Reader_Err.calls g s0_0 s0_1 s0_2 t315 t316 t317 t318 w0 _ (iS164 HI0) (iB164 HB) A2.out).mono ?_); rintro e w6 ⟨rfl, hi, hb, hk⟩; refine ⟨_, rfl, ?_⟩; replace HK := aM (ku HK hk); replace HB := aM (hb); replace HI0 := aM (hi); (try clear hb); (try clear hk); (try clear hi)) | ((with_reducible refine gate_callee (f := 108) rfl ?_); refine gL (some 10) Try.func108 #[.pointer (some ⟨g, 0, none⟩)] ?_; (with_reducible refine (wire_Reader_Left.calls g t316 t317 t318 t319 t320 t321 t322 w0 _ (iS164 HI0) (iB164 HB) A4.out).mono ?_); rintro e w7 ⟨rfl, hi, hb, hk⟩; refine ⟨_, rfl, ?_⟩; replace HK := aM (ku HK hk); replace HB := aM (hb); replace HI0 := aM (hi); (try clear hb); (try clear hk); (try clear hi)))
   go_ret
   exact ⟨by first | rfl | (simp [errW_none, errW_some] <;> rfl) | (simp [*, errW_none, errW_some] <;> rfl), iS164 HI0, iB164 HB, kp HK⟩
  ·rw [if_neg c5] at H
   have c5b0 : decide (0 < t319) = false := decide_eq_false c5
   clear c5
   simp only [Option.some.injEq, Prod.mk.injEq] at H
   obtain ⟨rfl, rfl, rfl, rfl⟩ := H
   go_enter Try.func83, Try.ntmps83
   go_wp2_with (first | ((with_reducible refine gate_callee (f := 85) rfl ?_); refine gL (some 5) Try.func85 #[.pointer (some ⟨g, 0, none⟩)] ?_; (with_reducible refine (wire_Reader_Err.calls g s0_0 s0_1 s0_2 t315 t316 t317 t318 w0 _ (iS164 HI0) (iB164 HB) A2.out).mono ?_); rintro e w8 ⟨rfl, hi, hb, hk⟩; refine ⟨_, rfl, ?_⟩; replace HK := aM (ku HK hk); replace HB := aM (hb); replace HI0 := aM (hi); (try clear hb); (try clear hk); (try clear hi)) | ((with_reducible refine gate_callee (f := 108) rfl ?_); refine gL (some 10) Try.func108 #[.pointer (some ⟨g, 0, none⟩)] ?_; (with_reducible refine (wire_Reader_Left.calls g t316 t317 t318 t319 t320 t321 t322 w0 _ (iS164 HI0) (iB164 HB) A4.out).mono ?_); rintro e w9 ⟨rfl, hi, hb, hk⟩; refine ⟨_, rfl, ?_⟩; replace HK := aM (ku HK hk); replace HB := aM (hb); replace HI0 := aM (hi); (try clear hb); (try clear hk); (try clear hi)))
   go_ret
   exact ⟨by first | rfl | (simp [errW_none, errW_some] <;> rfl) | (simp [*, errW_none, errW_some] <;> rfl), iS164 HI0, iB164 HB, kp HK⟩
 ·rw [if_neg c3] at H
  have c3b0 : (t315 == 0) = false := beq_eq_false_iff_ne.mpr c3
  have c3b1 : (t315 != 0) = true := bne_iff_ne.mpr c3
  simp only [Option.some.injEq, Prod.mk.injEq] at H
  obtain ⟨rfl, rfl, rfl, rfl⟩ := H
  go_enter Try.func83, Try.ntmps83
  go_wp2_with (first | ((with_reducible refine gate_callee (f := 85) rfl ?_); refine gL (some 5) Try.func85 #[.pointer (some ⟨g, 0, none⟩)] ?_; (with_reducible refine (wire_Reader_Err.calls g s0_0 s0_1 s0_2 t315 t316 t317 t318 w0 _ (iS164 HI0) (iB164 HB) A2.out).mono ?_); rintro e w10 ⟨rfl, hi, hb, hk⟩; refine ⟨_, rfl, ?_⟩; replace HK := aM (ku HK hk); replace HB := aM (hb); replace HI0 := aM (hi); (try clear hb); (try clear hk); (try clear hi)))
  go_ret
  exact ⟨by first | rfl | (simp [errW_none, errW_some] <;> rfl) | (simp [*, errW_none, errW_some] <;> rfl), iS164 HI0, iB164 HB, kp HK⟩
-- NOT PRINTED: function 35 (api_Data)
theorem read81 (s : ByteArray) (w : World) : Calls Try.prog 81 #[.string s] w fun e w' => e = .returned (.pointer (some ⟨w.heap.size, 0, none⟩)) ∧ w' = w.alloc (.cells #[.string s, .int .i64 0, .int .i64 0] 164) := by
 go_enter Try.func81, Try.ntmps81
 go_wp2
 go_ret
 exact ⟨rfl, rfl⟩
theorem leaves_tmps {fn : Func} {R : Ending → World → Prop} {t t' : Array Value} (ht : results fn t = results fn t') : ∀ (ds : List Deferred) (u : FrameMode) (w : World), Leaves Try.prog fn t R ds u w → Leaves Try.prog fn t' R ds u w
 | [], .returning, w, h => by simpa only [Leaves, ← ht] using h
 | [], .panicking chain, w, h => h
 | [], .run, _, h => h
 | d :: ds, u, w, ⟨hu, fv, cap, f, args, h1, h2, h3⟩ => ⟨hu, fv, cap, f, args, h1, h2, h3.mono fun e u' w' he => by
   cases e with
   | returned v => exact leaves_tmps ht ds _ _ he
   | panicked c => exact leaves_tmps ht ds _ _ he
   | outgrown => exact he⟩
theorem check_err (g : Nat) (a1 : Int) (h : a1 ≠ 0) (w : World) : Calls Try.prog 82 #[.agg #[.pointer (some ⟨g, 0, none⟩)], .int .i64 a1] w fun e w' => e = .panicked [{ v := .iface 139 (.int .i64 a1), recovered := false }] ∧ w' = w.alloc (.cells #[.pointer (some ⟨g, 0, none⟩)] 81) := by
 have h1 : (a1 != 0) = true := bne_iff_ne.mpr h
 go_enter Try.func82, Try.ntmps82
 go_wp2
 exact ⟨rfl, rfl, rfl⟩
theorem d1_idle (p q : Value) (w : World) :
  CallsD Try.prog 80 #[p, q] .returning w fun e u' w' => e = .returned (.tuple #[]) ∧ u' = .returning ∧ w' = w := by
 refine callsD_of_wpS Try.func80 rfl fun c₀ cs hu => ?_
 apply wpS_seq
 apply wpS_region
 simp [wpOpsS, go_sem, recoverD, hu, Try.ntmps80, Exit.thenS]
 refine wpS_of_wp ?_
 go_wp2
 cases c₀
 simp_all [bodyPostS, results, Try.results80, Exit.thenS]
set_option maxRecDepth 100000 in
set_option maxHeartbeats 4000000 in
theorem d1_back (bo be : Nat) (n1 : ¬ bo = be) (x : Int) (v0 v1 v2 : Value) (y : Value) (older : List PanicEntry) (w : World) (ho : w.heap[bo]? = some (.cells #[v0, v1, v2] 26 (0, 0))) (he : w.heap[be]? = some (.cells #[y] 30 (0, 0))) :
  CallsD Try.prog 80 #[.pointer (some ⟨bo, 0, none⟩), .pointer (some ⟨be, 0, none⟩)] (.panicking ({ v := .iface 139 (.int .i64 x), recovered := false } :: older)) w fun e u' w' => e = .returned (.tuple #[]) ∧ u' = .panicking ({ v := .iface 139 (.int .i64 x), recovered := true } :: older) ∧ w' = (((((w.alloc (.cells #[.slice none 0 0, .slice none 0 0, .slice none 0 0] 26)).setCell ⟨bo, 0, none⟩ (.slice none 0 0)).setCell ⟨bo, 1, none⟩ (.slice none 0 0)).setCell ⟨bo, 2, none⟩ (.slice none 0 0)).setCell ⟨be, 0, none⟩ (.int .i64 x)) := by
 have n2 : ¬ be = bo := fun h => n1 h.symm
 have ha := kA ho (.cells #[.slice none 0 0, .slice none 0 0, .slice none 0 0] 26)
 have hea := kA he (.cells #[.slice none 0 0, .slice none 0 0, .slice none 0 0] 26)
 have c0 := (kC ha 0).trans (show _ = some v0 from rfl)
 have f0 := kF ha 0
 have c1 := (kC ha 1).trans (show _ = some v1 from rfl)
 have f1 := kF ha 1
 have c2 := (kC ha 2).trans (show _ = some v2 from rfl)
 have f2 := kF ha 2
 have c9 := (kC hea 0).trans (show _ = some y from rfl)
 have f9 := kF hea 0
 refine callsD_of_wpS Try.func80 rfl fun c₀ cs hu => ?_
 apply wpS_seq
 apply wpS_region
 simp [wpOpsS, go_sem, recoverD, hu, Try.ntmps80, Exit.thenS]
 have hta : ∀ (v : Value) (w : World), (Instr.typeAssert (.iface 139 v) 20 139 true).run Try.prog w = .ok (.tuple #[v, .bool true]) w := fun v w => by kernel_rfl
 refine wpS_of_wp ?_
 go_wp2
 exact ⟨rfl, _, rfl, .tuple #[], by simp [results, Try.results80, go_sem], rfl, rfl, rfl⟩
set_option maxHeartbeats 8000000 in
set_option maxRecDepth 100000 in
theorem dec1_err (k : Nat) (a0 : ByteArray) (x : Int) (w : World) (h : codec_GetData_1.f k a0 0 0 = some (.error x)) :
  Calls Try.prog 35 #[.string a0, .func (.func 36) #[] #[]] w fun e w' => ∃ v0_ v1_ v2_ : Value, e = .returned (.tuple #[.agg #[v0_, v1_, v2_], .int .i64 x]) ∧ Kd.S k53 53 w' w.heap.size (fun _ => True) v0_ ([] : List (S53)) ∧ Kd.S k56 56 w' w.heap.size (fun _ => True) v1_ ([] : List (S56)) ∧ Kd.S k59 59 w' w.heap.size (fun _ => True) v2_ ([] : List (S59)) ∧ Below w.heap.size w w' := by
 have hmf : ∀ (fn : Fn) (first cap : Array Value) (w : World), (Instr.makeFunc fn first cap).run Try.prog w = .ok (.func fn first cap) w := fun _ _ _ _ => rfl
 have hu81 := Try.underlying81
 have hu26 := Try.underlying26
 have k0 : ((((w.alloc (.cells #[.slice none 0 0, .slice none 0 0, .slice none 0 0] 26)).alloc (.cells #[.int .i64 0] 30)).alloc (.cells #[.string a0, .int .i64 0, .int .i64 0] 164)).alloc (.cells #[.pointer (some ⟨w.heap.size + 1 + 1, 0, none⟩)] 81)).heap[w.heap.size]? = some (.cells #[.slice none 0 0, .slice none 0 0, .slice none 0 0] 26 (0, 0)) := kA (kA (kA (heap_alloc_new w _) _) _) _
 have k1 : ((((w.alloc (.cells #[.slice none 0 0, .slice none 0 0, .slice none 0 0] 26)).alloc (.cells #[.int .i64 0] 30)).alloc (.cells #[.string a0, .int .i64 0, .int .i64 0] 164)).alloc (.cells #[.pointer (some ⟨w.heap.size + 1 + 1, 0, none⟩)] 81)).heap[w.heap.size + 1]? = some (.cells #[.int .i64 0] 30 (0, 0)) := kA (kA (by simpa using heap_alloc_new (w.alloc _) (.cells #[.int .i64 0] 30)) _) _
 have k2 : ((((w.alloc (.cells #[.slice none 0 0, .slice none 0 0, .slice none 0 0] 26)).alloc (.cells #[.int .i64 0] 30)).alloc (.cells #[.string a0, .int .i64 0, .int .i64 0] 164)).alloc (.cells #[.pointer (some ⟨w.heap.size + 1 + 1, 0, none⟩)] 81)).heap[w.heap.size + 1 + 1]? = some (.cells #[.string a0, .int .i64 0, .int .i64 0] 164 (0, 0)) := kA (by simpa using heap_alloc_new ((w.alloc _).alloc _) (.cells #[.string a0, .int .i64 0, .int .i64 0] 164)) _
 have k3 : ((((w.alloc (.cells #[.slice none 0 0, .slice none 0 0, .slice none 0 0] 26)).alloc (.cells #[.int .i64 0] 30)).alloc (.cells #[.string a0, .int .i64 0, .int .i64 0] 164)).alloc (.cells #[.pointer (some ⟨w.heap.size + 1 + 1, 0, none⟩)] 81)).heap[w.heap.size + 1 + 1 + 1]? = some (.cells #[.pointer (some ⟨w.heap.size + 1 + 1, 0, none⟩)] 81 (0, 0)) := by simpa using heap_alloc_new (((w.alloc _).alloc _).alloc _) (.cells #[.pointer (some ⟨w.heap.size + 1 + 1, 0, none⟩)] 81)
 have hB4 : Below w.heap.size w ((((w.alloc (.cells #[.slice none 0 0, .slice none 0 0, .slice none 0 0] 26)).alloc (.cells #[.int .i64 0] 30)).alloc (.cells #[.string a0, .int .i64 0, .int .i64 0] 164)).alloc (.cells #[.pointer (some ⟨w.heap.size + 1 + 1, 0, none⟩)] 81)) := bA (bA (bA (bA (Below.refl _ _) _) _) _) _
 have HH := aM h
 clear h
 go_enter_defers Try.func35, Try.ntmps35
 go_wp2_with (fail)
 refine (read81 a0 _).mono ?_
 rintro e w1 ⟨rfl, rfl⟩
 go_wp2_with (fail)
 refine (codec_GetData_1.calls k (w.heap.size + 1 + 1) a0 0 0 (.error x) ((w.alloc (.cells #[.slice none 0 0, .slice none 0 0, .slice none 0 0] 26)).alloc (.cells #[.int .i64 0] 30)) _ ⟨k2, by simp⟩ (bA (bA (Below.refl _ _) _) _) HH.out).mono ?_
 rintro e w5 ⟨rfl, hb⟩
 have b0 : w5.heap[w.heap.size]? = some (.cells #[.slice none 0 0, .slice none 0 0, .slice none 0 0] 26 (0, 0)) := (hb.block _ (by simp; omega)).trans (kA (heap_alloc_new w _) _)
 have b1 : w5.heap[w.heap.size + 1]? = some (.cells #[.int .i64 0] 30 (0, 0)) := (hb.block _ (by simp)).trans (by simpa using heap_alloc_new (w.alloc _) (.cells #[.int .i64 0] 30))
 have hbw : Below w.heap.size w w5 := bS (bA (bA (Below.refl _ _) _) _) hb
 clear hb k0 k1 k2 k3 hB4
 refine leaves_cons (f := 80) (args := #[.pointer (some ⟨w.heap.size, 0, none⟩), .pointer (some ⟨w.heap.size + 1, 0, none⟩)]) (by simp) (by simp [go_sem]) ?_
 refine (d1_back w.heap.size (w.heap.size + 1) (by omega) x _ _ _ _ [] _ b0 b1).mono ?_
 rintro e u' w'' ⟨rfl, rfl, rfl⟩
 have z0 := blk_far (blk_set (blk_set (blk_set (kA b0 (.cells #[.slice none 0 0, .slice none 0 0, .slice none 0 0] 26)) 0 (.slice none 0 0)) 1 (.slice none 0 0)) 2 (.slice none 0 0)) (p := ⟨w.heap.size + 1, 0, none⟩) (by simp) (.int .i64 x)
 have z1 := blk_set (blk_far (blk_far (blk_far (kA b1 (.cells #[.slice none 0 0, .slice none 0 0, .slice none 0 0] 26)) (p := ⟨w.heap.size, 0, none⟩) (by simp) (.slice none 0 0)) (p := ⟨w.heap.size, 1, none⟩) (by simp) (.slice none 0 0)) (p := ⟨w.heap.size, 2, none⟩) (by simp) (.slice none 0 0)) 0 (.int .i64 x)
 have q0 := (kC z0 0).trans (show _ = some (Value.slice none 0 0) from rfl)
 have q1 := (kC z0 1).trans (show _ = some (Value.slice none 0 0) from rfl)
 have q2 := (kC z0 2).trans (show _ = some (Value.slice none 0 0) from rfl)
 have q9 := (kC z1 0).trans (show _ = some (Value.int .i64 x) from rfl)
 simp [Leaves, settle, results, Try.results35, go_sem, q0, q1, q2, q9]
 first | exact ⟨_, _, _, ⟨rfl, rfl, rfl⟩, Kd.S_nil _ _ _ _ _, Kd.S_nil _ _ _ _ _, Kd.S_nil _ _ _ _ _, (((((bA hbw _).setCell (Nat.le_refl _) _).setCell (Nat.le_refl _) _).setCell (Nat.le_refl _) _).setCell (Nat.le_succ _) _)⟩ | exact ⟨Kd.S_nil _ _ _ _ _, Kd.S_nil _ _ _ _ _, Kd.S_nil _ _ _ _ _, (((((bA hbw _).setCell (Nat.le_refl _) _).setCell (Nat.le_refl _) _).setCell (Nat.le_refl _) _).setCell (Nat.le_succ _) _)⟩ | exact (((((bA hbw _).setCell (Nat.le_refl _) _).setCell (Nat.le_refl _) _).setCell (Nat.le_refl _) _).setCell (Nat.le_succ _) _)
set_option maxHeartbeats 8000000 in
set_option maxRecDepth 100000 in
theorem dec1_ok (k : Nat) (a0 : ByteArray) (r1 : List S53) (r2 : List S56) (r3 : List S59) (s s2 : ByteArray) (p er e p2 e2 : Int) (w : World) (h : codec_GetData_1.f k a0 0 0 = some (.ok (r1, r2, r3, s, p, er))) (hd : wire_Reader_Done.f s p er = some (e, s2, p2, e2)) (he : e = 0) :
  Calls Try.prog 35 #[.string a0, .func (.func 36) #[] #[]] w fun e' w' => ∃ v0_ v1_ v2_ : Value, e' = .returned (.tuple #[.agg #[v0_, v1_, v2_], .int .i64 0]) ∧ Kd.S k53 53 w' w.heap.size (fun _ => True) v0_ r1 ∧ Kd.S k56 56 w' w.heap.size (fun _ => True) v1_ r2 ∧ Kd.S k59 59 w' w.heap.size (fun _ => True) v2_ r3 ∧ Below w.heap.size w w' := by
 have hmf : ∀ (fn : Fn) (first cap : Array Value) (w : World), (Instr.makeFunc fn first cap).run Try.prog w = .ok (.func fn first cap) w := fun _ _ _ _ => rfl
 have hu81 := Try.underlying81
 have hu26 := Try.underlying26
 have k0 : ((((w.alloc (.cells #[.slice none 0 0, .slice none 0 0, .slice none 0 0] 26)).alloc (.cells #[.int .i64 0] 30)).alloc (.cells #[.string a0, .int .i64 0, .int .i64 0] 164)).alloc (.cells #[.pointer (some ⟨w.heap.size + 1 + 1, 0, none⟩)] 81)).heap[w.heap.size]? = some (.cells #[.slice none 0 0, .slice none 0 0, .slice none 0 0] 26 (0, 0)) := kA (kA (kA (heap_alloc_new w _) _) _) _
 have k1 : ((((w.alloc (.cells #[.slice none 0 0, .slice none 0 0, .slice none 0 0] 26)).alloc (.cells #[.int .i64 0] 30)).alloc (.cells #[.string a0, .int .i64 0, .int .i64 0] 164)).alloc (.cells #[.pointer (some ⟨w.heap.size + 1 + 1, 0, none⟩)] 81)).heap[w.heap.size + 1]? = some (.cells #[.int .i64 0] 30 (0, 0)) := kA (kA (by simpa using heap_alloc_new (w.alloc _) (.cells #[.int .i64 0] 30)) _) _
 have k2 : ((((w.alloc (.cells #[.slice none 0 0, .slice none 0 0, .slice none 0 0] 26)).alloc (.cells #[.int .i64 0] 30)).alloc (.cells #[.string a0, .int .i64 0, .int .i64 0] 164)).alloc (.cells #[.pointer (some ⟨w.heap.size + 1 + 1, 0, none⟩)] 81)).heap[w.heap.size + 1 + 1]? = some (.cells #[.string a0, .int .i64 0, .int .i64 0] 164 (0, 0)) := kA (by simpa using heap_alloc_new ((w.alloc _).alloc _) (.cells #[.string a0, .int .i64 0, .int .i64 0] 164)) _
 have k3 : ((((w.alloc (.cells #[.slice none 0 0, .slice none 0 0, .slice none 0 0] 26)).alloc (.cells #[.int .i64 0] 30)).alloc (.cells #[.string a0, .int .i64 0, .int .i64 0] 164)).alloc (.cells #[.pointer (some ⟨w.heap.size + 1 + 1, 0, none⟩)] 81)).heap[w.heap.size + 1 + 1 + 1]? = some (.cells #[.pointer (some ⟨w.heap.size + 1 + 1, 0, none⟩)] 81 (0, 0)) := by simpa using heap_alloc_new (((w.alloc _).alloc _).alloc _) (.cells #[.pointer (some ⟨w.heap.size + 1 + 1, 0, none⟩)] 81)
 have hB4 : Below w.heap.size w ((((w.alloc (.cells #[.slice none 0 0, .slice none 0 0, .slice none 0 0] 26)).alloc (.cells #[.int .i64 0] 30)).alloc (.cells #[.string a0, .int .i64 0, .int .i64 0] 164)).alloc (.cells #[.pointer (some ⟨w.heap.size + 1 + 1, 0, none⟩)] 81)) := bA (bA (bA (bA (Below.refl _ _) _) _) _) _
 have HH := aM h
 have HD := aM hd
 clear h hd
 go_enter_defers Try.func35, Try.ntmps35
 go_wp2_with (fail)
 refine (read81 a0 _).mono ?_
 rintro e w1 ⟨rfl, rfl⟩
 go_wp2_with (fail)
 refine (codec_GetData_1.calls k (w.heap.size + 1 + 1) a0 0 0 (.ok (r1, r2, r3, s, p, er)) w _ ⟨k2, by omega⟩ hB4 HH.out).mono ?_
 rintro e_ w5 ⟨v0, v1, v2, rfl, h0, h1, h2, hi, hb, hk⟩
 obtain ⟨A0, c0, eq0⟩ := Kd.S_slice h0
 subst eq0
 obtain ⟨A1, c1, eq1⟩ := Kd.S_slice h1
 subst eq1
 obtain ⟨A2, c2, eq2⟩ := Kd.S_slice h2
 subst eq2
 have B0 := KeepBut.blk hk k0 (by omega) (by simp)
 have B1 := KeepBut.blk hk k1 (by omega) (by simp)
 have B3 := KeepBut.blk hk k3 (by omega) (by simp)
 have HI5 := aM hi
 have HB5 := aM hb
 have L0 := Kd.S_lower h0 (below_size hB4)
 have L1 := Kd.S_lower h1 (below_size hB4)
 have L2 := Kd.S_lower h2 (below_size hB4)
 have E0 := aM (Kd.S_mono (Kd.S_far (p := ⟨w.heap.size, 2, none⟩) (Kd.S_far (p := ⟨w.heap.size, 1, none⟩) (Kd.S_far (p := ⟨w.heap.size, 0, none⟩) (Kd.S_types L0 B0 (by decide)) (fun _ hk => hk.2) (.slice A0 r1.length c0)) (fun _ hk => hk.2) (.slice A1 r2.length c1)) (fun _ hk => hk.2) (.slice A2 r3.length c2)) (fun _ _ => trivial))
 have E1 := aM (Kd.S_mono (Kd.S_far (p := ⟨w.heap.size, 2, none⟩) (Kd.S_far (p := ⟨w.heap.size, 1, none⟩) (Kd.S_far (p := ⟨w.heap.size, 0, none⟩) (Kd.S_types L1 B0 (by decide)) (fun _ hk => hk.2) (.slice A0 r1.length c0)) (fun _ hk => hk.2) (.slice A1 r2.length c1)) (fun _ hk => hk.2) (.slice A2 r3.length c2)) (fun _ _ => trivial))
 have E2 := aM (Kd.S_mono (Kd.S_far (p := ⟨w.heap.size, 2, none⟩) (Kd.S_far (p := ⟨w.heap.size, 1, none⟩) (Kd.S_far (p := ⟨w.heap.size, 0, none⟩) (Kd.S_types L2 B0 (by decide)) (fun _ hk => hk.2) (.slice A0 r1.length c0)) (fun _ hk => hk.2) (.slice A1 r2.length c1)) (fun _ hk => hk.2) (.slice A2 r3.length c2)) (fun _ _ => trivial))
 have HI := aM (((HI5.out.far (p := ⟨w.heap.size, 0, none⟩) (by show w.heap.size + 1 + 1 ≠ w.heap.size; omega) (.slice A0 r1.length c0)).far (p := ⟨w.heap.size, 1, none⟩) (by show w.heap.size + 1 + 1 ≠ w.heap.size; omega) (.slice A1 r2.length c1)).far (p := ⟨w.heap.size, 2, none⟩) (by show w.heap.size + 1 + 1 ≠ w.heap.size; omega) (.slice A2 r3.length c2))
 have HB := aM (((HB5.out.setCell (p := ⟨w.heap.size, 0, none⟩) (Nat.le_refl _) (.slice A0 r1.length c0)).setCell (p := ⟨w.heap.size, 1, none⟩) (Nat.le_refl _) (.slice A1 r2.length c1)).setCell (p := ⟨w.heap.size, 2, none⟩) (Nat.le_refl _) (.slice A2 r3.length c2))
 have D0 := aM (blk_set (blk_set (blk_set B0 0 (.slice A0 r1.length c0)) 1 (.slice A1 r2.length c1)) 2 (.slice A2 r3.length c2))
 have D1 := aM (blk_far (blk_far (blk_far B1 (p := ⟨w.heap.size, 0, none⟩) (by simp) (.slice A0 r1.length c0)) (p := ⟨w.heap.size, 1, none⟩) (by simp) (.slice A1 r2.length c1)) (p := ⟨w.heap.size, 2, none⟩) (by simp) (.slice A2 r3.length c2))
 have D3 := aM (blk_far (blk_far (blk_far B3 (p := ⟨w.heap.size, 0, none⟩) (by simp; omega) (.slice A0 r1.length c0)) (p := ⟨w.heap.size, 1, none⟩) (by simp; omega) (.slice A1 r2.length c1)) (p := ⟨w.heap.size, 2, none⟩) (by simp; omega) (.slice A2 r3.length c2))
 have g0 := (kC B0 0).trans (show _ = some (Value.slice none 0 0) from rfl)
 have f0 := kF B0 0
 have g1 := (kC B0 1).trans (show _ = some (Value.slice none 0 0) from rfl)
 have f1 := kF B0 1
 have g2 := (kC B0 2).trans (show _ = some (Value.slice none 0 0) from rfl)
 have f2 := kF B0 2
 clear hi hb hk k0 k1 k2 k3 hB4 B0 B1 B3 HI5 HB5 h0 L0 h1 L1 h2 L2
 go_upto_region 4 with (fail)
 generalize (((w5.setCell ⟨w.heap.size, 0, none⟩ (.slice A0 r1.length c0)).setCell ⟨w.heap.size, 1, none⟩ (.slice A1 r2.length c1)).setCell ⟨w.heap.size, 2, none⟩ (.slice A2 r3.length c2)) = w6 at E0 E1 E2 D0 D1 D3 HI HB ⊢
 have x0 := aM (Kd.S_drew E0.out)
 have x1 := aM (Kd.S_drew E1.out)
 have x2 := aM (Kd.S_drew E2.out)
 have y0 := aM (kD D0.out)
 have y1 := aM (kD D1.out)
 have y3 := aM (kD D3.out)
 have y4 := aM (IsS164.drew HI.out)
 have y5 := aM (bD HB.out)
 clear D0 D1 D3 HI HB E0 g0 f0 E1 g1 f1 E2 g2 f2
 have D0 := y0
 have D1 := y1
 have D3 := y3
 have HI := y4
 have HB := y5
 clear y0 y1 y3 y4 y5
 have E0 := x0
 clear x0
 have E1 := x1
 clear x1
 have E2 := x2
 clear x2
 refine start_ (n := 5) (S := fun w' => w'.cell? ⟨w.heap.size + 1 + 1 + 1, 0, none⟩ = some (.pointer (some ⟨w.heap.size + 1 + 1, 0, none⟩))) (ds := []) #[false, false, false, false, false] (by kernel_rfl) rfl rfl ((kC D3.out 0).trans rfl) (fun hHeld => ?_)
 generalize w6.drew = w7 at E0 E1 E2 D0 D1 D3 HI HB hHeld ⊢
 refine take_ (i := 0) (N := some 14) (v := ?_) (a' := ?_) (ba 5 1) rfl rfl (by kernel_rfl) (fun c_ a_ w_ h_ => leaves_tmps (fn := Try.f35) (t := a_.tmps.setIfInBounds 14 _) (by simp [results, Try.results35]) a_.defers (.panicking c_) w_ h_) (Or.inl ⟨by rfl, ?_⟩) hHeld ?_ ?_
 rotate_left
 ·rintro w' s0
  go_simp
  with_reducible rfl
 rotate_left
 ·simp only [Act.put, sA, sB, sC, i64_w, i32_w]
  rfl
 refine take_ (i := 1) (N := some 15) (v := ?_) (a' := ?_) (ba 5 3) rfl rfl (by kernel_rfl) (fun c_ a_ w_ h_ => leaves_tmps (fn := Try.f35) (t := a_.tmps.setIfInBounds 15 _) (by simp [results, Try.results35]) a_.defers (.panicking c_) w_ h_) (Or.inl ⟨by rfl, ?_⟩) hHeld ?_ ?_
 rotate_left
 ·rintro w' s0
  go_simp
  with_reducible rfl
 rotate_left
 ·simp only [Act.put, sA, sB, sC, i64_w, i32_w]
  rfl
 refine take_ (i := 2) (N := some 16) (v := ?_) (a' := ?_) (ba 5 7) rfl rfl (by kernel_rfl) (fun c_ a_ w_ h_ => leaves_tmps (fn := Try.f35) (t := a_.tmps.setIfInBounds 16 _) (by simp [results, Try.results35]) a_.defers (.panicking c_) w_ h_) (Or.inl ⟨by rfl, ?_⟩) hHeld ?_ ?_
 rotate_left
 ·rintro w' s0
  go_simp
  with_reducible rfl
 rotate_left
 ·simp only [Act.put, sA, sB, sC, i64_w, i32_w]
  rfl
 refine one_ (i := 3) (N := some 17) (ba 5 15) rfl rfl (by kernel_rfl) (by decide) (fun K hK => ?_)
 refine goes_ Try.func83 (by kernel_rfl) rfl #[.pointer (some ⟨w.heap.size + 1 + 1, 0, none⟩)] (by rfl) rfl rfl (by (try simp only [List.map_toArray, List.map_cons, List.map_nil]); first | done | rfl) ?_
 with_reducible refine (wire_Reader_Done.calls (w.heap.size + 1 + 1) s p er e s2 p2 e2 w _ HI.out HB.out HD.out).mono ?_
 rintro e_ w8 ⟨rfl, hi, hb, hk⟩
 refine ⟨_, rfl, ?_⟩
 have HI1 := aM hi
 have HB1 := aM hb
 have ee0 := aM (Kd.S_mono (Kd.S_keep (IsS164.apartS HI.out E0.out (by decide)) hk (fun _ h => h.2)) (fun _ h => h.1))
 have ee1 := aM (Kd.S_mono (Kd.S_keep (IsS164.apartS HI.out E1.out (by decide)) hk (fun _ h => h.2)) (fun _ h => h.1))
 have ee2 := aM (Kd.S_mono (Kd.S_keep (IsS164.apartS HI.out E2.out (by decide)) hk (fun _ h => h.2)) (fun _ h => h.1))
 have d0 := aM (KeepBut.blk hk D0.out (by omega) (by simp))
 have d1 := aM (KeepBut.blk hk D1.out (by omega) (by simp))
 have d3 := aM (KeepBut.blk hk D3.out (by omega) (by simp))
 clear hi hb hk HI HB D0 D1 D3 E0 E1 E2
 refine hK.out _ _ ((kC d3.out 0).trans rfl) (fun hHeld => ?_)
 clear hK K
 refine norm_ (a' := ?_) ?_ ?_
 rotate_left
 ·show Act.put _ (some 17) _ = _
  simp only [Act.put, sA, sB, sC, i64_w, i32_w]
  rfl
 refine one_ (i := 4) (N := some 18) (ba 5 31) rfl rfl (by kernel_rfl) (by decide) (fun K hK => ?_)
 refine goes_ Try.func82 (by kernel_rfl) rfl #[.agg #[.pointer (some ⟨w.heap.size + 1 + 1, 0, none⟩)], .int .i64 e] (by rfl) rfl rfl (by (try simp only [List.map_toArray, List.map_cons, List.map_nil]); first | done | rfl) ?_
 with_reducible refine (codec_reader_check.calls (w.heap.size + 1 + 1) s2 p2 e2 e (.ok (s2, p2, e2)) w _ HI1.out HB1.out (by unfold codec_reader_check.f; exact if_pos he)).mono ?_
 rintro e_ w9 ⟨rfl, hi, hb, hk⟩
 refine ⟨_, rfl, ?_⟩
 have HI := HI1
 have HB := aM hb
 have D0 := aM (KeepBut.blk hk d0.out (by omega) (by simp))
 have D1 := aM (KeepBut.blk hk d1.out (by omega) (by simp))
 have D3 := aM (KeepBut.blk hk d3.out (by omega) (by simp))
 have E0 := aM (Kd.S_mono (Kd.S_keep (IsS164.apartS HI1.out ee0.out (by decide)) hk (fun _ h => h.2)) (fun _ h => h.1))
 have E1 := aM (Kd.S_mono (Kd.S_keep (IsS164.apartS HI1.out ee1.out (by decide)) hk (fun _ h => h.2)) (fun _ h => h.1))
 have E2 := aM (Kd.S_mono (Kd.S_keep (IsS164.apartS HI1.out ee2.out (by decide)) hk (fun _ h => h.2)) (fun _ h => h.1))
 have F0 := aM (Kd.S_mono (Kd.S_far (p := ⟨w.heap.size, 2, none⟩) (Kd.S_far (p := ⟨w.heap.size, 1, none⟩) (Kd.S_far (p := ⟨w.heap.size, 0, none⟩) (Kd.S_types E0.out D0.out (by decide)) (fun _ hk => hk.2) (.slice A0 r1.length c0)) (fun _ hk => hk.2) (.slice A1 r2.length c1)) (fun _ hk => hk.2) (.slice A2 r3.length c2)) (fun _ _ => trivial))
 have F1 := aM (Kd.S_mono (Kd.S_far (p := ⟨w.heap.size, 2, none⟩) (Kd.S_far (p := ⟨w.heap.size, 1, none⟩) (Kd.S_far (p := ⟨w.heap.size, 0, none⟩) (Kd.S_types E1.out D0.out (by decide)) (fun _ hk => hk.2) (.slice A0 r1.length c0)) (fun _ hk => hk.2) (.slice A1 r2.length c1)) (fun _ hk => hk.2) (.slice A2 r3.length c2)) (fun _ _ => trivial))
 have F2 := aM (Kd.S_mono (Kd.S_far (p := ⟨w.heap.size, 2, none⟩) (Kd.S_far (p := ⟨w.heap.size, 1, none⟩) (Kd.S_far (p := ⟨w.heap.size, 0, none⟩) (Kd.S_types E2.out D0.out (by decide)) (fun _ hk => hk.2) (.slice A0 r1.length c0)) (fun _ hk => hk.2) (.slice A1 r2.length c1)) (fun _ hk => hk.2) (.slice A2 r3.length c2)) (fun _ _ => trivial))
 clear hi hb hk HI1 HB1 d0 d1 ee0 ee1 ee2
 refine hK.out _ _ ((kC D3.out 0).trans rfl) (fun hHeld => ?_)
 clear hK K
 refine norm_ (a' := ?_) ?_ ?_
 rotate_left
 ·show Act.put _ (some 18) _ = _
  simp only [Act.put, sA, sB, sC, i64_w, i32_w]
  rfl
 refine done_ (by kernel_rfl) ?_
 have g0 := (kC D0.out 0).trans (show _ = some (Value.slice A0 r1.length c0) from rfl)
 have f0 := kF D0.out 0
 have g1 := (kC D0.out 1).trans (show _ = some (Value.slice A1 r2.length c1) from rfl)
 have f1 := kF D0.out 1
 have g2 := (kC D0.out 2).trans (show _ = some (Value.slice A2 r3.length c2) from rfl)
 have f2 := kF D0.out 2
 have g9 := (kC (blk_far (blk_far (blk_far D1.out (p := ⟨w.heap.size, 0, none⟩) (by simp) (.slice A0 r1.length c0)) (p := ⟨w.heap.size, 1, none⟩) (by simp) (.slice A1 r2.length c1)) (p := ⟨w.heap.size, 2, none⟩) (by simp) (.slice A2 r3.length c2)) 0).trans (show _ = some (Value.int .i64 0) from rfl)
 have f9 := kF (blk_far (blk_far (blk_far D1.out (p := ⟨w.heap.size, 0, none⟩) (by simp) (.slice A0 r1.length c0)) (p := ⟨w.heap.size, 1, none⟩) (by simp) (.slice A1 r2.length c1)) (p := ⟨w.heap.size, 2, none⟩) (by simp) (.slice A2 r3.length c2)) 0
 have n1 : ¬ w.heap.size = w.heap.size + 1 := by omega
 have n2 : ¬ w.heap.size + 1 = w.heap.size := by omega
 go_wp2_with (fail)
 have z0 := blk_far (blk_set (blk_set (blk_set D0.out 0 (.slice A0 r1.length c0)) 1 (.slice A1 r2.length c1)) 2 (.slice A2 r3.length c2)) (p := ⟨w.heap.size + 1, 0, none⟩) (by simp) (.int .i64 0)
 have z1 := blk_set (blk_far (blk_far (blk_far D1.out (p := ⟨w.heap.size, 0, none⟩) (by simp) (.slice A0 r1.length c0)) (p := ⟨w.heap.size, 1, none⟩) (by simp) (.slice A1 r2.length c1)) (p := ⟨w.heap.size, 2, none⟩) (by simp) (.slice A2 r3.length c2)) 0 (.int .i64 0)
 refine leaves_cons (f := 80) (args := #[.pointer (some ⟨w.heap.size, 0, none⟩), .pointer (some ⟨w.heap.size + 1, 0, none⟩)]) (by simp) (by simp [go_sem]) ?_
 refine (d1_idle _ _ _).mono ?_
 rintro e u' w'' ⟨rfl, rfl, rfl⟩
 have q0 := (kC z0 0).trans (show _ = some (Value.slice A0 r1.length c0) from rfl)
 have q1 := (kC z0 1).trans (show _ = some (Value.slice A1 r2.length c1) from rfl)
 have q2 := (kC z0 2).trans (show _ = some (Value.slice A2 r3.length c2) from rfl)
 have q9 := (kC z1 0).trans (show _ = some (Value.int .i64 0) from rfl)
 refine ⟨.tuple #[.agg #[(.slice A0 r1.length c0), (.slice A1 r2.length c1), (.slice A2 r3.length c2)], .int .i64 0], by simp [results, Try.results35, go_sem, q0, q1, q2, q9], ?_⟩
 exact ⟨_, _, _, rfl, Kd.S_mono (Kd.S_far (p := ⟨w.heap.size + 1, 0, none⟩) (Kd.S_types F0.out (blk_far (blk_far (blk_far D1.out (p := ⟨w.heap.size, 0, none⟩) (by simp) (.slice A0 r1.length c0)) (p := ⟨w.heap.size, 1, none⟩) (by simp) (.slice A1 r2.length c1)) (p := ⟨w.heap.size, 2, none⟩) (by simp) (.slice A2 r3.length c2)) (by decide)) (fun _ hk => hk.2) (.int .i64 0)) (fun _ _ => trivial), Kd.S_mono (Kd.S_far (p := ⟨w.heap.size + 1, 0, none⟩) (Kd.S_types F1.out (blk_far (blk_far (blk_far D1.out (p := ⟨w.heap.size, 0, none⟩) (by simp) (.slice A0 r1.length c0)) (p := ⟨w.heap.size, 1, none⟩) (by simp) (.slice A1 r2.length c1)) (p := ⟨w.heap.size, 2, none⟩) (by simp) (.slice A2 r3.length c2)) (by decide)) (fun _ hk => hk.2) (.int .i64 0)) (fun _ _ => trivial), Kd.S_mono (Kd.S_far (p := ⟨w.heap.size + 1, 0, none⟩) (Kd.S_types F2.out (blk_far (blk_far (blk_far D1.out (p := ⟨w.heap.size, 0, none⟩) (by simp) (.slice A0 r1.length c0)) (p := ⟨w.heap.size, 1, none⟩) (by simp) (.slice A1 r2.length c1)) (p := ⟨w.heap.size, 2, none⟩) (by simp) (.slice A2 r3.length c2)) (by decide)) (fun _ hk => hk.2) (.int .i64 0)) (fun _ _ => trivial), (((HB.out.setCell (p := ⟨w.heap.size, 0, none⟩) (Nat.le_refl _) (.slice A0 r1.length c0)).setCell (p := ⟨w.heap.size, 1, none⟩) (Nat.le_refl _) (.slice A1 r2.length c1)).setCell (p := ⟨w.heap.size, 2, none⟩) (Nat.le_refl _) (.slice A2 r3.length c2)).setCell (Nat.le_succ _) _⟩
set_option maxHeartbeats 8000000 in
set_option maxRecDepth 100000 in
theorem dec1_bad (k : Nat) (a0 : ByteArray) (r1 : List S53) (r2 : List S56) (r3 : List S59) (s s2 : ByteArray) (p er e p2 e2 : Int) (w : World) (h : codec_GetData_1.f k a0 0 0 = some (.ok (r1, r2, r3, s, p, er))) (hd : wire_Reader_Done.f s p er = some (e, s2, p2, e2)) (he : e ≠ 0) :
  Calls Try.prog 35 #[.string a0, .func (.func 36) #[] #[]] w fun e' w' => ∃ v0_ v1_ v2_ : Value, e' = .returned (.tuple #[.agg #[v0_, v1_, v2_], .int .i64 e]) ∧ Kd.S k53 53 w' w.heap.size (fun _ => True) v0_ ([] : List (S53)) ∧ Kd.S k56 56 w' w.heap.size (fun _ => True) v1_ ([] : List (S56)) ∧ Kd.S k59 59 w' w.heap.size (fun _ => True) v2_ ([] : List (S59)) ∧ Below w.heap.size w w' := by
 have hmf : ∀ (fn : Fn) (first cap : Array Value) (w : World), (Instr.makeFunc fn first cap).run Try.prog w = .ok (.func fn first cap) w := fun _ _ _ _ => rfl
 have hu81 := Try.underlying81
 have hu26 := Try.underlying26
 have k0 : ((((w.alloc (.cells #[.slice none 0 0, .slice none 0 0, .slice none 0 0] 26)).alloc (.cells #[.int .i64 0] 30)).alloc (.cells #[.string a0, .int .i64 0, .int .i64 0] 164)).alloc (.cells #[.pointer (some ⟨w.heap.size + 1 + 1, 0, none⟩)] 81)).heap[w.heap.size]? = some (.cells #[.slice none 0 0, .slice none 0 0, .slice none 0 0] 26 (0, 0)) := kA (kA (kA (heap_alloc_new w _) _) _) _
 have k1 : ((((w.alloc (.cells #[.slice none 0 0, .slice none 0 0, .slice none 0 0] 26)).alloc (.cells #[.int .i64 0] 30)).alloc (.cells #[.string a0, .int .i64 0, .int .i64 0] 164)).alloc (.cells #[.pointer (some ⟨w.heap.size + 1 + 1, 0, none⟩)] 81)).heap[w.heap.size + 1]? = some (.cells #[.int .i64 0] 30 (0, 0)) := kA (kA (by simpa using heap_alloc_new (w.alloc _) (.cells #[.int .i64 0] 30)) _) _
 have k2 : ((((w.alloc (.cells #[.slice none 0 0, .slice none 0 0, .slice none 0 0] 26)).alloc (.cells #[.int .i64 0] 30)).alloc (.cells #[.string a0, .int .i64 0, .int .i64 0] 164)).alloc (.cells #[.pointer (some ⟨w.heap.size + 1 + 1, 0, none⟩)] 81)).heap[w.heap.size + 1 + 1]? = some (.cells #[.string a0, .int .i64 0, .int .i64 0] 164 (0, 0)) := kA (by simpa using heap_alloc_new ((w.alloc _).alloc _) (.cells #[.string a0, .int .i64 0, .int .i64 0] 164)) _
 have k3 : ((((w.alloc (.cells #[.slice none 0 0, .slice none 0 0, .slice none 0 0] 26)).alloc (.cells #[.int .i64 0] 30)).alloc (.cells #[.string a0, .int .i64 0, .int .i64 0] 164)).alloc (.cells #[.pointer (some ⟨w.heap.size + 1 + 1, 0, none⟩)] 81)).heap[w.heap.size + 1 + 1 + 1]? = some (.cells #[.pointer (some ⟨w.heap.size + 1 + 1, 0, none⟩)] 81 (0, 0)) := by simpa using heap_alloc_new (((w.alloc _).alloc _).alloc _) (.cells #[.pointer (some ⟨w.heap.size + 1 + 1, 0, none⟩)] 81)
 have hB4 : Below w.heap.size w ((((w.alloc (.cells #[.slice none 0 0, .slice none 0 0, .slice none 0 0] 26)).alloc (.cells #[.int .i64 0] 30)).alloc (.cells #[.string a0, .int .i64 0, .int .i64 0] 164)).alloc (.cells #[.pointer (some ⟨w.heap.size + 1 + 1, 0, none⟩)] 81)) := bA (bA (bA (bA (Below.refl _ _) _) _) _) _
 have HH := aM h
 have HD := aM hd
 clear h hd
 go_enter_defers Try.func35, Try.ntmps35
 go_wp2_with (fail)
 refine (read81 a0 _).mono ?_
 rintro e w1 ⟨rfl, rfl⟩
 go_wp2_with (fail)
 refine (codec_GetData_1.calls k (w.heap.size + 1 + 1) a0 0 0 (.ok (r1, r2, r3, s, p, er)) w _ ⟨k2, by omega⟩ hB4 HH.out).mono ?_
 rintro e_ w5 ⟨v0, v1, v2, rfl, h0, h1, h2, hi, hb, hk⟩
 obtain ⟨A0, c0, eq0⟩ := Kd.S_slice h0
 subst eq0
 obtain ⟨A1, c1, eq1⟩ := Kd.S_slice h1
 subst eq1
 obtain ⟨A2, c2, eq2⟩ := Kd.S_slice h2
 subst eq2
 have B0 := KeepBut.blk hk k0 (by omega) (by simp)
 have B1 := KeepBut.blk hk k1 (by omega) (by simp)
 have B3 := KeepBut.blk hk k3 (by omega) (by simp)
 have HI5 := aM hi
 have HB5 := aM hb
 have L0 := Kd.S_lower h0 (below_size hB4)
 have L1 := Kd.S_lower h1 (below_size hB4)
 have L2 := Kd.S_lower h2 (below_size hB4)
 have E0 := aM (Kd.S_mono (Kd.S_far (p := ⟨w.heap.size, 2, none⟩) (Kd.S_far (p := ⟨w.heap.size, 1, none⟩) (Kd.S_far (p := ⟨w.heap.size, 0, none⟩) (Kd.S_types L0 B0 (by decide)) (fun _ hk => hk.2) (.slice A0 r1.length c0)) (fun _ hk => hk.2) (.slice A1 r2.length c1)) (fun _ hk => hk.2) (.slice A2 r3.length c2)) (fun _ _ => trivial))
 have E1 := aM (Kd.S_mono (Kd.S_far (p := ⟨w.heap.size, 2, none⟩) (Kd.S_far (p := ⟨w.heap.size, 1, none⟩) (Kd.S_far (p := ⟨w.heap.size, 0, none⟩) (Kd.S_types L1 B0 (by decide)) (fun _ hk => hk.2) (.slice A0 r1.length c0)) (fun _ hk => hk.2) (.slice A1 r2.length c1)) (fun _ hk => hk.2) (.slice A2 r3.length c2)) (fun _ _ => trivial))
 have E2 := aM (Kd.S_mono (Kd.S_far (p := ⟨w.heap.size, 2, none⟩) (Kd.S_far (p := ⟨w.heap.size, 1, none⟩) (Kd.S_far (p := ⟨w.heap.size, 0, none⟩) (Kd.S_types L2 B0 (by decide)) (fun _ hk => hk.2) (.slice A0 r1.length c0)) (fun _ hk => hk.2) (.slice A1 r2.length c1)) (fun _ hk => hk.2) (.slice A2 r3.length c2)) (fun _ _ => trivial))
 have HI := aM (((HI5.out.far (p := ⟨w.heap.size, 0, none⟩) (by show w.heap.size + 1 + 1 ≠ w.heap.size; omega) (.slice A0 r1.length c0)).far (p := ⟨w.heap.size, 1, none⟩) (by show w.heap.size + 1 + 1 ≠ w.heap.size; omega) (.slice A1 r2.length c1)).far (p := ⟨w.heap.size, 2, none⟩) (by show w.heap.size + 1 + 1 ≠ w.heap.size; omega) (.slice A2 r3.length c2))
 have HB := aM (((HB5.out.setCell (p := ⟨w.heap.size, 0, none⟩) (Nat.le_refl _) (.slice A0 r1.length c0)).setCell (p := ⟨w.heap.size, 1, none⟩) (Nat.le_refl _) (.slice A1 r2.length c1)).setCell (p := ⟨w.heap.size, 2, none⟩) (Nat.le_refl _) (.slice A2 r3.length c2))
 have D0 := aM (blk_set (blk_set (blk_set B0 0 (.slice A0 r1.length c0)) 1 (.slice A1 r2.length c1)) 2 (.slice A2 r3.length c2))
 have D1 := aM (blk_far (blk_far (blk_far B1 (p := ⟨w.heap.size, 0, none⟩) (by simp) (.slice A0 r1.length c0)) (p := ⟨w.heap.size, 1, none⟩) (by simp) (.slice A1 r2.length c1)) (p := ⟨w.heap.size, 2, none⟩) (by simp) (.slice A2 r3.length c2))
 have D3 := aM (blk_far (blk_far (blk_far B3 (p := ⟨w.heap.size, 0, none⟩) (by simp; omega) (.slice A0 r1.length c0)) (p := ⟨w.heap.size, 1, none⟩) (by simp; omega) (.slice A1 r2.length c1)) (p := ⟨w.heap.size, 2, none⟩) (by simp; omega) (.slice A2 r3.length c2))
 have g0 := (kC B0 0).trans (show _ = some (Value.slice none 0 0) from rfl)
 have f0 := kF B0 0
 have g1 := (kC B0 1).trans (show _ = some (Value.slice none 0 0) from rfl)
 have f1 := kF B0 1
 have g2 := (kC B0 2).trans (show _ = some (Value.slice none 0 0) from rfl)
 have f2 := kF B0 2
 clear hi hb hk k0 k1 k2 k3 hB4 B0 B1 B3 HI5 HB5 h0 L0 h1 L1 h2 L2
 go_upto_region 4 with (fail)
 generalize (((w5.setCell ⟨w.heap.size, 0, none⟩ (.slice A0 r1.length c0)).setCell ⟨w.heap.size, 1, none⟩ (.slice A1 r2.length c1)).setCell ⟨w.heap.size, 2, none⟩ (.slice A2 r3.length c2)) = w6 at E0 E1 E2 D0 D1 D3 HI HB ⊢
 have x0 := aM (Kd.S_drew E0.out)
 have x1 := aM (Kd.S_drew E1.out)
 have x2 := aM (Kd.S_drew E2.out)
 have y0 := aM (kD D0.out)
 have y1 := aM (kD D1.out)
 have y3 := aM (kD D3.out)
 have y4 := aM (IsS164.drew HI.out)
 have y5 := aM (bD HB.out)
 clear D0 D1 D3 HI HB E0 g0 f0 E1 g1 f1 E2 g2 f2
 have D0 := y0
 have D1 := y1
 have D3 := y3
 have HI := y4
 have HB := y5
 clear y0 y1 y3 y4 y5
 have E0 := x0
 clear x0
 have E1 := x1
 clear x1
 have E2 := x2
 clear x2
 refine start_ (n := 5) (S := fun w' => w'.cell? ⟨w.heap.size + 1 + 1 + 1, 0, none⟩ = some (.pointer (some ⟨w.heap.size + 1 + 1, 0, none⟩))) (ds := []) #[false, false, false, false, false] (by kernel_rfl) rfl rfl ((kC D3.out 0).trans rfl) (fun hHeld => ?_)
 generalize w6.drew = w7 at E0 E1 E2 D0 D1 D3 HI HB hHeld ⊢
 refine take_ (i := 0) (N := some 14) (v := ?_) (a' := ?_) (ba 5 1) rfl rfl (by kernel_rfl) (fun c_ a_ w_ h_ => leaves_tmps (fn := Try.f35) (t := a_.tmps.setIfInBounds 14 _) (by simp [results, Try.results35]) a_.defers (.panicking c_) w_ h_) (Or.inl ⟨by rfl, ?_⟩) hHeld ?_ ?_
 rotate_left
 ·rintro w' s0
  go_simp
  with_reducible rfl
 rotate_left
 ·simp only [Act.put, sA, sB, sC, i64_w, i32_w]
  rfl
 refine take_ (i := 1) (N := some 15) (v := ?_) (a' := ?_) (ba 5 3) rfl rfl (by kernel_rfl) (fun c_ a_ w_ h_ => leaves_tmps (fn := Try.f35) (t := a_.tmps.setIfInBounds 15 _) (by simp [results, Try.results35]) a_.defers (.panicking c_) w_ h_) (Or.inl ⟨by rfl, ?_⟩) hHeld ?_ ?_
 rotate_left
 ·rintro w' s0
  go_simp
  with_reducible rfl
 rotate_left
 ·simp only [Act.put, sA, sB, sC, i64_w, i32_w]
  rfl
 refine take_ (i := 2) (N := some 16) (v := ?_) (a' := ?_) (ba 5 7) rfl rfl (by kernel_rfl) (fun c_ a_ w_ h_ => leaves_tmps (fn := Try.f35) (t := a_.tmps.setIfInBounds 16 _) (by simp [results, Try.results35]) a_.defers (.panicking c_) w_ h_) (Or.inl ⟨by rfl, ?_⟩) hHeld ?_ ?_
 rotate_left
 ·rintro w' s0
  go_simp
  with_reducible rfl
 rotate_left
 ·simp only [Act.put, sA, sB, sC, i64_w, i32_w]
  rfl
 refine one_ (i := 3) (N := some 17) (ba 5 15) rfl rfl (by kernel_rfl) (by decide) (fun K hK => ?_)
 refine goes_ Try.func83 (by kernel_rfl) rfl #[.pointer (some ⟨w.heap.size + 1 + 1, 0, none⟩)] (by rfl) rfl rfl (by (try simp only [List.map_toArray, List.map_cons, List.map_nil]); first | done | rfl) ?_
 with_reducible refine (wire_Reader_Done.calls (w.heap.size + 1 + 1) s p er e s2 p2 e2 w _ HI.out HB.out HD.out).mono ?_
 rintro e_ w8 ⟨rfl, hi, hb, hk⟩
 refine ⟨_, rfl, ?_⟩
 have HI1 := aM hi
 have HB1 := aM hb
 have ee0 := aM (Kd.S_mono (Kd.S_keep (IsS164.apartS HI.out E0.out (by decide)) hk (fun _ h => h.2)) (fun _ h => h.1))
 have ee1 := aM (Kd.S_mono (Kd.S_keep (IsS164.apartS HI.out E1.out (by decide)) hk (fun _ h => h.2)) (fun _ h => h.1))
 have ee2 := aM (Kd.S_mono (Kd.S_keep (IsS164.apartS HI.out E2.out (by decide)) hk (fun _ h => h.2)) (fun _ h => h.1))
 have d0 := aM (KeepBut.blk hk D0.out (by omega) (by simp))
 have d1 := aM (KeepBut.blk hk D1.out (by omega) (by simp))
 have d3 := aM (KeepBut.blk hk D3.out (by omega) (by simp))
 clear hi hb hk HI HB D0 D1 D3 E0 E1 E2
 refine hK.out _ _ ((kC d3.out 0).trans rfl) (fun hHeld => ?_)
 clear hK K
 refine norm_ (a' := ?_) ?_ ?_
 rotate_left
 ·show Act.put _ (some 17) _ = _
  simp only [Act.put, sA, sB, sC, i64_w, i32_w]
  rfl
 refine one_ (i := 4) (N := some 18) (ba 5 31) rfl rfl (by kernel_rfl) (by decide) (fun K hK => ?_)
 refine goesP_ Try.func82 (by kernel_rfl) rfl #[.agg #[.pointer (some ⟨w.heap.size + 1 + 1, 0, none⟩)], .int .i64 e] (by rfl) rfl rfl (by (try simp only [List.map_toArray, List.map_cons, List.map_nil]); first | done | rfl) ?_
 with_reducible refine (check_err (w.heap.size + 1 + 1) e he _).mono ?_
 rintro e_ w9 ⟨rfl, rfl⟩
 refine ⟨_, rfl, ?_⟩
 have b0 := kA d0.out (.cells #[.pointer (some ⟨w.heap.size + 1 + 1, 0, none⟩)] 81)
 have b1 := kA d1.out (.cells #[.pointer (some ⟨w.heap.size + 1 + 1, 0, none⟩)] 81)
 have hbw := bA HB1.out (.cells #[.pointer (some ⟨w.heap.size + 1 + 1, 0, none⟩)] 81)
 generalize (w8.alloc (.cells #[.pointer (some ⟨w.heap.size + 1 + 1, 0, none⟩)] 81)) = w10 at b0 b1 hbw ⊢
 refine leaves_cons (f := 80) (args := #[.pointer (some ⟨w.heap.size, 0, none⟩), .pointer (some ⟨w.heap.size + 1, 0, none⟩)]) (by simp) (by simp [go_sem]) ?_
 refine (d1_back w.heap.size (w.heap.size + 1) (by omega) e _ _ _ _ [] _ b0 b1).mono ?_
 rintro e u' w'' ⟨rfl, rfl, rfl⟩
 have z0 := blk_far (blk_set (blk_set (blk_set (kA b0 (.cells #[.slice none 0 0, .slice none 0 0, .slice none 0 0] 26)) 0 (.slice none 0 0)) 1 (.slice none 0 0)) 2 (.slice none 0 0)) (p := ⟨w.heap.size + 1, 0, none⟩) (by simp) (.int .i64 e)
 have z1 := blk_set (blk_far (blk_far (blk_far (kA b1 (.cells #[.slice none 0 0, .slice none 0 0, .slice none 0 0] 26)) (p := ⟨w.heap.size, 0, none⟩) (by simp) (.slice none 0 0)) (p := ⟨w.heap.size, 1, none⟩) (by simp) (.slice none 0 0)) (p := ⟨w.heap.size, 2, none⟩) (by simp) (.slice none 0 0)) 0 (.int .i64 e)
 have q0 := (kC z0 0).trans (show _ = some (Value.slice none 0 0) from rfl)
 have q1 := (kC z0 1).trans (show _ = some (Value.slice none 0 0) from rfl)
 have q2 := (kC z0 2).trans (show _ = some (Value.slice none 0 0) from rfl)
 have q9 := (kC z1 0).trans (show _ = some (Value.int .i64 e) from rfl)
 simp [Leaves, settle, results, Try.results35, go_sem, q0, q1, q2, q9]
 first | exact ⟨_, _, _, ⟨rfl, rfl, rfl⟩, Kd.S_nil _ _ _ _ _, Kd.S_nil _ _ _ _ _, Kd.S_nil _ _ _ _ _, (((((bA hbw _).setCell (Nat.le_refl _) _).setCell (Nat.le_refl _) _).setCell (Nat.le_refl _) _).setCell (Nat.le_succ _) _)⟩ | exact ⟨Kd.S_nil _ _ _ _ _, Kd.S_nil _ _ _ _ _, Kd.S_nil _ _ _ _ _, (((((bA hbw _).setCell (Nat.le_refl _) _).setCell (Nat.le_refl _) _).setCell (Nat.le_refl _) _).setCell (Nat.le_succ _) _)⟩ | exact (((((bA hbw _).setCell (Nat.le_refl _) _).setCell (Nat.le_refl _) _).setCell (Nat.le_refl _) _).setCell (Nat.le_succ _) _)
def api_Data_by_codec_GetData_1.f (k : Nat) (a0 : ByteArray) : Option ((List S53) × (List S56) × (List S59) × Int) := (codec_GetData_1.f k a0 0 0).bind fun x => match x with
 | .error e => some ([], [], [], e)
 | .ok (r1, r2, r3, s, p, er) => (wire_Reader_Done.f s p er).bind fun b => if b.1 = 0 then some (r1, r2, r3, 0) else some ([], [], [], b.1)
theorem api_Data_by_codec_GetData_1.mono : ∀ a0 k, LeO (api_Data_by_codec_GetData_1.f k a0) (api_Data_by_codec_GetData_1.f (k + 1) a0) := by
 intro a0 k
 unfold api_Data_by_codec_GetData_1.f
 exact LeO.bind (codec_GetData_1.mono _ _ _ _) (fun _ => LeO.refl _)
theorem api_Data_by_codec_GetData_1.calls (k : Nat) (a0 : ByteArray) (r1 : List S53) (r2 : List S56) (r3 : List S59) (r4 : Int) (w : World) (h : api_Data_by_codec_GetData_1.f k a0 = some (r1, r2, r3, r4)) :
  Calls Try.prog 35 #[.string a0, .func (.func 36) #[] #[]] w fun e w' => ∃ v0_ v1_ v2_ : Value, e = .returned (.tuple #[.agg #[v0_, v1_, v2_], .int .i64 r4]) ∧ Kd.S k53 53 w' w.heap.size (fun _ => True) v0_ r1 ∧ Kd.S k56 56 w' w.heap.size (fun _ => True) v1_ r2 ∧ Kd.S k59 59 w' w.heap.size (fun _ => True) v2_ r3 ∧ Below w.heap.size w w' := by
 unfold api_Data_by_codec_GetData_1.f at h
 obtain ⟨x, hx, h⟩ := Option.bind_eq_some_iff.mp h
 cases x with
 | error e =>
  simp only [Option.some.injEq, Prod.mk.injEq] at h
  obtain ⟨rfl, rfl, rfl, rfl⟩ := h
  exact dec1_err k a0 _ w hx
 | ok x =>
  obtain ⟨q1, q2, q3, s, p, er⟩ := x
  dsimp only at h
  obtain ⟨⟨e, s2, p2, e2⟩, hd, h⟩ := Option.bind_eq_some_iff.mp h
  dsimp only at h
  by_cases he : e = 0
  ·rw [if_pos he] at h
   simp only [Option.some.injEq, Prod.mk.injEq] at h
   obtain ⟨rfl, rfl, rfl, rfl⟩ := h
   exact dec1_ok k a0 _ _ _ s s2 p er e p2 e2 w hx hd he
  ·rw [if_neg he] at h
   simp only [Option.some.injEq, Prod.mk.injEq] at h
   obtain ⟨rfl, rfl, rfl, rfl⟩ := h
   exact dec1_bad k a0 q1 q2 q3 s s2 p er e p2 e2 w hx hd he
def codec_GetData.f (k : Nat) (a0 : ByteArray) : Option ((List (S53)) × (List (S56)) × (List (S59)) × Int) := (api_Data_by_codec_GetData_1.f k a0).bind fun bt324 => (some (bt324.1, bt324.2.1, bt324.2.2.1, bt324.2.2.2))
theorem codec_GetData.mono : ∀ a0 k, LeO (codec_GetData.f k a0) (codec_GetData.f (k + 1) a0) := by
 intro a0 k
 unfold codec_GetData.f
 repeat' first
   | (with_reducible exact api_Data_by_codec_GetData_1.mono _ _)
   | (with_reducible exact LeO.refl _)
   | (with_reducible exact LeO.none _)
   | (with_reducible refine LeO.ite ?_ ?_)
   | (with_reducible refine LeO.eB ?_ (fun _ => ?_))
   | (with_reducible refine LeO.bind ?_ (fun _ => ?_))
   | exact api_Data_by_codec_GetData_1.mono _ _
   | exact LeO.none _
   | refine LeO.ite ?_ ?_
   | refine LeO.bind ?_ (fun _ => ?_)
set_option maxHeartbeats 8000000 in
set_option maxRecDepth 100000 in
theorem codec_GetData.calls (k : Nat) (a0 : ByteArray) (r1 : List (S53)) (r2 : List (S56)) (r3 : List (S59)) (r4 : Int) (w : World) (h : codec_GetData.f k a0 = some (r1, r2, r3, r4)) :
  Calls Try.prog 14 #[.string a0] w fun e w' => ∃ v0_ v1_ v2_ : Value, e = .returned (.tuple #[.agg #[v0_, v1_, v2_], .int .i64 r4]) ∧ Kd.S k53 53 w' w.heap.size (fun _ => True) v0_ r1 ∧ Kd.S k56 56 w' w.heap.size (fun _ => True) v1_ r2 ∧ Kd.S k59 59 w' w.heap.size (fun _ => True) v2_ r3 ∧ Below w.heap.size w w' := by
 have hu26 := Try.underlying26
 have HB := aM (Below.refl w.heap.size w)
 have H : ((api_Data_by_codec_GetData_1.f k a0).bind fun bt324 => (some (bt324.1, bt324.2.1, bt324.2.2.1, bt324.2.2.2))) = some (r1, r2, r3, r4) := h
 clear h
 replace H := Option.bind_eq_some_iff.mp H
 obtain ⟨⟨t324, t327, t330, t333⟩, A20, H⟩ := H
 replace H : (some (t324, t327, t330, t333)) = some (r1, r2, r3, r4) := H
 have A2 := aM A20
 clear A20
 simp only [Option.some.injEq, Prod.mk.injEq] at H
 obtain ⟨rfl, rfl, rfl, rfl⟩ := H
 go_enter Try.func14, Try.ntmps14
 go_wp2_with (first | ((with_reducible refine gate_dst (N := 2) rfl ?_); refine bx (N := 2) (cs := #[.slice none 0 0, .slice none 0 0, .slice none 0 0]) (t := 26) ?_; intro gb323 hg w3 hbox hb; have n0_ := aM (bS (bl) hb); have n1_ := aM (hbox); have n3_ := aM (gw (w := w) hg); (try clear HB); have HB := n0_; have BK323 := n1_; have GE323 := n3_; clear n0_ n1_ n3_ hb hbox hg) | ((with_reducible refine gate_callee (f := 35) rfl ?_); refine gL (some 5) Try.func35 #[.string a0, .func (.func 36) #[] #[]] ?_; (with_reducible refine (api_Data_by_codec_GetData_1.calls k a0 t324 t327 t330 t333 _ A2.out).mono ?_); rintro e w4 ⟨v325, v328, v331, rfl, ho0, ho1, ho2, hb⟩; refine ⟨_, rfl, ?_⟩; have HO326 := aM (Kd.S_lower ho0 (below_size (bl))); have HO329 := aM (Kd.S_lower ho1 (below_size (bl))); have HO332 := aM (Kd.S_lower ho2 (below_size (bl))); replace BK323 := aM (kB (kl BK323) hb); replace HB := aM (bS (bl) hb); (try clear hb); (try clear ho0); (try clear ho1); (try clear ho2); obtain ⟨Ao5, co5, eo5⟩ := Kd.S_slice HO326.out; subst eo5; obtain ⟨hcz6_0, hcz6_1, hcz6_2, hfz6_0, hfz6_1, hfz6_2⟩ := bc3 BK323; obtain ⟨Ao7, co7, eo7⟩ := Kd.S_slice HO329.out; subst eo7; obtain ⟨Ao8, co8, eo8⟩ := Kd.S_slice HO332.out; subst eo8))
 refine bodyPost_ret (results_ct rfl _ _ gb323 26 #[.slice Ao5 t324.length co5, .slice Ao7 t327.length co7, .slice Ao8 t330.length co8] (0, 0) _ rfl (bk BK323) Try.underlying26 rfl (by kernel_rfl)) rfl ?_
 exact ⟨_, _, _, by first | rfl | (simp [errW_none, errW_some] <;> rfl) | (simp [*, errW_none, errW_some] <;> rfl), by (with_reducible repeat (first | apply Kd.S_alloc | apply Kd.S_drewN | apply Kd.S_drew)); exact Kd.S_mono (Kd.S_far (p := ⟨gb323, 2, none⟩) (Kd.S_far (p := ⟨gb323, 1, none⟩) (Kd.S_far (p := ⟨gb323, 0, none⟩) (Kd.S_types HO326.out BK323.out (by decide)) (fun _ hk => hk.2) (.slice Ao5 t324.length co5)) (fun _ hk => hk.2) (.slice Ao7 t327.length co7)) (fun _ hk => hk.2) (.slice Ao8 t330.length co8)) (fun _ hk => trivial), by (with_reducible repeat (first | apply Kd.S_alloc | apply Kd.S_drewN | apply Kd.S_drew)); exact Kd.S_mono (Kd.S_far (p := ⟨gb323, 2, none⟩) (Kd.S_far (p := ⟨gb323, 1, none⟩) (Kd.S_far (p := ⟨gb323, 0, none⟩) (Kd.S_types HO329.out BK323.out (by decide)) (fun _ hk => hk.2) (.slice Ao5 t324.length co5)) (fun _ hk => hk.2) (.slice Ao7 t327.length co7)) (fun _ hk => hk.2) (.slice Ao8 t330.length co8)) (fun _ hk => trivial), by (with_reducible repeat (first | apply Kd.S_alloc | apply Kd.S_drewN | apply Kd.S_drew)); exact Kd.S_mono (Kd.S_far (p := ⟨gb323, 2, none⟩) (Kd.S_far (p := ⟨gb323, 1, none⟩) (Kd.S_far (p := ⟨gb323, 0, none⟩) (Kd.S_types HO332.out BK323.out (by decide)) (fun _ hk => hk.2) (.slice Ao5 t324.length co5)) (fun _ hk => hk.2) (.slice Ao7 t327.length co7)) (fun _ hk => hk.2) (.slice Ao8 t330.length co8)) (fun _ hk => trivial), bl⟩
def change_Check.f (a0_0 : Int) (a0_1 : Int) (a0_2 : Int) (a0_3 : Int) (a0_4 : Int) (l0_5 : List (S130)) (a0_6 : Int) (l0_7 : List Int) (l0_8 : List (S130)) (a0_9 : Int) (l0_10 : List (S63)) (l0_11 : List (S130)) : Option (Int) := if a0_0 = 1 then (if a0_1 < 1 then (some 1) else (if a0_1 > 3 then (some 1) else (some 0))) else (if a0_0 = 2 then (if a0_1 < 1 then (some 1) else (if a0_1 > 3 then (some 1) else (some 0))) else (some 1))
set_option maxHeartbeats 8000000 in
set_option maxRecDepth 100000 in
theorem change_Check.calls (a0_0 : Int) (a0_1 : Int) (a0_2 : Int) (a0_3 : Int) (a0_4 : Int) (A0_5 : Option Addr) (c0_5 : Nat) (l0_5 : List (S130)) (a0_6 : Int) (A0_7 : Option Addr) (c0_7 : Nat) (l0_7 : List Int) (A0_8 : Option Addr) (c0_8 : Nat) (l0_8 : List (S130)) (a0_9 : Int) (A0_10 : Option Addr) (c0_10 : Nat) (l0_10 : List (S63)) (A0_11 : Option Addr) (c0_11 : Nat) (l0_11 : List (S130)) (r : Int) (w : World) (hr0_5 : Kd.C k130 w A0_5 l0_5.length l0_5) (hc0_5 : l0_5.length ≤ c0_5) (hr0_7 : Kd.C (Kd.int .i64) w A0_7 l0_7.length l0_7) (hc0_7 : l0_7.length ≤ c0_7) (hr0_8 : Kd.C k130 w A0_8 l0_8.length l0_8) (hc0_8 : l0_8.length ≤ c0_8) (hr0_10 : Kd.C k63 w A0_10 l0_10.length l0_10) (hc0_10 : l0_10.length ≤ c0_10) (hr0_11 : Kd.C k130 w A0_11 l0_11.length l0_11) (hc0_11 : l0_11.length ≤ c0_11) (h : change_Check.f a0_0 a0_1 a0_2 a0_3 a0_4 l0_5 a0_6 l0_7 l0_8 a0_9 l0_10 l0_11 = some r) :
  Calls Try.prog 51 #[.agg #[.int .i64 a0_0, .int .i64 a0_1, .int .i64 a0_2, .int .i64 a0_3, .int .i64 a0_4, .slice A0_5 l0_5.length c0_5, .int .i64 a0_6, .slice A0_7 l0_7.length c0_7, .slice A0_8 l0_8.length c0_8, .int .i64 a0_9, .slice A0_10 l0_10.length c0_10, .slice A0_11 l0_11.length c0_11]] w fun e w' => e = .returned (.int .i64 r) ∧ Below w.heap.size w w' := by
 have hu65 := Try.underlying65
 have HR0_5 := aM hr0_5
 have HC0_5 := aM hc0_5
 clear hr0_5 hc0_5
 have HR0_7 := aM hr0_7
 have HC0_7 := aM hc0_7
 clear hr0_7 hc0_7
 have HR0_8 := aM hr0_8
 have HC0_8 := aM hc0_8
 clear hr0_8 hc0_8
 have HR0_10 := aM hr0_10
 have HC0_10 := aM hc0_10
 clear hr0_10 hc0_10
 have HR0_11 := aM hr0_11
 have HC0_11 := aM hc0_11
 clear hr0_11 hc0_11
 have HB := aM (Below.refl w.heap.size w)
 have H : (if a0_0 = 1 then (if a0_1 < 1 then (some 1) else (if a0_1 > 3 then (some 1) else (some 0))) else (if a0_0 = 2 then (if a0_1 < 1 then (some 1) else (if a0_1 > 3 then (some 1) else (some 0))) else (some 1))) = some r := h
 clear h
 by_cases c2 : a0_0 = 1
 ·rw [if_pos c2] at H
  have c2b0 : (a0_0 == 1) = true := beq_iff_eq.mpr c2
  have c2b1 : (a0_0 != 1) = false := bne_eq_false_iff_eq.mpr c2
  clear c2
  by_cases c3 : a0_1 < 1
  ·rw [if_pos c3] at H
   have c3b0 : decide (a0_1 < 1) = true := decide_eq_true c3
   clear c3
   obtain rfl := Option.some.inj H
   go_enter Try.func51, Try.ntmps51
   go_wp2_with (first | ((with_reducible refine gate_dst (N := 1) rfl ?_); refine bx (N := 1) (cs := #[.int .i64 a0_0, .int .i64 a0_1, .int .i64 a0_2, .int .i64 a0_3, .int .i64 a0_4, .slice A0_5 l0_5.length c0_5, .int .i64 a0_6, .slice A0_7 l0_7.length c0_7, .slice A0_8 l0_8.length c0_8, .int .i64 a0_9, .slice A0_10 l0_10.length c0_10, .slice A0_11 l0_11.length c0_11]) (t := 65) ?_; intro gb334 hg w4 hbox hb; have BK334 := aM (hbox); have GE334 := aM (gw (w := w) hg); replace HB := aM (bS (bl) hb); clear hb hbox hg; obtain ⟨hcz5_0, hcz5_1, hcz5_2, hcz5_3, hcz5_4, hcz5_5, hcz5_6, hcz5_7, hcz5_8, hcz5_9, hcz5_10, hcz5_11, hfz5_0, hfz5_1, hfz5_2, hfz5_3, hfz5_4, hfz5_5, hfz5_6, hfz5_7, hfz5_8, hfz5_9, hfz5_10, hfz5_11⟩ := bc12 BK334))
   go_ret
   exact ⟨by first | rfl | (simp [errW_none, errW_some] <;> rfl) | (simp [*, errW_none, errW_some] <;> rfl), bl⟩
  ·rw [if_neg c3] at H
   have c3b0 : decide (a0_1 < 1) = false := decide_eq_false c3
   clear c3
   by_cases c6 : a0_1 > 3
   ·rw [if_pos c6] at H
    have c6b0 : decide (3 < a0_1) = true := decide_eq_true c6
    clear c6
    obtain rfl := Option.some.inj H
    go_enter Try.func51, Try.ntmps51
    go_wp2_with (first | ((with_reducible refine gate_dst (N := 1) rfl ?_); refine bx (N := 1) (cs := #[.int .i64 a0_0, .int .i64 a0_1, .int .i64 a0_2, .int .i64 a0_3, .int .i64 a0_4, .slice A0_5 l0_5.length c0_5, .int .i64 a0_6, .slice A0_7 l0_7.length c0_7, .slice A0_8 l0_8.length c0_8, .int .i64 a0_9, .slice A0_10 l0_10.length c0_10, .slice A0_11 l0_11.length c0_11]) (t := 65) ?_; intro gb334 hg w7 hbox hb; have BK334 := aM (hbox); have GE334 := aM (gw (w := w) hg); replace HB := aM (bS (bl) hb); clear hb hbox hg; obtain ⟨hcz8_0, hcz8_1, hcz8_2, hcz8_3, hcz8_4, hcz8_5, hcz8_6, hcz8_7, hcz8_8, hcz8_9, hcz8_10, hcz8_11, hfz8_0, hfz8_1, hfz8_2, hfz8_3, hfz8_4, hfz8_5, hfz8_6, hfz8_7, hfz8_8, hfz8_9, hfz8_10, hfz8_11⟩ := bc12 BK334))
    go_ret
    exact ⟨by first | rfl | (simp [errW_none, errW_some] <;> rfl) | (simp [*, errW_none, errW_some] <;> rfl), bl⟩
   ·rw [if_neg c6] at H
    have c6b0 : decide (3 < a0_1) = false := decide_eq_false c6
    clear c6
    obtain rfl := Option.some.inj H
    go_enter Try.func51, Try.ntmps51
    go_wp2_with (first | ((with_reducible refine gate_dst (N := 1) rfl ?_); refine bx (N := 1) (cs := #[.int .i64 a0_0, .int .i64 a0_1, .int .i64 a0_2, .int .i64 a0_3, .int .i64 a0_4, .slice A0_5 l0_5.length c0_5, .int .i64 a0_6, .slice A0_7 l0_7.length c0_7, .slice A0_8 l0_8.length c0_8, .int .i64 a0_9, .slice A0_10 l0_10.length c0_10, .slice A0_11 l0_11.length c0_11]) (t := 65) ?_; intro gb334 hg w9 hbox hb; have BK334 := aM (hbox); have GE334 := aM (gw (w := w) hg); replace HB := aM (bS (bl) hb); clear hb hbox hg; obtain ⟨hcz10_0, hcz10_1, hcz10_2, hcz10_3, hcz10_4, hcz10_5, hcz10_6, hcz10_7, hcz10_8, hcz10_9, hcz10_10, hcz10_11, hfz10_0, hfz10_1, hfz10_2, hfz10_3, hfz10_4, hfz10_5, hfz10_6, hfz10_7, hfz10_8, hfz10_9, hfz10_10, hfz10_11⟩ := bc12 BK334))
    go_ret
    exact ⟨by first | rfl | (simp [errW_none, errW_some] <;> rfl) | (simp [*, errW_none, errW_some] <;> rfl), bl⟩
 ·rw [if_neg c2] at H
  have c2b0 : (a0_0 == 1) = false := beq_eq_false_iff_ne.mpr c2
  have c2b1 : (a0_0 != 1) = true := bne_iff_ne.mpr c2
  by_cases c11 : a0_0 = 2
  ·rw [if_pos c11] at H
   have c11b0 : (a0_0 == 2) = true := beq_iff_eq.mpr c11
   have c11b1 : (a0_0 != 2) = false := bne_eq_false_iff_eq.mpr c11
   clear c11
   by_cases c12 : a0_1 < 1
   ·rw [if_pos c12] at H
    have c12b0 : decide (a0_1 < 1) = true := decide_eq_true c12
    clear c12
    obtain rfl := Option.some.inj H
    go_enter Try.func51, Try.ntmps51
    go_wp2_with (first | ((with_reducible refine gate_dst (N := 1) rfl ?_); refine bx (N := 1) (cs := #[.int .i64 a0_0, .int .i64 a0_1, .int .i64 a0_2, .int .i64 a0_3, .int .i64 a0_4, .slice A0_5 l0_5.length c0_5, .int .i64 a0_6, .slice A0_7 l0_7.length c0_7, .slice A0_8 l0_8.length c0_8, .int .i64 a0_9, .slice A0_10 l0_10.length c0_10, .slice A0_11 l0_11.length c0_11]) (t := 65) ?_; intro gb334 hg w13 hbox hb; have BK334 := aM (hbox); have GE334 := aM (gw (w := w) hg); replace HB := aM (bS (bl) hb); clear hb hbox hg; obtain ⟨hcz14_0, hcz14_1, hcz14_2, hcz14_3, hcz14_4, hcz14_5, hcz14_6, hcz14_7, hcz14_8, hcz14_9, hcz14_10, hcz14_11, hfz14_0, hfz14_1, hfz14_2, hfz14_3, hfz14_4, hfz14_5, hfz14_6, hfz14_7, hfz14_8, hfz14_9, hfz14_10, hfz14_11⟩ := bc12 BK334))
    go_ret
    exact ⟨by first | rfl | (simp [errW_none, errW_some] <;> rfl) | (simp [*, errW_none, errW_some] <;> rfl), bl⟩
   ·rw [if_neg c12] at H
    have c12b0 : decide (a0_1 < 1) = false := decide_eq_false c12
    clear c12
    by_cases c15 : a0_1 > 3
    ·rw [if_pos c15] at H
     have c15b0 : decide (3 < a0_1) = true := decide_eq_true c15
     clear c15
     obtain rfl := Option.some.inj H
     go_enter Try.func51, Try.ntmps51
     go_wp2_with (first | ((with_reducible refine gate_dst (N := 1) rfl ?_); refine bx (N := 1) (cs := #[.int .i64 a0_0, .int .i64 a0_1, .int .i64 a0_2, .int .i64 a0_3, .int .i64 a0_4, .slice A0_5 l0_5.length c0_5, .int .i64 a0_6, .slice A0_7 l0_7.length c0_7, .slice A0_8 l0_8.length c0_8, .int .i64 a0_9, .slice A0_10 l0_10.length c0_10, .slice A0_11 l0_11.length c0_11]) (t := 65) ?_; intro gb334 hg w16 hbox hb; have BK334 := aM (hbox); have GE334 := aM (gw (w := w) hg); replace HB := aM (bS (bl) hb); clear hb hbox hg; obtain ⟨hcz17_0, hcz17_1, hcz17_2, hcz17_3, hcz17_4, hcz17_5, hcz17_6, hcz17_7, hcz17_8, hcz17_9, hcz17_10, hcz17_11, hfz17_0, hfz17_1, hfz17_2, hfz17_3, hfz17_4, hfz17_5, hfz17_6, hfz17_7, hfz17_8, hfz17_9, hfz17_10, hfz17_11⟩ := bc12 BK334))
     go_ret
     exact ⟨by first | rfl | (simp [errW_none, errW_some] <;> rfl) | (simp [*, errW_none, errW_some] <;> rfl), bl⟩
    ·rw [if_neg c15] at H
     have c15b0 : decide (3 < a0_1) = false := decide_eq_false c15
     clear c15
     obtain rfl := Option.some.inj H
     go_enter Try.func51, Try.ntmps51
     go_wp2_with (first | ((with_reducible refine gate_dst (N := 1) rfl ?_); refine bx (N := 1) (cs := #[.int .i64 a0_0, .int .i64 a0_1, .int .i64 a0_2, .int .i64 a0_3, .int .i64 a0_4, .slice A0_5 l0_5.length c0_5, .int .i64 a0_6, .slice A0_7 l0_7.length c0_7, .slice A0_8 l0_8.length c0_8, .int .i64 a0_9, .slice A0_10 l0_10.length c0_10, .slice A0_11 l0_11.length c0_11]) (t := 65) ?_; intro gb334 hg w18 hbox hb; have BK334 := aM (hbox); have GE334 := aM (gw (w := w) hg); replace HB := aM (bS (bl) hb); clear hb hbox hg; obtain ⟨hcz19_0, hcz19_1, hcz19_2, hcz19_3, hcz19_4, hcz19_5, hcz19_6, hcz19_7, hcz19_8, hcz19_9, hcz19_10, hcz19_11, hfz19_0, hfz19_1, hfz19_2, hfz19_3, hfz19_4, hfz19_5, hfz19_6, hfz19_7, hfz19_8, hfz19_9, hfz19_10, hfz19_11⟩ := bc12 BK334))
     go_ret
     exact ⟨by first | rfl | (simp [errW_none, errW_some] <;> rfl) | (simp [*, errW_none, errW_some] <;> rfl), bl⟩
  ·rw [if_neg c11] at H
   have c11b0 : (a0_0 == 2) = false := beq_eq_false_iff_ne.mpr c11
   have c11b1 : (a0_0 != 2) = true := bne_iff_ne.mpr c11
   obtain rfl := Option.some.inj H
   go_enter Try.func51, Try.ntmps51
   go_wp2_with (first | ((with_reducible refine gate_dst (N := 1) rfl ?_); refine bx (N := 1) (cs := #[.int .i64 a0_0, .int .i64 a0_1, .int .i64 a0_2, .int .i64 a0_3, .int .i64 a0_4, .slice A0_5 l0_5.length c0_5, .int .i64 a0_6, .slice A0_7 l0_7.length c0_7, .slice A0_8 l0_8.length c0_8, .int .i64 a0_9, .slice A0_10 l0_10.length c0_10, .slice A0_11 l0_11.length c0_11]) (t := 65) ?_; intro gb334 hg w20 hbox hb; have BK334 := aM (hbox); have GE334 := aM (gw (w := w) hg); replace HB := aM (bS (bl) hb); clear hb hbox hg; obtain ⟨hcz21_0, hcz21_1, hcz21_2, hcz21_3, hcz21_4, hcz21_5, hcz21_6, hcz21_7, hcz21_8, hcz21_9, hcz21_10, hcz21_11, hfz21_0, hfz21_1, hfz21_2, hfz21_3, hfz21_4, hfz21_5, hfz21_6, hfz21_7, hfz21_8, hfz21_9, hfz21_10, hfz21_11⟩ := bc12 BK334))
   go_ret
   exact ⟨by first | rfl | (simp [errW_none, errW_some] <;> rfl) | (simp [*, errW_none, errW_some] <;> rfl), bl⟩
def change_Ref.f (a0_0 : Int) (a0_1 : Int) (a0_2 : Int) (a0_3 : Int) (a0_4 : Int) (l0_5 : List (S130)) (a0_6 : Int) (l0_7 : List Int) (l0_8 : List (S130)) (a0_9 : Int) (l0_10 : List (S63)) (l0_11 : List (S130)) : Option (Int × Int) := (change_Check.f a0_0 a0_1 a0_2 a0_3 a0_4 l0_5 a0_6 l0_7 l0_8 a0_9 l0_10 l0_11).bind fun t337 => (if t337 = 0 then (if a0_1 = 1 then (some (a0_1, a0_2)) else (if a0_1 = 2 then (some (a0_1, a0_6)) else (some (a0_1, a0_9)))) else (some (0, 0)))
set_option maxHeartbeats 8000000 in
set_option maxRecDepth 100000 in
theorem change_Ref.calls (a0_0 : Int) (a0_1 : Int) (a0_2 : Int) (a0_3 : Int) (a0_4 : Int) (A0_5 : Option Addr) (c0_5 : Nat) (l0_5 : List (S130)) (a0_6 : Int) (A0_7 : Option Addr) (c0_7 : Nat) (l0_7 : List Int) (A0_8 : Option Addr) (c0_8 : Nat) (l0_8 : List (S130)) (a0_9 : Int) (A0_10 : Option Addr) (c0_10 : Nat) (l0_10 : List (S63)) (A0_11 : Option Addr) (c0_11 : Nat) (l0_11 : List (S130)) (r1 : Int) (r2 : Int) (w : World) (hr0_5 : Kd.C k130 w A0_5 l0_5.length l0_5) (hc0_5 : l0_5.length ≤ c0_5) (hr0_7 : Kd.C (Kd.int .i64) w A0_7 l0_7.length l0_7) (hc0_7 : l0_7.length ≤ c0_7) (hr0_8 : Kd.C k130 w A0_8 l0_8.length l0_8) (hc0_8 : l0_8.length ≤ c0_8) (hr0_10 : Kd.C k63 w A0_10 l0_10.length l0_10) (hc0_10 : l0_10.length ≤ c0_10) (hr0_11 : Kd.C k130 w A0_11 l0_11.length l0_11) (hc0_11 : l0_11.length ≤ c0_11) (h : change_Ref.f a0_0 a0_1 a0_2 a0_3 a0_4 l0_5 a0_6 l0_7 l0_8 a0_9 l0_10 l0_11 = some (r1, r2)) :
  Calls Try.prog 52 #[.agg #[.int .i64 a0_0, .int .i64 a0_1, .int .i64 a0_2, .int .i64 a0_3, .int .i64 a0_4, .slice A0_5 l0_5.length c0_5, .int .i64 a0_6, .slice A0_7 l0_7.length c0_7, .slice A0_8 l0_8.length c0_8, .int .i64 a0_9, .slice A0_10 l0_10.length c0_10, .slice A0_11 l0_11.length c0_11]] w fun e w' => e = .returned (.agg #[.int .i64 r1, .int .i64 r2]) ∧ Below w.heap.size w w' := by
 have hu65 := Try.underlying65
 have hu61 := Try.underlying61
 have HR0_5 := aM hr0_5
 have HC0_5 := aM hc0_5
 clear hr0_5 hc0_5
 have HR0_7 := aM hr0_7
 have HC0_7 := aM hc0_7
 clear hr0_7 hc0_7
 have HR0_8 := aM hr0_8
 have HC0_8 := aM hc0_8
 clear hr0_8 hc0_8
 have HR0_10 := aM hr0_10
 have HC0_10 := aM hc0_10
 clear hr0_10 hc0_10
 have HR0_11 := aM hr0_11
 have HC0_11 := aM hc0_11
 clear hr0_11 hc0_11
 have HB := aM (Below.refl w.heap.size w)
 have H : ((change_Check.f a0_0 a0_1 a0_2 a0_3 a0_4 l0_5 a0_6 l0_7 l0_8 a0_9 l0_10 l0_11).bind fun t337 => (if t337 = 0 then (if a0_1 = 1 then (some (a0_1, a0_2)) else (if a0_1 = 2 then (some (a0_1, a0_6)) else (some (a0_1, a0_9)))) else (some (0, 0)))) = some (r1, r2) := h
 clear h
 replace H := Option.bind_eq_some_iff.mp H
 obtain ⟨t337, A20, H⟩ := H
 replace H : (if t337 = 0 then (if a0_1 = 1 then (some (a0_1, a0_2)) else (if a0_1 = 2 then (some (a0_1, a0_6)) else (some (a0_1, a0_9)))) else (some (0, 0))) = some (r1, r2) := H
 have A2 := aM A20
 clear A20
 by_cases c3 : t337 = 0
 ·rw [if_pos c3] at H
  have c3b0 : (t337 == 0) = true := beq_iff_eq.mpr c3
  have c3b1 : (t337 != 0) = false := bne_eq_false_iff_eq.mpr c3
  clear c3
  by_cases c4 : a0_1 = 1
  ·rw [if_pos c4] at H
   have c4b0 : (a0_1 == 1) = true := beq_iff_eq.mpr c4
   have c4b1 : (a0_1 != 1) = false := bne_eq_false_iff_eq.mpr c4
   clear c4
   simp only [Option.some.injEq, Prod.mk.injEq] at H
   obtain ⟨rfl, rfl⟩ := H
   go_enter Try.func52, Try.ntmps52
   go_wp2_with (first | ((with_reducible refine gate_dst (N := 1) rfl ?_); refine bx (N := 1) (cs := #[.int .i64 a0_0, .int .i64 a0_1, .int .i64 a0_2, .int .i64 a0_3, .int .i64 a0_4, .slice A0_5 l0_5.length c0_5, .int .i64 a0_6, .slice A0_7 l0_7.length c0_7, .slice A0_8 l0_8.length c0_8, .int .i64 a0_9, .slice A0_10 l0_10.length c0_10, .slice A0_11 l0_11.length c0_11]) (t := 65) ?_; intro gb335 hg w5 hbox hb; have n0_ := aM (bS (bl) hb); have n1_ := aM (hbox); have n3_ := aM (gw (w := w) hg); (try clear HB); have HB := n0_; have BK335 := n1_; have GE335 := n3_; clear n0_ n1_ n3_ hb hbox hg) | ((with_reducible refine gate_dst (N := 2) rfl ?_); refine bx (N := 2) (cs := #[.int .i64 0, .int .i64 0]) (t := 61) ?_; intro gb336 hg w6 hbox hb; have n0_ := aM (kB (kl BK335) hb); have n1_ := aM (bS (bl) hb); have n2_ := aM (hbox); have n4_ := aM (gw (w := w) hg); have n5_ := aM (nb BK335 hg); have n6_ := aM (nb BK335 hg).symm; (try clear BK335); (try clear HB); have BK335 := n0_; have HB := n1_; have BK336 := n2_; have GE336 := n4_; have NB335_336 := n5_; have NB336_335 := n6_; clear n0_ n1_ n2_ n4_ n5_ n6_ hb hbox hg; obtain ⟨hnb7, hnc7⟩ := nn NB335_336; obtain ⟨hcz8_0, hcz8_1, hcz8_2, hcz8_3, hcz8_4, hcz8_5, hcz8_6, hcz8_7, hcz8_8, hcz8_9, hcz8_10, hcz8_11, hfz8_0, hfz8_1, hfz8_2, hfz8_3, hfz8_4, hfz8_5, hfz8_6, hfz8_7, hfz8_8, hfz8_9, hfz8_10, hfz8_11⟩ := bc12 BK335) | ((with_reducible refine gate_callee (f := 51) rfl ?_); refine gL (some 4) Try.func51 #[.agg #[.int .i64 a0_0, .int .i64 a0_1, .int .i64 a0_2, .int .i64 a0_3, .int .i64 a0_4, .slice A0_5 l0_5.length c0_5, .int .i64 a0_6, .slice A0_7 l0_7.length c0_7, .slice A0_8 l0_8.length c0_8, .int .i64 a0_9, .slice A0_10 l0_10.length c0_10, .slice A0_11 l0_11.length c0_11]] ?_; (with_reducible refine (change_Check.calls a0_0 a0_1 a0_2 a0_3 a0_4 _ _ l0_5 a0_6 _ _ l0_7 _ _ l0_8 a0_9 _ _ l0_10 _ _ l0_11 t337 _ ?side1 ?side2 ?side3 ?side4 ?side5 ?side6 ?side7 ?side8 ?side9 ?side10 A2.out).mono ?_); (case side1 => exact cl HR0_5); (case side2 => exact HC0_5.out); (case side3 => exact cl HR0_7); (case side4 => exact HC0_7.out); (case side5 => exact cl HR0_8); (case side6 => exact HC0_8.out); (case side7 => exact cl HR0_10); (case side8 => exact HC0_10.out); (case side9 => exact cl HR0_11); (case side10 => exact HC0_11.out); rintro e w9 ⟨rfl, hb⟩; refine ⟨_, rfl, ?_⟩; replace BK335 := aM (kB (kl BK335) hb); replace BK336 := aM (kB (kl BK336) hb); replace HB := aM (bS (bl) hb); (try clear hb); obtain ⟨hcz10_0, hcz10_1, hcz10_2, hcz10_3, hcz10_4, hcz10_5, hcz10_6, hcz10_7, hcz10_8, hcz10_9, hcz10_10, hcz10_11, hfz10_0, hfz10_1, hfz10_2, hfz10_3, hfz10_4, hfz10_5, hfz10_6, hfz10_7, hfz10_8, hfz10_9, hfz10_10, hfz10_11⟩ := bc12 BK335; obtain ⟨hcz11_0, hcz11_1, hfz11_0, hfz11_1⟩ := bc2 BK336))
   refine bodyPost_ret (results_cell_row rfl _ _ gb336 61 #[.int .i64 a0_1, .int .i64 a0_2] (0, 0) _ rfl (bk BK336) Try.underlying61 rfl (by kernel_rfl)) rfl ?_
   exact ⟨by first | rfl | (simp [errW_none, errW_some] <;> rfl) | (simp [*, errW_none, errW_some] <;> rfl), bl⟩
  ·rw [if_neg c4] at H
   have c4b0 : (a0_1 == 1) = false := beq_eq_false_iff_ne.mpr c4
   have c4b1 : (a0_1 != 1) = true := bne_iff_ne.mpr c4
   by_cases c12 : a0_1 = 2
   ·rw [if_pos c12] at H
    have c12b0 : (a0_1 == 2) = true := beq_iff_eq.mpr c12
    have c12b1 : (a0_1 != 2) = false := bne_eq_false_iff_eq.mpr c12
    clear c12
    simp only [Option.some.injEq, Prod.mk.injEq] at H
    obtain ⟨rfl, rfl⟩ := H
    go_enter Try.func52, Try.ntmps52
    go_wp2_with (first | ((with_reducible refine gate_dst (N := 1) rfl ?_); refine bx (N := 1) (cs := #[.int .i64 a0_0, .int .i64 a0_1, .int .i64 a0_2, .int .i64 a0_3, .int .i64 a0_4, .slice A0_5 l0_5.length c0_5, .int .i64 a0_6, .slice A0_7 l0_7.length c0_7, .slice A0_8 l0_8.length c0_8, .int .i64 a0_9, .slice A0_10 l0_10.length c0_10, .slice A0_11 l0_11.length c0_11]) (t := 65) ?_; intro gb335 hg w13 hbox hb; have n0_ := aM (bS (bl) hb); have n1_ := aM (hbox); have n3_ := aM (gw (w := w) hg); (try clear HB); have HB := n0_; have BK335 := n1_; have GE335 := n3_; clear n0_ n1_ n3_ hb hbox hg) | ((with_reducible refine gate_dst (N := 2) rfl ?_); refine bx (N := 2) (cs := #[.int .i64 0, .int .i64 0]) (t := 61) ?_; intro gb336 hg w14 hbox hb; have n0_ := aM (kB (kl BK335) hb); have n1_ := aM (bS (bl) hb); have n2_ := aM (hbox); have n4_ := aM (gw (w := w) hg); have n5_ := aM (nb BK335 hg); have n6_ := aM (nb BK335 hg).symm; (try clear BK335); (try clear HB); have BK335 := n0_; have HB := n1_; have BK336 := n2_; have GE336 := n4_; have NB335_336 := n5_; have NB336_335 := n6_; clear n0_ n1_ n2_ n4_ n5_ n6_ hb hbox hg; obtain ⟨hnb15, hnc15⟩ := nn NB335_336; obtain ⟨hcz16_0, hcz16_1, hcz16_2, hcz16_3, hcz16_4, hcz16_5, hcz16_6, hcz16_7, hcz16_8, hcz16_9, hcz16_10, hcz16_11, hfz16_0, hfz16_1, hfz16_2, hfz16_3, hfz16_4, hfz16_5, hfz16_6, hfz16_7, hfz16_8, hfz16_9, hfz16_10, hfz16_11⟩ := bc12 BK335) | ((with_reducible refine gate_callee (f := 51) rfl ?_); refine gL (some 4) Try.func51 #[.agg #[.int .i64 a0_0, .int .i64 a0_1, .int .i64 a0_2, .int .i64 a0_3, .int .i64 a0_4, .slice A0_5 l0_5.length c0_5, .int .i64 a0_6, .slice A0_7 l0_7.length c0_7, .slice A0_8 l0_8.length c0_8, .int .i64 a0_9, .slice A0_10 l0_10.length c0_10, .slice A0_11 l0_11.length c0_11]] ?_; (with_reducible refine (change_Check.calls a0_0 a0_1 a0_2 a0_3 a0_4 _ _ l0_5 a0_6 _ _ l0_7 _ _ l0_8 a0_9 _ _ l0_10 _ _ l0_11 t337 _ ?side1 ?side2 ?side3 ?side4 ?side5 ?side6 ?side7 ?side8 ?side9 ?side10 A2.out).mono ?_); (case side1 => exact cl HR0_5); (case side2 => exact HC0_5.out); (case side3 => exact cl HR0_7); (case side4 => exact HC0_7.out); (case side5 => exact cl HR0_8); (case side6 => exact HC0_8.out); (case side7 => exact cl HR0_10); (case side8 => exact HC0_10.out); (case side9 => exact cl HR0_11); (case side10 => exact HC0_11.out); rintro e w17 ⟨rfl, hb⟩; refine ⟨_, rfl, ?_⟩; replace BK335 := aM (kB (kl BK335) hb); replace BK336 := aM (kB (kl BK336) hb); replace HB := aM (bS (bl) hb); (try clear hb); obtain ⟨hcz18_0, hcz18_1, hcz18_2, hcz18_3, hcz18_4, hcz18_5, hcz18_6, hcz18_7, hcz18_8, hcz18_9, hcz18_10, hcz18_11, hfz18_0, hfz18_1, hfz18_2, hfz18_3, hfz18_4, hfz18_5, hfz18_6, hfz18_7, hfz18_8, hfz18_9, hfz18_10, hfz18_11⟩ := bc12 BK335; obtain ⟨hcz19_0, hcz19_1, hfz19_0, hfz19_1⟩ := bc2 BK336))
    refine bodyPost_ret (results_cell_row rfl _ _ gb336 61 #[.int .i64 a0_1, .int .i64 a0_6] (0, 0) _ rfl (bk BK336) Try.underlying61 rfl (by kernel_rfl)) rfl ?_
    exact ⟨by first | rfl | (simp [errW_none, errW_some] <;> rfl) | (simp [*, errW_none, errW_some] <;> rfl), bl⟩
   ·rw [if_neg c12] at H
    have c12b0 : (a0_1 == 2) = false := beq_eq_false_iff_ne.mpr c12
    have c12b1 : (a0_1 != 2) = true := bne_iff_ne.mpr c12
    simp only [Option.some.injEq, Prod.mk.injEq] at H
    obtain ⟨rfl, rfl⟩ := H
    go_enter Try.func52, Try.ntmps52
    go_wp2_with (first | ((with_reducible refine gate_dst (N := 1) rfl ?_); refine bx (N := 1) (cs := #[.int .i64 a0_0, .int .i64 a0_1, .int .i64 a0_2, .int .i64 a0_3, .int .i64 a0_4, .slice A0_5 l0_5.length c0_5, .int .i64 a0_6, .slice A0_7 l0_7.length c0_7, .slice A0_8 l0_8.length c0_8, .int .i64 a0_9, .slice A0_10 l0_10.length c0_10, .slice A0_11 l0_11.length c0_11]) (t := 65) ?_; intro gb335 hg w20 hbox hb; have n0_ := aM (bS (bl) hb); have n1_ := aM (hbox); have n3_ := aM (gw (w := w) hg); (try clear HB); have HB := n0_; have BK335 := n1_; have GE335 := n3_; clear n0_ n1_ n3_ hb hbox hg) | ((with_reducible refine gate_dst (N := 2) rfl ?_); refine bx (N := 2) (cs := #[.int .i64 0, .int .i64 0]) (t := 61) ?_; intro gb336 hg w21 hbox hb; have n0_ := aM (kB (kl BK335) hb); have n1_ := aM (bS (bl) hb); have n2_ := aM (hbox); have n4_ := aM (gw (w := w) hg); have n5_ := aM (nb BK335 hg); have n6_ := aM (nb BK335 hg).symm; (try clear BK335); (try clear HB); have BK335 := n0_; have HB := n1_; have BK336 := n2_; have GE336 := n4_; have NB335_336 := n5_; have NB336_335 := n6_; clear n0_ n1_ n2_ n4_ n5_ n6_ hb hbox hg; obtain ⟨hnb22, hnc22⟩ := nn NB335_336; obtain ⟨hcz23_0, hcz23_1, hcz23_2, hcz23_3, hcz23_4, hcz23_5, hcz23_6, hcz23_7, hcz23_8, hcz23_9, hcz23_10, hcz23_11, hfz23_0, hfz23_1, hfz23_2, hfz23_3, hfz23_4, hfz23_5, hfz23_6, hfz23_7, hfz23_8, hfz23_9, hfz23_10, hfz23_11⟩ := bc12 BK335) | ((with_reducible refine gate_callee (f := 51) rfl ?_); refine gL (some 4) Try.func51 #[.agg #[.int .i64 a0_0, .int .i64 a0_1, .int .i64 a0_2, .int .i64 a0_3, .int .i64 a0_4, .slice A0_5 l0_5.length c0_5, .int .i64 a0_6, .slice A0_7 l0_7.length c0_7, .slice A0_8 l0_8.length c0_8, .int .i64 a0_9, .slice A0_10 l0_10.length c0_10, .slice A0_11 l0_11.length c0_11]] ?_; (with_reducible refine (change_Check.calls a0_0 a0_1 a0_2 a0_3 a0_4 _ _ l0_5 a0_6 _ _ l0_7 _ _ l0_8 a0_9 _ _ l0_10 _ _ l0_11 t337 _ ?side1 ?side2 ?side3 ?side4 ?side5 ?side6 ?side7 ?side8 ?side9 ?side10 A2.out).mono ?_); (case side1 => exact cl HR0_5); (case side2 => exact HC0_5.out); (case side3 => exact cl HR0_7); (case side4 => exact HC0_7.out); (case side5 => exact cl HR0_8); (case side6 => exact HC0_8.out); (case side7 => exact cl HR0_10); (case side8 => exact HC0_10.out); (case side9 => exact cl HR0_11); (case side10 => exact HC0_11.out); rintro e w24 ⟨rfl, hb⟩; refine ⟨_, rfl, ?_⟩; replace BK335 := aM (kB (kl BK335) hb); replace BK336 := aM (kB (kl BK336) hb); replace HB := aM (bS (bl) hb); (try clear hb); obtain ⟨hcz25_0, hcz25_1, hcz25_2, hcz25_3, hcz25_4, hcz25_5, hcz25_6, hcz25_7, hcz25_8, hcz25_9, hcz25_10, hcz25_11, hfz25_0, hfz25_1, hfz25_2, hfz25_3, hfz25_4, hfz25_5, hfz25_6, hfz25_7, hfz25_8, hfz25_9, hfz25_10, hfz25_11⟩ := bc12 BK335; obtain ⟨hcz26_0, hcz26_1, hfz26_0, hfz26_1⟩ := bc2 BK336))
    refine bodyPost_ret (results_cell_row rfl _ _ gb336 61 #[.int .i64 a0_1, .int .i64 a0_9] (0, 0) _ rfl (bk BK336) Try.underlying61 rfl (by kernel_rfl)) rfl ?_
    exact ⟨by first | rfl | (simp [errW_none, errW_some] <;> rfl) | (simp [*, errW_none, errW_some] <;> rfl), bl⟩
 ·rw [if_neg c3] at H
  have c3b0 : (t337 == 0) = false := beq_eq_false_iff_ne.mpr c3
  have c3b1 : (t337 != 0) = true := bne_iff_ne.mpr c3
  simp only [Option.some.injEq, Prod.mk.injEq] at H
  obtain ⟨rfl, rfl⟩ := H
  go_enter Try.func52, Try.ntmps52
  go_wp2_with (first | ((with_reducible refine gate_dst (N := 1) rfl ?_); refine bx (N := 1) (cs := #[.int .i64 a0_0, .int .i64 a0_1, .int .i64 a0_2, .int .i64 a0_3, .int .i64 a0_4, .slice A0_5 l0_5.length c0_5, .int .i64 a0_6, .slice A0_7 l0_7.length c0_7, .slice A0_8 l0_8.length c0_8, .int .i64 a0_9, .slice A0_10 l0_10.length c0_10, .slice A0_11 l0_11.length c0_11]) (t := 65) ?_; intro gb335 hg w27 hbox hb; have n0_ := aM (bS (bl) hb); have n1_ := aM (hbox); have n3_ := aM (gw (w := w) hg); (try clear HB); have HB := n0_; have BK335 := n1_; have GE335 := n3_; clear n0_ n1_ n3_ hb hbox hg) | ((with_reducible refine gate_dst (N := 2) rfl ?_); refine bx (N := 2) (cs := #[.int .i64 0, .int .i64 0]) (t := 61) ?_; intro gb336 hg w28 hbox hb; have n0_ := aM (kB (kl BK335) hb); have n1_ := aM (bS (bl) hb); have n2_ := aM (hbox); have n4_ := aM (gw (w := w) hg); have n5_ := aM (nb BK335 hg); have n6_ := aM (nb BK335 hg).symm; (try clear BK335); (try clear HB); have BK335 := n0_; have HB := n1_; have BK336 := n2_; have GE336 := n4_; have NB335_336 := n5_; have NB336_335 := n6_; clear n0_ n1_ n2_ n4_ n5_ n6_ hb hbox hg; obtain ⟨hnb29, hnc29⟩ := nn NB335_336; obtain ⟨hcz30_0, hcz30_1, hcz30_2, hcz30_3, hcz30_4, hcz30_5, hcz30_6, hcz30_7, hcz30_8, hcz30_9, hcz30_10, hcz30_11, hfz30_0, hfz30_1, hfz30_2, hfz30_3, hfz30_4, hfz30_5, hfz30_6, hfz30_7, hfz30_8, hfz30_9, hfz30_10, hfz30_11⟩ := bc12 BK335) | ((with_reducible refine gate_callee (f := 51) rfl ?_); refine gL (some 4) Try.func51 #[.agg #[.int .i64 a0_0, .int .i64 a0_1, .int .i64 a0_2, .int .i64 a0_3, .int .i64 a0_4, .slice A0_5 l0_5.length c0_5, .int .i64 a0_6, .slice A0_7 l0_7.length c0_7, .slice A0_8 l0_8.length c0_8, .int .i64 a0_9, .slice A0_10 l0_10.length c0_10, .slice A0_11 l0_11.length c0_11]] ?_; (with_reducible refine (change_Check.calls a0_0 a0_1 a0_2 a0_3 a0_4 _ _ l0_5 a0_6 _ _ l0_7 _ _ l0_8 a0_9 _ _ l0_10 _ _ l0_11 t337 _ ?side1 ?side2 ?side3 ?side4 ?side5 ?side6 ?side7 ?side8 ?side9 ?side10 A2.out).mono ?_); (case side1 => exact cl HR0_5); (case side2 => exact HC0_5.out); (case side3 => exact cl HR0_7); (case side4 => exact HC0_7.out); (case side5 => exact cl HR0_8); (case side6 => exact HC0_8.out); (case side7 => exact cl HR0_10); (case side8 => exact HC0_10.out); (case side9 => exact cl HR0_11); (case side10 => exact HC0_11.out); rintro e w31 ⟨rfl, hb⟩; refine ⟨_, rfl, ?_⟩; replace BK335 := aM (kB (kl BK335) hb); replace BK336 := aM (kB (kl BK336) hb); replace HB := aM (bS (bl) hb); (try clear hb); obtain ⟨hcz32_0, hcz32_1, hfz32_0, hfz32_1⟩ := bc2 BK336))
  refine bodyPost_ret (results_cell_row rfl _ _ gb336 61 #[.int .i64 0, .int .i64 0] (0, 0) _ rfl (bk BK336) Try.underlying61 rfl (by kernel_rfl)) rfl ?_
  exact ⟨by first | rfl | (simp [errW_none, errW_some] <;> rfl) | (simp [*, errW_none, errW_some] <;> rfl), bl⟩
end Go.Proofs.Ytefambkodalomaa.PAll
