/- c16, plain: the program's decoders read what the specification says. -/
import Derived.Test.YtefambkodalomaaPureSpec
import Derived.Test.YtefambkodalomaaPAllx7
namespace Go.Proofs.Ytefambkodalomaa.Pure
open Go.RowKit Go.Proofs.Ytefambkodalomaa.PAll Go.Proofs.YtefambkodalomaaW.PrintWords Go.Proofs.YtefambkodalomaaW.PrintLast Go.Proofs.YtefambkodalomaaW.PrintMore Go.Proofs.YtefambkodalomaaG
set_option linter.unusedVariables false
set_option linter.unusedSimpArgs false
def out {α γ : Type} (x : Except Int (α × Int)) (g : α → Int → γ) : Except Int γ :=
  match x with
  | .error e => .error e
  | .ok a => .ok (g a.1 a.2)
theorem Ev_eB {α β γ δ : Type} {o : Nat → Option (Except Int γ)} {f : Nat → γ → Option (Except Int δ)} {x : Except Int (α × Int)} {g : α → Int → γ} {y : α → Int → Except Int (β × Int)} {h : β → Int → δ}
    (ho : Ev o (out x g)) (hf : ∀ a q, x = .ok (a, q) → Ev (fun k => f k (g a q)) (out (y a q) h)) : Ev (fun k => eB (o k) (f k)) (out (rB x y) h) := by
  cases x with
  | error e =>
    obtain ⟨K, hK⟩ := ho
    exact ⟨K, fun k hk => eB_error (hK k hk)⟩
  | ok a =>
    obtain ⟨K, hK⟩ := ho
    obtain ⟨L, hL⟩ := hf a.1 a.2 rfl
    exact ⟨max K L, fun k hk => (eB_ok (hK k (by omega))).trans (hL k (by omega))⟩
theorem rB_assoc {α β γ : Type} (x : Except Int (α × Int)) (f : α → Int → Except Int (β × Int)) (g : β → Int → Except Int (γ × Int)) : rB (rB x f) g = rB x fun a q => rB (f a q) g := by cases x <;> rfl
theorem wr1 (i : Nat) (h : i < 100000) : wrap64 ((i : Int) + 1) = ((i + 1 : Nat) : Int) := by unfold wrap64; omega
theorem rNum_err {s : ByteArray} {p e : Int} (h : rNum s p = .error e) : e ≠ 0 := by
  unfold rNum at h
  by_cases c : (spec s p 10 0).2.2 = 0
  · rw [if_pos c] at h; cases h
  · rw [if_neg c] at h; injection h with h; subst h; exact c
theorem rCount_err {s : ByteArray} {m p e : Int} (h : rCount s m p = .error e) : e ≠ 0 := by
  unfold rCount at h
  cases hn : rNum s p with
  | error e' =>
    rw [hn] at h
    have h : Except.error e' = (Except.error e : Except Int (Int × Int)) := h
    injection h with h; subst h; exact rNum_err hn
  | ok a =>
    rw [hn] at h
    have h : (if m < a.1 then Except.error 5 else Except.ok (a.1, a.2)) = (Except.error e : Except Int (Int × Int)) := h
    by_cases c : m < a.1
    · rw [if_pos c] at h; injection h with h; subst h; decide
    · rw [if_neg c] at h; cases h
theorem prog_uint (s : ByteArray) (p : Int) (h0 : 0 ≤ p) (h1 : p ≤ (s.size : Int)) (hs : (s.size : Int) ≤ 140737488355328) :
    ∃ q, Ev (fun k => wire_Reader_uint.f k s p 0) ((spec s p 10 0).1, (spec s p 10 0).2.2, s, q, 0) ∧ ((spec s p 10 0).2.2 = 0 → q = p + (spec s p 10 0).2.1) := by
  obtain ⟨q, hq, hl⟩ := uint_spec s p h0 hs 10 0 0 rfl (by simp; omega) (fun _ => rfl)
  have e : p + ((0 : Nat) : Int) = p := by simp
  rw [e] at hq
  exact ⟨q, Ev.of (fun k => wire_Reader_uint.mono s p 0 k) (k := 11) hq, hl⟩
def res {γ : Type} (s : ByteArray) (p : Int) (z : γ) (x : Except Int (γ × Int)) : γ × ByteArray × Int × Int :=
  match x with
  | .error e => (z, s, p, e)
  | .ok a => (a.1, s, a.2, 0)
theorem prog_Uint (s : ByteArray) (p : Int) (h0 : 0 ≤ p) (h1 : p ≤ (s.size : Int)) (hs : (s.size : Int) ≤ 140737488355328) : Ev (fun k => wire_Reader_Uint.f k s p 0) (res s p 0 (rNum s p)) := by
  obtain ⟨q, hq, hl⟩ := prog_uint s p h0 h1 hs
  unfold wire_Reader_Uint.f rNum
  simp only [if_true]
  refine Ev.bind hq ?_
  simp only [if_true]
  by_cases c : (spec s p 10 0).2.2 = 0
  · rw [hl c]
    simp only [if_pos c]
    exact Ev.now _
  · simp only [if_neg c]
    exact Ev.now _
theorem xor_neg1 (x : Int) (h0 : 0 ≤ x) (h1 : x < 9223372036854775808) : Go.bits .xor .i64 x (-1) = -x - 1 := by
  obtain ⟨n, rfl⟩ := Int.eq_ofNat_of_zero_le h0
  have e2 : (BitVec.ofInt 64 (n : Int)).toNat = n := ofInt_u64 n (by omega)
  have e : (BitVec.ofInt 64 (n : Int) ^^^ BitVec.ofInt 64 (-1)).toNat = 2 ^ 64 - 1 - n := by
    have e1 : BitVec.ofInt 64 (-1) = BitVec.allOnes 64 := by decide
    rw [e1, BitVec.xor_allOnes, BitVec.toNat_not, e2]
  show IntKind.i64.wrap (((BitVec.ofInt 64 (n : Int) ^^^ BitVec.ofInt 64 (-1)).toNat : Nat) : Int) = _
  rw [e]
  have e3 : ((2 ^ 64 - 1 - n : Nat) : Int) = 18446744073709551615 - n := by omega
  rw [e3]
  rw [IntKind.wrap_i64]
  omega
theorem xor_zero (x : Int) (h0 : 0 ≤ x) (h1 : x < 9223372036854775808) : Go.bits .xor .i64 x 0 = x := by
  obtain ⟨n, rfl⟩ := Int.eq_ofNat_of_zero_le h0
  have e2 : (BitVec.ofInt 64 (n : Int)).toNat = n := ofInt_u64 n (by omega)
  have e : (BitVec.ofInt 64 (n : Int) ^^^ BitVec.ofInt 64 0).toNat = n := by
    have e1 : BitVec.ofInt 64 0 = 0#64 := by decide
    rw [e1, BitVec.xor_zero, e2]
  show IntKind.i64.wrap (((BitVec.ofInt 64 (n : Int) ^^^ BitVec.ofInt 64 0).toNat : Nat) : Int) = _
  rw [e]
  rw [IntKind.wrap_i64]
  omega
theorem and1 (x : Int) (h0 : 0 ≤ x) (h1 : x < 18446744073709551616) : Go.bits .and .u64 x 1 = x % 2 := by
  obtain ⟨n, rfl⟩ := Int.eq_ofNat_of_zero_le h0
  have := u64_and_nat n 1 (by omega) (by omega)
  rw [Nat.and_one_is_mod] at this
  simpa using this
theorem unzig_eq (n : Int) (h0 : 0 ≤ n) (h1 : n < 18446744073709551616) : Go.bits .xor .i64 (wrap64 (n / 2)) (wrap64 (-(wrap64 (Go.bits .and .u64 n 1)))) = unzig n := by
  rw [and1 n h0 h1, w64 (x := n / 2) (by omega) (by omega), w64 (x := n % 2) (by omega) (by omega), w64 (x := -(n % 2)) (by omega) (by omega)]
  unfold unzig
  by_cases c : n % 2 = 1
  · rw [if_pos c, c]; exact xor_neg1 _ (by omega) (by omega)
  · rw [if_neg c, show n % 2 = 0 by omega]; exact xor_zero _ (by omega) (by omega)
theorem res_zero {α β : Type} (s : ByteArray) (p : Int) (z : α) (x : Except Int (α × Int)) (f : α → β) (z' : β) (hz : f z = z') : (f (res s p z x).1, (res s p z x).2.1, (res s p z x).2.2.1, (res s p z x).2.2.2) = res s p z' (rB x fun n q => .ok (f n, q)) := by
  cases x with
  | error e => subst hz; rfl
  | ok a => rfl
theorem prog_Int (s : ByteArray) (p : Int) (h0 : 0 ≤ p) (h1 : p ≤ (s.size : Int)) (hs : (s.size : Int) ≤ 140737488355328) : Ev (fun k => wire_Reader_Int.f k s p 0) (res s p 0 (rInt s p)) := by
  unfold wire_Reader_Int.f rInt
  refine Ev.bind (prog_Uint s p h0 h1 hs) (Ev.val (Ev.now _) ?_)
  rw [← res_zero s p 0 (rNum s p) unzig 0 (by decide)]
  have hr : 0 ≤ (res s p 0 (rNum s p)).1 ∧ (res s p 0 (rNum s p)).1 < 18446744073709551616 := by
    cases hn : rNum s p with
    | error e => exact ⟨Int.le_refl 0, (by decide : (0 : Int) < 18446744073709551616)⟩
    | ok a => exact rNum_range (q := a.2) hn
  rw [unzig_eq _ hr.1 hr.2]
theorem prog_count (s : ByteArray) (p m : Int) (h0 : 0 ≤ p) (h1 : p ≤ (s.size : Int)) (hs : (s.size : Int) ≤ 140737488355328) (hm : 0 ≤ m) (hm2 : m < 100000) :
    ∃ n e q, Ev (fun k => wire_Reader_count.f k s p 0 m) (n, e, s, q, 0) ∧ (match rCount s m p with | .error x => e = x | .ok a => e = 0 ∧ n = a.1 ∧ q = a.2) := by
  obtain ⟨q, hq, hl⟩ := prog_uint s p h0 h1 hs
  have hw : IntKind.u64.wrap (mx m 0) = m := by
    have : mx m 0 = m := by unfold mx; omega
    rw [this, IntKind.wrap_u64]; omega
  unfold rCount rNum
  by_cases c : (spec s p 10 0).2.2 = 0
  · by_cases d : m < (spec s p 10 0).1
    · refine ⟨wrap64 (spec s p 10 0).1, 5, q, ?_, ?_⟩
      · unfold wire_Reader_count.f
        refine Ev.bind hq ?_
        simp only [if_pos c, hw, if_pos d]
        exact Ev.now _
      · simp only [if_pos c, rB, if_pos d]
    · have hr := spec_fwd s p 10 0 rfl c
      refine ⟨(spec s p 10 0).1, 0, q, ?_, ?_⟩
      · unfold wire_Reader_count.f
        refine Ev.bind hq ?_
        simp only [if_pos c, hw]
        rw [if_neg (show ¬ (spec s p 10 0).1 > m from d), w64 (by omega) (by omega), c]
        exact Ev.now _
      · simp only [if_pos c, rB, if_neg d]
        exact ⟨trivial, trivial, hl c⟩
  · refine ⟨wrap64 (spec s p 10 0).1, (spec s p 10 0).2.2, q, ?_, ?_⟩
    · unfold wire_Reader_count.f
      refine Ev.bind hq ?_
      simp only [if_neg c]
      exact Ev.now _
    · simp only [if_neg c, rB]
theorem prog_Count (s : ByteArray) (p m : Int) (h0 : 0 ≤ p) (h1 : p ≤ (s.size : Int)) (hs : (s.size : Int) ≤ 140737488355328) (hm : 0 ≤ m) (hm2 : m < 100000) : Ev (fun k => wire_Reader_Count.f k s p 0 m) (res s p 0 (rCount s m p)) := by
  obtain ⟨n, e, q, hq, hl⟩ := prog_count s p m h0 h1 hs hm hm2
  unfold wire_Reader_Count.f
  simp only [if_true]
  refine Ev.bind hq ?_
  simp only [if_true]
  cases hn : rCount s m p with
  | error x =>
    rw [hn] at hl
    have hl : e = x := hl
    subst hl
    simp only [if_neg (rCount_err hn)]
    exact Ev.now _
  | ok a =>
    rw [hn] at hl
    obtain ⟨rfl, rfl, rfl⟩ := hl
    simp only [if_true]
    exact Ev.now _
theorem prog_Text (s : ByteArray) (p : Int) (h0 : 0 ≤ p) (h1 : p ≤ (s.size : Int)) (hs : (s.size : Int) ≤ 140737488355328) : Ev (fun k => wire_Reader_Text.f k s p 0 64) (res s p ⟨#[]⟩ (rText s p)) := by
  obtain ⟨n, e, q, hq, hl⟩ := prog_count s p 64 h0 h1 hs (by decide) (by decide)
  unfold wire_Reader_Text.f rText
  simp only [if_true]
  refine Ev.bind hq ?_
  simp only [if_true]
  cases hn : rCount s 64 p with
  | error x =>
    rw [hn] at hl
    have hl : e = x := hl
    subst hl
    simp only [if_neg (rCount_err hn)]
    exact Ev.now _
  | ok a =>
    rw [hn] at hl
    obtain ⟨rfl, rfl, rfl⟩ := hl
    have hf := rCount_fwd s 64 p a.1 a.2 h0 h1 hn
    have hc := rCount_le (q := a.2) hn
    simp only [if_true, rB]
    rw [if_pos ⟨by omega, hf.2, hc.1, by omega, by omega⟩]
    by_cases d : (s.size : Int) < a.2 + a.1
    · simp only [if_pos d]; exact Ev.now _
    · simp only [if_neg d]; exact Ev.now _
theorem ev_out {γ : Type} {g : Nat → Option (γ × ByteArray × Int × Int)} {s : ByteArray} {p : Int} {z : γ} {x : Except Int (γ × Int)} (h : Ev g (res s p z x)) (he : ∀ e, x = .error e → e ≠ 0) :
    Ev (fun k => (g k).bind fun b => if b.2.2.2 = 0 then some (.ok b) else some (.error b.2.2.2)) (out x fun n q => (n, s, q, (0 : Int))) := by
  refine Ev.bind h ?_
  cases x with
  | error e =>
    show Ev (fun _ => if e = 0 then some (Except.ok (z, s, p, e)) else some (Except.error e)) _
    simp only [if_neg (he e rfl)]; exact Ev.now _
  | ok a => exact Ev.now _
theorem rB_err {α β : Type} {x : Except Int (α × Int)} {f : α → Int → Except Int (β × Int)} (hx : ∀ e, x = .error e → e ≠ 0) (hf : ∀ a q e, f a q = .error e → e ≠ 0) : ∀ e, rB x f = .error e → e ≠ 0 := by
  intro e h
  cases x with
  | error e' =>
    have h : Except.error e' = (Except.error e : Except Int (β × Int)) := h
    injection h with h; subst h; exact hx _ rfl
  | ok a => exact hf a.1 a.2 e h
theorem rInt_err {s : ByteArray} {p : Int} : ∀ e, rInt s p = .error e → e ≠ 0 := rB_err (fun _ h => rNum_err h) (fun _ _ _ h => by cases h)
theorem rText_err {s : ByteArray} {p : Int} : ∀ e, rText s p = .error e → e ≠ 0 := rB_err (fun _ h => rCount_err h) (fun a q e h => by
  split at h
  · injection h with h; subst h; decide
  · cases h)
theorem p_int {s : ByteArray} (hs : (s.size : Int) ≤ 140737488355328) (p : Int) (h0 : 0 ≤ p) (h1 : p ≤ (s.size : Int)) : Ev (fun k => codec_reader_int.f k s p 0) (out (rInt s p) fun n q => (n, s, q, (0 : Int))) := by
  unfold codec_reader_int.f; exact ev_out (prog_Int s p h0 h1 hs) rInt_err
theorem p_count {s : ByteArray} (hs : (s.size : Int) ≤ 140737488355328) (p m : Int) (h0 : 0 ≤ p) (h1 : p ≤ (s.size : Int)) (hm : 0 ≤ m) (hm2 : m < 100000) : Ev (fun k => codec_reader_count.f k s p 0 m) (out (rCount s m p) fun n q => (n, s, q, (0 : Int))) := by
  unfold codec_reader_count.f; exact ev_out (prog_Count s p m h0 h1 hs hm hm2) (fun _ h => rCount_err h)
theorem p_text {s : ByteArray} (hs : (s.size : Int) ≤ 140737488355328) (p : Int) (h0 : 0 ≤ p) (h1 : p ≤ (s.size : Int)) : Ev (fun k => codec_reader_text.f k s p 0) (out (rText s p) fun n q => (n, s, q, (0 : Int))) := by
  unfold codec_reader_text.f; exact ev_out (prog_Text s p h0 h1 hs) rText_err
theorem rB_cons {α β : Type} (f : Int → Except Int (α × Int)) (n : Nat) (p : Int) (g : List α → Int → Except Int (β × Int)) : rB (rList f (n + 1) p) g = rB (f p) fun x q => rB (rList f n q) fun l r => g (x :: l) r := by
  show rB (rB (f p) fun x q => rB (rList f n q) fun l r => .ok (x :: l, r)) g = _
  rw [rB_assoc]
  congr 1
  funext x q
  rw [rB_assoc]
  rfl
theorem rB_nil {α β : Type} (f : Int → Except Int (α × Int)) (p : Int) (g : List α → Int → Except Int (β × Int)) : rB (rList f 0 p) g = g [] p := rfl
theorem rMany_count {α β : Type} {s : ByteArray} {m p : Int} {f : Int → Except Int (α × Int)} {g : List α → Int → Except Int (β × Int)} : rB (rMany s m f p) g = rB (rCount s m p) fun n q => rB (rList f n.toNat q) g := by
  unfold rMany; rw [rB_assoc]
theorem acc1 {α : Type} (acc : List α) (x : α) (l : List α) : (acc ++ [x]) ++ l = acc ++ x :: l := by simp
theorem rB_tag {β : Type} (s : ByteArray) (p : Int) (g : S130 → Int → Except Int (β × Int)) : rB (rTag s p) g = rB (rText s p) fun a q => rB (rText s q) fun b r => g ⟨a, b⟩ r := by
  unfold rTag
  rw [rB_assoc]
  congr 1
  funext a q
  rw [rB_assoc]
  rfl
theorem rB_mem {β : Type} (s : ByteArray) (p : Int) (g : S63 → Int → Except Int (β × Int)) : rB (rMem s p) g = rB (rInt s p) fun a q => rB (rInt s q) fun b q => rB (rText s q) fun c q => g ⟨⟨a, b⟩, c⟩ q := by
  unfold rMem
  rw [rB_assoc]
  congr 1
  funext a q
  rw [rB_assoc]
  congr 1
  funext b q
  rw [rB_assoc]
  rfl
theorem Ev.ifp {α : Type} {c : Prop} [Decidable c] {f g : Nat → Option α} {r : α} (h : c) (k : Ev f r) : Ev (fun n => if c then f n else g n) r := by
  simp only [if_pos h]; exact k
theorem Ev.ifn {α : Type} {c : Prop} [Decidable c] {f g : Nat → Option α} {r : α} (h : ¬ c) (k : Ev g r) : Ev (fun n => if c then f n else g n) r := by
  simp only [if_neg h]; exact k
end Go.Proofs.Ytefambkodalomaa.Pure
