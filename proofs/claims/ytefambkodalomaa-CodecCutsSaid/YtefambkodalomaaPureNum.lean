/- c16, plain: the number at a place of a string, and that wire reads it. -/
import Derived.Test.YtefambkodalomaaPAllx6
import Derived.Laws.BitsAllLaws
namespace Go.Proofs.Ytefambkodalomaa.Pure
open Go.RowKit Go.Proofs.Ytefambkodalomaa.PAll Go.Proofs.YtefambkodalomaaW.PrintWords Go.Proofs.YtefambkodalomaaW.PrintLast Go.Proofs.YtefambkodalomaaW.PrintMore
theorem and127 (b : Int) (h0 : 0 ≤ b) (h1 : b < 256) : Go.bits .and .u8 b 127 = b % 128 := by
  obtain ⟨n, rfl⟩ := Int.eq_ofNat_of_zero_le h0
  have := u8_and_nat n 127 (by omega) (by omega)
  have h2 : n &&& 127 = n % 128 := Nat.and_two_pow_sub_one_eq_mod n 7
  rw [h2] at this
  simpa using this
theorem pow128 (i : Nat) : (2 : Nat) ^ (7 * i) = 128 ^ i := by rw [Nat.pow_mul]
theorem orshift (i : Nat) (x b : Int) (hi : i < 10) (hx0 : 0 ≤ x) (hx : x < 128 ^ i) (hb0 : 0 ≤ b) (hb : b < 256) (h9 : i = 9 → b < 2) :
    Go.bits .or .u64 x (shl .u64 (IntKind.u64.wrap (Go.bits .and .u8 b 127)) (7 * (i : Int))) = x + (b % 128) * 128 ^ i ∧ x + (b % 128) * 128 ^ i < 18446744073709551616 := by
  rw [and127 b hb0 hb]
  obtain ⟨n, rfl⟩ := Int.eq_ofNat_of_zero_le hb0
  obtain ⟨m, rfl⟩ := Int.eq_ofNat_of_zero_le hx0
  have hp : (128 : Nat) ^ i ≤ 128 ^ 9 := Nat.pow_le_pow_right (by omega) (by omega)
  have hm : m < 128 ^ i := by exact_mod_cast hx
  have hd : n % 128 * 128 ^ i + m < 18446744073709551616 := by
    by_cases h : i = 9
    · subst h
      have := h9 rfl
      have : n % 128 ≤ 1 := by omega
      have := Nat.mul_le_mul_right (128 ^ 9) this
      omega
    · have hp8 : (128 : Nat) ^ i ≤ 128 ^ 8 := Nat.pow_le_pow_right (by omega) (by omega)
      have h1 : n % 128 ≤ 127 := by omega
      have := Nat.mul_le_mul h1 hp8
      omega
  have e1 : IntKind.u64.wrap (((n : Int) % 128)) = ((n % 128 : Nat) : Int) := by
    simp only [IntKind.wrap_u64]
    omega
  have e2 : shl .u64 ((n % 128 : Nat) : Int) (7 * (i : Int)) = ((n % 128 * 128 ^ i : Nat) : Int) := by
    unfold shl
    have : (7 * (i : Int)).toNat = 7 * i := by omega
    rw [this, Nat.min_eq_left (by show 7 * i ≤ 64; omega)]
    have h3 : ((n % 128 : Nat) : Int) * 2 ^ (7 * i) = ((n % 128 * 128 ^ i : Nat) : Int) := by
      rw [← pow128]; push_cast; rfl
    rw [h3]
    simp only [IntKind.wrap_u64]
    omega
  rw [e1, e2, u64_or_nat m _ (by omega) (by omega)]
  have h4 : m ||| n % 128 * 128 ^ i = n % 128 * 128 ^ i + m := by
    rw [← pow128, Nat.mul_comm, Nat.two_pow_add_eq_or_of_lt (by rw [pow128]; exact hm), Nat.or_comm]
  rw [h4]
  refine ⟨?_, ?_⟩
  · push_cast
    omega
  · have := hd
    have h5 : ((n % 128 * 128 ^ i + m : Nat) : Int) < 18446744073709551616 := Int.ofNat_lt.mpr hd
    push_cast at h5
    omega
def V (s : ByteArray) (p : Int) : Nat → Int
  | 0 => 0
  | i + 1 => V s p i + (bt s (p + i)) % 128 * 128 ^ i
theorem V_range (s : ByteArray) (p : Int) : ∀ i, 0 ≤ V s p i ∧ V s p i < 128 ^ i
  | 0 => by simp [V]
  | i + 1 => by
    obtain ⟨h0, h1⟩ := V_range s p i
    have hb : 0 ≤ bt s (p + i) % 128 ∧ bt s (p + i) % 128 ≤ 127 := by omega
    have hp : (0 : Int) < 128 ^ i := Int.pow_pos (by omega)
    have h2 : 0 ≤ bt s (p + i) % 128 * 128 ^ i := Int.mul_nonneg hb.1 (Int.le_of_lt hp)
    have h3 : bt s (p + i) % 128 * 128 ^ i ≤ 127 * 128 ^ i := Int.mul_le_mul_of_nonneg_right hb.2 (Int.le_of_lt hp)
    unfold V
    rw [Int.pow_succ]
    omega
def spec (s : ByteArray) (p : Int) : Nat → Nat → Int × Int × Int
  | 0, _ => (0, 0, 4)
  | f + 1, i => if (s.size : Int) ≤ p + i then (0, 0, 3) else if 128 ≤ bt s (p + i) then spec s p f (i + 1) else if (0 < i ∧ bt s (p + i) = 0) ∨ (i = 9 ∧ 1 < bt s (p + i)) then (0, 0, 4) else (V s p (i + 1), i + 1, 0)
theorem w64 {x : Int} (h0 : -9223372036854775808 ≤ x) (h1 : x < 9223372036854775808) : wrap64 x = x := by unfold wrap64; omega
theorem uint_spec (s : ByteArray) (p : Int) (hp : 0 ≤ p) (hs : (s.size : Int) ≤ 140737488355328) : ∀ (f i : Nat) (x4 : Int), f + i = 10 → p + i ≤ s.size + 1 → (i ≤ 9 → x4 = V s p i) →
    ∃ q, wire_Reader_uint.l0 (f + 1) x4 i s (p + i) 0 = some ((spec s p f i).1, (spec s p f i).2.2, s, q, 0) ∧ ((spec s p f i).2.2 = 0 → q = p + (spec s p f i).2.1)
  | 0, i, x4, h, _, _ => by
    have : i = 10 := by omega
    subst this
    exact ⟨p + 10, by simp [wire_Reader_uint.l0, spec], by simp [spec]⟩
  | f + 1, i, x4, h, hpi, hx => by
    have hi : i < 10 := by omega
    have hx4 := hx (by omega)
    subst hx4
    have hb := bt_range s (p + i)
    obtain ⟨v0, v1⟩ := V_range s p i
    have e7 : wrap64 (7 * (i : Int)) = 7 * (i : Int) := w64 (by omega) (by omega)
    unfold wire_Reader_uint.l0
    rw [if_pos (show (i : Int) < 10 by omega)]
    by_cases c1 : (s.size : Int) ≤ p + i
    · refine ⟨p + i, ?_, ?_⟩
      · rw [if_pos (show p + (i : Int) ≥ (s.size : Int) by omega)]
        simp [spec, c1]
      · simp [spec, c1]
    rw [if_neg (show ¬ p + (i : Int) ≥ (s.size : Int) by omega), if_pos (by omega), if_pos (by omega), e7, if_pos (by omega)]
    by_cases c2 : 128 ≤ bt s (p + i)
    · rw [if_pos (show bt s (p + i) ≥ 128 by omega), w64 (x := (i : Int) + 1) (by omega) (by omega), w64 (x := p + (i : Int) + 1) (by omega) (by omega)]
      have hr := uint_spec s p hp hs f (i + 1) (Go.bits .or .u64 (V s p i) (shl .u64 (IntKind.u64.wrap (Go.bits .and .u8 (bt s (p + i)) 127)) (7 * (i : Int)))) (by omega) (by push_cast; omega) (fun h9 => by
        rw [(orshift i (V s p i) (bt s (p + i)) hi v0 v1 hb.1 (by omega) (by omega)).1]
        rfl)
      have e1 : p + ((i + 1 : Nat) : Int) = p + i + 1 := by push_cast; omega
      have e2 : ((i + 1 : Nat) : Int) = (i : Int) + 1 := by push_cast; rfl
      rw [e1, e2] at hr
      have e3 : spec s p (f + 1) i = spec s p f (i + 1) := by
        conv => lhs; unfold spec
        rw [if_neg c1, if_pos c2]
      rw [e3]
      exact hr
    · rw [if_neg (show ¬ bt s (p + i) ≥ 128 by omega), w64 (x := p + (i : Int) + 1) (by omega) (by omega)]
      by_cases c3 : (0 < i ∧ bt s (p + i) = 0) ∨ (i = 9 ∧ 1 < bt s (p + i))
      · have e3 : spec s p (f + 1) i = (0, 0, 4) := by
          conv => lhs; unfold spec
          rw [if_neg c1, if_neg c2, if_pos c3]
        rw [e3]
        refine ⟨p + i + 1, ?_, by simp⟩
        by_cases c4 : (i : Int) > 0
        · rw [if_pos c4]
          by_cases c5 : bt s (p + i) = 0
          · rw [if_pos c5]
          · rw [if_neg c5, if_pos (show (i : Int) = 9 by omega), if_pos (by omega)]
        · exact absurd c3 (by omega)
      · have e3 : spec s p (f + 1) i = (V s p (i + 1), (i : Int) + 1, 0) := by
          conv => lhs; unfold spec
          rw [if_neg c1, if_neg c2, if_neg c3]
        rw [e3]
        refine ⟨p + i + 1, ?_, fun _ => by show p + (i : Int) + 1 = p + ((i : Int) + 1); omega⟩
        have ho := (orshift i (V s p i) (bt s (p + i)) hi v0 v1 hb.1 (by omega) (by omega)).1
        rw [ho]
        by_cases c4 : (i : Int) > 0
        · rw [if_pos c4, if_neg (by omega)]
          by_cases c5 : (i : Int) = 9
          · rw [if_pos c5, if_neg (by omega)]
            rfl
          · rw [if_neg c5]
            rfl
        · rw [if_neg c4, if_neg (by omega)]
          rfl
end Go.Proofs.Ytefambkodalomaa.Pure
