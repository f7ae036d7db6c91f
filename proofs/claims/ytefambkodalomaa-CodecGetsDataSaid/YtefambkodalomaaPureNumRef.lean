/- c16, plain: the reference reads the same number. -/
import Derived.Test.YtefambkodalomaaPAllx19
import Derived.Test.YtefambkodalomaaPureNum
namespace Go.Proofs.Ytefambkodalomaa.Pure
open Go.RowKit Go.Proofs.Ytefambkodalomaa.PAll Go.Proofs.YtefambkodalomaaW.PrintWords Go.Proofs.YtefambkodalomaaW.PrintLast Go.Proofs.YtefambkodalomaaW.PrintMore
theorem bt_extract (s : ByteArray) (p i : Int) (hp : 0 ≤ p) (hps : p ≤ s.size) (hi : 0 ≤ i) (h : p + i < s.size) : bt (s.extract p.toNat s.size) i = bt s (p + i) := by
  unfold bt
  have h1 : i.toNat < (s.extract p.toNat s.size).size := by rw [ByteArray.size_extract]; omega
  have h2 : (p + i).toNat < s.size := by omega
  rw [dif_pos h1, dif_pos h2]
  have h3 : (p + i).toNat = p.toNat + i.toNat := by omega
  simp only [h3]
  first | rw [ByteArray.getElem_extract] | (simp [ByteArray.getElem_extract]; done) | (simp only [ByteArray.getElem_eq_getElem_data, ByteArray.data_extract, Array.getElem_extract]; done)
theorem next_l1 (s : ByteArray) (p : Int) (hp : 0 ≤ p) (hps : p ≤ s.size) (i : Nat) (hi : i < 10) (hin : p + i < s.size) (hV : V s p (i + 1) < 18446744073709551616) : ∀ (c g : Nat) (x7 : Int), c ≤ i + 1 → 0 ≤ x7 → V s p c + x7 * 128 ^ c = V s p (i + 1) →
    mapmakerref02_next.l1 (c + g + 1) (s.extract p.toNat s.size) i x7 ((c : Int) - 1) = some (V s p (i + 1), (i : Int) + 1, 0)
  | 0, g, x7, _, _, h => by
    unfold mapmakerref02_next.l1
    have : x7 = V s p (i + 1) := by rw [← h]; simp [V]
    rw [if_neg (by omega), this, w64 (by omega) (by omega)]
  | c + 1, g, x7, hc, h0, h => by
    have hb := bt_range s (p + c)
    have e0 : ((c + 1 : Nat) : Int) - 1 = (c : Int) := by push_cast; omega
    have hsz : ((s.extract p.toNat s.size).size : Int) = s.size - p := by rw [ByteArray.size_extract]; omega
    rw [e0]
    unfold mapmakerref02_next.l1
    rw [if_pos (by omega), if_pos (by omega), if_pos (by omega), bt_extract s p c hp hps (by omega) (by omega), w64 (x := (c : Int) - 1) (by omega) (by omega)]
    have hpos : (0 : Int) < 128 ^ c := Int.pow_pos (by omega)
    obtain ⟨v0, v1⟩ := V_range s p c
    have hd : V s p c + (x7 * 128 + bt s (p + c) % 128) * 128 ^ c = V s p (i + 1) := by
      have hv : V s p (c + 1) = V s p c + bt s (p + c) % 128 * 128 ^ c := rfl
      have hw : (128 : Int) ^ (c + 1) = 128 ^ c * 128 := Int.pow_succ _ _
      have hm : x7 * 128 * 128 ^ c = x7 * (128 ^ c * 128) := by rw [Int.mul_assoc, Int.mul_comm 128]
      rw [← h, hv, hw, Int.add_mul, hm]
      omega
    have hle : x7 * 128 + bt s (p + c) % 128 ≤ (x7 * 128 + bt s (p + c) % 128) * 128 ^ c := by
      have : (x7 * 128 + bt s (p + c) % 128) * 1 ≤ (x7 * 128 + bt s (p + c) % 128) * 128 ^ c := Int.mul_le_mul_of_nonneg_left (by omega) (by omega)
      omega
    have e1 : IntKind.u64.wrap (IntKind.u64.wrap (x7 * 128) + Int.tmod (IntKind.u64.wrap (bt s (p + c))) 128) = x7 * 128 + bt s (p + c) % 128 := by
      have q1 : IntKind.u64.wrap (bt s (p + c)) = bt s (p + c) := by simp only [IntKind.wrap_u64]; omega
      have q2 : Int.tmod (bt s (p + c)) 128 = bt s (p + c) % 128 := Int.tmod_eq_emod_of_nonneg hb.1
      rw [q1, q2]
      simp only [IntKind.wrap_u64]
      omega
    rw [e1]
    have e2 : c + 1 + g = c + g + 1 := by omega
    rw [e2]
    exact next_l1 s p hp hps i hi hin hV c g _ (by omega) (by omega) hd
theorem next_j2 (s : ByteArray) (p : Int) (hp : 0 ≤ p) (hps : p ≤ s.size) (i g : Nat) (hi : i < 10) (hin : p + i < s.size) (x : Bool) (hx : x = decide ((0 < i ∧ bt s (p + i) = 0) ∨ (i = 9 ∧ 1 < bt s (p + i)))) (hl : bt s (p + i) < 128) :
    mapmakerref02_next.j2 (i + 1 + g + 1 + 1) (s.extract p.toNat s.size) i x = some (if (0 < i ∧ bt s (p + i) = 0) ∨ (i = 9 ∧ 1 < bt s (p + i)) then (0, 0, 4) else (V s p (i + 1), (i : Int) + 1, 0)) := by
  rw [mapmakerref02_next.j2]
  by_cases c : (0 < i ∧ bt s (p + i) = 0) ∨ (i = 9 ∧ 1 < bt s (p + i))
  · rw [if_pos c, hx, decide_eq_true c, if_pos rfl]
  · rw [if_neg c, hx, decide_eq_false c, if_neg (by simp)]
    have hb := bt_range s (p + i)
    obtain ⟨v0, v1⟩ := V_range s p i
    have ho := (orshift i (V s p i) (bt s (p + i)) hi v0 v1 hb.1 (by omega) (by omega)).2
    have h := next_l1 s p hp hps i hi hin ho (i + 1) g 0 (by omega) (by omega) (by simp)
    have e0 : ((i + 1 : Nat) : Int) - 1 = (i : Int) := by push_cast; omega
    rw [e0] at h
    exact h
theorem next_spec (s : ByteArray) (p : Int) (hp : 0 ≤ p) (hps : p ≤ s.size) : ∀ (f i : Nat), f + i = 10 → p + i ≤ s.size → mapmakerref02_next.l0 (f + 20) (s.extract p.toNat s.size) i = some (spec s p f i)
  | 0, i, h, _ => by
    have : i = 10 := by omega
    subst this
    simp [mapmakerref02_next.l0, mapmakerref02_next.j1, spec]
  | f + 1, i, h, hpi => by
    have hsz : ((s.extract p.toNat s.size).size : Int) = s.size - p := by rw [ByteArray.size_extract]; omega
    have hb := bt_range s (p + i)
    have e1 : f + 1 + 20 = f + 20 + 1 := by omega
    rw [e1]
    unfold mapmakerref02_next.l0 spec
    rw [if_pos (by omega)]
    by_cases c1 : (s.size : Int) ≤ p + i
    · rw [if_neg (by omega), if_pos c1]
      have e2 : f + 20 = f + 19 + 1 := by omega
      rw [e2]
      rw [mapmakerref02_next.j1]
      rw [if_neg (by omega), if_pos (by omega)]
    rw [if_pos (by omega), if_pos (by omega), if_neg c1, bt_extract s p i hp hps (by omega) (by omega)]
    by_cases c2 : 128 ≤ bt s (p + i)
    · rw [if_pos (show bt s (p + i) ≥ 128 by omega), if_pos c2, w64 (x := (i : Int) + 1) (by omega) (by omega)]
      have hr := next_spec s p hp hps f (i + 1) (by omega) (by push_cast; omega)
      have e2 : ((i + 1 : Nat) : Int) = (i : Int) + 1 := by push_cast; rfl
      rw [e2] at hr
      exact hr
    · rw [if_neg (show ¬ bt s (p + i) ≥ 128 by omega), if_neg c2]
      have e2 : f + 20 = (i + 1 + (f + 16 - i) + 1 + 1) + 1 := by omega
      rw [e2]
      rw [mapmakerref02_next.j1]
      rw [if_neg (by omega), if_neg (by omega)]
      have J := fun x hx => next_j2 s p hp hps i (f + 16 - i) (by omega) (by omega) x hx (by omega)
      by_cases c3 : (i : Int) = 9
      · have hi9 : i = 9 := by omega
        subst hi9
        rw [if_pos c3, if_pos (by omega)]
        have e3 : bt (s.extract p.toNat s.size) 9 = bt s (p + (9 : Nat)) := bt_extract s p 9 hp hps (by omega) (by omega)
        rw [e3]
        by_cases c4 : bt s (p + (9 : Nat)) > 1
        · rw [if_pos c4]
          exact J true (decide_eq_true (Or.inr ⟨rfl, c4⟩)).symm
        · rw [if_neg c4, if_pos (by omega), if_pos (by omega), if_pos (by omega)]
          have e4 : bt (s.extract p.toNat s.size) ((9 : Nat) : Int) = bt s (p + (9 : Nat)) := e3
          rw [e4]
          refine J _ ?_
          by_cases c5 : bt s (p + (9 : Nat)) = 0
          · rw [decide_eq_true (Or.inl ⟨by omega, c5⟩), c5]
            rfl
          · rw [decide_eq_false (by omega)]
            exact beq_eq_false_iff_ne.mpr c5
      · rw [if_neg c3]
        by_cases c4 : (i : Int) > 0
        · rw [if_pos c4, if_pos (by omega), if_pos (by omega), bt_extract s p i hp hps (by omega) (by omega)]
          refine J _ ?_
          have : ¬ i = 9 := by omega
          have h0 : 0 < i := by omega
          by_cases c5 : bt s (p + i) = 0 <;> simp [c5, this, h0]
        · rw [if_neg c4]
          refine J _ ?_
          have : i = 0 := by omega
          subst this
          simp
end Go.Proofs.Ytefambkodalomaa.Pure
