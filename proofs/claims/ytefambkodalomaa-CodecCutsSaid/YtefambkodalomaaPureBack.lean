/- c16, plain: an encoding is read back; the beginning of an encoding is not. -/
import Derived.Test.YtefambkodalomaaPureOnce
namespace Go.Proofs.Ytefambkodalomaa.Pure
open Go.RowKit Go.Proofs.Ytefambkodalomaa.PAll Go.Proofs.YtefambkodalomaaW.PrintWords Go.Proofs.YtefambkodalomaaW.PrintLast Go.Proofs.YtefambkodalomaaW.PrintMore Go.Proofs.YtefambkodalomaaG
set_option linter.unusedVariables false
set_option linter.unusedSimpArgs false
theorem At.left {s : ByteArray} {p : Int} {a b : List UInt8} (h : At s p (a ++ b)) : At s p a :=
  ⟨by have := h.1; rw [List.length_append] at this; push_cast at this; omega, fun i hi => by
    have := h.2 i (by rw [List.length_append]; omega)
    rw [List.getElem_append_left hi] at this
    exact this⟩
theorem At.right {s : ByteArray} {p : Int} {a b : List UInt8} (h : At s p (a ++ b)) : At s (p + a.length) b :=
  ⟨by have := h.1; rw [List.length_append] at this; push_cast at this; omega, fun i hi => by
    have := h.2 (a.length + i) (by rw [List.length_append]; omega)
    rw [List.getElem_append_right (by omega)] at this
    have e : a.length + i - a.length = i := by omega
    simp only [e] at this
    rw [← this]
    congr 1
    push_cast; omega⟩
theorem At.head {s : ByteArray} {p : Int} {b : UInt8} {l : List UInt8} (h : At s p (b :: l)) : bt s p = (b.toNat : Int) ∧ p < (s.size : Int) ∧ At s (p + 1) l := by
  refine ⟨?_, by have := h.1; simp at this; omega, ?_⟩
  · have := h.2 0 (by simp)
    simpa using this
  · have : At s p ([b] ++ l) := h
    exact this.right
theorem p9 : (128 : Nat) ^ 9 = 9223372036854775808 := by decide
theorem gives_end (i m : Nat) (hm : m * 128 ^ i < 18446744073709551616) (hi : i = 9) : m ≤ 1 := by
  rw [hi, p9] at hm
  omega
theorem gives_next (i m : Nat) (hm : m * 128 ^ i < 18446744073709551616) : m / 128 * 128 ^ (i + 1) < 18446744073709551616 := by
  have h : m / 128 * 128 ^ (i + 1) ≤ m * 128 ^ i := by
    rw [Nat.pow_succ, Nat.mul_comm (128 ^ i), ← Nat.mul_assoc]
    exact Nat.mul_le_mul_right _ (by omega)
  omega
theorem gives_sum (i m : Nat) : ((m % 128 : Nat) : Int) * 128 ^ i + ((m / 128 : Nat) : Int) * 128 ^ (i + 1) = m * 128 ^ i := by
  rw [Int.pow_succ, Int.mul_comm (128 ^ i), ← Int.mul_assoc, ← Int.add_mul]
  congr 1
  omega
theorem spec_one (s : ByteArray) (p : Int) (f i m : Nat) (c : m < 128) (h0 : i = 0 ∨ 0 < m) (h9 : i = 9 → m ≤ 1) (h : At s (p + i) (encU m)) : spec s p (f + 1) i = (V s p i + m * 128 ^ i, (i : Int) + (encU m).length, 0) := by
  rw [encU_small c] at h ⊢
  obtain ⟨g1, g2, _⟩ := h.head
  rw [u8n m (by omega)] at g1
  unfold spec
  rw [if_neg (by omega), g1, if_neg (by omega), if_neg (by omega)]
  have e : V s p (i + 1) = V s p i + m * 128 ^ i := by
    show V s p i + bt s (p + i) % 128 * 128 ^ i = _
    rw [g1, show ((m : Int) % 128) = m by omega]
  rw [e]
  rfl
theorem spec_gives (s : ByteArray) (p : Int) : ∀ (f i m : Nat), f + i = 9 → m * 128 ^ i < 18446744073709551616 → (i = 0 ∨ 0 < m) → At s (p + i) (encU m) →
    spec s p (f + 1) i = (V s p i + m * 128 ^ i, (i : Int) + (encU m).length, 0)
  | 0, i, m, hf, hm, h0, h => by
    have h9 := gives_end i m hm (by omega)
    exact spec_one s p 0 i m (by omega) h0 (fun _ => h9) h
  | f + 1, i, m, hf, hm, h0, h => by
    by_cases c : m < 128
    · exact spec_one s p (f + 1) i m c h0 (fun e => absurd e (by omega)) h
    · have hn := gives_next i m hm
      have hs := gives_sum i m
      rw [encU_big c] at h ⊢
      obtain ⟨g1, g2, g3⟩ := h.head
      rw [u8n (m % 128 + 128) (by omega)] at g1
      have ih := spec_gives s p f (i + 1) (m / 128) (by omega) hn (.inr (by omega)) (by rw [show p + ((i + 1 : Nat) : Int) = p + i + 1 by push_cast; omega]; exact g3)
      have e0 : spec s p (f + 1 + 1) i = spec s p (f + 1) (i + 1) := by
        conv => lhs; unfold spec
        rw [if_neg (by omega), g1, if_pos (by omega)]
      rw [e0, ih]
      have e2 : V s p (i + 1) = V s p i + ((m % 128 : Nat) : Int) * 128 ^ i := by
        show V s p i + bt s (p + i) % 128 * 128 ^ i = _
        rw [g1]
        congr 2
        omega
      rw [e2, Int.add_assoc, hs]
      congr 2
      rw [List.length_cons]
      push_cast
      omega
def Gives {α : Type} (s : ByteArray) (f : Int → Except Int (α × Int)) (enc : α → List UInt8) (W : α → Prop) : Prop := ∀ (p : Int) (a : α), W a → At s p (enc a) → f p = .ok (a, p + (enc a).length)
theorem rNum_gives (s : ByteArray) : Gives s (rNum s) (fun n => encU n.toNat) (fun n => 0 ≤ n ∧ n < 18446744073709551616) := by
  intro p n hn h
  obtain ⟨m, rfl⟩ := Int.eq_ofNat_of_zero_le hn.1
  have h' : At s (p + ((0 : Nat) : Int)) (encU m) := by simpa using h
  have := spec_gives s p 9 0 m rfl (by have := hn.2; simp; omega) (.inl rfl) h'
  unfold rNum
  rw [this]
  simp [V]
theorem rInt_gives (s : ByteArray) : Gives s (rInt s) encI I64 := by
  intro p x hx h
  have hz := zig_lt hx.1 hx.2
  have := rNum_gives s p (zig x : Int) ⟨by omega, by omega⟩ (by simpa [encI] using h)
  unfold rInt
  rw [this]
  show Except.ok (unzig (zig x : Int), _) = _
  have e : unzig (zig x : Int) = x := by
    unfold unzig zig
    obtain ⟨h0, h1⟩ := hx
    by_cases c : x < 0
    · rw [if_pos c, if_pos (by omega)]; omega
    · rw [if_neg c, if_neg (by omega)]; omega
  rw [e]
  simp [encI]
theorem rCount_gives (s : ByteArray) (m : Int) (hm : m < 18446744073709551616) : Gives s (rCount s m) (fun n => encU n.toNat) (fun n => 0 ≤ n ∧ n ≤ m) := by
  intro p n hn h
  unfold rCount
  rw [rNum_gives s p n ⟨hn.1, by omega⟩ h]
  show (if m < n then Except.error 5 else Except.ok (n, _)) = _
  rw [if_neg (by omega)]
theorem rText_gives (s : ByteArray) (hs0 : 0 ≤ (0 : Int)) : ∀ (p : Int) (a : ByteArray), 0 ≤ p → a.size ≤ 64 → At s p (encT a) → rText s p = .ok (a, p + (encT a).length) := by
  intro p a hp ha h
  unfold encT at h ⊢
  have hl := h.left
  have hr := h.right
  unfold rText
  have e1 : (encU a.size) = encU (a.size : Int).toNat := by simp
  rw [rCount_gives s 64 (by decide) p (a.size : Int) ⟨by omega, by omega⟩ (by simpa using hl)]
  have hd : a.data.toList.length = a.size := rfl
  have hr1 := hr.1
  rw [hd] at hr1
  show (if (s.size : Int) < p + (encU (a.size : Int).toNat).length + a.size then Except.error 3 else Except.ok (s.extract (p + (encU (a.size : Int).toNat).length : Int).toNat (p + (encU (a.size : Int).toNat).length + a.size : Int).toNat, p + (encU (a.size : Int).toNat).length + a.size)) = _
  rw [Int.toNat_natCast, if_neg (by omega)]
  rw [List.length_append, hd]
  have e2 : s.extract (p + (encU a.size).length : Int).toNat (p + (encU a.size).length + a.size : Int).toNat = a := by
    apply ByteArray.ext
    apply Array.ext
    · show (s.extract _ _).size = a.size
      rw [ByteArray.size_extract]; omega
    · intro i h1 h2
      have h2' : i < a.size := h2
      have := hr.2 i (by rw [hd]; exact h2')
      unfold bt at this
      rw [dif_pos (by omega)] at this
      have h3 : (s.extract (p + (encU a.size).length : Int).toNat (p + (encU a.size).length + a.size : Int).toNat).data[i] = s.data[(p + (encU a.size).length : Int).toNat + i]'(by show _ < s.size; omega) := by
        simp [ByteArray.data_extract]
      rw [h3]
      have e4 : (p + (encU a.size).length + (i : Int)).toNat = (p + (encU a.size).length : Int).toNat + i := by omega
      simp only [e4] at this
      have this : (s.data[(p + (encU a.size).length : Int).toNat + i]'(by show _ < s.size; omega)).toNat = (a.data[i]).toNat := by
        have q := this
        rw [ByteArray.getElem_eq_getElem_data] at q
        exact_mod_cast q
      exact UInt8.toNat_inj.1 this
  rw [e2]
  congr 2
  push_cast
  omega
def Giv {α : Type} (s : ByteArray) (f : Int → Except Int (α × Int)) (enc : α → List UInt8) (W : α → Prop) : Prop := ∀ (p : Int) (a : α), 0 ≤ p → W a → At s p (enc a) → f p = .ok (a, p + (enc a).length)
theorem Gives.giv {α : Type} {s : ByteArray} {f : Int → Except Int (α × Int)} {enc : α → List UInt8} {W : α → Prop} (h : Gives s f enc W) : Giv s f enc W := fun p a _ hw ha => h p a hw ha
theorem giv_list {α : Type} {s : ByteArray} {f : Int → Except Int (α × Int)} {enc : α → List UInt8} {W : α → Prop} (hf : Giv s f enc W) : ∀ (l : List α) (p : Int), 0 ≤ p → (∀ x ∈ l, W x) → At s p (l.flatMap enc) → rList f l.length p = .ok (l, p + (l.flatMap enc).length)
  | [], p, _, _, _ => by simp [rList]
  | x :: l, p, h0, hw, h => by
    rw [List.flatMap_cons] at h ⊢
    show rB (f p) (fun x q => rB (rList f l.length q) fun l r => .ok (x :: l, r)) = _
    rw [hf p x h0 (hw x (by simp)) h.left]
    show rB (rList f l.length (p + (enc x).length)) (fun l r => .ok (x :: l, r)) = _
    rw [giv_list hf l _ (by omega) (fun y hy => hw y (by simp [hy])) h.right]
    show Except.ok (x :: l, _) = _
    rw [List.length_append]
    congr 2
    push_cast
    omega
theorem giv_many {α : Type} {s : ByteArray} {f : Int → Except Int (α × Int)} {enc : α → List UInt8} {W : α → Prop} (m : Int) (hm : m < 18446744073709551616) (hf : Giv s f enc W) : Giv s (rMany s m f) (encMany enc) (fun l => (l.length : Int) ≤ m ∧ ∀ x ∈ l, W x) := by
  intro p l h0 hw h
  unfold encMany at h ⊢
  unfold rMany
  rw [rCount_gives s m hm p (l.length : Int) ⟨by omega, hw.1⟩ (by simpa using h.left)]
  show rList f (l.length : Int).toNat (p + (encU (l.length : Int).toNat).length) = _
  rw [Int.toNat_natCast, giv_list hf l _ (by omega) hw.2 h.right, List.length_append]
  congr 2
  push_cast
  omega
theorem giv_bind {α β : Type} {s : ByteArray} {f : Int → Except Int (α × Int)} {g : α → Int → Except Int (β × Int)} {ea : α → List UInt8} {W : α → Prop} {a : α} {e2 : List UInt8} {b : β} {p : Int} (hf : Giv s f ea W) (h0 : 0 ≤ p) (hw : W a) (h : At s p (ea a ++ e2))
    (hg : At s (p + (ea a).length) e2 → g a (p + (ea a).length) = .ok (b, p + (ea a).length + e2.length)) : rB (f p) g = .ok (b, p + (ea a ++ e2).length) := by
  rw [hf p a h0 hw h.left]
  show g a _ = _
  rw [hg h.right, List.length_append]
  congr 2
  push_cast
  omega
theorem tag_giv (s : ByteArray) : Giv s (rTag s) encTag wTag := by
  intro p t h0 hw h
  unfold encTag at h ⊢
  refine giv_bind (fun p a h0 => rText_gives s (by decide) p a h0) h0 hw.1 h fun h => ?_
  rw [rText_gives s (by decide) _ _ (by omega) hw.2 h]
  rfl
theorem tags_giv (s : ByteArray) : Giv s (rTags s) encTags wTags := giv_many 16 (by decide) (tag_giv s)
theorem int_giv (s : ByteArray) : Giv s (rInt s) encI I64 := (rInt_gives s).giv
theorem node_giv (s : ByteArray) : Giv s (rNode s) encNode wN := by
  intro p x h0 hw h
  unfold encNode at h ⊢
  refine giv_bind (int_giv s) h0 hw.1 h fun h => giv_bind (int_giv s) (by omega) hw.2.1 h fun h => giv_bind (int_giv s) (by omega) hw.2.2.1 h fun h => ?_
  rw [tags_giv s _ _ (by omega) hw.2.2.2 h]
  rfl
theorem way_giv (s : ByteArray) : Giv s (rWay s) encWay wY := by
  intro p x h0 hw h
  unfold encWay at h ⊢
  refine giv_bind (int_giv s) h0 hw.1 h fun h => giv_bind (giv_many 2000 (by decide) (int_giv s)) (by omega) hw.2.1 h fun h => ?_
  rw [tags_giv s _ _ (by omega) hw.2.2 h]
  rfl
theorem mem_giv (s : ByteArray) : Giv s (rMem s) encMem wM := by
  intro p x h0 hw h
  unfold encMem at h ⊢
  refine giv_bind (int_giv s) h0 hw.1 h fun h => giv_bind (int_giv s) (by omega) hw.2.1 h fun h => ?_
  rw [rText_gives s (by decide) _ _ (by omega) hw.2.2 h]
  rfl
theorem rel_giv (s : ByteArray) : Giv s (rRel s) encRel wR := by
  intro p x h0 hw h
  unfold encRel at h ⊢
  refine giv_bind (int_giv s) h0 hw.1 h fun h => giv_bind (giv_many 200 (by decide) (mem_giv s)) (by omega) hw.2.1 h fun h => ?_
  rw [tags_giv s _ _ (by omega) hw.2.2 h]
  rfl
theorem data_giv (s : ByteArray) : Giv s (rData s) encData wD := by
  intro p x h0 hw h
  unfold encData at h ⊢
  refine giv_bind (giv_many 10000 (by decide) (node_giv s)) h0 hw.1 h fun h => giv_bind (giv_many 10000 (by decide) (way_giv s)) (by omega) hw.2.1 h fun h => ?_
  rw [giv_many 10000 (by decide) (rel_giv s) _ _ (by omega) hw.2.2 h]
  rfl
theorem at_mk (l m : List UInt8) : At (mk (l ++ m)) 0 l := by
  refine ⟨by rw [mk_size, List.length_append]; push_cast; omega, fun i hi => ?_⟩
  have h1 : i < (mk (l ++ m)).size := by rw [mk_size, List.length_append]; omega
  rw [show (0 : Int) + (i : Int) = ((i : Nat) : Int) by omega, bt_data _ i h1]
  have e : (mk (l ++ m)).data.toList = l ++ m := rfl
  simp only [e]
  rw [List.getElem_append_left hi]
def Beg (s t : ByteArray) : Prop := t = s.extract 0 t.size ∧ t.size ≤ s.size
theorem Beg.bt {s t : ByteArray} (h : Beg s t) (i : Int) (h0 : 0 ≤ i) (h1 : i < (t.size : Int)) : bt t i = bt s i := by
  have h2 : i.toNat < t.size := by omega
  have h3 : i.toNat < s.size := by have := h.2; omega
  unfold Go.Proofs.YtefambkodalomaaW.PrintWords.bt
  rw [dif_pos h2, dif_pos h3]
  have e : t.data = (s.extract 0 t.size).data := congrArg ByteArray.data h.1
  have e2 : t.data[i.toNat]'h2 = s.data[i.toNat]'h3 := by
    have : t.data[i.toNat]'h2 = (s.extract 0 t.size).data[i.toNat]'(by rw [← e]; exact h2) := by
      congr 1
    rw [this]
    simp [ByteArray.data_extract]
  simp only [ByteArray.getElem_eq_getElem_data, e2]
def Pre {α : Type} (t : ByteArray) (f f' : Int → Except Int (α × Int)) : Prop := ∀ (p : Int) (a : α) (q : Int), 0 ≤ p → p ≤ (t.size : Int) → f p = .ok (a, q) → (q ≤ (t.size : Int) → f' p = .ok (a, q)) ∧ ((t.size : Int) < q → f' p = .error 3)
theorem V_beg {s t : ByteArray} (h : Beg s t) (p : Int) (hp : 0 ≤ p) : ∀ i : Nat, p + i ≤ (t.size : Int) → V t p i = V s p i
  | 0, _ => rfl
  | i + 1, hi => by
    unfold V
    rw [V_beg h p hp i (by push_cast at hi; omega), h.bt (p + i) (by omega) (by push_cast at hi; omega)]
theorem spec_pre {s t : ByteArray} (h : Beg s t) (p : Int) (hp : 0 ≤ p) : ∀ (f i : Nat), f + i = 10 → p + i ≤ (t.size : Int) → (spec s p f i).2.2 = 0 →
    (p + (spec s p f i).2.1 ≤ (t.size : Int) → spec t p f i = spec s p f i) ∧ ((t.size : Int) < p + (spec s p f i).2.1 → spec t p f i = (0, 0, 3))
  | 0, i, _, _, hz => by simp [spec] at hz
  | f + 1, i, hf, hi, hz => by
    have hs := spec_fwd s p (f + 1) i hf hz
    unfold spec at hz hs ⊢
    by_cases c1 : (s.size : Int) ≤ p + i
    · rw [if_pos c1] at hz; simp at hz
    rw [if_neg c1] at hz hs ⊢
    by_cases c0 : (t.size : Int) ≤ p + i
    · rw [if_pos c0]
      refine ⟨fun hq => ?_, fun _ => rfl⟩
      exfalso
      by_cases c2 : 128 ≤ bt s (p + i)
      · rw [if_pos c2] at hz hs hq
        have := spec_fwd s p f (i + 1) (by omega) hz
        push_cast at this
        omega
      rw [if_neg c2] at hz hs hq
      by_cases c3 : (0 < i ∧ bt s (p + i) = 0) ∨ (i = 9 ∧ 1 < bt s (p + i))
      · rw [if_pos c3] at hz; simp at hz
      rw [if_neg c3] at hq
      have hq : p + ((i : Int) + 1) ≤ (t.size : Int) := hq
      omega
    rw [if_neg c0, h.bt (p + i) (by omega) (by omega)]
    by_cases c2 : 128 ≤ bt s (p + i)
    · rw [if_pos c2] at hz hs ⊢
      rw [if_pos c2]
      exact spec_pre h p hp f (i + 1) (by omega) (by push_cast; omega) hz
    rw [if_neg c2] at hz hs ⊢
    rw [if_neg c2]
    by_cases c3 : (0 < i ∧ bt s (p + i) = 0) ∨ (i = 9 ∧ 1 < bt s (p + i))
    · rw [if_pos c3] at hz; simp at hz
    rw [if_neg c3, if_neg c3]
    refine ⟨fun _ => ?_, fun hq => ?_⟩
    · rw [V_beg h p hp (i + 1) (by push_cast; omega)]
    · exfalso
      have hq : (t.size : Int) < p + ((i : Int) + 1) := hq
      omega
theorem rNum_pre {s t : ByteArray} (h : Beg s t) : Pre t (rNum s) (rNum t) := by
  intro p a q h0 h1 hh
  unfold rNum at hh ⊢
  by_cases c : (spec s p 10 0).2.2 = 0
  · rw [if_pos c] at hh
    injection hh with hh; injection hh with h2 h3
    obtain ⟨g1, g2⟩ := spec_pre h p h0 10 0 rfl (by simpa using h1) c
    refine ⟨fun hq => ?_, fun hq => ?_⟩
    · rw [g1 (by omega), if_pos c, h2, h3]
    · rw [g2 (by omega)]; rfl
  · rw [if_neg c] at hh; cases hh
theorem Pre.bind {α β : Type} {s t : ByteArray} (hst : t.size ≤ s.size) {f f' : Int → Except Int (α × Int)} {g g' : α → Int → Except Int (β × Int)} (hff : Fwd s f) (hgf : ∀ a, Fwd s (g a)) (hf : Pre t f f') (hg : ∀ a, Pre t (g a) (g' a)) : Pre t (fun p => rB (f p) g) (fun p => rB (f' p) g') := by
  intro p b q h0 h1 h
  obtain ⟨a, r, ha, h⟩ := rB_ok h
  have hr := hff p a r h0 (by omega) ha
  have hq := hgf a r b q (by omega) hr.2 h
  obtain ⟨f1, f2⟩ := hf p a r h0 h1 ha
  by_cases c : r ≤ (t.size : Int)
  · obtain ⟨g1, g2⟩ := hg a r b q (by omega) c h
    refine ⟨fun hh => ?_, fun hh => ?_⟩
    · show rB (f' p) g' = _
      rw [f1 c]; exact g1 hh
    · show rB (f' p) g' = _
      rw [f1 c]; exact g2 hh
  · refine ⟨fun hh => by omega, fun hh => ?_⟩
    show rB (f' p) g' = _
    rw [f2 (by omega)]; rfl
theorem Pre.ok {α : Type} {t : ByteArray} (a : α) : Pre t (fun p => .ok (a, p)) (fun p => .ok (a, p)) := by
  intro p b q h0 h1 h
  injection h with h; injection h with h2 h3
  subst h2 h3
  exact ⟨fun _ => rfl, fun h => by omega⟩
theorem rInt_pre {s t : ByteArray} (h : Beg s t) : Pre t (rInt s) (rInt t) := Pre.bind h.2 (rNum_fwd s) (fun _ => Fwd.ok _) (rNum_pre h) fun _ => Pre.ok _
theorem rCount_pre {s t : ByteArray} (h : Beg s t) (m : Int) : Pre t (rCount s m) (rCount t m) := by
  refine Pre.bind h.2 (rNum_fwd s) (fun n => ?_) (rNum_pre h) fun n => ?_
  · by_cases c : m < n
    · simp only [if_pos c]; intro p a q _ _ hh; cases hh
    · simp only [if_neg c]; exact Fwd.ok _
  · by_cases c : m < n
    · simp only [if_pos c]; intro p a q _ _ hh; cases hh
    · simp only [if_neg c]; exact Pre.ok _
theorem ext_beg {s t : ByteArray} (h : Beg s t) (a b : Nat) (hb : b ≤ t.size) : t.extract a b = s.extract a b := by
  apply ByteArray.ext
  have e : t.data = (s.extract 0 t.size).data := congrArg ByteArray.data h.1
  rw [ByteArray.data_extract, ByteArray.data_extract, e, ByteArray.data_extract, Array.extract_extract]
  congr 1
  · omega
  · omega
theorem rText_pre {s t : ByteArray} (h : Beg s t) : Pre t (rText s) (rText t) := by
  intro p a q h0 h1 hh
  obtain ⟨n, r, hn, hh⟩ := rB_ok hh
  have hc := rCount_le hn
  have hr := rCount_fwd s 64 p n r h0 (by have := h.2; omega) hn
  obtain ⟨f1, f2⟩ := rCount_pre h 64 p n r h0 h1 hn
  unfold rText
  by_cases d : (s.size : Int) < r + n
  · rw [if_pos d] at hh; cases hh
  rw [if_neg d] at hh
  injection hh with hh; injection hh with h2 h3
  by_cases c : r ≤ (t.size : Int)
  · rw [f1 c]
    refine ⟨fun hq => ?_, fun hq => ?_⟩
    · show (if (t.size : Int) < r + n then _ else _) = _
      rw [if_neg (by omega), ext_beg h _ _ (by omega), h2, h3]
    · show (if (t.size : Int) < r + n then _ else _) = _
      rw [if_pos (by omega)]
  · refine ⟨fun hq => by omega, fun hq => ?_⟩
    rw [f2 (by omega)]; rfl
theorem Pre.list {α : Type} {s t : ByteArray} (hst : t.size ≤ s.size) {f f' : Int → Except Int (α × Int)} (hff : Fwd s f) (hf : Pre t f f') : ∀ n, Pre t (rList f n) (rList f' n)
  | 0 => Pre.ok _
  | n + 1 => Pre.bind hst hff (fun _ => Fwd.rB (Fwd.rList hff n) fun _ => Fwd.ok _) hf fun _ => Pre.bind hst (Fwd.rList hff n) (fun _ => Fwd.ok _) (Pre.list hst hff hf n) fun _ => Pre.ok _
theorem Pre.many {α : Type} {s t : ByteArray} (h : Beg s t) (m : Int) {f f' : Int → Except Int (α × Int)} (hff : Fwd s f) (hf : Pre t f f') : Pre t (rMany s m f) (rMany t m f') := Pre.bind h.2 (rCount_fwd s m) (fun _ => Fwd.rList hff _) (rCount_pre h m) fun _ => Pre.list h.2 hff hf _
theorem rTags_pre {s t : ByteArray} (h : Beg s t) : Pre t (rTags s) (rTags t) :=
  Pre.many h 16 (rTag_fwd s) (Pre.bind h.2 (rText_fwd s) (fun _ => Fwd.rB (rText_fwd s) fun _ => Fwd.ok _) (rText_pre h) fun _ => Pre.bind h.2 (rText_fwd s) (fun _ => Fwd.ok _) (rText_pre h) fun _ => Pre.ok _)
theorem rNode_pre {s t : ByteArray} (h : Beg s t) : Pre t (rNode s) (rNode t) :=
  Pre.bind h.2 (rInt_fwd s) (fun _ => Fwd.rB (rInt_fwd s) fun _ => Fwd.rB (rInt_fwd s) fun _ => Fwd.rB (rTags_fwd s) fun _ => Fwd.ok _) (rInt_pre h) fun _ => Pre.bind h.2 (rInt_fwd s) (fun _ => Fwd.rB (rInt_fwd s) fun _ => Fwd.rB (rTags_fwd s) fun _ => Fwd.ok _) (rInt_pre h) fun _ =>
    Pre.bind h.2 (rInt_fwd s) (fun _ => Fwd.rB (rTags_fwd s) fun _ => Fwd.ok _) (rInt_pre h) fun _ => Pre.bind h.2 (rTags_fwd s) (fun _ => Fwd.ok _) (rTags_pre h) fun _ => Pre.ok _
theorem rWay_pre {s t : ByteArray} (h : Beg s t) : Pre t (rWay s) (rWay t) :=
  Pre.bind h.2 (rInt_fwd s) (fun _ => Fwd.rB (Fwd.rMany _ (rInt_fwd s)) fun _ => Fwd.rB (rTags_fwd s) fun _ => Fwd.ok _) (rInt_pre h) fun _ => Pre.bind h.2 (Fwd.rMany _ (rInt_fwd s)) (fun _ => Fwd.rB (rTags_fwd s) fun _ => Fwd.ok _) (Pre.many h 2000 (rInt_fwd s) (rInt_pre h)) fun _ =>
    Pre.bind h.2 (rTags_fwd s) (fun _ => Fwd.ok _) (rTags_pre h) fun _ => Pre.ok _
theorem rMem_pre {s t : ByteArray} (h : Beg s t) : Pre t (rMem s) (rMem t) :=
  Pre.bind h.2 (rInt_fwd s) (fun _ => Fwd.rB (rInt_fwd s) fun _ => Fwd.rB (rText_fwd s) fun _ => Fwd.ok _) (rInt_pre h) fun _ => Pre.bind h.2 (rInt_fwd s) (fun _ => Fwd.rB (rText_fwd s) fun _ => Fwd.ok _) (rInt_pre h) fun _ => Pre.bind h.2 (rText_fwd s) (fun _ => Fwd.ok _) (rText_pre h) fun _ => Pre.ok _
theorem rRel_pre {s t : ByteArray} (h : Beg s t) : Pre t (rRel s) (rRel t) :=
  Pre.bind h.2 (rInt_fwd s) (fun _ => Fwd.rB (Fwd.rMany _ (rMem_fwd s)) fun _ => Fwd.rB (rTags_fwd s) fun _ => Fwd.ok _) (rInt_pre h) fun _ => Pre.bind h.2 (Fwd.rMany _ (rMem_fwd s)) (fun _ => Fwd.rB (rTags_fwd s) fun _ => Fwd.ok _) (Pre.many h 200 (rMem_fwd s) (rMem_pre h)) fun _ =>
    Pre.bind h.2 (rTags_fwd s) (fun _ => Fwd.ok _) (rTags_pre h) fun _ => Pre.ok _
theorem rData_pre {s t : ByteArray} (h : Beg s t) : Pre t (rData s) (rData t) :=
  Pre.bind h.2 (Fwd.rMany _ (rNode_fwd s)) (fun _ => Fwd.rB (Fwd.rMany _ (rWay_fwd s)) fun _ => Fwd.rB (Fwd.rMany _ (rRel_fwd s)) fun _ => Fwd.ok _) (Pre.many h 10000 (rNode_fwd s) (rNode_pre h)) fun _ =>
    Pre.bind h.2 (Fwd.rMany _ (rWay_fwd s)) (fun _ => Fwd.rB (Fwd.rMany _ (rRel_fwd s)) fun _ => Fwd.ok _) (Pre.many h 10000 (rWay_fwd s) (rWay_pre h)) fun _ => Pre.bind h.2 (Fwd.rMany _ (rRel_fwd s)) (fun _ => Fwd.ok _) (Pre.many h 10000 (rRel_fwd s) (rRel_pre h)) fun _ => Pre.ok _
end Go.Proofs.Ytefambkodalomaa.Pure
