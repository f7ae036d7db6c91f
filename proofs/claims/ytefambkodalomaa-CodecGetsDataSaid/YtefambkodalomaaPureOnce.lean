/- c16, plain: what a reader reads is the encoding of its value. -/
import Derived.Test.YtefambkodalomaaPureEncC
namespace Go.Proofs.Ytefambkodalomaa.Pure
open Go.RowKit Go.Proofs.Ytefambkodalomaa.PAll Go.Proofs.YtefambkodalomaaW.PrintWords Go.Proofs.YtefambkodalomaaW.PrintLast Go.Proofs.YtefambkodalomaaW.PrintMore Go.Proofs.YtefambkodalomaaG
set_option linter.unusedVariables false
set_option linter.unusedSimpArgs false
def At (s : ByteArray) (p : Int) (l : List UInt8) : Prop := p + l.length ≤ (s.size : Int) ∧ ∀ (i : Nat) (h : i < l.length), bt s (p + i) = (l[i].toNat : Int)
theorem At.nil {s : ByteArray} {p : Int} (h : p ≤ (s.size : Int)) : At s p [] := ⟨by simpa using h, fun i h => absurd h (by simp)⟩
theorem At.append {s : ByteArray} {p : Int} {a b : List UInt8} (ha : At s p a) (hb : At s (p + a.length) b) : At s p (a ++ b) := by
  refine ⟨by have := hb.1; rw [List.length_append]; push_cast; omega, fun i h => ?_⟩
  by_cases c : i < a.length
  · rw [List.getElem_append_left c]; exact ha.2 i c
  · rw [List.getElem_append_right (by omega)]
    have := hb.2 (i - a.length) (by rw [List.length_append] at h; omega)
    rw [← this]
    congr 1
    omega
theorem At.cons {s : ByteArray} {p : Int} {b : UInt8} {l : List UInt8} (h0 : bt s p = (b.toNat : Int)) (hp : p < (s.size : Int)) (h : At s (p + 1) l) : At s p (b :: l) := by
  refine ⟨by have := h.1; simp; omega, fun i hi => ?_⟩
  cases i with
  | zero => simpa using h0
  | succ i =>
    have := h.2 i (by simpa using hi)
    rw [List.getElem_cons_succ, ← this]
    congr 1
    push_cast; omega
def Reads {α : Type} (s : ByteArray) (f : Int → Except Int (α × Int)) (enc : α → List UInt8) (W : α → Prop) : Prop :=
  ∀ (p : Int) (a : α) (q : Int), 0 ≤ p → p ≤ (s.size : Int) → f p = .ok (a, q) → At s p (enc a) ∧ q = p + (enc a).length ∧ W a
theorem u8of (b : Int) (h0 : 0 ≤ b) (h1 : b ≤ 255) (n : Nat) (hn : (n : Int) = b) : b = ((UInt8.ofNat n).toNat : Int) := by
  rw [u8n n (by omega)]; omega
theorem spec_reads (s : ByteArray) (p : Int) : ∀ (f i : Nat), f + i = 10 → (spec s p f i).2.2 = 0 → ∃ m : Nat, (spec s p f i).1 = V s p i + m * 128 ^ i ∧ (spec s p f i).2.1 = i + (encU m).length ∧ At s (p + i) (encU m) ∧ (i = 0 ∨ 0 < m)
  | 0, i, _, h => by simp [spec] at h
  | f + 1, i, hf, h => by
    have hb := bt_range s (p + i)
    unfold spec at h ⊢
    by_cases c1 : (s.size : Int) ≤ p + i
    · rw [if_pos c1] at h; simp at h
    rw [if_neg c1] at h ⊢
    by_cases c2 : 128 ≤ bt s (p + i)
    · rw [if_pos c2] at h ⊢
      obtain ⟨m, h1, h2, h3, h4⟩ := spec_reads s p f (i + 1) (by omega) h
      have hm : 0 < m := by omega
      obtain ⟨b, hbn⟩ := Int.eq_ofNat_of_zero_le hb.1
      refine ⟨b % 128 + 128 * m, ?_, ?_, ?_, by omega⟩
      · rw [h1]
        show V s p i + bt s (p + i) % 128 * 128 ^ i + m * 128 ^ (i + 1) = _
        rw [hbn, Int.pow_succ]
        push_cast
        rw [Int.add_mul, Int.mul_comm 128 (m : Int), Int.mul_assoc (m : Int), Int.mul_comm 128 (128 ^ i)]
        omega
      · rw [encU_big (by omega), show (b % 128 + 128 * m) / 128 = m by omega, h2]
        simp; omega
      · rw [encU_big (by omega), show (b % 128 + 128 * m) / 128 = m by omega]
        refine At.cons ?_ (by omega) (by rw [show p + (i : Int) + 1 = p + ((i + 1 : Nat) : Int) by push_cast; omega]; exact h3)
        exact u8of _ hb.1 hb.2 _ (by omega)
    rw [if_neg c2] at h ⊢
    by_cases c3 : (0 < i ∧ bt s (p + i) = 0) ∨ (i = 9 ∧ 1 < bt s (p + i))
    · rw [if_pos c3] at h; simp at h
    rw [if_neg c3]
    obtain ⟨b, hbn⟩ := Int.eq_ofNat_of_zero_le hb.1
    refine ⟨b, ?_, ?_, ?_, by omega⟩
    · show V s p i + bt s (p + i) % 128 * 128 ^ i = _
      rw [hbn, show ((b : Int) % 128) = b by omega]
    · rw [encU_small (by omega)]; rfl
    · rw [encU_small (by omega)]
      exact At.cons (u8of _ hb.1 hb.2 _ (by omega)) (by omega) (At.nil (by omega))
theorem rNum_reads (s : ByteArray) : Reads s (rNum s) (fun n => encU n.toNat) (fun n => 0 ≤ n ∧ n < 18446744073709551616) := by
  intro p a q h0 h1 h
  have hr := rNum_range h
  unfold rNum at h
  by_cases c : (spec s p 10 0).2.2 = 0
  · rw [if_pos c] at h
    obtain ⟨m, e1, e2, e3, _⟩ := spec_reads s p 10 0 rfl c
    injection h with h; injection h with h2 h3
    have em : a = (m : Int) := by rw [← h2, e1]; simp [V]
    subst em
    have e0 : p + ((0 : Nat) : Int) = p := by simp
    rw [e0] at e3
    refine ⟨by simpa using e3, ?_, hr⟩
    rw [← h3, e2]; simp
  · rw [if_neg c] at h; cases h
theorem zig_unzig (n : Int) (h0 : 0 ≤ n) (h1 : n < 18446744073709551616) : (zig (unzig n) = n.toNat) ∧ I64 (unzig n) := by
  unfold zig unzig I64
  by_cases c : n % 2 = 1
  · rw [if_pos c, if_pos (by omega)]; omega
  · rw [if_neg c, if_neg (by omega)]; omega
theorem rInt_reads (s : ByteArray) : Reads s (rInt s) encI I64 := by
  intro p a q h0 h1 h
  obtain ⟨n, r, hn, h⟩ := rB_ok h
  obtain ⟨g1, g2, g3⟩ := rNum_reads s p n r h0 h1 hn
  injection h with h; injection h with h2 h3
  subst h2 h3
  have hz := zig_unzig n g3.1 g3.2
  unfold encI
  rw [hz.1]
  exact ⟨g1, g2, hz.2⟩
theorem rCount_reads (s : ByteArray) (m : Int) : Reads s (rCount s m) (fun n => encU n.toNat) (fun n => 0 ≤ n ∧ n ≤ m) := by
  intro p a q h0 h1 h
  have hl := rCount_le h
  obtain ⟨n, r, hn, h⟩ := rB_ok h
  obtain ⟨g1, g2, g3⟩ := rNum_reads s p n r h0 h1 hn
  by_cases c : m < n
  · rw [if_pos c] at h; cases h
  · rw [if_neg c] at h
    injection h with h; injection h with h2 h3
    subst h2 h3
    exact ⟨g1, g2, hl⟩
theorem Reads.bind {α β : Type} {s : ByteArray} {f : Int → Except Int (α × Int)} {g : α → Int → Except Int (β × Int)} {ea : α → List UInt8} {eb : α → β → List UInt8} {e : β → List UInt8} {Wa : α → Prop} {W : β → Prop}
    (hff : Fwd s f) (hf : Reads s f ea Wa) (hg : ∀ a, Wa a → Reads s (g a) (eb a) (fun b => ea a ++ eb a b = e b ∧ W b)) : Reads s (fun p => rB (f p) g) e W := by
  intro p b q h0 h1 h
  obtain ⟨a, r, ha, h⟩ := rB_ok h
  obtain ⟨f1, f2, f3⟩ := hf p a r h0 h1 ha
  have hr := hff p a r h0 h1 ha
  obtain ⟨g1, g2, g3, g4⟩ := hg a f3 r b q (by omega) hr.2 h
  rw [← g3]
  refine ⟨At.append f1 (by rw [← f2]; exact g1), ?_, g4⟩
  rw [List.length_append, g2, f2]; push_cast; omega
theorem Reads.ok {α : Type} {s : ByteArray} (a : α) {W : α → Prop} (h : W a) : Reads s (fun p => .ok (a, p)) (fun _ => []) W := by
  intro p b q h0 h1 hh
  injection hh with hh; injection hh with h2 h3
  subst h2 h3
  exact ⟨At.nil h1, by simp, h⟩
theorem bt_data (s : ByteArray) (i : Nat) (h : i < s.size) : bt s i = ((s.data.toList[i]'(by simpa using h)).toNat : Int) := by
  unfold bt
  rw [dif_pos (by simpa using h)]
  simp [ByteArray.getElem_eq_getElem_data]
theorem rText_reads (s : ByteArray) : Reads s (rText s) encT (fun a => a.size ≤ 64) := by
  intro p a q h0 h1 h
  obtain ⟨n, r, hn, h⟩ := rB_ok h
  obtain ⟨g1, g2, g3⟩ := rCount_reads s 64 p n r h0 h1 hn
  have hr := rCount_fwd s 64 p n r h0 h1 hn
  by_cases c : (s.size : Int) < r + n
  · rw [if_pos c] at h; cases h
  rw [if_neg c] at h
  injection h with h; injection h with h2 h3
  subst h2 h3
  have hsz : (s.extract r.toNat (r + n).toNat).size = n.toNat := by rw [ByteArray.size_extract]; omega
  unfold encT
  rw [hsz]
  refine ⟨At.append g1 ⟨?_, fun i hi => ?_⟩, ?_, by omega⟩
  · rw [← g2]
    show r + ((s.extract r.toNat (r + n).toNat).data.toList.length : Int) ≤ _
    have : (s.extract r.toNat (r + n).toNat).data.toList.length = (s.extract r.toNat (r + n).toNat).size := rfl
    rw [this, hsz]; omega
  · rw [← g2]
    have hi' : i < (s.extract r.toNat (r + n).toNat).size := hi
    rw [← bt_data _ i hi']
    rw [hsz] at hi'
    unfold bt
    rw [dif_pos (show ((i : Nat) : Int).toNat < _ by rw [hsz]; omega), dif_pos (by omega)]
    have e : (r + (i : Int)).toNat = r.toNat + i := by omega
    simp only [e, Int.toNat_natCast]
    rw [ByteArray.getElem_extract]
  · rw [List.length_append]
    have : (s.extract r.toNat (r + n).toNat).data.toList.length = (s.extract r.toNat (r + n).toNat).size := rfl
    rw [this, hsz, g2]; push_cast; omega
theorem Reads.list {α : Type} {s : ByteArray} {f : Int → Except Int (α × Int)} {enc : α → List UInt8} {W : α → Prop} (hff : Fwd s f) (hf : Reads s f enc W) : ∀ n : Nat, Reads s (rList f n) (fun l => l.flatMap enc) (fun l => l.length = n ∧ ∀ x ∈ l, W x)
  | 0 => by
    intro p b q h0 h1 h
    have h : (Except.ok ([], p) : Except Int (List α × Int)) = .ok (b, q) := h
    injection h with h; injection h with h2 h3
    subst h2 h3
    exact ⟨At.nil h1, by simp, rfl, by simp⟩
  | n + 1 => by
    refine Reads.bind (eb := fun _ l => l.drop 1 |>.flatMap enc) hff hf fun a ha => ?_
    intro p b q h0 h1 h
    obtain ⟨l, r, hl, h⟩ := rB_ok h
    obtain ⟨g1, g2, g3, g4⟩ := Reads.list hff hf n p l r h0 h1 hl
    injection h with h; injection h with h2 h3
    subst h2 h3
    refine ⟨g1, g2, by simp [List.flatMap_cons], by simp [g3], ?_⟩
    intro x hx
    rcases List.mem_cons.1 hx with rfl | hx
    · exact ha
    · exact g4 x hx
theorem Reads.many {α : Type} {s : ByteArray} {f : Int → Except Int (α × Int)} {enc : α → List UInt8} {W : α → Prop} (m : Int) (hff : Fwd s f) (hf : Reads s f enc W) : Reads s (rMany s m f) (encMany enc) (fun l => (l.length : Int) ≤ m ∧ ∀ x ∈ l, W x) := by
  refine Reads.bind (rCount_fwd s m) (rCount_reads s m) (eb := fun _ l => l.flatMap enc) fun n hn => ?_
  intro p b q h0 h1 h
  obtain ⟨g1, g2, g3, g4⟩ := Reads.list hff hf n.toNat p b q h0 h1 h
  exact ⟨g1, g2, by unfold encMany; rw [g3], by omega, g4⟩
theorem Reads.mono {α : Type} {s : ByteArray} {f : Int → Except Int (α × Int)} {enc : α → List UInt8} {W W' : α → Prop} (h : Reads s f enc W) (hw : ∀ a, W a → W' a) : Reads s f enc W' := fun p a q h0 h1 hh => let ⟨g1, g2, g3⟩ := h p a q h0 h1 hh; ⟨g1, g2, hw a g3⟩
def wTag (t : S130) : Prop := t.f0.size ≤ 64 ∧ t.f1.size ≤ 64
theorem rTag_reads (s : ByteArray) : Reads s (rTag s) encTag wTag :=
  Reads.bind (rText_fwd s) (rText_reads s) (eb := fun _ t => encT t.f1 ++ []) fun a ha => Reads.bind (rText_fwd s) (rText_reads s) fun b hb => Reads.ok _ ⟨by simp, by simp [encTag], ha, hb⟩
def wTags (l : List S130) : Prop := (l.length : Int) ≤ 16 ∧ ∀ x ∈ l, wTag x
theorem rTags_reads (s : ByteArray) : Reads s (rTags s) encTags wTags := Reads.many 16 (rTag_fwd s) (rTag_reads s)
def wN (x : S53) : Prop := I64 x.f0 ∧ I64 x.f1.f0 ∧ I64 x.f1.f1 ∧ wTags x.f2
def wY (x : S56) : Prop := I64 x.f0 ∧ ((x.f1.length : Int) ≤ 2000 ∧ ∀ y ∈ x.f1, I64 y) ∧ wTags x.f2
def wM (y : S63) : Prop := I64 y.f0.f0 ∧ I64 y.f0.f1 ∧ y.f1.size ≤ 64
def wR (x : S59) : Prop := I64 x.f0 ∧ ((x.f1.length : Int) ≤ 200 ∧ ∀ y ∈ x.f1, wM y) ∧ wTags x.f2
def wD (x : S26) : Prop := ((x.f0.length : Int) ≤ 10000 ∧ ∀ y ∈ x.f0, wN y) ∧ ((x.f1.length : Int) ≤ 10000 ∧ ∀ y ∈ x.f1, wY y) ∧ ((x.f2.length : Int) ≤ 10000 ∧ ∀ y ∈ x.f2, wR y)
theorem rNode_reads (s : ByteArray) : Reads s (rNode s) encNode wN :=
  Reads.bind (rInt_fwd s) (rInt_reads s) (eb := fun _ x => encI x.f1.f0 ++ (encI x.f1.f1 ++ (encTags x.f2 ++ []))) fun a ha => Reads.bind (rInt_fwd s) (rInt_reads s) (eb := fun _ x => encI x.f1.f1 ++ (encTags x.f2 ++ [])) fun b hb =>
    Reads.bind (rInt_fwd s) (rInt_reads s) (eb := fun _ x => encTags x.f2 ++ []) fun c hc => Reads.bind (rTags_fwd s) (rTags_reads s) fun t ht => Reads.ok _ ⟨by simp, by simp, by simp, by simp [encNode], ha, hb, hc, ht⟩
theorem rWay_reads (s : ByteArray) : Reads s (rWay s) encWay wY :=
  Reads.bind (rInt_fwd s) (rInt_reads s) (eb := fun _ x => encMany encI x.f1 ++ (encTags x.f2 ++ [])) fun a ha => Reads.bind (Fwd.rMany _ (rInt_fwd s)) (Reads.many 2000 (rInt_fwd s) (rInt_reads s)) (eb := fun _ x => encTags x.f2 ++ []) fun b hb =>
    Reads.bind (rTags_fwd s) (rTags_reads s) fun t ht => Reads.ok _ ⟨by simp, by simp, by simp [encWay], ha, hb, ht⟩
theorem rMem_reads (s : ByteArray) : Reads s (rMem s) encMem wM :=
  Reads.bind (rInt_fwd s) (rInt_reads s) (eb := fun _ x => encI x.f0.f1 ++ (encT x.f1 ++ [])) fun a ha => Reads.bind (rInt_fwd s) (rInt_reads s) (eb := fun _ x => encT x.f1 ++ []) fun b hb =>
    Reads.bind (rText_fwd s) (rText_reads s) fun t ht => Reads.ok _ ⟨by simp, by simp, by simp [encMem], ha, hb, ht⟩
theorem rRel_reads (s : ByteArray) : Reads s (rRel s) encRel wR :=
  Reads.bind (rInt_fwd s) (rInt_reads s) (eb := fun _ x => encMany encMem x.f1 ++ (encTags x.f2 ++ [])) fun a ha => Reads.bind (Fwd.rMany _ (rMem_fwd s)) (Reads.many 200 (rMem_fwd s) (rMem_reads s)) (eb := fun _ x => encTags x.f2 ++ []) fun b hb =>
    Reads.bind (rTags_fwd s) (rTags_reads s) fun t ht => Reads.ok _ ⟨by simp, by simp, by simp [encRel], ha, hb, ht⟩
theorem rData_reads (s : ByteArray) : Reads s (rData s) encData wD :=
  Reads.bind (Fwd.rMany _ (rNode_fwd s)) (Reads.many 10000 (rNode_fwd s) (rNode_reads s)) (eb := fun _ x => encMany encWay x.f1 ++ (encMany encRel x.f2 ++ [])) fun a ha => Reads.bind (Fwd.rMany _ (rWay_fwd s)) (Reads.many 10000 (rWay_fwd s) (rWay_reads s)) (eb := fun _ x => encMany encRel x.f2 ++ []) fun b hb =>
    Reads.bind (Fwd.rMany _ (rRel_fwd s)) (Reads.many 10000 (rRel_fwd s) (rRel_reads s)) fun t ht => Reads.ok _ ⟨by simp, by simp, by simp [encData], ha, hb, ht⟩
theorem wTags_len {l : List S130} (h : wTags l) : Len l.length := by unfold Len; have := h.1; omega
theorem wN_wf {x : S53} (h : wN x) : wfN x := ⟨h.1, h.2.1, h.2.2.1, wTags_len h.2.2.2⟩
theorem wY_wf {x : S56} (h : wY x) : wfY x := ⟨h.1, ⟨by unfold Len; have := h.2.1.1; omega, h.2.1.2⟩, wTags_len h.2.2⟩
theorem wR_wf {x : S59} (h : wR x) : wfR x := ⟨h.1, ⟨by unfold Len; have := h.2.1.1; omega, fun y hy => ⟨(h.2.1.2 y hy).1, (h.2.1.2 y hy).2.1⟩⟩, wTags_len h.2.2⟩
theorem wD_wf {x : S26} (h : wD x) : wfD x := ⟨⟨by unfold Len; have := h.1.1; omega, fun y hy => wN_wf (h.1.2 y hy)⟩, ⟨by unfold Len; have := h.2.1.1; omega, fun y hy => wY_wf (h.2.1.2 y hy)⟩, ⟨by unfold Len; have := h.2.2.1; omega, fun y hy => wR_wf (h.2.2.2 y hy)⟩⟩
theorem fin_reads {α : Type} {s : ByteArray} {f : Int → Except Int (α × Int)} {enc : α → List UInt8} {W : α → Prop} (hff : Fwd s f) (h : Reads s f enc W) {a : α} (ha : fin s (f 0) = .ok a) : s = mk (enc a) ∧ W a := by
  cases hx : f 0 with
  | error e => rw [hx] at ha; cases ha
  | ok b =>
    rw [hx] at ha
    have ha : (if b.2 < (s.size : Int) then (Except.error 5 : Except Int α) else .ok b.1) = .ok a := ha
    by_cases c : b.2 < (s.size : Int)
    · rw [if_pos c] at ha; cases ha
    · rw [if_neg c] at ha
      injection ha with ha
      subst ha
      obtain ⟨g1, g2, g3⟩ := h 0 b.1 b.2 (by omega) (by omega) hx
      have hf := hff 0 b.1 b.2 (by omega) (by omega) hx
      refine ⟨?_, g3⟩
      have hlen : (enc b.1).length = s.size := by omega
      apply ByteArray.ext
      apply Array.ext'
      show s.data.toList = enc b.1
      apply List.ext_getElem
      · show s.size = _; omega
      · intro i h1 h2
        have := g1.2 i h2
        rw [show (0 : Int) + (i : Int) = ((i : Nat) : Int) by omega, bt_data s i h1] at this
        have : (s.data.toList[i]).toNat = ((enc b.1)[i]).toNat := by exact_mod_cast this
        exact UInt8.toNat_inj.1 this
end Go.Proofs.Ytefambkodalomaa.Pure
