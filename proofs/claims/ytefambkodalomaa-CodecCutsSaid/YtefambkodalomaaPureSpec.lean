/- c16, plain: readers as functions of a string and a place; what they read is what the writers write. -/
import Derived.Test.YtefambkodalomaaPureNum
namespace Go.Proofs.Ytefambkodalomaa.Pure
open Go.RowKit Go.Proofs.Ytefambkodalomaa.PAll Go.Proofs.YtefambkodalomaaW.PrintWords Go.Proofs.YtefambkodalomaaW.PrintLast Go.Proofs.YtefambkodalomaaW.PrintMore
set_option linter.unusedVariables false
set_option linter.unusedSimpArgs false
theorem Ev.val {α : Type} {g : Nat → Option α} {a b : α} (h : Ev g a) (e : a = b) : Ev g b := e ▸ h
def rB {α β : Type} (x : Except Int (α × Int)) (f : α → Int → Except Int (β × Int)) : Except Int (β × Int) :=
  match x with
  | .error e => .error e
  | .ok a => f a.1 a.2
theorem rB_ok {α β : Type} {x : Except Int (α × Int)} {f : α → Int → Except Int (β × Int)} {b : β} {q : Int} (h : rB x f = .ok (b, q)) : ∃ a r, x = .ok (a, r) ∧ f a r = .ok (b, q) := by
  cases x with
  | error e => cases h
  | ok a => exact ⟨a.1, a.2, rfl, h⟩
def rNum (s : ByteArray) (p : Int) : Except Int (Int × Int) := if (spec s p 10 0).2.2 = 0 then .ok ((spec s p 10 0).1, p + (spec s p 10 0).2.1) else .error (spec s p 10 0).2.2
def unzig (n : Int) : Int := if n % 2 = 1 then -(n / 2) - 1 else n / 2
def rInt (s : ByteArray) (p : Int) : Except Int (Int × Int) := rB (rNum s p) fun n q => .ok (unzig n, q)
def rCount (s : ByteArray) (m : Int) (p : Int) : Except Int (Int × Int) := rB (rNum s p) fun n q => if m < n then .error 5 else .ok (n, q)
def rText (s : ByteArray) (p : Int) : Except Int (ByteArray × Int) := rB (rCount s 64 p) fun n q => if (s.size : Int) < q + n then .error 3 else .ok (s.extract q.toNat (q + n).toNat, q + n)
def rList {α : Type} (f : Int → Except Int (α × Int)) : Nat → Int → Except Int (List α × Int)
  | 0, p => .ok ([], p)
  | n + 1, p => rB (f p) fun x q => rB (rList f n q) fun l r => .ok (x :: l, r)
def rMany {α : Type} (s : ByteArray) (m : Int) (f : Int → Except Int (α × Int)) (p : Int) : Except Int (List α × Int) := rB (rCount s m p) fun n q => rList f n.toNat q
def rTag (s : ByteArray) (p : Int) : Except Int (S130 × Int) := rB (rText s p) fun a q => rB (rText s q) fun b r => .ok (⟨a, b⟩, r)
def rTags (s : ByteArray) : Int → Except Int (List S130 × Int) := rMany s 16 (rTag s)
def rNode (s : ByteArray) (p : Int) : Except Int (S53 × Int) := rB (rInt s p) fun a q => rB (rInt s q) fun b q => rB (rInt s q) fun c q => rB (rTags s q) fun t q => .ok (⟨a, ⟨b, c⟩, t⟩, q)
def rWay (s : ByteArray) (p : Int) : Except Int (S56 × Int) := rB (rInt s p) fun a q => rB (rMany s 2000 (rInt s) q) fun l q => rB (rTags s q) fun t q => .ok (⟨a, l, t⟩, q)
def rMem (s : ByteArray) (p : Int) : Except Int (S63 × Int) := rB (rInt s p) fun a q => rB (rInt s q) fun b q => rB (rText s q) fun c q => .ok (⟨⟨a, b⟩, c⟩, q)
def rRel (s : ByteArray) (p : Int) : Except Int (S59 × Int) := rB (rInt s p) fun a q => rB (rMany s 200 (rMem s) q) fun l q => rB (rTags s q) fun t q => .ok (⟨a, l, t⟩, q)
def rData (s : ByteArray) (p : Int) : Except Int (S26 × Int) := rB (rMany s 10000 (rNode s) p) fun a q => rB (rMany s 10000 (rWay s) q) fun b q => rB (rMany s 10000 (rRel s) q) fun c q => .ok (⟨a, b, c⟩, q)
def fin {α : Type} (s : ByteArray) (x : Except Int (α × Int)) : Except Int α :=
  match x with
  | .error e => .error e
  | .ok a => if a.2 < (s.size : Int) then .error 5 else .ok a.1
def Fwd {α : Type} (s : ByteArray) (f : Int → Except Int (α × Int)) : Prop := ∀ (p : Int) (a : α) (q : Int), 0 ≤ p → p ≤ (s.size : Int) → f p = .ok (a, q) → p ≤ q ∧ q ≤ (s.size : Int)
theorem spec_fwd (s : ByteArray) (p : Int) : ∀ (f i : Nat), f + i = 10 → (spec s p f i).2.2 = 0 → (i : Int) ≤ (spec s p f i).2.1 ∧ p + (spec s p f i).2.1 ≤ s.size ∧ 0 ≤ (spec s p f i).1 ∧ (spec s p f i).1 < 18446744073709551616
  | 0, i, _, h => by simp [spec] at h
  | f + 1, i, hf, h => by
    unfold spec at h ⊢
    by_cases c1 : (s.size : Int) ≤ p + i
    · rw [if_pos c1] at h; simp at h
    rw [if_neg c1] at h ⊢
    by_cases c2 : 128 ≤ bt s (p + i)
    · rw [if_pos c2] at h ⊢
      have := spec_fwd s p f (i + 1) (by omega) h
      refine ⟨by omega, this.2⟩
    rw [if_neg c2] at h ⊢
    by_cases c3 : (0 < i ∧ bt s (p + i) = 0) ∨ (i = 9 ∧ 1 < bt s (p + i))
    · rw [if_pos c3] at h; simp at h
    rw [if_neg c3]
    have hb := bt_range s (p + i)
    obtain ⟨v0, v1⟩ := V_range s p i
    have ho := (orshift i (V s p i) (bt s (p + i)) (by omega) v0 v1 hb.1 (by omega) (by omega)).2
    refine ⟨by show (i : Int) ≤ (i : Int) + 1; omega, by show p + ((i : Int) + 1) ≤ s.size; omega, (V_range s p (i + 1)).1, ho⟩
theorem rNum_fwd (s : ByteArray) : Fwd s (rNum s) := by
  intro p a q h0 h1 h
  unfold rNum at h
  by_cases c : (spec s p 10 0).2.2 = 0
  · rw [if_pos c] at h
    have := spec_fwd s p 10 0 rfl c
    injection h with h; injection h with h2 h3
    subst h2 h3
    omega
  · rw [if_neg c] at h; cases h
theorem rNum_range {s : ByteArray} {p a q : Int} (h : rNum s p = .ok (a, q)) : 0 ≤ a ∧ a < 18446744073709551616 := by
  unfold rNum at h
  by_cases c : (spec s p 10 0).2.2 = 0
  · rw [if_pos c] at h
    have := spec_fwd s p 10 0 rfl c
    injection h with h; injection h with h2 h3
    subst h2 h3
    exact this.2.2
  · rw [if_neg c] at h; cases h
theorem rCount_le {s : ByteArray} {m p a q : Int} (h : rCount s m p = .ok (a, q)) : 0 ≤ a ∧ a ≤ m := by
  obtain ⟨n, r, hn, h⟩ := rB_ok h
  have := rNum_range hn
  by_cases c : m < n
  · rw [if_pos c] at h; cases h
  · rw [if_neg c] at h
    injection h with h; injection h with h2 h3
    subst h2; omega
theorem rInt_fwd (s : ByteArray) : Fwd s (rInt s) := by
  intro p a q h0 h1 h
  obtain ⟨n, r, hn, h⟩ := rB_ok h
  have := rNum_fwd s p n r h0 h1 hn
  injection h with h; injection h with h2 h3
  subst h3; exact this
theorem rCount_fwd (s : ByteArray) (m : Int) : Fwd s (rCount s m) := by
  intro p a q h0 h1 h
  obtain ⟨n, r, hn, h⟩ := rB_ok h
  have := rNum_fwd s p n r h0 h1 hn
  by_cases c : m < n
  · rw [if_pos c] at h; cases h
  · rw [if_neg c] at h
    injection h with h; injection h with h2 h3
    subst h3; exact this
theorem rText_fwd (s : ByteArray) : Fwd s (rText s) := by
  intro p a q h0 h1 h
  obtain ⟨n, r, hn, h⟩ := rB_ok h
  have := rCount_fwd s 64 p n r h0 h1 hn
  have hc := rCount_le hn
  by_cases c : (s.size : Int) < r + n
  · rw [if_pos c] at h; cases h
  · rw [if_neg c] at h
    injection h with h; injection h with h2 h3
    subst h3; omega
theorem Fwd.rB {α β : Type} {s : ByteArray} {f : Int → Except Int (α × Int)} {g : α → Int → Except Int (β × Int)} (hf : Fwd s f) (hg : ∀ a, Fwd s (g a)) : Fwd s (fun p => rB (f p) g) := by
  intro p b q h0 h1 h
  obtain ⟨a, r, ha, h⟩ := rB_ok h
  have := hf p a r h0 h1 ha
  have := hg a r b q (by omega) (by omega) h
  omega
theorem Fwd.ok {α : Type} {s : ByteArray} (a : α) : Fwd s (fun p => .ok (a, p)) := by
  intro p b q h0 h1 h
  injection h with h; injection h with h2 h3
  omega
theorem Fwd.rList {α : Type} {s : ByteArray} {f : Int → Except Int (α × Int)} (hf : Fwd s f) : ∀ n, Fwd s (rList f n)
  | 0 => Fwd.ok _
  | n + 1 => Fwd.rB hf fun _ => Fwd.rB (Fwd.rList hf n) fun _ => Fwd.ok _
theorem Fwd.rMany {α : Type} {s : ByteArray} {f : Int → Except Int (α × Int)} (m : Int) (hf : Fwd s f) : Fwd s (rMany s m f) := Fwd.rB (rCount_fwd s m) fun _ => Fwd.rList hf _
theorem rTag_fwd (s : ByteArray) : Fwd s (rTag s) := Fwd.rB (rText_fwd s) fun _ => Fwd.rB (rText_fwd s) fun _ => Fwd.ok _
theorem rTags_fwd (s : ByteArray) : Fwd s (rTags s) := Fwd.rMany _ (rTag_fwd s)
theorem rNode_fwd (s : ByteArray) : Fwd s (rNode s) := Fwd.rB (rInt_fwd s) fun _ => Fwd.rB (rInt_fwd s) fun _ => Fwd.rB (rInt_fwd s) fun _ => Fwd.rB (rTags_fwd s) fun _ => Fwd.ok _
theorem rWay_fwd (s : ByteArray) : Fwd s (rWay s) := Fwd.rB (rInt_fwd s) fun _ => Fwd.rB (Fwd.rMany _ (rInt_fwd s)) fun _ => Fwd.rB (rTags_fwd s) fun _ => Fwd.ok _
theorem rMem_fwd (s : ByteArray) : Fwd s (rMem s) := Fwd.rB (rInt_fwd s) fun _ => Fwd.rB (rInt_fwd s) fun _ => Fwd.rB (rText_fwd s) fun _ => Fwd.ok _
theorem rRel_fwd (s : ByteArray) : Fwd s (rRel s) := Fwd.rB (rInt_fwd s) fun _ => Fwd.rB (Fwd.rMany _ (rMem_fwd s)) fun _ => Fwd.rB (rTags_fwd s) fun _ => Fwd.ok _
theorem rData_fwd (s : ByteArray) : Fwd s (rData s) := Fwd.rB (Fwd.rMany _ (rNode_fwd s)) fun _ => Fwd.rB (Fwd.rMany _ (rWay_fwd s)) fun _ => Fwd.rB (Fwd.rMany _ (rRel_fwd s)) fun _ => Fwd.ok _
end Go.Proofs.Ytefambkodalomaa.Pure
