/- c16, plain: what a reader reads is the encoding of its value. -/
import Derived.Test.YtefambkodalomaaPureEncC
namespace Go.Proofs.Ytefambkodalomaa.Pure
open Go.RowKit Go.Proofs.Ytefambkodalomaa.PAll Go.Proofs.YtefambkodalomaaW.PrintWords Go.Proofs.YtefambkodalomaaW.PrintLast Go.Proofs.YtefambkodalomaaW.PrintMore Go.Proofs.YtefambkodalomaaG
set_option linter.unusedVariables false
set_option linter.unusedSimpArgs false
def At (s : ByteArray) (p : Int) (l : List UInt8) : Prop := p + l.length ≤ (s.size : Int) ∧ ∀ (i : Nat) (h : i < l.length), bt s (p + i) = (l[i].toNat : Int)
theorem At.nil {s : ByteArray} {p : Int} (h : p ≤ (s.size : Int)) : At s p [] := ⟨by simpa using h, fun i h => absurd h (by simp)⟩
theorem At.append {s : ByteArray} {p : Int} {a b : List UInt8} (ha : At s p a) (hb : At s (p + a.length) b) : At s p (a ++ b) := by
  refine ⟨by have := hb.1; rw [List.length_append]; push_cast; omega, fun i h => ?_⟩
  by_cases c : i < a.length
  · rw [List.getElem_append_left c]; exact ha.2 i c
  · rw [List.getElem_append_right (by omega)]
    have := hb.2 (i - a.length) (by rw [List.length_append] at h; omega)
    rw [← this]
    congr 1
    omega
theorem At.cons {s : ByteArray} {p : Int} {b : UInt8} {l : List UInt8} (h0 : bt s p = (b.toNat : Int)) (hp : p < (s.size : Int)) (h : At s (p + 1) l) : At s p (b :: l) := by
  refine ⟨by have := h.1; simp; omega, fun i hi => ?_⟩
  cases i with
  | zero => simpa using h0
  | succ i =>
    have := h.2 i (by simpa using hi)
    rw [List.getElem_cons_succ, ← this]
    congr 1
    push_cast; omega
theorem bt_data (s : ByteArray) (i : Nat) (h : i < s.size) : bt s i = ((s.data.toList[i]'(by simpa using h)).toNat : Int) := by
  unfold bt
  rw [dif_pos (by simpa using h)]
  simp [ByteArray.getElem_eq_getElem_data]
def wTag (t : S130) : Prop := t.f0.size ≤ 64 ∧ t.f1.size ≤ 64
def wTags (l : List S130) : Prop := (l.length : Int) ≤ 16 ∧ ∀ x ∈ l, wTag x
def wN (x : S53) : Prop := I64 x.f0 ∧ I64 x.f1.f0 ∧ I64 x.f1.f1 ∧ wTags x.f2
def wY (x : S56) : Prop := I64 x.f0 ∧ ((x.f1.length : Int) ≤ 2000 ∧ ∀ y ∈ x.f1, I64 y) ∧ wTags x.f2
def wM (y : S63) : Prop := I64 y.f0.f0 ∧ I64 y.f0.f1 ∧ y.f1.size ≤ 64
def wR (x : S59) : Prop := I64 x.f0 ∧ ((x.f1.length : Int) ≤ 200 ∧ ∀ y ∈ x.f1, wM y) ∧ wTags x.f2
def wD (x : S26) : Prop := ((x.f0.length : Int) ≤ 10000 ∧ ∀ y ∈ x.f0, wN y) ∧ ((x.f1.length : Int) ≤ 10000 ∧ ∀ y ∈ x.f1, wY y) ∧ ((x.f2.length : Int) ≤ 10000 ∧ ∀ y ∈ x.f2, wR y)
end Go.Proofs.Ytefambkodalomaa.Pure
