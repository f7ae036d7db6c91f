/- c16, plain: encodings as lists of bytes, and that the program's writers append them. -/
import Derived.Test.YtefambkodalomaaPureSpec
import Derived.Test.YtefambkodalomaaPAllx5
namespace Go.Proofs.Ytefambkodalomaa.Pure
open Go.RowKit Go.Proofs.Ytefambkodalomaa.PAll Go.Proofs.YtefambkodalomaaW.PrintWords Go.Proofs.YtefambkodalomaaW.PrintLast Go.Proofs.YtefambkodalomaaW.PrintMore Go.Proofs.YtefambkodalomaaG
set_option linter.unusedVariables false
set_option linter.unusedSimpArgs false
def encU (n : Nat) : List UInt8 := if h : n < 128 then [UInt8.ofNat n] else UInt8.ofNat (n % 128 + 128) :: encU (n / 128)
termination_by n
decreasing_by omega
def zig (x : Int) : Nat := if x < 0 then (-(x + 1) * 2 + 1).toNat else (x * 2).toNat
def encI (x : Int) : List UInt8 := encU (zig x)
def encT (a : ByteArray) : List UInt8 := encU a.size ++ a.data.toList
def encMany {α : Type} (f : α → List UInt8) (l : List α) : List UInt8 := encU l.length ++ l.flatMap f
def encTag (t : S130) : List UInt8 := encT t.f0 ++ encT t.f1
def encTags : List S130 → List UInt8 := encMany encTag
def encNode (x : S53) : List UInt8 := encI x.f0 ++ (encI x.f1.f0 ++ (encI x.f1.f1 ++ encTags x.f2))
def encWay (x : S56) : List UInt8 := encI x.f0 ++ (encMany encI x.f1 ++ encTags x.f2)
def encMem (x : S63) : List UInt8 := encI x.f0.f0 ++ (encI x.f0.f1 ++ encT x.f1)
def encRel (x : S59) : List UInt8 := encI x.f0 ++ (encMany encMem x.f1 ++ encTags x.f2)
def encData (x : S26) : List UInt8 := encMany encNode x.f0 ++ (encMany encWay x.f1 ++ encMany encRel x.f2)
theorem encU_small {n : Nat} (h : n < 128) : encU n = [UInt8.ofNat n] := by rw [encU, dif_pos h]
theorem encU_big {n : Nat} (h : ¬ n < 128) : encU n = UInt8.ofNat (n % 128 + 128) :: encU (n / 128) := by rw [encU, dif_neg h]
def mk (l : List UInt8) : ByteArray := ⟨l.toArray⟩
theorem u8n (n : Nat) (h : n < 256) : (UInt8.ofNat n).toNat = n := by simp; omega
def I64 (x : Int) : Prop := -9223372036854775808 ≤ x ∧ x < 9223372036854775808
theorem wrn (i : Nat) (h : i < 4611686018427387904) : wrap64 ((i : Int) + 1) = ((i + 1 : Nat) : Int) := by unfold wrap64; omega
theorem rd53' (l : List S53) (i : Nat) (h : i < l.length) : rd_T53 l (i : Int) = l[i] := by
  unfold rd_T53; rw [Int.toNat_natCast, List.getD_eq_getElem?_getD, List.getElem?_eq_getElem h]; rfl
theorem rd56' (l : List S56) (i : Nat) (h : i < l.length) : rd_T56 l (i : Int) = l[i] := by
  unfold rd_T56; rw [Int.toNat_natCast, List.getD_eq_getElem?_getD, List.getElem?_eq_getElem h]; rfl
theorem rd59' (l : List S59) (i : Nat) (h : i < l.length) : rd_T59 l (i : Int) = l[i] := by
  unfold rd_T59; rw [Int.toNat_natCast, List.getD_eq_getElem?_getD, List.getElem?_eq_getElem h]; rfl
def Len (n : Nat) : Prop := n ≤ 140737488355328
def wfN (x : S53) : Prop := I64 x.f0 ∧ I64 x.f1.f0 ∧ I64 x.f1.f1 ∧ Len x.f2.length
def wfY (x : S56) : Prop := I64 x.f0 ∧ (Len x.f1.length ∧ ∀ y ∈ x.f1, I64 y) ∧ Len x.f2.length
def wfR (x : S59) : Prop := I64 x.f0 ∧ (Len x.f1.length ∧ ∀ y ∈ x.f1, I64 y.f0.f0 ∧ I64 y.f0.f1) ∧ Len x.f2.length
def wfD (x : S26) : Prop := (Len x.f0.length ∧ ∀ y ∈ x.f0, wfN y) ∧ (Len x.f1.length ∧ ∀ y ∈ x.f1, wfY y) ∧ (Len x.f2.length ∧ ∀ y ∈ x.f2, wfR y)
end Go.Proofs.Ytefambkodalomaa.Pure
