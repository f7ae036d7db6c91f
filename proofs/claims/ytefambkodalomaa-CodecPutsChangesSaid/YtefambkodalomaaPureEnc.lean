/- c16, plain: encodings as lists of bytes, and that the program's writers append them. -/
import Derived.Test.YtefambkodalomaaPureSpec
import Derived.Test.YtefambkodalomaaPAllx5
namespace Go.Proofs.Ytefambkodalomaa.Pure
open Go.RowKit Go.Proofs.Ytefambkodalomaa.PAll Go.Proofs.YtefambkodalomaaW.PrintWords Go.Proofs.YtefambkodalomaaW.PrintLast Go.Proofs.YtefambkodalomaaW.PrintMore Go.Proofs.YtefambkodalomaaG
set_option linter.unusedVariables false
set_option linter.unusedSimpArgs false
def encU (n : Nat) : List UInt8 := if h : n < 128 then [UInt8.ofNat n] else UInt8.ofNat (n % 128 + 128) :: encU (n / 128)
termination_by n
decreasing_by omega
def zig (x : Int) : Nat := if x < 0 then (-(x + 1) * 2 + 1).toNat else (x * 2).toNat
def encI (x : Int) : List UInt8 := encU (zig x)
def encT (a : ByteArray) : List UInt8 := encU a.size ++ a.data.toList
def encMany {α : Type} (f : α → List UInt8) (l : List α) : List UInt8 := encU l.length ++ l.flatMap f
def encTag (t : S130) : List UInt8 := encT t.f0 ++ encT t.f1
def encTags : List S130 → List UInt8 := encMany encTag
def encNode (x : S53) : List UInt8 := encI x.f0 ++ (encI x.f1.f0 ++ (encI x.f1.f1 ++ encTags x.f2))
def encWay (x : S56) : List UInt8 := encI x.f0 ++ (encMany encI x.f1 ++ encTags x.f2)
def encMem (x : S63) : List UInt8 := encI x.f0.f0 ++ (encI x.f0.f1 ++ encT x.f1)
def encRel (x : S59) : List UInt8 := encI x.f0 ++ (encMany encMem x.f1 ++ encTags x.f2)
theorem encU_small {n : Nat} (h : n < 128) : encU n = [UInt8.ofNat n] := by rw [encU, dif_pos h]
theorem encU_big {n : Nat} (h : ¬ n < 128) : encU n = UInt8.ofNat (n % 128 + 128) :: encU (n / 128) := by rw [encU, dif_neg h]
theorem encU_len : ∀ (k n : Nat), n < 128 ^ (k + 1) → (encU n).length ≤ k + 1
  | 0, n, h => by rw [encU_small (by simpa using h)]; simp
  | k + 1, n, h => by
    by_cases c : n < 128
    · rw [encU_small c]; simp
    · rw [encU_big c]
      have := encU_len k (n / 128) (by rw [Nat.pow_succ] at h; omega)
      simp; omega
theorem encU_len10 {n : Nat} (h : n < 18446744073709551616) : (encU n).length ≤ 10 := encU_len 9 n (Nat.lt_of_lt_of_le h (by decide))
theorem zig_lt {x : Int} (h0 : -9223372036854775808 ≤ x) (h1 : x < 9223372036854775808) : zig x < 18446744073709551616 := by unfold zig; split <;> omega
def mk (l : List UInt8) : ByteArray := ⟨l.toArray⟩
theorem mk_size (l : List UInt8) : (mk l).size = l.length := by simp [mk, ByteArray.size]
theorem mk_data (a : ByteArray) : mk a.data.toList = a := rfl
theorem mk_append (a b : List UInt8) : mk a ++ mk b = mk (a ++ b) := by
  apply ByteArray.ext
  rw [ByteArray.data_append]
  simp [mk]
theorem strOfNums_mk (l : List UInt8) : strOfNums (l.map fun x => (x.toNat : Int)) = mk l := by
  unfold strOfNums mk
  congr 2
  rw [List.map_map]
  induction l with
  | nil => rfl
  | cons x l ih => rw [List.map_cons, ih]; simp
theorem or128 (n : Nat) : Go.bits .or .u8 (((n : Int)) % 256) 128 = ((n % 128 + 128 : Nat) : Int) := by
  have e : ((n : Int) % 256) = ((n % 256 : Nat) : Int) := by omega
  rw [e]
  have := u8_or_nat (n % 256) 128 (by omega) (by omega)
  have h5 : 128 ||| n % 128 = 128 + n % 128 := by
    have := Nat.two_pow_add_eq_or_of_lt (i := 7) (b := n % 128) (by omega) 1
    simpa using this.symm
  have h2 : n % 256 ||| 128 = n % 128 + 128 := by
    by_cases h : n % 256 < 128
    · rw [show n % 256 = n % 128 by omega, Nat.or_comm, h5, Nat.add_comm]
    · have h3 : n % 256 = 128 ||| n % 128 := by omega
      rw [h3, Nat.or_comm, ← Nat.or_assoc, Nat.or_self, h5, Nat.add_comm]
  rw [h2] at this
  exact this
theorem u8n (n : Nat) (h : n < 256) : (UInt8.ofNat n).toNat = n := by simp; omega
theorem put_uint_loop (b : List UInt8) : ∀ (n : Nat) (acc : List UInt8), acc.length + (encU n).length ≤ 1000 → b.length + (acc.length + (encU n).length) ≤ 4611686018427387904 →
    Ev (fun k => wire_PutUint.l0 k (mk b) (n : Int) (acc.map fun x => (x.toNat : Int))) (mk (b ++ (acc ++ encU n)))
  | n, acc, ha, hb => by
    by_cases c : n < 128
    · rw [encU_small c] at ha hb ⊢
      refine Ev.step (f := fun _ => some (mk (b ++ (acc ++ [UInt8.ofNat n])))) (fun k => ?_) (Ev.now _)
      simp only [wire_PutUint.l0]
      have e : ((n : Int) % 256) = ((UInt8.ofNat n).toNat : Int) := by rw [u8n n (by omega)]; omega
      have e2 : (acc.map (fun x => (x.toNat : Int)) ++ [((UInt8.ofNat n).toNat : Int)]) = (acc ++ [UInt8.ofNat n]).map fun x => (x.toNat : Int) := by simp
      simp at ha hb
      rw [if_neg (by omega), if_pos (by simp; omega), e, e2, Option.bind_some, strOfNums_mk, mk_append, if_pos (by rw [mk_size, mk_size]; simp; omega)]
    · rw [encU_big c] at ha hb ⊢
      simp at ha hb
      have e : ((n % 128 + 128 : Nat) : Int) = ((UInt8.ofNat (n % 128 + 128)).toNat : Int) := by rw [u8n _ (by omega)]
      have e2 : (acc.map (fun x => (x.toNat : Int)) ++ [((UInt8.ofNat (n % 128 + 128)).toNat : Int)]) = (acc ++ [UInt8.ofNat (n % 128 + 128)]).map fun x => (x.toNat : Int) := by simp
      have e3 : (n : Int) / 128 = ((n / 128 : Nat) : Int) := by omega
      refine Ev.step (fun k => by simp only [wire_PutUint.l0]; rw [if_pos (by omega), if_pos (by simp; omega), or128, e, e2, e3]) ?_
      have ih := put_uint_loop b (n / 128) (acc ++ [UInt8.ofNat (n % 128 + 128)]) (by simp; omega) (by simp; omega)
      simp only [List.append_assoc, List.singleton_append] at ih
      exact ih
termination_by n => n
decreasing_by omega
theorem put_uint (b : List UInt8) (n : Nat) (hn : n < 18446744073709551616) (hb : b.length + (encU n).length ≤ 4611686018427387904) : Ev (fun k => wire_PutUint.f k (mk b) (n : Int)) (mk (b ++ encU n)) := by
  have := encU_len10 hn
  exact put_uint_loop b n [] (by simp; omega) (by simpa using hb)
theorem put_count (b : List UInt8) (n : Nat) (hn : n < 18446744073709551616) (hb : b.length + (encU n).length ≤ 4611686018427387904) : Ev (fun k => codec_writer_count.f k (mk b) (n : Int)) (mk (b ++ encU n)) := by
  unfold codec_writer_count.f
  have e : IntKind.u64.wrap (n : Int) = n := by rw [IntKind.wrap_u64]; omega
  rw [e]
  exact Ev.bind (put_uint b n hn hb) (Ev.now _)
theorem xor_ones (n : Nat) (h : n < 18446744073709551616) : Go.bits .xor .u64 (n : Int) 18446744073709551615 = ((18446744073709551615 - n : Nat) : Int) := by
  have e2 : (BitVec.ofInt 64 (n : Int)).toNat = n := ofInt_u64 n h
  have e : (BitVec.ofInt 64 (n : Int) ^^^ BitVec.ofInt 64 18446744073709551615).toNat = 2 ^ 64 - 1 - n := by
    have e1 : BitVec.ofInt 64 18446744073709551615 = BitVec.allOnes 64 := by decide
    rw [e1, BitVec.xor_allOnes, BitVec.toNat_not, e2]
  show IntKind.u64.wrap (((BitVec.ofInt 64 (n : Int) ^^^ BitVec.ofInt 64 18446744073709551615).toNat : Nat) : Int) = _
  rw [e, IntKind.wrap_u64]
  omega
theorem zig_eq (x : Int) (h0 : -9223372036854775808 ≤ x) (h1 : x < 9223372036854775808) : Go.bits .xor .u64 (IntKind.u64.wrap ((IntKind.u64.wrap x) * 2)) (IntKind.u64.wrap (x / 9223372036854775808)) = (zig x : Int) := by
  unfold zig
  simp only [IntKind.wrap_u64]
  by_cases c : x < 0
  · have e1 : x / 9223372036854775808 % 18446744073709551616 = 18446744073709551615 := by omega
    have e2 : (x % 18446744073709551616 * 2) % 18446744073709551616 = ((2 * x + 18446744073709551616).toNat : Int) := by omega
    rw [if_pos c, e1, e2, xor_ones _ (by omega)]
    omega
  · have e1 : x / 9223372036854775808 % 18446744073709551616 = ((0 : Nat) : Int) := by omega
    have e2 : (x % 18446744073709551616 * 2) % 18446744073709551616 = ((x * 2).toNat : Int) := by omega
    rw [if_neg c, e1, e2, u64_xor_nat _ 0 (by omega) (by omega), Nat.xor_zero]
def I64 (x : Int) : Prop := -9223372036854775808 ≤ x ∧ x < 9223372036854775808
theorem put_int (b : List UInt8) (x : Int) (hx : I64 x) (hb : b.length + (encI x).length ≤ 4611686018427387904) : Ev (fun k => wire_PutInt.f k (mk b) x) (mk (b ++ encI x)) := by
  unfold wire_PutInt.f
  rw [zig_eq x hx.1 hx.2]
  exact Ev.bind (put_uint b (zig x) (zig_lt hx.1 hx.2) hb) (Ev.now _)
theorem put_text (b : List UInt8) (a : ByteArray) (hb : b.length + (encT a).length ≤ 4611686018427387904) : Ev (fun k => wire_PutText.f k (mk b) a) (mk (b ++ encT a)) := by
  unfold wire_PutText.f
  unfold encT at hb ⊢
  have hd : a.data.toList.length = a.size := rfl
  rw [List.length_append, hd] at hb
  have e : IntKind.u64.wrap (a.size : Int) = a.size := by rw [IntKind.wrap_u64]; omega
  rw [e]
  refine Ev.bind (put_uint b a.size (by omega) (by omega)) ?_
  rw [mk_size, if_pos (by rw [List.length_append]; omega)]
  refine Ev.val (Ev.now _) ?_
  rw [← List.append_assoc, ← mk_append (b ++ encU a.size), mk_data]
theorem wrn (i : Nat) (h : i < 4611686018427387904) : wrap64 ((i : Int) + 1) = ((i + 1 : Nat) : Int) := by unfold wrap64; omega
theorem ev_puts {α : Type} (l : List α) (enc : α → List UInt8) (tail : List UInt8) (g : Nat → Nat → ByteArray → Option ByteArray) (b : List UInt8)
    (hend : ∀ c : List UInt8, c.length + tail.length ≤ 4611686018427387904 → Ev (fun k => g k l.length (mk c)) (mk (c ++ tail)))
    (hstep : ∀ (i : Nat) (hi : i < l.length) (c : List UInt8) (r : ByteArray), c.length + (enc l[i]).length ≤ 4611686018427387904 → Ev (fun k => g k (i + 1) (mk (c ++ enc l[i]))) r → Ev (fun k => g k i (mk c)) r) :
    ∀ (d i : Nat) (c : List UInt8), i + d = l.length → c.length + ((l.drop i).flatMap enc ++ tail).length ≤ 4611686018427387904 → Ev (fun k => g k i (mk c)) (mk (c ++ ((l.drop i).flatMap enc ++ tail)))
  | 0, i, c, hd, hc => by
    obtain rfl : i = l.length := by omega
    rw [List.drop_length] at hc ⊢
    simpa using hend c (by simpa using hc)
  | d + 1, i, c, hd, hc => by
    have hi : i < l.length := by omega
    rw [List.drop_eq_getElem_cons hi, List.flatMap_cons, List.append_assoc] at hc ⊢
    rw [List.length_append] at hc
    have ih := ev_puts l enc tail g b hend hstep d (i + 1) (c ++ enc l[i]) (by omega) (by rw [List.length_append]; omega)
    rw [List.append_assoc] at ih
    exact hstep i hi c _ (by omega) ih
theorem rdI' (l : List Int) (i : Nat) (h : i < l.length) : rd l (i : Int) = l[i] := by
  unfold rd; rw [Int.toNat_natCast, List.getD_eq_getElem?_getD, List.getElem?_eq_getElem h]; rfl
theorem rd130' (l : List S130) (i : Nat) (h : i < l.length) : rd_T130 l (i : Int) = l[i] := by
  unfold rd_T130; rw [Int.toNat_natCast, List.getD_eq_getElem?_getD, List.getElem?_eq_getElem h]; rfl
theorem rd63' (l : List S63) (i : Nat) (h : i < l.length) : rd_T63 l (i : Int) = l[i] := by
  unfold rd_T63; rw [Int.toNat_natCast, List.getD_eq_getElem?_getD, List.getElem?_eq_getElem h]; rfl
theorem rd53' (l : List S53) (i : Nat) (h : i < l.length) : rd_T53 l (i : Int) = l[i] := by
  unfold rd_T53; rw [Int.toNat_natCast, List.getD_eq_getElem?_getD, List.getElem?_eq_getElem h]; rfl
theorem rd56' (l : List S56) (i : Nat) (h : i < l.length) : rd_T56 l (i : Int) = l[i] := by
  unfold rd_T56; rw [Int.toNat_natCast, List.getD_eq_getElem?_getD, List.getElem?_eq_getElem h]; rfl
theorem rd59' (l : List S59) (i : Nat) (h : i < l.length) : rd_T59 l (i : Int) = l[i] := by
  unfold rd_T59; rw [Int.toNat_natCast, List.getD_eq_getElem?_getD, List.getElem?_eq_getElem h]; rfl
def Len (n : Nat) : Prop := n ≤ 140737488355328
theorem put_ints (b : List UInt8) (l : List Int) (hl : Len l.length) (hw : ∀ x ∈ l, I64 x) (hb : b.length + (l.flatMap encI).length ≤ 4611686018427387904) : Ev (fun k => codec_writer_ints.f k (mk b) l) (mk (b ++ l.flatMap encI)) := by
  unfold codec_writer_ints.f
  unfold Len at hl
  have h := ev_puts l encI [] (fun k i s => codec_writer_ints.l0 k l (l.length : Int) (i : Int) s) b
    (fun c hc => Ev.step (f := fun _ => some (mk c)) (fun k => by simp only [codec_writer_ints.l0]; rw [if_neg (by omega)]) (by rw [List.append_nil]; exact Ev.now _))
    (fun i hi c r hc ih => by
      refine Ev.step (fun k => by simp only [codec_writer_ints.l0]; rw [if_pos (by omega), if_pos (by omega), if_pos (by omega), rdI' l i hi, wrn i (by omega)]) ?_
      exact Ev.bind (put_int c l[i] (hw _ (List.getElem_mem hi)) hc) ih)
    l.length 0 b (by omega) (by simpa using hb)
  simpa using h
theorem put_tags (b : List UInt8) (l : List S130) (hl : Len l.length) (hb : b.length + (encTags l).length ≤ 4611686018427387904) : Ev (fun k => codec_writer_tags.f k (mk b) l) (mk (b ++ encTags l)) := by
  unfold codec_writer_tags.f
  unfold encTags encMany at hb ⊢
  unfold Len at hl
  rw [List.length_append] at hb
  refine Ev.bind (put_count b l.length (by omega) (by omega)) ?_
  have h := ev_puts l encTag [] (fun k i s => codec_writer_tags.l0 k l (l.length : Int) (i : Int) s) b
    (fun c hc => Ev.step (f := fun _ => some (mk c)) (fun k => by simp only [codec_writer_tags.l0]; rw [if_neg (by omega)]) (by rw [List.append_nil]; exact Ev.now _))
    (fun i hi c r hc ih => by
      refine Ev.step (fun k => by simp only [codec_writer_tags.l0]; rw [if_pos (by omega), if_pos (by omega), if_pos (by omega), rd130' l i hi, wrn i (by omega)]) ?_
      unfold encTag at hc ih
      rw [List.length_append] at hc
      rw [← List.append_assoc] at ih
      exact Ev.bind (put_text c _ (by omega)) (Ev.bind (put_text _ _ (by rw [List.length_append]; omega)) ih))
    l.length 0 (b ++ encU l.length) (by omega) (by simp only [List.length_append, List.drop_zero, List.length_nil]; omega)
  simpa using h
def wfN (x : S53) : Prop := I64 x.f0 ∧ I64 x.f1.f0 ∧ I64 x.f1.f1 ∧ Len x.f2.length
def wfY (x : S56) : Prop := I64 x.f0 ∧ (Len x.f1.length ∧ ∀ y ∈ x.f1, I64 y) ∧ Len x.f2.length
def wfR (x : S59) : Prop := I64 x.f0 ∧ (Len x.f1.length ∧ ∀ y ∈ x.f1, I64 y.f0.f0 ∧ I64 y.f0.f1) ∧ Len x.f2.length
theorem put_node (b : List UInt8) (x : S53) (hx : wfN x) (hb : b.length + (encNode x).length ≤ 4611686018427387904) : Ev (fun k => codec_writer_node.f k (mk b) x.f0 x.f1.f0 x.f1.f1 x.f2) (mk (b ++ encNode x)) := by
  unfold codec_writer_node.f
  have e : encNode x = [x.f0, x.f1.f0, x.f1.f1].flatMap encI ++ encTags x.f2 := by simp [encNode, List.flatMap_cons]
  rw [e, List.length_append] at hb
  rw [e, ← List.append_assoc]
  refine Ev.bind (put_ints b _ (by unfold Len; simp) ?_ (by omega)) (Ev.bind (put_tags _ x.f2 hx.2.2.2 (by rw [List.length_append]; omega)) (Ev.now _))
  intro y hy
  simp at hy
  rcases hy with rfl | rfl | rfl
  · exact hx.1
  · exact hx.2.1
  · exact hx.2.2.1
theorem one_flat (x : Int) : [x].flatMap encI = encI x := by simp [List.flatMap_cons]
theorem put_one (b : List UInt8) (x : Int) (hx : I64 x) (hb : b.length + (encI x).length ≤ 4611686018427387904) : Ev (fun k => codec_writer_ints.f k (mk b) [x]) (mk (b ++ encI x)) := by
  have h := put_ints b [x] (by unfold Len; simp) (by intro y hy; simp at hy; subst hy; exact hx) (by rw [one_flat]; exact hb)
  rw [one_flat] at h; exact h
theorem put_two (b : List UInt8) (x y : Int) (hx : I64 x) (hy : I64 y) (hb : b.length + (encI x ++ encI y).length ≤ 4611686018427387904) : Ev (fun k => codec_writer_ints.f k (mk b) [x, y]) (mk (b ++ (encI x ++ encI y))) := by
  have e : [x, y].flatMap encI = encI x ++ encI y := by simp [List.flatMap_cons]
  have h := put_ints b [x, y] (by unfold Len; simp) (by intro z hz; simp at hz; rcases hz with rfl | rfl <;> assumption) (by rw [e]; exact hb)
  rw [e] at h; exact h
theorem put_way (b : List UInt8) (x : S56) (hx : wfY x) (hb : b.length + (encWay x).length ≤ 4611686018427387904) : Ev (fun k => codec_writer_way.f k (mk b) x.f0 x.f1 x.f2) (mk (b ++ encWay x)) := by
  unfold codec_writer_way.f
  have hl := hx.2.1.1
  unfold Len at hl
  unfold encWay encMany at hb ⊢
  simp only [List.length_append] at hb
  refine Ev.bind (put_one b x.f0 hx.1 (by omega)) (Ev.bind (put_count _ x.f1.length (by omega) (by rw [List.length_append]; omega)) (Ev.bind (put_ints _ x.f1 hx.2.1.1 hx.2.1.2 (by simp only [List.length_append]; omega)) (Ev.bind (put_tags _ x.f2 hx.2.2 (by simp only [List.length_append]; omega)) (Ev.val (Ev.now _) ?_))))
  simp only [List.append_assoc]
theorem put_rel (b : List UInt8) (x : S59) (hx : wfR x) (hb : b.length + (encRel x).length ≤ 4611686018427387904) : Ev (fun k => codec_writer_rel.f k (mk b) x.f0 x.f1 x.f2) (mk (b ++ encRel x)) := by
  unfold codec_writer_rel.f
  have hl := hx.2.1.1
  unfold Len at hl
  unfold encRel encMany at hb ⊢
  simp only [List.length_append] at hb
  refine Ev.bind (put_one b x.f0 hx.1 (by omega)) (Ev.bind (put_count _ x.f1.length (by omega) (by rw [List.length_append]; omega)) ?_)
  have h := ev_puts x.f1 encMem (encTags x.f2) (fun k i s => codec_writer_rel.l0 k x.f1 (x.f1.length : Int) (i : Int) s x.f0 x.f1 x.f2) b
    (fun c hc => by
      refine Ev.step (fun k => by simp only [codec_writer_rel.l0]; rw [if_neg (by omega)]) ?_
      exact Ev.bind (put_tags c x.f2 hx.2.2 hc) (Ev.now _))
    (fun i hi c r hc ih => by
      refine Ev.step (fun k => by simp only [codec_writer_rel.l0]; rw [if_pos (by omega), if_pos (by omega), if_pos (by omega), rd63' x.f1 i hi, wrn i (by omega)]) ?_
      have hm := hx.2.1.2 _ (List.getElem_mem hi)
      have e : encMem x.f1[i] = (encI x.f1[i].f0.f0 ++ encI x.f1[i].f0.f1) ++ encT x.f1[i].f1 := by unfold encMem; rw [List.append_assoc]
      rw [e, ← List.append_assoc] at ih
      rw [e, List.length_append] at hc
      exact Ev.bind (put_two c _ _ hm.1 hm.2 (by omega)) (Ev.bind (put_text _ _ (by simp only [List.length_append] at hc ⊢; omega)) ih))
    x.f1.length 0 (b ++ encI x.f0 ++ encU x.f1.length) (by omega) (by simp only [List.length_append, List.drop_zero]; omega)
  simp only [List.drop_zero, List.append_assoc] at h ⊢
  exact h
end Go.Proofs.Ytefambkodalomaa.Pure
