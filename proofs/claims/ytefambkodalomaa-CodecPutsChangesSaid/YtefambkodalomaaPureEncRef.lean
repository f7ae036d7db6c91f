/- c16, plain: the reference's writers append the same encodings. -/
import Derived.Test.YtefambkodalomaaPureEnc
import Derived.Test.YtefambkodalomaaPAllx18
namespace Go.Proofs.Ytefambkodalomaa.Pure
open Go.RowKit Go.Proofs.Ytefambkodalomaa.PAll Go.Proofs.YtefambkodalomaaW.PrintWords Go.Proofs.YtefambkodalomaaW.PrintLast Go.Proofs.YtefambkodalomaaW.PrintMore Go.Proofs.YtefambkodalomaaG
set_option linter.unusedVariables false
set_option linter.unusedSimpArgs false
theorem one_byte (n : Nat) (h : n < 256) : strOfNums [(n : Int)] = mk [UInt8.ofNat n] := by
  have := strOfNums_mk [UInt8.ofNat n]
  simp only [List.map_cons, List.map_nil] at this
  rw [u8n n h] at this
  exact this
theorem refput_loop : ∀ (n : Nat) (b : List UInt8), n < 18446744073709551616 → b.length + (encU n).length ≤ 4611686018427387904 → Ev (fun k => mapmakerref02_PutUint.l0 k (mk b) (n : Int)) (mk (b ++ encU n))
  | n, b, hn, hb => by
    by_cases c : n < 128
    · rw [encU_small c] at hb ⊢
      refine Ev.step (f := fun _ => some (mk (b ++ [UInt8.ofNat n]))) (fun k => ?_) (Ev.now _)
      simp only [mapmakerref02_PutUint.l0]
      rw [if_neg (by omega), show ((n : Int) % 256) = n by omega, Option.bind_some, one_byte n (by omega), mk_append, if_pos (by rw [mk_size, mk_size]; simp at hb ⊢; omega)]
    · rw [encU_big c] at hb ⊢
      simp at hb
      have e1 : IntKind.u64.wrap (128 + (Int.tmod (n : Int) 128)) % 256 = ((n % 128 + 128 : Nat) : Int) := by
        rw [Int.tmod_eq_emod_of_nonneg (by omega), IntKind.wrap_u64]; omega
      have e3 : IntKind.u64.wrap (Int.tdiv (n : Int) 128) = ((n / 128 : Nat) : Int) := by
        rw [Int.tdiv_eq_ediv_of_nonneg (by omega), IntKind.wrap_u64]; omega
      refine Ev.step (fun k => by simp only [mapmakerref02_PutUint.l0]; rw [if_pos (by omega), e1, Option.bind_some, one_byte _ (by omega), mk_append, if_pos (by rw [mk_size, mk_size]; simp; omega), e3]) ?_
      have ih := refput_loop (n / 128) (b ++ [UInt8.ofNat (n % 128 + 128)]) (by omega) (by simp; omega)
      simp only [List.append_assoc, List.singleton_append] at ih
      exact ih
termination_by n => n
decreasing_by omega
theorem ref_uint (b : List UInt8) (n : Nat) (hn : n < 18446744073709551616) (hb : b.length + (encU n).length ≤ 4611686018427387904) : Ev (fun k => mapmakerref02_PutUint.f k (mk b) (n : Int)) (mk (b ++ encU n)) := refput_loop n b hn hb
theorem ref_count (b : List UInt8) (n : Nat) (hn : n < 18446744073709551616) (hb : b.length + (encU n).length ≤ 4611686018427387904) : Ev (fun k => mapmakerref02_PutUint.f k (mk b) (IntKind.u64.wrap (n : Int))) (mk (b ++ encU n)) := by
  have e : IntKind.u64.wrap (n : Int) = n := by rw [IntKind.wrap_u64]; omega
  rw [e]; exact ref_uint b n hn hb
theorem ref_int (b : List UInt8) (x : Int) (hx : I64 x) (hb : b.length + (encI x).length ≤ 4611686018427387904) : Ev (fun k => mapmakerref02_PutInt.f k (mk b) x) (mk (b ++ encI x)) := by
  obtain ⟨h0, h1⟩ := hx
  unfold mapmakerref02_PutInt.f
  have hz := zig_lt h0 h1
  have h := ref_uint b (zig x) hz hb
  by_cases c : x < 0
  · simp only [if_pos c]
    have e : IntKind.u64.wrap ((IntKind.u64.wrap ((IntKind.u64.wrap (wrap64 (-(wrap64 (x + 1))))) * 2)) + 1) = (zig x : Int) := by
      rw [w64 (x := x + 1) (by omega) (by omega), w64 (x := -(x + 1)) (by omega) (by omega)]
      unfold zig
      simp only [IntKind.wrap_u64, if_pos c]
      omega
    rw [e]; exact Ev.bind h (Ev.now _)
  · simp only [if_neg c]
    have e : IntKind.u64.wrap ((IntKind.u64.wrap x) * 2) = (zig x : Int) := by
      unfold zig
      simp only [IntKind.wrap_u64, if_neg c]
      omega
    rw [e]; exact Ev.bind h (Ev.now _)
theorem ref_text (b : List UInt8) (a : ByteArray) (hb : b.length + (encT a).length ≤ 4611686018427387904) : Ev (fun k => mapmakerref02_PutText.f k (mk b) a) (mk (b ++ encT a)) := by
  unfold mapmakerref02_PutText.f
  unfold encT at hb ⊢
  have hd : a.data.toList.length = a.size := rfl
  rw [List.length_append, hd] at hb
  refine Ev.bind (ref_count b a.size (by omega) (by omega)) ?_
  rw [mk_size, if_pos (by rw [List.length_append]; omega)]
  refine Ev.val (Ev.now _) ?_
  rw [← List.append_assoc, ← mk_append (b ++ encU a.size), mk_data]
theorem ref_tags (b : List UInt8) (l : List S130) (hl : Len l.length) (hb : b.length + (encTags l).length ≤ 4611686018427387904) : Ev (fun k => mapmakerref16_putTags.f k (mk b) l) (mk (b ++ encTags l)) := by
  unfold mapmakerref16_putTags.f
  unfold encTags encMany at hb ⊢
  unfold Len at hl
  rw [List.length_append] at hb
  refine Ev.bind (ref_count b l.length (by omega) (by omega)) ?_
  have h := ev_puts l encTag [] (fun k i s => mapmakerref16_putTags.l0 k s l (i : Int)) b
    (fun c hc => Ev.step (f := fun _ => some (mk c)) (fun k => by simp only [mapmakerref16_putTags.l0]; rw [if_neg (by omega)]) (by rw [List.append_nil]; exact Ev.now _))
    (fun i hi c r hc ih => by
      refine Ev.step (fun k => by simp only [mapmakerref16_putTags.l0]; rw [if_pos (by omega), if_pos (by omega), rd130' l i hi, wrn i (by omega)]) ?_
      unfold encTag at hc ih
      rw [List.length_append] at hc
      rw [← List.append_assoc] at ih
      exact Ev.bind (ref_text c _ (by omega)) (Ev.bind (ref_text _ _ (by rw [List.length_append]; omega)) ih))
    l.length 0 (b ++ encU l.length) (by omega) (by simp only [List.length_append, List.drop_zero, List.length_nil]; omega)
  simpa using h
theorem ref_node (b : List UInt8) (x : S53) (hx : wfN x) (hb : b.length + (encNode x).length ≤ 4611686018427387904) : Ev (fun k => mapmakerref16_putNode.f k (mk b) x.f0 x.f1.f0 x.f1.f1 x.f2) (mk (b ++ encNode x)) := by
  unfold mapmakerref16_putNode.f
  unfold encNode at hb ⊢
  simp only [List.length_append] at hb
  refine Ev.bind (ref_int b _ hx.1 (by omega)) (Ev.bind (ref_int _ _ hx.2.1 (by simp only [List.length_append]; omega)) (Ev.bind (ref_int _ _ hx.2.2.1 (by simp only [List.length_append]; omega)) (Ev.bind (ref_tags _ x.f2 hx.2.2.2 (by simp only [List.length_append]; omega)) (Ev.val (Ev.now _) ?_))))
  simp only [List.append_assoc]
theorem ref_way (b : List UInt8) (x : S56) (hx : wfY x) (hb : b.length + (encWay x).length ≤ 4611686018427387904) : Ev (fun k => mapmakerref16_putWay.f k (mk b) x.f0 x.f1 x.f2) (mk (b ++ encWay x)) := by
  unfold mapmakerref16_putWay.f
  have hl := hx.2.1.1
  unfold Len at hl
  unfold encWay encMany at hb ⊢
  simp only [List.length_append] at hb
  refine Ev.bind (ref_int b x.f0 hx.1 (by omega)) (Ev.bind (ref_count _ x.f1.length (by omega) (by rw [List.length_append]; omega)) ?_)
  have h := ev_puts x.f1 encI (encTags x.f2) (fun k i s => mapmakerref16_putWay.l0 k s (i : Int) x.f0 x.f1 x.f2) b
    (fun c hc => by
      refine Ev.step (fun k => by simp only [mapmakerref16_putWay.l0]; rw [if_neg (by omega)]) ?_
      exact Ev.bind (ref_tags c x.f2 hx.2.2 hc) (Ev.now _))
    (fun i hi c r hc ih => by
      refine Ev.step (fun k => by simp only [mapmakerref16_putWay.l0]; rw [if_pos (by omega), if_pos (by omega), rdI' x.f1 i hi, wrn i (by omega)]) ?_
      exact Ev.bind (ref_int c _ (hx.2.1.2 _ (List.getElem_mem hi)) hc) ih)
    x.f1.length 0 (b ++ encI x.f0 ++ encU x.f1.length) (by omega) (by simp only [List.length_append, List.drop_zero]; omega)
  simp only [List.drop_zero, List.append_assoc] at h ⊢
  exact h
theorem ref_rel (b : List UInt8) (x : S59) (hx : wfR x) (hb : b.length + (encRel x).length ≤ 4611686018427387904) : Ev (fun k => mapmakerref16_putRel.f k (mk b) x.f0 x.f1 x.f2) (mk (b ++ encRel x)) := by
  unfold mapmakerref16_putRel.f
  have hl := hx.2.1.1
  unfold Len at hl
  unfold encRel encMany at hb ⊢
  simp only [List.length_append] at hb
  refine Ev.bind (ref_int b x.f0 hx.1 (by omega)) (Ev.bind (ref_count _ x.f1.length (by omega) (by rw [List.length_append]; omega)) ?_)
  have h := ev_puts x.f1 encMem (encTags x.f2) (fun k i s => mapmakerref16_putRel.l0 k s (i : Int) x.f0 x.f1 x.f2) b
    (fun c hc => by
      refine Ev.step (fun k => by simp only [mapmakerref16_putRel.l0]; rw [if_neg (by omega)]) ?_
      exact Ev.bind (ref_tags c x.f2 hx.2.2 hc) (Ev.now _))
    (fun i hi c r hc ih => by
      refine Ev.step (fun k => by simp only [mapmakerref16_putRel.l0]; rw [if_pos (by omega), if_pos (by omega), rd63' x.f1 i hi, wrn i (by omega)]) ?_
      have hm := hx.2.1.2 _ (List.getElem_mem hi)
      unfold encMem at hc ih
      simp only [List.length_append] at hc
      simp only [← List.append_assoc] at ih
      exact Ev.bind (ref_int c _ hm.1 (by omega)) (Ev.bind (ref_int _ _ hm.2 (by simp only [List.length_append]; omega)) (Ev.bind (ref_text _ _ (by simp only [List.length_append]; omega)) ih)))
    x.f1.length 0 (b ++ encI x.f0 ++ encU x.f1.length) (by omega) (by simp only [List.length_append, List.drop_zero]; omega)
  simp only [List.drop_zero, List.append_assoc] at h ⊢
  exact h
end Go.Proofs.Ytefambkodalomaa.Pure
