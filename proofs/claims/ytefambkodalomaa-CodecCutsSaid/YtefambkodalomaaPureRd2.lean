/- c16, plain: the program's decoders of objects, datasets and change files. -/
import Derived.Test.YtefambkodalomaaPureRd
import Derived.Test.YtefambkodalomaaPAllx10
import Derived.Test.YtefambkodalomaaPAllx13
namespace Go.Proofs.Ytefambkodalomaa.Pure
open Go.RowKit Go.Proofs.Ytefambkodalomaa.PAll Go.Proofs.YtefambkodalomaaW.PrintWords Go.Proofs.YtefambkodalomaaW.PrintLast Go.Proofs.YtefambkodalomaaW.PrintMore Go.Proofs.YtefambkodalomaaG
set_option linter.unusedVariables false
set_option linter.unusedSimpArgs false
theorem tags_loop {s : ByteArray} (hs : (s.size : Int) ≤ 140737488355328) (n : Nat) (hn : n ≤ 16) : ∀ (d i : Nat) (acc : List S130) (p : Int), i + d = n → acc.length = i → 0 ≤ p → p ≤ (s.size : Int) →
    Ev (fun k => codec_reader_tags.l0 k acc (n : Int) (i : Int) s p 0) (out (rB (rList (rTag s) d p) fun l q => .ok (acc ++ l, q)) fun l q => (l, s, q, (0 : Int)))
  | 0, i, acc, p, hd, hl, h0, h1 => by
    refine Ev.step (f := fun _ => some (.ok (acc, s, p, 0))) (fun k => by simp only [codec_reader_tags.l0]; rw [if_neg (by omega)]) (Ev.val (Ev.now _) ?_)
    rw [rB_nil, List.append_nil]; rfl
  | d + 1, i, acc, p, hd, hl, h0, h1 => by
    refine Ev.step (fun k => by simp only [codec_reader_tags.l0]; rw [if_pos (by omega), wr1 i (by omega)]) ?_
    rw [rB_cons]
    rw [rB_tag]
    refine Ev_eB (p_text hs p h0 h1) fun a q ha => ?_
    have h2 := rText_fwd s p a q h0 h1 ha
    refine Ev_eB (p_text hs q (by omega) h2.2) fun b r hb => ?_
    have h3 := rText_fwd s q b r (by omega) h2.2 hb
    refine Ev.ifp (by omega) ?_
    have ih := tags_loop hs n hn d (i + 1) (acc ++ [⟨a, b⟩]) r (by omega) (by simp [hl]) (by omega) h3.2
    simp only [acc1] at ih
    exact ih
theorem p_tags {s : ByteArray} (hs : (s.size : Int) ≤ 140737488355328) (p : Int) (h0 : 0 ≤ p) (h1 : p ≤ (s.size : Int)) : Ev (fun k => codec_reader_tags.f k s p 0) (out (rTags s p) fun l q => (l, s, q, (0 : Int))) := by
  unfold codec_reader_tags.f rTags rMany
  refine Ev_eB (p_count hs p 16 h0 h1 (by decide) (by decide)) fun n q hn => ?_
  have h2 := rCount_fwd s 16 p n q h0 h1 hn
  have hc := rCount_le hn
  obtain ⟨m, rfl⟩ := Int.eq_ofNat_of_zero_le hc.1
  refine Ev.val (tags_loop hs m (by omega) m 0 [] q (by omega) rfl (by omega) h2.2) ?_
  rw [Int.toNat_natCast]
  cases rList (rTag s) m q <;> rfl
theorem p_node {s : ByteArray} (hs : (s.size : Int) ≤ 140737488355328) (p : Int) (h0 : 0 ≤ p) (h1 : p ≤ (s.size : Int)) : Ev (fun k => codec_reader_node.f k s p 0) (out (rNode s p) fun x q => (x.f0, x.f1.f0, x.f1.f1, x.f2, s, q, (0 : Int))) := by
  unfold codec_reader_node.f rNode
  refine Ev_eB (p_int hs p h0 h1) fun a q ha => ?_
  have h2 := rInt_fwd s p a q h0 h1 ha
  refine Ev_eB (p_int hs q (by omega) h2.2) fun b q2 hb => ?_
  have h3 := rInt_fwd s q b q2 (by omega) h2.2 hb
  refine Ev_eB (p_int hs q2 (by omega) h3.2) fun c q3 hc => ?_
  have h4 := rInt_fwd s q2 c q3 (by omega) h3.2 hc
  exact Ev_eB (p_tags hs q3 (by omega) h4.2) fun t q4 ht => Ev.now _
theorem way_loop {s : ByteArray} (hs : (s.size : Int) ≤ 140737488355328) (id : Int) (n : Nat) (hn : n ≤ 2000) : ∀ (d i : Nat) (acc : List Int) (p : Int), i + d = n → acc.length = i → 0 ≤ p → p ≤ (s.size : Int) →
    Ev (fun k => codec_reader_way.l0 k (n : Int) (i : Int) s p 0 id acc) (out (rB (rList (rInt s) d p) fun l q => rB (rTags s q) fun t q => .ok ((⟨id, acc ++ l, t⟩ : S56), q)) fun x q => (x.f0, x.f1, x.f2, s, q, (0 : Int)))
  | 0, i, acc, p, hd, hl, h0, h1 => by
    refine Ev.step (fun k => by simp only [codec_reader_way.l0]; rw [if_neg (by omega)]) ?_
    rw [rB_nil, List.append_nil]
    exact Ev_eB (p_tags hs p h0 h1) fun t q ht => Ev.now _
  | d + 1, i, acc, p, hd, hl, h0, h1 => by
    refine Ev.step (fun k => by simp only [codec_reader_way.l0]; rw [if_pos (by omega), wr1 i (by omega)]) ?_
    rw [rB_cons]
    refine Ev_eB (p_int hs p h0 h1) fun a q ha => ?_
    have h2 := rInt_fwd s p a q h0 h1 ha
    refine Ev.ifp (by omega) ?_
    have ih := way_loop hs id n hn d (i + 1) (acc ++ [a]) q (by omega) (by simp [hl]) (by omega) h2.2
    simp only [acc1] at ih
    exact ih
theorem p_way {s : ByteArray} (hs : (s.size : Int) ≤ 140737488355328) (p : Int) (h0 : 0 ≤ p) (h1 : p ≤ (s.size : Int)) : Ev (fun k => codec_reader_way.f k s p 0) (out (rWay s p) fun x q => (x.f0, x.f1, x.f2, s, q, (0 : Int))) := by
  unfold codec_reader_way.f rWay
  refine Ev_eB (p_int hs p h0 h1) fun a q ha => ?_
  have h2 := rInt_fwd s p a q h0 h1 ha
  rw [rMany_count]
  refine Ev_eB (p_count hs q 2000 (by omega) h2.2 (by decide) (by decide)) fun n q2 hn => ?_
  have h3 := rCount_fwd s 2000 q n q2 (by omega) h2.2 hn
  have hc := rCount_le hn
  obtain ⟨m, rfl⟩ := Int.eq_ofNat_of_zero_le hc.1
  rw [Int.toNat_natCast]
  exact way_loop hs a m (by omega) m 0 [] q2 (by omega) rfl (by omega) h3.2
theorem rel_loop {s : ByteArray} (hs : (s.size : Int) ≤ 140737488355328) (id : Int) (n : Nat) (hn : n ≤ 200) : ∀ (d i : Nat) (acc : List S63) (p : Int), i + d = n → acc.length = i → 0 ≤ p → p ≤ (s.size : Int) →
    Ev (fun k => codec_reader_rel.l0 k (n : Int) (i : Int) s p 0 id acc) (out (rB (rList (rMem s) d p) fun l q => rB (rTags s q) fun t q => .ok ((⟨id, acc ++ l, t⟩ : S59), q)) fun x q => (x.f0, x.f1, x.f2, s, q, (0 : Int)))
  | 0, i, acc, p, hd, hl, h0, h1 => by
    refine Ev.step (fun k => by simp only [codec_reader_rel.l0]; rw [if_neg (by omega)]) ?_
    rw [rB_nil, List.append_nil]
    exact Ev_eB (p_tags hs p h0 h1) fun t q ht => Ev.now _
  | d + 1, i, acc, p, hd, hl, h0, h1 => by
    refine Ev.step (fun k => by simp only [codec_reader_rel.l0]; rw [if_pos (by omega), wr1 i (by omega)]) ?_
    rw [rB_cons]
    rw [rB_mem]
    refine Ev_eB (p_int hs p h0 h1) fun a q ha => ?_
    have h2 := rInt_fwd s p a q h0 h1 ha
    refine Ev_eB (p_int hs q (by omega) h2.2) fun b q2 hb => ?_
    have h3 := rInt_fwd s q b q2 (by omega) h2.2 hb
    refine Ev_eB (p_text hs q2 (by omega) h3.2) fun c q3 hc => ?_
    have h4 := rText_fwd s q2 c q3 (by omega) h3.2 hc
    refine Ev.ifp (by omega) ?_
    have ih := rel_loop hs id n hn d (i + 1) (acc ++ [⟨⟨a, b⟩, c⟩]) q3 (by omega) (by simp [hl]) (by omega) h4.2
    simp only [acc1] at ih
    exact ih
theorem p_rel {s : ByteArray} (hs : (s.size : Int) ≤ 140737488355328) (p : Int) (h0 : 0 ≤ p) (h1 : p ≤ (s.size : Int)) : Ev (fun k => codec_reader_rel.f k s p 0) (out (rRel s p) fun x q => (x.f0, x.f1, x.f2, s, q, (0 : Int))) := by
  unfold codec_reader_rel.f rRel
  refine Ev_eB (p_int hs p h0 h1) fun a q ha => ?_
  have h2 := rInt_fwd s p a q h0 h1 ha
  rw [rMany_count]
  refine Ev_eB (p_count hs q 200 (by omega) h2.2 (by decide) (by decide)) fun n q2 hn => ?_
  have h3 := rCount_fwd s 200 q n q2 (by omega) h2.2 hn
  have hc := rCount_le hn
  obtain ⟨m, rfl⟩ := Int.eq_ofNat_of_zero_le hc.1
  rw [Int.toNat_natCast]
  exact rel_loop hs a m (by omega) m 0 [] q2 (by omega) rfl (by omega) h3.2
theorem data_loop2 {s : ByteArray} (hs : (s.size : Int) ≤ 140737488355328) (l0 : List S53) (l1 : List S56) (n : Nat) (hn : n ≤ 10000) : ∀ (d i : Nat) (acc : List S59) (p : Int), i + d = n → acc.length = i → 0 ≤ p → p ≤ (s.size : Int) →
    Ev (fun k => codec_GetData_1.l2 k (n : Int) (i : Int) s p 0 l0 l1 acc) (out (rB (rList (rRel s) d p) fun l q => .ok ((⟨l0, l1, acc ++ l⟩ : S26), q)) fun x q => (x.f0, x.f1, x.f2, s, q, (0 : Int)))
  | 0, i, acc, p, hd, hl, h0, h1 => by
    refine Ev.step (fun k => by simp only [codec_GetData_1.l2]; rw [if_neg (by omega)]) ?_
    rw [rB_nil, List.append_nil]
    exact Ev.now _
  | d + 1, i, acc, p, hd, hl, h0, h1 => by
    refine Ev.step (fun k => by simp only [codec_GetData_1.l2]; rw [if_pos (by omega), wr1 i (by omega)]) ?_
    rw [rB_cons]
    refine Ev_eB (p_rel hs p h0 h1) fun a q ha => ?_
    have h2 := rRel_fwd s p a q h0 h1 ha
    refine Ev.ifp (by omega) ?_
    have ih := data_loop2 hs l0 l1 n hn d (i + 1) (acc ++ [a]) q (by omega) (by simp [hl]) (by omega) h2.2
    simp only [acc1] at ih
    exact ih
theorem data_loop1 {s : ByteArray} (hs : (s.size : Int) ≤ 140737488355328) (l0 : List S53) (n : Nat) (hn : n ≤ 10000) : ∀ (d i : Nat) (acc : List S56) (p : Int), i + d = n → acc.length = i → 0 ≤ p → p ≤ (s.size : Int) →
    Ev (fun k => codec_GetData_1.l1 k (n : Int) (i : Int) s p 0 l0 acc) (out (rB (rList (rWay s) d p) fun l q => rB (rMany s 10000 (rRel s) q) fun c q => .ok ((⟨l0, acc ++ l, c⟩ : S26), q)) fun x q => (x.f0, x.f1, x.f2, s, q, (0 : Int)))
  | 0, i, acc, p, hd, hl, h0, h1 => by
    refine Ev.step (fun k => by simp only [codec_GetData_1.l1]; rw [if_neg (by omega)]) ?_
    rw [rB_nil, List.append_nil, rMany_count]
    refine Ev_eB (p_count hs p 10000 h0 h1 (by decide) (by decide)) fun n q2 hn => ?_
    have h3 := rCount_fwd s 10000 p n q2 h0 h1 hn
    have hc := rCount_le hn
    obtain ⟨m, rfl⟩ := Int.eq_ofNat_of_zero_le hc.1
    rw [Int.toNat_natCast]
    exact data_loop2 hs l0 acc m (by omega) m 0 [] q2 (by omega) rfl (by omega) h3.2
  | d + 1, i, acc, p, hd, hl, h0, h1 => by
    refine Ev.step (fun k => by simp only [codec_GetData_1.l1]; rw [if_pos (by omega), wr1 i (by omega)]) ?_
    rw [rB_cons]
    refine Ev_eB (p_way hs p h0 h1) fun a q ha => ?_
    have h2 := rWay_fwd s p a q h0 h1 ha
    refine Ev.ifp (by omega) ?_
    have ih := data_loop1 hs l0 n hn d (i + 1) (acc ++ [a]) q (by omega) (by simp [hl]) (by omega) h2.2
    simp only [acc1] at ih
    exact ih
theorem data_loop0 {s : ByteArray} (hs : (s.size : Int) ≤ 140737488355328) (n : Nat) (hn : n ≤ 10000) : ∀ (d i : Nat) (acc : List S53) (p : Int), i + d = n → acc.length = i → 0 ≤ p → p ≤ (s.size : Int) →
    Ev (fun k => codec_GetData_1.l0 k (n : Int) (i : Int) s p 0 acc) (out (rB (rList (rNode s) d p) fun l q => rB (rMany s 10000 (rWay s) q) fun b q => rB (rMany s 10000 (rRel s) q) fun c q => .ok ((⟨acc ++ l, b, c⟩ : S26), q)) fun x q => (x.f0, x.f1, x.f2, s, q, (0 : Int)))
  | 0, i, acc, p, hd, hl, h0, h1 => by
    refine Ev.step (fun k => by simp only [codec_GetData_1.l0]; rw [if_neg (by omega)]) ?_
    rw [rB_nil, List.append_nil, rMany_count]
    refine Ev_eB (p_count hs p 10000 h0 h1 (by decide) (by decide)) fun n q2 hn => ?_
    have h3 := rCount_fwd s 10000 p n q2 h0 h1 hn
    have hc := rCount_le hn
    obtain ⟨m, rfl⟩ := Int.eq_ofNat_of_zero_le hc.1
    rw [Int.toNat_natCast]
    exact data_loop1 hs acc m (by omega) m 0 [] q2 (by omega) rfl (by omega) h3.2
  | d + 1, i, acc, p, hd, hl, h0, h1 => by
    refine Ev.step (fun k => by simp only [codec_GetData_1.l0]; rw [if_pos (by omega), wr1 i (by omega)]) ?_
    rw [rB_cons]
    refine Ev_eB (p_node hs p h0 h1) fun a q ha => ?_
    have h2 := rNode_fwd s p a q h0 h1 ha
    refine Ev.ifp (by omega) ?_
    have ih := data_loop0 hs n hn d (i + 1) (acc ++ [a]) q (by omega) (by simp [hl]) (by omega) h2.2
    simp only [acc1] at ih
    exact ih
theorem p_data1 {s : ByteArray} (hs : (s.size : Int) ≤ 140737488355328) : Ev (fun k => codec_GetData_1.f k s 0 0) (out (rData s 0) fun x q => (x.f0, x.f1, x.f2, s, q, (0 : Int))) := by
  unfold codec_GetData_1.f rData
  rw [rMany_count]
  refine Ev_eB (p_count hs 0 10000 (by decide) (by omega) (by decide) (by decide)) fun n q2 hn => ?_
  have h3 := rCount_fwd s 10000 0 n q2 (by omega) (by omega) hn
  have hc := rCount_le hn
  obtain ⟨m, rfl⟩ := Int.eq_ofNat_of_zero_le hc.1
  rw [Int.toNat_natCast]
  exact data_loop0 hs m (by omega) m 0 [] q2 (by omega) rfl (by omega) h3.2
theorem done_eq {s : ByteArray} (hs : (s.size : Int) ≤ 140737488355328) (p : Int) (h0 : 0 ≤ p) (h1 : p ≤ (s.size : Int)) : wire_Reader_Done.f s p 0 = some (if p < (s.size : Int) then 5 else 0, s, p, 0) := by
  unfold wire_Reader_Done.f wire_Reader_Err.f wire_Reader_Left.f
  simp only [Option.bind_some, if_true]
  rw [w64 (x := (s.size : Int) - p) (by omega) (by omega)]
  by_cases c : p < (s.size : Int)
  · rw [if_pos c, if_pos (by omega)]
  · rw [if_neg c, if_neg (by omega)]
def dataR (x : Except Int S26) : List S53 × List S56 × List S59 × Int :=
  match x with
  | .error e => ([], [], [], e)
  | .ok d => (d.f0, d.f1, d.f2, 0)
theorem p_GetData {s : ByteArray} (hs : (s.size : Int) ≤ 140737488355328) : Ev (fun k => codec_GetData.f k s) (dataR (fin s (rData s 0))) := by
  unfold codec_GetData.f api_Data_by_codec_GetData_1.f
  refine Ev.bind (a := dataR (fin s (rData s 0))) (Ev.bind (p_data1 hs) ?_) (Ev.now _)
  cases h : rData s 0 with
  | error e => exact Ev.now _
  | ok a =>
    have hf := rData_fwd s 0 a.1 a.2 (by omega) (by omega) h
    simp only [out]
    rw [done_eq hs a.2 hf.1 hf.2]
    simp only [Option.bind_some, fin]
    by_cases c : a.2 < (s.size : Int)
    · simp only [if_pos c]; exact Ev.now _
    · simp only [if_neg c]; exact Ev.now _
end Go.Proofs.Ytefambkodalomaa.Pure
