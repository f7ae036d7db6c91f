/- c16, plain: the reference's decoder of a dataset. -/
import Derived.Test.YtefambkodalomaaPureRdRef
import Derived.Test.YtefambkodalomaaPAllx23
namespace Go.Proofs.Ytefambkodalomaa.Pure
open Go.RowKit Go.Proofs.Ytefambkodalomaa.PAll Go.Proofs.YtefambkodalomaaW.PrintWords Go.Proofs.YtefambkodalomaaW.PrintLast Go.Proofs.YtefambkodalomaaW.PrintMore Go.Proofs.YtefambkodalomaaG
set_option linter.unusedVariables false
set_option linter.unusedSimpArgs false
def dataF (x : Except Int S26) : List S53 × List S56 × List S59 × Int :=
  match x with
  | .error e => ([], [], [], e)
  | .ok d => (d.f0, d.f1, d.f2, 0)
theorem done_ref {s : ByteArray} (hs : (s.size : Int) ≤ 140737488355328) (p : Int) (h0 : 0 ≤ p) (h1 : p ≤ (s.size : Int)) : mapmakerref02_Done.f s p 0 = some (if p < (s.size : Int) then 5 else 0) := by
  unfold mapmakerref02_Done.f mapmakerref02_Left.f
  simp only [Option.bind_some, if_true]
  rw [w64 (x := (s.size : Int) - p) (by omega) (by omega)]
  by_cases c : p < (s.size : Int)
  · rw [if_pos c, if_pos (by omega)]
  · rw [if_neg c, if_neg (by omega)]
theorem done_dead (s : ByteArray) (p e : Int) (he : e ≠ 0) : mapmakerref02_Done.f s p e = some e := by
  unfold mapmakerref02_Done.f
  rw [if_neg he]
theorem d_j5 (a : List S53) (b : List S56) (c : List S59) (s : ByteArray) (p e : Int) (he : e ≠ 0) : Ev (fun k => mapmakerref16_GetData.j5 k a b c s p e) ([], [], [], e) := by
  refine Ev.step (f := fun _ => some ([], [], [], e)) (fun k => ?_) (Ev.now _)
  simp only [mapmakerref16_GetData.j5]
  rw [done_dead s p e he, Option.bind_some, if_neg he, Option.bind_some]
theorem d_l2 (n i : Int) (a : List S53) (b : List S56) (c : List S59) (s : ByteArray) (p e : Int) (he : e ≠ 0) : Ev (fun k => mapmakerref16_GetData.l2 k n i a b c s p e) ([], [], [], e) := by
  by_cases h : i < n
  · exact Ev.step (fun k => by simp only [mapmakerref16_GetData.l2]; rw [if_pos h, if_neg he]) (d_j5 a b c s p e he)
  · exact Ev.step (fun k => by simp only [mapmakerref16_GetData.l2]; rw [if_neg h]) (d_j5 a b c s p e he)
theorem d_j3 (a : List S53) (b : List S56) (s : ByteArray) (p e : Int) (he : e ≠ 0) : Ev (fun k => mapmakerref16_GetData.j3 k a b s p e) ([], [], [], e) :=
  Ev.step (fun k => by simp only [mapmakerref16_GetData.j3] <;> rfl) (Ev.bind (d_count 10000 s p e he) (d_l2 0 0 a b [] s p e he))
theorem d_l1 (n i : Int) (a : List S53) (b : List S56) (s : ByteArray) (p e : Int) (he : e ≠ 0) : Ev (fun k => mapmakerref16_GetData.l1 k n i a b s p e) ([], [], [], e) := by
  by_cases h : i < n
  · exact Ev.step (fun k => by simp only [mapmakerref16_GetData.l1]; rw [if_pos h, if_neg he]) (d_j3 a b s p e he)
  · exact Ev.step (fun k => by simp only [mapmakerref16_GetData.l1]; rw [if_neg h]) (d_j3 a b s p e he)
theorem d_j1 (a : List S53) (s : ByteArray) (p e : Int) (he : e ≠ 0) : Ev (fun k => mapmakerref16_GetData.j1 k a s p e) ([], [], [], e) :=
  Ev.step (fun k => by simp only [mapmakerref16_GetData.j1] <;> rfl) (Ev.bind (d_count 10000 s p e he) (d_l1 0 0 a [] s p e he))
theorem d_l0 (n i : Int) (a : List S53) (s : ByteArray) (p e : Int) (he : e ≠ 0) : Ev (fun k => mapmakerref16_GetData.l0 k n i a s p e) ([], [], [], e) := by
  by_cases h : i < n
  · exact Ev.step (fun k => by simp only [mapmakerref16_GetData.l0]; rw [if_pos h, if_neg he]) (d_j1 a s p e he)
  · exact Ev.step (fun k => by simp only [mapmakerref16_GetData.l0]; rw [if_neg h]) (d_j1 a s p e he)
theorem ev_fin {α β : Type} {s : ByteArray} {o : Nat → Option β} {f : Nat → β → Option (List S53 × List S56 × List S59 × Int)} {x : Except Int (α × Int)} {ok : α → Int → β} {er : β → Int} {y : α → Int → Except Int (S26 × Int)}
    (ho : RR o x ok er) (hx : ∀ e, x = .error e → e ≠ 0) (hd : ∀ r, er r ≠ 0 → Ev (fun k => f k r) ([], [], [], er r)) (hf : ∀ a q, x = .ok (a, q) → Ev (fun k => f k (ok a q)) (dataF (fin s (y a q)))) : Ev (fun k => (o k).bind (f k)) (dataF (fin s (rB x y))) := by
  obtain ⟨r, hr, h⟩ := ho
  cases x with
  | error e =>
    have h : er r = e := h
    have h1 := hd r (by rw [h]; exact hx e rfl)
    rw [h] at h1
    exact Ev.bind hr h1
  | ok a =>
    obtain rfl : r = ok a.1 a.2 := h
    exact Ev.bind hr (hf a.1 a.2 rfl)
theorem r_j5 {s : ByteArray} (hs : (s.size : Int) ≤ 140737488355328) (a : List S53) (b : List S56) (c : List S59) (p : Int) (h0 : 0 ≤ p) (h1 : p ≤ (s.size : Int)) : Ev (fun k => mapmakerref16_GetData.j5 k a b c s p 0) (dataF (fin s (.ok (⟨a, b, c⟩, p)))) := by
  refine Ev.step (f := fun _ => some (dataF (fin s (.ok (⟨a, b, c⟩, p))))) (fun k => ?_) (Ev.now _)
  simp only [mapmakerref16_GetData.j5]
  rw [done_ref hs p h0 h1, Option.bind_some]
  unfold fin
  by_cases h : p < (s.size : Int)
  · simp only [if_pos h, Option.bind_some]
    rw [if_neg (by decide)]; rfl
  · simp only [if_neg h, if_true]; rfl
theorem r_l2 {s : ByteArray} (hs : (s.size : Int) ≤ 140737488355328) (l0 : List S53) (l1 : List S56) (n : Nat) (hn : n ≤ 10000) : ∀ (d i : Nat) (acc : List S59) (p : Int), i + d = n → acc.length = i → 0 ≤ p → p ≤ (s.size : Int) →
    Ev (fun k => mapmakerref16_GetData.l2 k (n : Int) (i : Int) l0 l1 acc s p 0) (dataF (fin s (rB (rList (rRel s) d p) fun l q => .ok ((⟨l0, l1, acc ++ l⟩ : S26), q))))
  | 0, i, acc, p, hd, hl, h0, h1 => by
    refine Ev.step (fun k => by simp only [mapmakerref16_GetData.l2]; rw [if_neg (by omega)]) ?_
    rw [rB_nil, List.append_nil]
    exact r_j5 hs l0 l1 acc p h0 h1
  | d + 1, i, acc, p, hd, hl, h0, h1 => by
    refine Ev.step (fun k => by simp only [mapmakerref16_GetData.l2]; rw [if_pos (by omega), if_pos trivial, wr1 i (by omega)]) ?_
    rw [rB_cons]
    refine ev_fin (r_rel hs p h0 h1) (rRel_err p) (fun r hr => Ev.ifp (by omega) (d_l2 _ _ _ _ _ _ _ _ hr)) fun a q ha => ?_
    have h2 := rRel_fwd s p a q h0 h1 ha
    refine Ev.ifp (by omega) ?_
    have ih := r_l2 hs l0 l1 n hn d (i + 1) (acc ++ [a]) q (by omega) (by simp [hl]) (by omega) h2.2
    simp only [acc1] at ih
    exact ih
theorem r_j3 {s : ByteArray} (hs : (s.size : Int) ≤ 140737488355328) (l0 : List S53) (l1 : List S56) (p : Int) (h0 : 0 ≤ p) (h1 : p ≤ (s.size : Int)) :
    Ev (fun k => mapmakerref16_GetData.j3 k l0 l1 s p 0) (dataF (fin s (rB (rMany s 10000 (rRel s) p) fun c q => .ok ((⟨l0, l1, c⟩ : S26), q)))) := by
  refine Ev.step (fun k => by simp only [mapmakerref16_GetData.j3] <;> rfl) ?_
  rw [rMany_count]
  refine ev_fin (r_count hs p 10000 h0 h1 (by decide) (by decide)) (fun _ h => rCount_err h) (fun r hr => d_l2 _ _ _ _ _ _ _ _ hr) fun n q2 hn => ?_
  have h3 := rCount_fwd s 10000 p n q2 h0 h1 hn
  have hc := rCount_le hn
  obtain ⟨m, rfl⟩ := Int.eq_ofNat_of_zero_le hc.1
  rw [Int.toNat_natCast]
  exact r_l2 hs l0 l1 m (by omega) m 0 [] q2 (by omega) rfl (by omega) h3.2
theorem r_l1 {s : ByteArray} (hs : (s.size : Int) ≤ 140737488355328) (l0 : List S53) (n : Nat) (hn : n ≤ 10000) : ∀ (d i : Nat) (acc : List S56) (p : Int), i + d = n → acc.length = i → 0 ≤ p → p ≤ (s.size : Int) →
    Ev (fun k => mapmakerref16_GetData.l1 k (n : Int) (i : Int) l0 acc s p 0) (dataF (fin s (rB (rList (rWay s) d p) fun l q => rB (rMany s 10000 (rRel s) q) fun c q => .ok ((⟨l0, acc ++ l, c⟩ : S26), q))))
  | 0, i, acc, p, hd, hl, h0, h1 => by
    refine Ev.step (fun k => by simp only [mapmakerref16_GetData.l1]; rw [if_neg (by omega)]) ?_
    rw [rB_nil, List.append_nil]
    exact r_j3 hs l0 acc p h0 h1
  | d + 1, i, acc, p, hd, hl, h0, h1 => by
    refine Ev.step (fun k => by simp only [mapmakerref16_GetData.l1]; rw [if_pos (by omega), if_pos trivial, wr1 i (by omega)]) ?_
    rw [rB_cons]
    refine ev_fin (r_way hs p h0 h1) (rWay_err p) (fun r hr => Ev.ifp (by omega) (d_l1 _ _ _ _ _ _ _ hr)) fun a q ha => ?_
    have h2 := rWay_fwd s p a q h0 h1 ha
    refine Ev.ifp (by omega) ?_
    have ih := r_l1 hs l0 n hn d (i + 1) (acc ++ [a]) q (by omega) (by simp [hl]) (by omega) h2.2
    simp only [acc1] at ih
    exact ih
theorem r_j1 {s : ByteArray} (hs : (s.size : Int) ≤ 140737488355328) (l0 : List S53) (p : Int) (h0 : 0 ≤ p) (h1 : p ≤ (s.size : Int)) :
    Ev (fun k => mapmakerref16_GetData.j1 k l0 s p 0) (dataF (fin s (rB (rMany s 10000 (rWay s) p) fun b q => rB (rMany s 10000 (rRel s) q) fun c q => .ok ((⟨l0, b, c⟩ : S26), q)))) := by
  refine Ev.step (fun k => by simp only [mapmakerref16_GetData.j1] <;> rfl) ?_
  rw [rMany_count]
  refine ev_fin (r_count hs p 10000 h0 h1 (by decide) (by decide)) (fun _ h => rCount_err h) (fun r hr => d_l1 _ _ _ _ _ _ _ hr) fun n q2 hn => ?_
  have h3 := rCount_fwd s 10000 p n q2 h0 h1 hn
  have hc := rCount_le hn
  obtain ⟨m, rfl⟩ := Int.eq_ofNat_of_zero_le hc.1
  rw [Int.toNat_natCast]
  exact r_l1 hs l0 m (by omega) m 0 [] q2 (by omega) rfl (by omega) h3.2
theorem r_l0 {s : ByteArray} (hs : (s.size : Int) ≤ 140737488355328) (n : Nat) (hn : n ≤ 10000) : ∀ (d i : Nat) (acc : List S53) (p : Int), i + d = n → acc.length = i → 0 ≤ p → p ≤ (s.size : Int) →
    Ev (fun k => mapmakerref16_GetData.l0 k (n : Int) (i : Int) acc s p 0) (dataF (fin s (rB (rList (rNode s) d p) fun l q => rB (rMany s 10000 (rWay s) q) fun b q => rB (rMany s 10000 (rRel s) q) fun c q => .ok ((⟨acc ++ l, b, c⟩ : S26), q))))
  | 0, i, acc, p, hd, hl, h0, h1 => by
    refine Ev.step (fun k => by simp only [mapmakerref16_GetData.l0]; rw [if_neg (by omega)]) ?_
    rw [rB_nil, List.append_nil]
    exact r_j1 hs acc p h0 h1
  | d + 1, i, acc, p, hd, hl, h0, h1 => by
    refine Ev.step (fun k => by simp only [mapmakerref16_GetData.l0]; rw [if_pos (by omega), if_pos trivial, wr1 i (by omega)]) ?_
    rw [rB_cons]
    refine ev_fin (r_node hs p h0 h1) (rNode_err p) (fun r hr => Ev.ifp (by omega) (d_l0 _ _ _ _ _ _ hr)) fun a q ha => ?_
    have h2 := rNode_fwd s p a q h0 h1 ha
    refine Ev.ifp (by omega) ?_
    have ih := r_l0 hs n hn d (i + 1) (acc ++ [a]) q (by omega) (by simp [hl]) (by omega) h2.2
    simp only [acc1] at ih
    exact ih
theorem r_GetData {s : ByteArray} (hs : (s.size : Int) ≤ 140737488355328) : Ev (fun k => mapmakerref16_GetData.f k s) (dataF (fin s (rData s 0))) := by
  unfold mapmakerref16_GetData.f mapmakerref02_Read.f rData
  simp only [Option.bind_some]
  rw [rMany_count]
  refine ev_fin (r_count hs 0 10000 (by decide) (by omega) (by decide) (by decide)) (fun _ h => rCount_err h) (fun r hr => d_l0 _ _ _ _ _ _ hr) fun n q2 hn => ?_
  have h3 := rCount_fwd s 10000 0 n q2 (by omega) (by omega) hn
  have hc := rCount_le hn
  obtain ⟨m, rfl⟩ := Int.eq_ofNat_of_zero_le hc.1
  rw [Int.toNat_natCast]
  exact r_l0 hs m (by omega) m 0 [] q2 (by omega) rfl (by omega) h3.2
end Go.Proofs.Ytefambkodalomaa.Pure
