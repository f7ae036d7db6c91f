/- A row of the call's own written over, in the middle, by the cells of whole elements: what a storeCells does; clear. -/
import Derived.Test.YtgenbepicnbecaaGMem
import Derived.Test.YtgenbepicnbecaaWZeros
import Derived.Lib.AppendZerosOnto
namespace Go.Proofs.YtgenbepicnbecaaG
open Go.RowKit Go.Proofs.YtgenbepicnbecaaW.PrintWords
set_option linter.unusedVariables false
set_option linter.unusedSimpArgs false
section
variable {P : Program} {α : Type}
theorem reps_ones (d : Kd α) {W : World} {base : Nat} {okp : Nat → Prop} (hs0 : 0 < d.sz) {ys : List α} {news : List Value} (h : Reps (d.M W base okp) d.sz ys news) : ∀ u ∈ news, u.oneCell' = true := by
  intro u hu'
  obtain ⟨q, hq, rfl⟩ := List.mem_iff_getElem.1 hu'
  have hql : q / d.sz < ys.length := by
    rw [Nat.div_lt_iff_lt_mul hs0, ← h.1]
    exact hq
  have hc := h.2 (q / d.sz) _ (List.getElem?_eq_getElem hql)
  refine d.K_one (d.K_of_M hc) _ ?_
  rw [List.mem_iff_getElem?]
  refine ⟨q % d.sz, ?_⟩
  have hm_ : q / d.sz * d.sz + q % d.sz = q := by rw [Nat.mul_comm]; exact Nat.div_add_mod _ _
  rw [List.getElem?_take, if_pos (Nat.mod_lt _ hs0), List.getElem?_drop, hm_, List.getElem?_eq_getElem hq]
theorem R_put_run (d : Kd α) {W : World} (base e : Nat) (hs0 : 0 < d.sz) (v : Value) (xs ys : List α) (off g : Nat) (news : List Value) (ok okp : Nat → Prop)
    (HO : d.R e W base ok v xs) (hnM : Reps (d.M W base okp) d.sz ys news) (hokp : ∀ k, okp k → ok k ∧ some k ≠ v.ownBlock) (hfit : off + ys.length ≤ xs.length) (hgv : v.ownBlock = some g) :
    ∃ w1, (storeCells ⟨g, off * d.sz, none⟩ news).run P W = .ok () w1 ∧ d.R e w1 base ok v (xs.take off ++ (ys ++ xs.drop (off + ys.length))) ∧ W.grownBy w1 v.ownBlock := by
  obtain ⟨hok, inner, hown, hr⟩ := HO
  obtain ⟨hil, hrow⟩ := hown
  rcases hrow with ⟨rfl, hx0⟩ | ⟨g', cap, cur, rfl, hbg, hh, hnc', hcm, hcs, ht⟩
  · simp [Value.ownBlock] at hgv
  · have hgg : g' = g := by simpa [Value.ownBlock] using hgv
    subst hgg
    have hcl : news.length = ys.length * d.sz := hnM.1
    have hone := reps_ones d hs0 hnM
    have hle : off * d.sz + ys.length * d.sz ≤ xs.length * d.sz := by rw [← Nat.add_mul]; exact Nat.mul_le_mul_right _ hfit
    have hle2 : xs.length * d.sz ≤ cap * d.sz := Nat.mul_le_mul_right _ hnc'
    have hst := run_storeCells_at P g' (off * d.sz) e news 0 cur W hh (by rw [Nat.add_zero, hcl, hcs]; omega) hone
    rw [Nat.add_zero] at hst
    have hg1 : W.grownBy (W.setRow g' (cur.toList.take (off * d.sz) ++ news ++ cur.toList.drop (off * d.sz + news.length)).toArray) (some g') :=
      ⟨rfl, rfl, rfl, by simp [World.setRow], fun k hk hne => setRow_other W g' k _ (fun he => hne (by rw [he]))⟩
    have hxl : (xs.take off ++ (ys ++ xs.drop (off + ys.length))).length = xs.length := by
      rw [List.length_append, List.length_append, List.length_take, List.length_drop, Nat.min_eq_left (by omega)]
      omega
    refine ⟨_, hst, ⟨hok, inner.take (off * d.sz) ++ (news ++ inner.drop ((off + ys.length) * d.sz)), ⟨?_, .inr ⟨g', cap, _, by rw [hxl], hbg, setRow_heap W g' cur _ e _ hh, ?_, hcm, ?_, ?_⟩⟩, ?_⟩, hg1⟩
    · rw [hxl, List.length_append, List.length_append, List.length_take, hcl, List.length_drop, hil, Nat.min_eq_left (by omega), Nat.add_mul]
      omega
    · rw [hxl]
      exact hnc'
    · rw [List.size_toArray, List.length_append, List.length_append, List.length_take, List.length_drop, hcl, Array.length_toList, hcs, Nat.min_eq_left (by omega)]
      omega
    · rw [hxl, List.toList_toArray, take_seg _ _ _ _ (by rw [hcl]; exact hle) (show xs.length * d.sz ≤ cur.size by rw [hcs]; exact hle2), ht, hcl, Nat.add_mul]
    · have mv : ∀ k, (ok k ∧ some k ≠ (Value.slice (some ⟨g', 0, none⟩) xs.length cap).ownBlock) → (W.setRow g' (cur.toList.take (off * d.sz) ++ news ++ cur.toList.drop (off * d.sz + news.length)).toArray).heap[k]? = W.heap[k]? :=
        fun k hk => setRow_other W g' k _ (fun he => hk.2 (by rw [he]; simp [Value.ownBlock]))
      have h1 := Kd.reps_append (Kd.reps_take (m := off) hr (by omega)) (Kd.reps_append (hnM.imp_ (fun p c hp => d.M_mono (fun k hk => hokp k hk) hp)) (Kd.reps_drop (m := off + ys.length) hr))
      exact h1.imp_ (R' := d.M (W.setRow g' (cur.toList.take (off * d.sz) ++ news ++ cur.toList.drop (off * d.sz + news.length)).toArray) base (fun k => ok k ∧ some k ≠ (Value.slice (some ⟨g', 0, none⟩) xs.length cap).ownBlock)) (fun p c hp => d.M_move mv hp)
theorem R_clear_run (d : Kd α) {W : World} (base e t ty : Nat) (hu : P.underlying t = some (.slice e)) (z : Value) (hv : ∀ w, (zeroValue e).run P w = .ok z w) (hz : z.cells.size = d.sz) (hs0 : 0 < d.sz) (z0 : α)
    (v : Value) (xs : List α) (off n g cc : Nat) (ok : Nat → Prop) (hz0 : d.M W base (fun _ => False) z0 z.cells.toList)
    (HO : d.R e W base ok v xs) (hfit : off + n ≤ xs.length) (hgv : v.ownBlock = some g) :
    ∃ w1, (Builtin.clear_ #[t] ty #[.slice (some ⟨g, off * d.sz, none⟩) n cc]).run P W = .ok (.tuple #[]) w1 ∧ d.R e w1 base ok v (xs.take off ++ (List.replicate n z0 ++ xs.drop (off + n))) ∧ W.grownBy w1 v.ownBlock := by
  rcases Nat.eq_zero_or_pos n with rfl | h0
  · refine ⟨W, by simp [Builtin.clear_, run_underlying hu], ?_, World.grownBy.refl W _⟩
    rw [List.replicate_zero, List.nil_append, Nat.add_zero, List.take_append_drop]
    exact HO
  · obtain ⟨w1, hr, hR, hg⟩ := R_put_run (P := P) d base e hs0 v xs (List.replicate n z0) off g (Builtin.zeroCells z.cells n).toList ok (fun _ => False) HO (Kd.reps_zeros hz hs0 hz0 n) (fun k hk => hk.elim) (by rw [List.length_replicate]; exact hfit) hgv
    rw [List.length_replicate] at hR
    refine ⟨w1, ?_, hR, hg⟩
    obtain ⟨m, rfl⟩ : ∃ m, n = m + 1 := ⟨n - 1, by omega⟩
    simp [Builtin.clear_, run_underlying hu, hv, hr]
section
variable {ops : Array Oper} {rest : List Oper} {o : Oper} {a : Act} {Q : Exit → Act → World → Prop} {W w1 : World} {v1 : Value}
end
theorem R_cap {d : Kd α} {e : Nat} {w : World} {base : Nat} {ok : Nat → Prop} {A : Option Addr} {n c : Nat} {xs : List α} (h : d.R e w base ok (.slice A n c) xs) : xs.length ≤ c := by
  obtain ⟨_, inner, ⟨_, h2⟩, _⟩ := h
  rcases h2 with ⟨he, h0⟩ | ⟨g, cap, cur, he, _, _, hn, _⟩
  · omega
  · injection he with _ _ hc
    omega
end
end Go.Proofs.YtgenbepicnbecaaG
