/- What an argument of any type made of whole numbers, bools, strings, structs and slices reads as, told in the print's kinds, with the form's reach: each slice's length is at most 2^47. -/
import Derived.Test.YtijoaohckgbneaaGreatWWords
import Derived.Deep.Slices
import Derived.ChangeArms
import Derived.DataReads
import Derived.ProofKit
import Derived.SizedLaws
namespace Go.Proofs.YtijoaohckgbneaaGreatG
open Go.Proofs.YtijoaohckgbneaaGreatW.PrintWords Go.Deep
structure Opens {α : Type} (P : Program) (t : TypeId) (d : Kd α) (W : α → Prop) : Prop where
  cells : P.cellsOf t = d.sz
  opens : ∀ {H : Type} {enc : TypeId × Value → H} {w : World} {fuel : Nat} {cs : List Value} {x : DataW H × List MemPlace},
    DataW.trod enc P w 0 (fun _ => true) true fuel t cs = some x → (∀ n ∈ x.1.weights P t, n ≤ reachBytes) → ∃ y, d.K w y cs ∧ W y
structure OpensF {α : Type} (P : Program) (fs : List Field) (off : Nat) (d : Kd α) (W : α → Prop) : Prop where
  opens : ∀ {H : Type} {enc : TypeId × Value → H} {w : World} {fuel : Nat} {cs : List Value},
    off + d.sz ≤ cs.length →
    (∀ (i : Nat) (f : Field), fs[i]? = some f → ∃ z, DataW.trod enc P w 0 (fun _ => true) true fuel f.type ((cs.drop f.offset).take (P.cellsOf f.type)) = some z ∧ ∀ n ∈ z.1.weights P f.type, n ≤ reachBytes) →
    ∃ y, d.K w y ((cs.drop off).take d.sz) ∧ W y
section
variable {α β : Type} {P : Program} {t e : TypeId}
theorem Opens.int {k : IntKind} (ht : P.underlying t = some (.int k)) (hc : P.cellsOf t = 1) : Opens P t (Kd.int k) (fun n => (Lit.int k n).wf = true) :=
  ⟨hc, fun h _ => by
    obtain ⟨n, rfl, _, hw⟩ := DataW.trod_int ht h
    exact ⟨n, rfl, hw⟩⟩
theorem Opens.bool (ht : P.underlying t = some .bool) (hc : P.cellsOf t = 1) : Opens P t Kd.bool (fun _ => True) :=
  ⟨hc, fun h _ => by
    obtain ⟨n, rfl, _⟩ := DataW.trod_bool ht h
    exact ⟨n, rfl, trivial⟩⟩
theorem Opens.string (ht : P.underlying t = some .string) (hc : P.cellsOf t = 1) : Opens P t Kd.string (fun s => s.size ≤ maxLen) :=
  ⟨hc, fun h _ => by
    obtain ⟨s, rfl, _, hs⟩ := DataW.trod_string ht h
    exact ⟨s, rfl, hs⟩⟩
theorem Opens.iso {d : Kd α} {W : α → Prop} {f : β → α} {g : α → β} (h : Opens P t d W) (hg : ∀ x, f (g x) = x) : Opens P t (Kd.iso d f) (fun y => W (f y)) :=
  ⟨h.1, fun hx hz => by
    obtain ⟨y, hK, hW⟩ := h.opens hx hz
    exact ⟨g y, (show d.K _ (f (g y)) _ by rw [hg]; exact hK), (show W (f (g y)) by rw [hg]; exact hW)⟩⟩
theorem OpensF.one {f : Field} {off : Nat} {d : Kd α} {W : α → Prop} (ho : f.offset = off) (h : Opens P f.type d W) : OpensF P [f] off d W := by
  refine ⟨fun {H enc w fuel cs} hl hf => ?_⟩
  obtain ⟨z, hz, hn⟩ := hf 0 f rfl
  rw [ho, h.cells] at hz
  exact h.opens hz hn
theorem OpensF.cons {f : Field} {fs : List Field} {off : Nat} {a : Kd α} {b : Kd β} {Wa : α → Prop} {Wb : β → Prop} (ho : f.offset = off) (h : Opens P f.type a Wa) (hr : OpensF P fs (off + a.sz) b Wb) :
    OpensF P (f :: fs) off (Kd.pair a b) (fun x => Wa x.1 ∧ Wb x.2) := by
  refine ⟨fun {H enc w fuel cs} hl hf => ?_⟩
  have hl' : off + (a.sz + b.sz) ≤ cs.length := hl
  obtain ⟨z, hz, hn⟩ := hf 0 f rfl
  rw [ho, h.cells] at hz
  obtain ⟨x, hx, wx⟩ := h.opens hz hn
  obtain ⟨y, hy, wy⟩ := hr.opens (fuel := fuel) (cs := cs) (by omega) (fun i g hg => hf (i + 1) g (by simpa using hg))
  refine ⟨(x, y), ⟨_, _, ?_, hx, hy⟩, wx, wy⟩
  show (cs.drop off).take (a.sz + b.sz) = _
  rw [List.take_add, List.drop_drop]
theorem Opens.struct {fs : Array Field} {d : Kd α} {W : α → Prop} (ht : P.underlying t = some (.struct fs)) (hc : P.cellsOf t = d.sz) (h : OpensF P fs.toList 0 d W) : Opens P t d W :=
  ⟨hc, fun hx hsz => by
    obtain ⟨xs, n, rfl, rfl, hl, hn, hi⟩ := DataW.trod_struct ht hx
    obtain ⟨y, hK, hW⟩ := h.opens (fuel := n) (by rw [hl, hc]; omega) (fun i f hf => by
      have hf' : fs[i]? = some f := by simpa using hf
      have hlt : i < xs.length := by
        have := (Array.getElem?_eq_some_iff.1 hf').1
        omega
      refine ⟨xs[i], (hi i f hf').trans (List.getElem?_eq_getElem hlt), fun m hm => hsz m ?_⟩
      simp only [DataW.weights, ht]
      exact DataW.weights_mem_each (j := i) (t := f.type) (d := xs[i].1) (by simp [hf]) (by simp [List.getElem?_eq_getElem hlt]) m hm)
    refine ⟨y, ?_, hW⟩
    rw [List.drop_zero, List.take_of_length_le (by rw [hl, hc]; exact Nat.le_refl _)] at hK
    exact hK⟩
theorem list_of_fn {α : Type} {n : Nat} {p : Nat → α → Prop} (h : ∀ i, i < n → ∃ x, p i x) : ∃ l : List α, l.length = n ∧ ∀ i x, l[i]? = some x → p i x := by
  induction n with
  | zero => exact ⟨[], rfl, fun i x hx => by simp at hx⟩
  | succ n ih =>
    obtain ⟨l, hl, hp⟩ := ih (fun i hi => h i (by omega))
    obtain ⟨x, hx⟩ := h n (by omega)
    refine ⟨l ++ [x], by simp [hl], fun i y hy => ?_⟩
    rcases Nat.lt_or_ge i l.length with hi | hi
    · rw [List.getElem?_append_left hi] at hy
      exact hp i y hy
    · have hi' := (List.getElem?_eq_some_iff.1 hy).1
      rw [List.length_append, List.length_singleton] at hi'
      have : i = n := by omega
      subst this
      rw [List.getElem?_append_right hi, ← hl] at hy
      simp at hy
      subst hy
      exact hx
theorem mem_weightsAll {H : Type} {P : Program} {e : TypeId} : ∀ {l : List (DataW H)} {d : DataW H}, d ∈ l → ∀ n ∈ d.weights P e, n ∈ DataW.weightsAll P e l
  | a :: l, d, hd, n, hn => by
    unfold DataW.weightsAll
    rcases List.mem_cons.1 hd with rfl | hd
    · exact List.mem_append_left _ hn
    · exact List.mem_append_right _ (mem_weightsAll hd n hn)
theorem Opens.slice {d : Kd α} {W : α → Prop} (ht : P.underlying t = some (.slice e)) (hc : P.cellsOf t = 1) (hb : 0 < P.bytesOf e) (h : Opens P e d W) : Opens P t (Kd.slice e d) (fun l => l.length ≤ 140737488355328 ∧ ∀ x ∈ l, W x) :=
  ⟨hc, fun {H enc w fuel cs x} hx hsz => by
    rcases open_slice ht hx with ⟨rfl, _⟩ | ⟨a, len, cap, m, n, D, Pl, rfl, _, hle, hcap, hm, rfl, hi⟩
    · exact ⟨[], ⟨none, 0, rfl, Nat.le_refl _, rfl, by simp, fun h0 => absurd h0 (by simp)⟩, by simp, fun x hx => by simp at hx⟩
    · have hm' : len ≤ m := by rw [hm]; split <;> omega
      simp only [DataW.weights, ht] at hsz
      have hlen : len ≤ 140737488355328 := by
        have h1 := hsz _ List.mem_cons_self
        simp only [List.length_map, List.length_range] at h1
        have h2 : len + (m - len) ≤ (len + (m - len)) * P.bytesOf e := Nat.le_mul_of_pos_right _ hb
        have h3 := reachBytes_lt
        omega
      obtain ⟨l, hl, hp⟩ := list_of_fn (n := len) (p := fun i (y : α) => W y ∧ ∃ c, c.length = d.sz ∧ d.K w y c ∧ ∀ j u, c[j]? = some u → w.cell? (a.add (i * d.sz + j)) = some u) (fun i hi' => by
        obtain ⟨cs', h1, h2⟩ := hi i (by omega)
        rw [h.cells] at h1
        obtain ⟨y, hK, hW⟩ := h.opens h2 (fun k hk => hsz k (List.mem_cons_of_mem _ (List.mem_append_left _ (mem_weightsAll (List.mem_map.2 ⟨i, List.mem_range.2 hi', rfl⟩) k hk))))
        refine ⟨y, hW, cs', d.K_len hK, hK, fun j u hu => ?_⟩
        have hz := World.cells?_some h1
        have hj : j < cs'.length := (List.getElem?_eq_some_iff.1 hu).1
        have hq := hz.2.2 j (by rw [← d.K_len hK]; exact hj)
        rw [← Go.Deep.add_add, hq, hu])
      subst hl
      refine ⟨l, ⟨some a, cap, rfl, hle, rfl, ?_, fun h0 => ⟨a, rfl, fun j y hj => (hp j y hj).2⟩⟩, hlen, fun y hy => ?_⟩
      · have hcap' := hcap
        unfold maxLen at hcap'
        exact Nat.le_trans hle hcap'
      · obtain ⟨j, hj, rfl⟩ := List.getElem_of_mem hy
        exact (hp j _ (List.getElem?_eq_getElem hj)).1⟩
end
theorem Opens.agg_arg {α : Type} {P : Program} {t : TypeId} {d : Kd α} {W : α → Prop} {H : Type} {enc : TypeId × Value → H} {w : World} {v : Value} {x : DataW H} {ps : List MemPlace} {r : Reach} {b : Nat} {fs : Array Field}
    (h : Opens P t d W) (hs : P.underlying t = some (.struct fs)) (hv : Value.okWide P w r b t v) (hx : DataW.Trod enc P w 0 (fun _ => true) true t v x ps) (hz : ∀ n ∈ x.weights P t, n ≤ reachBytes) : ∃ (y : α) (cs : Array Value), v = .agg cs ∧ d.K w y cs.toList ∧ W y := by
  unfold Value.okWide at hv
  rw [hs] at hv
  obtain ⟨cs, rfl, _, _⟩ := hv
  obtain ⟨fuel, hf⟩ := hx
  obtain ⟨y, hK, hW⟩ := h.opens hf hz
  exact ⟨y, cs, rfl, by simpa [Value.cells] using hK, hW⟩
end Go.Proofs.YtijoaohckgbneaaGreatG
