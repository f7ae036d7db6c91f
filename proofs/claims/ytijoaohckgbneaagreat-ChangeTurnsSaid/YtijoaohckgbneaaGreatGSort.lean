/- slices.SortFunc on a row of the call's own: the shelf's world of the sort told in the print's kinds. -/
import Derived.Test.YtijoaohckgbneaaGreatGMem
import Derived.Shelf.SlSortCmp.WholeK
namespace Go.Proofs.YtijoaohckgbneaaGreatG
open Go.RowKit Go.Proofs.YtijoaohckgbneaaGreatW.PrintWords Go.Sort
set_option linter.unusedVariables false
set_option linter.unusedSimpArgs false
section
variable {α : Type} [Inhabited α]
theorem heap_sortWorldK (enc : α → List Value) (k : Nat) (w : World) (g n : Nat) (ds : Array α) (os : Array Obj) {cur : Array Value} {e : TypeId} {fr : Nat × Nat} (hg : w.heap[g]? = some (.cells cur e fr)) :
    (sortWorldK enc k w g 0 n ds os).heap[g]? = some (.cells (putCells id 0 (flatK enc k ds) cur) e fr) := by
  have hlt : g < w.heap.size := (Array.getElem?_eq_some_iff.1 hg).1
  unfold sortWorldK
  rw [heap_grow_old _ _ (by rw [show (putRowK enc k (Go.Sort.ahead w n) g 0 ds).heap.size = w.heap.size from size_putRow id (Go.Sort.ahead w n) g 0 _]; exact hlt)]
  show (w.heap.modify g (onCells (putCells id 0 (flatK enc k ds))))[g]? = _
  rw [Array.getElem?_modify, if_pos rfl, hg]
  rfl
theorem heap_sortWorldK_other (enc : α → List Value) (k : Nat) (w : World) (g n : Nat) (ds : Array α) (os : Array Obj) (j : Nat) (hj : j < w.heap.size) (hne : j ≠ g) :
    (sortWorldK enc k w g 0 n ds os).heap[j]? = w.heap[j]? := by
  unfold sortWorldK
  rw [heap_grow_old _ _ (by rw [show (putRowK enc k (Go.Sort.ahead w n) g 0 ds).heap.size = w.heap.size from size_putRow id (Go.Sort.ahead w n) g 0 _]; exact hj)]
  show (w.heap.modify g (onCells (putCells id 0 (flatK enc k ds))))[j]? = _
  rw [Array.getElem?_modify, if_neg (Ne.symm hne)]
theorem grown_sortWorldK (enc : α → List Value) (k : Nat) (w : World) (g n : Nat) (ds : Array α) (os : Array Obj) : w.grownBy (sortWorldK enc k w g 0 n ds os) (some g) := by
  refine ⟨rfl, rfl, rfl, ?_, fun j hj hne => heap_sortWorldK_other enc k w g n ds os j hj (fun he => hne (by rw [he]))⟩
  unfold sortWorldK
  rw [size_grow, show (putRowK enc k (Go.Sort.ahead w n) g 0 ds).heap.size = w.heap.size from size_putRow id (Go.Sort.ahead w n) g 0 _]
  omega
theorem putCells_take (F cur : Array Value) (h : F.size ≤ cur.size) : (putCells id 0 F cur).toList.take F.size = F.toList := by
  apply List.ext_getElem?
  intro j
  rw [List.getElem?_take]
  split
  · rename_i hj
    simp only [putCells, Array.getElem?_toList, Array.getElem?_mapIdx]
    rw [Array.getElem?_eq_getElem (show j < cur.size by omega), Array.getElem?_eq_getElem hj]
    simp [hj]
  · rename_i hj
    rw [List.getElem?_eq_none (by rw [Array.length_toList]; omega)]
theorem reps_flatK {R : α → List Value → Prop} (enc : α → List Value) (k : Nat) (hk : ∀ x, (enc x).length = k) (hk0 : 0 < k) (hR : ∀ x, R x (enc x)) (ds : Array α) : Reps R k ds.toList (flatK enc k ds).toList := by
  refine ⟨by simp, fun j p hj => ?_⟩
  have hj' : j < ds.size := by simpa using (List.getElem?_eq_some_iff.1 hj).1
  have hp : ds[j]! = p := by
    rw [getElem!_pos ds j hj']
    have := (List.getElem?_eq_some_iff.1 hj).2
    simpa using this
  have hle : j * k + k ≤ ds.size * k := by rw [← Nat.succ_mul]; exact Nat.mul_le_mul_right _ hj'
  have : ((flatK enc k ds).toList.drop (j * k)).take k = enc p := by
    apply List.ext_getElem
    · rw [List.length_take, List.length_drop, Array.length_toList, size_flatK, hk]
      omega
    · intro i h1 h2
      have hi : i < k := by rw [hk] at h2; exact h2
      have hmod : (j * k + i) % k = i := by
        rw [Nat.mul_comm, Nat.mul_add_mod]
        exact Nat.mod_eq_of_lt hi
      have hdiv : (j * k + i) / k = j := by
        rw [Nat.mul_comm, Nat.mul_add_div hk0, Nat.div_eq_of_lt hi, Nat.add_zero]
      have hg := get_flatK enc k ds (j * k + i) (by omega)
      rw [getElem!_pos (flatK enc k ds) (j * k + i) (by rw [size_flatK]; omega), hdiv, hmod, hp, getElem!_pos (enc p) i h2] at hg
      rw [List.getElem_take, List.getElem_drop]
      simpa using hg
  rw [this]
  exact hR p
theorem holds_of_R {d : Kd α} {e : Nat} {w : World} {base : Nat} {ok : Nat → Prop} {g c : Nat} {xs : List α} (enc : α → List Value) (hk : ∀ x, (enc x).length = d.sz) (hs0 : 0 < d.sz) (hK : ∀ {w x cs}, d.K w x cs → cs = enc x)
    (h : d.R e w base ok (.slice (some ⟨g, 0, none⟩) xs.length c) xs) : HoldsK enc d.sz w g 0 xs.toArray ∧ g < w.heap.size := by
  obtain ⟨_, inner, ⟨hil, h2⟩, hr⟩ := h
  rcases h2 with ⟨he, _⟩ | ⟨g', cap, cur, he, _, hh, hnc, _, hcs, ht⟩
  · cases he
  · injection he with ha _ _
    injection ha with ha
    injection ha with ha _ _
    subst ha
    refine ⟨fun t ht' => ?_, (Array.getElem?_eq_some_iff.1 hh).1⟩
    rw [size_flatK, List.size_toArray] at ht'
    have hdiv : t / d.sz < xs.length := (Nat.div_lt_iff_lt_mul hs0).2 ht'
    have h1 := hK (d.K_of_M (hr.2 (t / d.sz) _ (List.getElem?_eq_getElem hdiv)))
    have hmod : t % d.sz < d.sz := Nat.mod_lt _ hs0
    have hti : t / d.sz * d.sz + t % d.sz = t := by rw [Nat.mul_comm]; exact Nat.div_add_mod _ _
    have hin : inner[t]? = some ((enc xs[t / d.sz])[t % d.sz]'(by rw [hk]; exact hmod)) := by
      have h3 : ((inner.drop (t / d.sz * d.sz)).take d.sz)[t % d.sz]? = (enc xs[t / d.sz])[t % d.sz]? := by rw [h1]
      rw [List.getElem?_take, if_pos hmod, List.getElem?_drop, hti] at h3
      rw [h3, List.getElem?_eq_getElem (by rw [hk]; exact hmod)]
    have hcur : cur[t]? = some ((enc xs[t / d.sz])[t % d.sz]'(by rw [hk]; exact hmod)) := by
      rw [← ht, List.getElem?_take, if_pos ht'] at hin
      simpa using hin
    constructor
    · rw [Nat.zero_add, get_flatK _ _ _ t (by simpa using ht')]
      unfold World.cell?
      simp only [hh]
      show cur[t]? = _
      rw [hcur]
      simp only [id]
      congr 1
      rw [List.getElem!_toArray, getElem!_pos xs (t / d.sz) hdiv, getElem!_pos (enc xs[t / d.sz]) (t % d.sz) (by rw [hk]; exact hmod)]
    · unfold World.frozen?
      simp [hh]
theorem R_sortWorldK {d : Kd α} {e : Nat} {w : World} {base : Nat} {ok : Nat → Prop} {g c : Nat} {xs : List α} (enc : α → List Value) (hk : ∀ x, (enc x).length = d.sz) (hs0 : 0 < d.sz) (hM : ∀ w base ok x, d.M w base ok x (enc x))
    (h : d.R e w base ok (.slice (some ⟨g, 0, none⟩) xs.length c) xs) (n : Nat) (ds : Array α) (os : Array Obj) (hsz : ds.size = xs.length) :
    d.R e (sortWorldK enc d.sz w g 0 n ds os) base ok (.slice (some ⟨g, 0, none⟩) xs.length c) ds.toList := by
  obtain ⟨hok, inner, ⟨hil, h2⟩, hr⟩ := h
  rcases h2 with ⟨he, _⟩ | ⟨g', cap, cur, he, hb, hh, hnc, hcm, hcs, ht⟩
  · cases he
  · injection he with ha _ hc
    injection ha with ha
    injection ha with ha _ _
    subst ha
    subst hc
    have hl : ds.toList.length = xs.length := hsz
    have hle : ds.size * d.sz ≤ cur.size := by rw [hcs, hsz]; exact Nat.mul_le_mul_right _ hnc
    refine ⟨hok, (flatK enc d.sz ds).toList, ⟨by simp, .inr ⟨g, c, _, by rw [hl], hb, heap_sortWorldK enc d.sz w g n ds os hh, by rw [hl]; exact hnc, hcm, by simp [putCells, hcs], ?_⟩⟩, reps_flatK enc d.sz hk hs0 (fun x => hM _ _ _ x) ds⟩
    rw [Array.length_toList]
    have := putCells_take (flatK enc d.sz ds) cur (by rw [size_flatK]; exact hle)
    rw [size_flatK] at this
    exact this
end
end Go.Proofs.YtijoaohckgbneaaGreatG
