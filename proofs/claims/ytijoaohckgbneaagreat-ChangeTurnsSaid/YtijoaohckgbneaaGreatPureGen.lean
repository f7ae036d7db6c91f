/- c15, plain: lists sorted by their numbers: what a run of deletions and insertions leaves. -/
import Derived.Test.YtijoaohckgbneaaGreatGMap
namespace Go.Proofs.YtijoaohckgbneaaGreat.Pure
open Go.Proofs.YtijoaohckgbneaaGreatG
set_option linter.unusedVariables false
set_option linter.unusedSimpArgs false
section
variable {α : Type} {id : α → Int}
def foldDel (id : α → Int) (ds l : List α) : List α := ds.foldl (fun l x => l.filter (fun y => id y != id x)) l
def foldIns (id : α → Int) (xs l : List α) : List α := xs.foldl (fun l x => ins id x l) l
theorem mem_foldDel {y : α} : ∀ {ds l : List α}, y ∈ foldDel id ds l ↔ y ∈ l ∧ ∀ x ∈ ds, id y ≠ id x
  | [], l => by simp [foldDel]
  | x :: ds, l => by
    show y ∈ foldDel id ds (l.filter (fun y => id y != id x)) ↔ _
    rw [mem_foldDel (ds := ds), List.mem_filter]
    simp only [bne_iff_ne, ne_eq, List.forall_mem_cons]
    exact ⟨fun ⟨⟨h1, h2⟩, h3⟩ => ⟨h1, h2, h3⟩, fun ⟨h1, h2, h3⟩ => ⟨⟨h1, h2⟩, h3⟩⟩
theorem rising_foldDel : ∀ {ds l : List α}, Rising id l → Rising id (foldDel id ds l)
  | [], l, h => h
  | x :: ds, l, h => rising_foldDel (ds := ds) (h.filter _)
theorem mem_foldIns {y : α} : ∀ {xs l : List α}, xs.Pairwise (fun x y => id x ≠ id y) → (y ∈ foldIns id xs l ↔ y ∈ xs ∨ y ∈ l ∧ ∀ x ∈ xs, id y ≠ id x)
  | [], l, _ => by simp [foldIns]
  | x :: xs, l, h => by
    obtain ⟨h1, h2⟩ := List.pairwise_cons.1 h
    show y ∈ foldIns id xs (ins id x l) ↔ _
    rw [mem_foldIns h2, mem_ins]
    simp only [List.mem_cons, List.forall_mem_cons, or_imp, forall_and, forall_eq]
    constructor
    · rintro (hy | ⟨rfl | ⟨hy, hne⟩, hall⟩)
      · exact .inl (.inr hy)
      · exact .inl (.inl rfl)
      · exact .inr ⟨hy, hne, hall⟩
    · rintro ((rfl | hy) | ⟨hy, hne, hall⟩)
      · exact .inr ⟨.inl rfl, fun z hz => h1 z hz⟩
      · exact .inl hy
      · exact .inr ⟨.inr ⟨hy, hne⟩, hall⟩
theorem rising_foldIns : ∀ {xs l : List α}, Rising id l → Rising id (foldIns id xs l)
  | [], l, h => h
  | x :: xs, l, h => rising_foldIns (xs := xs) (rising_ins h x)
theorem rising_ext {l m : List α} (hl : Rising id l) (hm : Rising id m) (h : ∀ y, y ∈ l ↔ y ∈ m) : l = m := by
  have nl : l.Nodup := hl.imp (fun hlt e => by rw [e] at hlt; omega)
  have nm : m.Nodup := hm.imp (fun hlt e => by rw [e] at hlt; omega)
  exact ((List.perm_ext_iff_of_nodup nl nm).2 h).eq_of_pairwise (le := fun x y => id x < id y) (fun a b _ _ h1 h2 => by omega) hl hm
def gone (id : α → Int) (a b : List α) : List α := a.filter (fun x => !(b.any (fun y => id y == id x)))
def came (eq : α → α → Bool) (a b : List α) : List α := b.filter (fun x => !(a.any (fun y => eq y x)))
theorem mem_gone {a b : List α} {x : α} : x ∈ gone id a b ↔ x ∈ a ∧ ∀ y ∈ b, id y ≠ id x := by
  unfold gone
  rw [List.mem_filter]
  simp
theorem mem_came {eq : α → α → Bool} (he : ∀ x y, eq x y = true ↔ x = y) {a b : List α} {x : α} : x ∈ came eq a b ↔ x ∈ b ∧ x ∉ a := by
  unfold came
  rw [List.mem_filter]
  simp only [Bool.not_eq_true', List.any_eq_false, and_congr_right_iff]
  intro _
  constructor
  · intro h hx
    exact h x hx ((he x x).2 rfl)
  · intro h y hy hxy
    exact h ((he y x).1 hxy ▸ hy)
theorem turned {eq : α → α → Bool} (he : ∀ x y, eq x y = true ↔ x = y) {a b : List α} (ha : Rising id a) (hb : Rising id b) : foldIns id (came eq a b) (foldDel id (gone id a b) a) = b := by
  have hpw : (came eq a b).Pairwise (fun x y => id x ≠ id y) := (hb.filter _).imp (fun h e => by omega)
  refine rising_ext (rising_foldIns (rising_foldDel ha)) hb fun y => ?_
  rw [mem_foldIns hpw, mem_foldDel, mem_came he]
  constructor
  · rintro (⟨h, _⟩ | ⟨⟨h1, h2⟩, h3⟩)
    · exact h
    · by_cases hz : ∀ z ∈ b, id z ≠ id y
      · exact absurd rfl (h2 y (mem_gone.2 ⟨h1, hz⟩))
      · have : ∃ z, z ∈ b ∧ id z = id y := by
          refine Classical.byContradiction fun hn => hz fun z hz2 e => hn ⟨z, hz2, e⟩
        obtain ⟨z, hzb, hzy⟩ := this
        by_cases hza : z ∈ a
        · rw [rising_one ha y h1 z hza hzy.symm]; exact hzb
        · exact absurd hzy.symm (h3 z ((mem_came he).2 ⟨hzb, hza⟩))
  · intro hy
    by_cases hya : y ∈ a
    · refine .inr ⟨⟨hya, fun x hx e => ?_⟩, fun x hx e => ?_⟩
      · exact (mem_gone.1 hx).2 y hy e
      · have h := (mem_came he).1 hx
        rw [rising_one hb y hy x h.1 e] at hya
        exact h.2 hya
    · exact .inl ⟨hy, hya⟩
def Dif (id : α → Int) (a b : List α) (i : Int) : Prop := ∃ x, id x = i ∧ ((x ∈ a ∧ x ∉ b) ∨ (x ∈ b ∧ x ∉ a))
theorem dif_symm {a b : List α} {i : Int} : Dif id a b i ↔ Dif id b a i := ⟨fun ⟨x, e, h⟩ => ⟨x, e, h.symm⟩, fun ⟨x, e, h⟩ => ⟨x, e, h.symm⟩⟩
theorem dif_iff {eq : α → α → Bool} (he : ∀ x y, eq x y = true ↔ x = y) {a b : List α} (ha : Rising id a) (hb : Rising id b) {i : Int} : (∃ x ∈ gone id a b, id x = i) ∨ (∃ x ∈ came eq a b, id x = i) ↔ Dif id a b i := by
  constructor
  · rintro (⟨x, hx, e⟩ | ⟨x, hx, e⟩)
    · obtain ⟨h1, h2⟩ := mem_gone.1 hx
      exact ⟨x, e, .inl ⟨h1, fun h => h2 x h rfl⟩⟩
    · exact ⟨x, e, .inr ((mem_came he).1 hx)⟩
  · rintro ⟨x, e, ⟨h1, h2⟩ | h⟩
    · by_cases hz : ∀ z ∈ b, id z ≠ id x
      · exact .inl ⟨x, mem_gone.2 ⟨h1, hz⟩, e⟩
      · have : ∃ z, z ∈ b ∧ id z = id x := by
          refine Classical.byContradiction fun hn => hz fun z hz2 e => hn ⟨z, hz2, e⟩
        obtain ⟨z, hzb, hzx⟩ := this
        refine .inr ⟨z, (mem_came he).2 ⟨hzb, fun hza => ?_⟩, by omega⟩
        rw [rising_one ha z hza x h1 hzx] at hzb
        exact h2 hzb
    · exact .inr ⟨x, (mem_came he).2 h, e⟩
theorem dif_has {a b : List α} {i : Int} (h : Dif id a b i) : i ∈ a.map id ∨ i ∈ b.map id := by
  obtain ⟨x, e, h | h⟩ := h
  · exact .inl (List.mem_map.2 ⟨x, h.1, e⟩)
  · exact .inr (List.mem_map.2 ⟨x, h.1, e⟩)
theorem gone_self {a : List α} : gone id a a = [] := by
  unfold gone
  rw [List.filter_eq_nil_iff]
  intro x hx
  simp only [Bool.not_eq_true', Bool.not_eq_false, List.any_eq_true, beq_iff_eq]
  exact ⟨x, hx, rfl⟩
theorem came_self {eq : α → α → Bool} (he : ∀ x y, eq x y = true ↔ x = y) {a : List α} : came eq a a = [] := by
  unfold came
  rw [List.filter_eq_nil_iff]
  intro x hx
  simp only [Bool.not_eq_true', Bool.not_eq_false, List.any_eq_true]
  exact ⟨x, hx, (he x x).2 rfl⟩
theorem gone_came {eq : α → α → Bool} {a b : List α} {x y : α} (hx : x ∈ gone id a b) (hy : y ∈ came eq a b) : id x ≠ id y := fun e => (mem_gone.1 hx).2 y (List.mem_filter.1 hy).1 e.symm
end
end Go.Proofs.YtijoaohckgbneaaGreat.Pure
