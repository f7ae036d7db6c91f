/- Maps from numbers to structs, told as the list of the elements that they hold: the kit's word 'ownsMap' with an element read as itself, and what its cells say by a kind. -/
import Derived.Test.YtijoaohckgbneaaGreatGMem
import Derived.Test.YtijoaohckgbneaaGreatWMore
import Derived.Maps.RangeWalk
namespace Go.Proofs.YtijoaohckgbneaaGreatG
open Go.RowKit Go.Proofs.YtijoaohckgbneaaGreatW.PrintWords
open Go.Maps (Keyed)
set_option linter.unusedVariables false
set_option linter.unusedSimpArgs false
def heldR (v : Value) : Option (DataW Value × List MemPlace) := some (.held v, [])
section
variable {P : Program} {α : Type} {d : Kd α} {id : α → Int} {w w' : World} {M n : Nat} {ok : Nat → Prop} {l : List α}
def EntryOf (d : Kd α) (id : α → Int) (w : World) (ok : Nat → Prop) (D : DataW Value) (x : α) : Prop :=
  ∃ cs : List Value, (∀ z, D.atKey (.int .i64 (id x)) z = .held (.agg cs.toArray)) ∧ Kd.FK d w ok x cs
def HasMap (P : Program) (d : Kd α) (id : α → Int) (w : World) (M n : Nat) (ok : Nat → Prop) (l : List α) : Prop :=
  ∃ D : DataW Value, w.ownsMap P 3 heldR M n D ∧ (∀ a, Maps.has D (.int .i64 a) = true ↔ ∃ x ∈ l, id x = a) ∧ ∀ x ∈ l, EntryOf d id w ok D x
theorem HasMap.lt (h : HasMap P d id w M n ok l) : M < w.heap.size := by
  obtain ⟨D, h, _⟩ := h
  exact h.lt
theorem HasMap.mono {n' : Nat} (h : HasMap P d id w M n ok l) (hn : n ≤ n') : HasMap P d id w M n' ok l := by
  obtain ⟨D, h, h1, h2⟩ := h
  exact ⟨D, h.mono hn, h1, h2⟩
theorem HasMap.wide {ok' : Nat → Prop} (h : HasMap P d id w M n ok l) (hk : ∀ k, ok k → ok' k) : HasMap P d id w M n ok' l := by
  obtain ⟨D, h, h1, h2⟩ := h
  refine ⟨D, h, h1, fun x hx => ?_⟩
  obtain ⟨cs, ha, hf⟩ := h2 x hx
  exact ⟨cs, ha, Kd.FK_mono hf hk⟩
theorem HasMap.grown (h : HasMap P d id w M n ok l) {row : Option Nat} (hg : w.grownBy w' row) (hne : some M ≠ row) (hok : ∀ k, ok k → some k ≠ row) : HasMap P d id w' M n ok l := by
  obtain ⟨D, h, h1, h2⟩ := h
  refine ⟨D, h.kept hg hne, h1, fun x hx => ?_⟩
  obtain ⟨cs, ha, hf⟩ := h2 x hx
  exact ⟨cs, ha, Kd.FK_grown hf hg hok⟩
theorem HasMap.below (h : HasMap P d id w M n ok l) (hb : Below w.heap.size w w') : HasMap P d id w' M n ok l :=
  h.grown (row := none) ⟨hb.os, hb.tape, hb.output, hb.size, fun i hi _ => hb.block i hi⟩ (by simp) (by simp)
theorem HasMap.alloc (h : HasMap P d id w M n ok l) (o : Obj) : HasMap P d id (w.alloc o) M n ok l := h.below (below_alloc (Below.refl _ _) o)
theorem HasMap.made (P : Program) (d : Kd α) (id : α → Int) (w : World) (ok : Nat → Prop) : HasMap P d id (w.alloc (.map #[] 0)) w.heap.size 0 ok [] :=
  ⟨_, World.ownsMap_made _ _ _ _, fun a => by simp [Maps.has], fun x hx => by simp at hx⟩
def ins (id : α → Int) (x : α) (l : List α) : List α := l.filter (fun y => decide (id y < id x)) ++ x :: l.filter (fun y => decide (id x < id y))
theorem mem_ins {x y : α} : y ∈ ins id x l ↔ y = x ∨ y ∈ l ∧ id y ≠ id x := by
  unfold ins
  simp only [List.mem_append, List.mem_cons, List.mem_filter, decide_eq_true_eq]
  constructor
  · rintro (⟨h, h1⟩ | rfl | ⟨h, h1⟩)
    · exact .inr ⟨h, by omega⟩
    · exact .inl rfl
    · exact .inr ⟨h, by omega⟩
  · rintro (rfl | ⟨h, h1⟩)
    · exact .inr (.inl rfl)
    · rcases Int.lt_or_gt_of_ne h1 with h2 | h2
      · exact .inl ⟨h, h2⟩
      · exact .inr (.inr ⟨h, h2⟩)
theorem ne_lit {a b : Int} (h : a ≠ b) : Lit.int .i64 a ≠ Lit.int .i64 b := fun e => h (Lit.int.inj e).2
theorem HasMap.put (h : HasMap P d id w M n ok l) (K : Keyed P 3) {t e : TypeId} (h3 : P.underlying 3 = some (.int .i64)) (ht : P.underlying t = some (.map 3 e)) (hn : n < maxLen) {x : α} {cs : List Value} (hx : (Lit.int .i64 (id x)).wf = true) (hf : Kd.FK d w ok x cs) (hM : ∀ k, ok k → k ≠ M) :
    ∃ w', (Instr.mapUpdate t (.map (some M)) (.int .i64 (id x)) (.agg cs.toArray)).run P w = .ok () w' ∧ HasMap P d id w' M (n + 1) ok (ins id x l) ∧ w.grownBy w' (some M) := by
  obtain ⟨D, h, h1, h2⟩ := h
  have hkey := Maps.keyOf_int_mk h3 hx
  have hD := h.isMap
  obtain ⟨w', hrun, ho, hg⟩ := h.update K ht hn hkey (R := heldR) (d := .held (.agg cs.toArray)) (ps := []) rfl
  refine ⟨w', hrun, ⟨_, ho, fun a => ?_, fun y hy => ?_⟩, hg⟩
  · by_cases e : a = id x
    · subst e
      rw [Maps.has_put_same hD (K.key hkey)]
      exact ⟨fun _ => ⟨x, mem_ins.2 (.inl rfl), rfl⟩, fun _ => rfl⟩
    · rw [Maps.has_put_other (ne_lit e), h1 a]
      constructor
      · rintro ⟨y, hy, rfl⟩
        exact ⟨y, mem_ins.2 (.inr ⟨hy, e⟩), rfl⟩
      · rintro ⟨y, hy, rfl⟩
        rcases mem_ins.1 hy with rfl | ⟨hy, _⟩
        · exact absurd rfl e
        · exact ⟨y, hy, rfl⟩
  · have hok : ∀ k, ok k → some k ≠ some M := fun k hk he => hM k hk (Option.some.inj he)
    rcases mem_ins.1 hy with rfl | ⟨hy, hne⟩
    · exact ⟨cs, fun z => Maps.atKey_put_same hD (K.key hkey) _ z, Kd.FK_grown hf hg hok⟩
    · obtain ⟨cs', ha, hf'⟩ := h2 y hy
      exact ⟨cs', fun z => by rw [Maps.atKey_put_other (ne_lit hne), ha z], Kd.FK_grown hf' hg hok⟩
theorem HasMap.look (h : HasMap P d id w M n ok l) (K : Keyed P 3) {t e : TypeId} (h3 : P.underlying 3 = some (.int .i64)) (ht : P.underlying t = some (.map 3 e)) {zs : List Value} (hz : (zeroValue e).run P w = .ok (.agg zs.toArray) w) {a : Int} (ha : (Lit.int .i64 a).wf = true) :
    ∃ cs : List Value, (Instr.lookup t (.map (some M)) (.int .i64 a) true).run P w = .ok (.tuple #[.agg cs.toArray, .bool (l.any (fun x => id x == a))]) w ∧ ((∀ x ∈ l, id x ≠ a) ∧ cs = zs ∨ ∃ x ∈ l, id x = a ∧ Kd.FK d w ok x cs) := by
  obtain ⟨D, h, h1, h2⟩ := h
  obtain ⟨v, ps, hrun, hv⟩ := h.look_ok K ht hz (zd := .held (.agg zs.toArray)) (zp := []) rfl (Maps.keyOf_int_mk h3 ha)
  have hv1 : DataW.held v = D.atKey (.int .i64 a) (.held (.agg zs.toArray)) := (Prod.mk.inj (Option.some.inj hv)).1
  have hb : Maps.has D (.int .i64 a) = l.any (fun x => id x == a) := by
    rw [Bool.eq_iff_iff, h1 a]
    simp
  rw [hb] at hrun
  by_cases he : ∃ x ∈ l, id x = a
  · obtain ⟨x, hx, rfl⟩ := he
    obtain ⟨cs, hat, hf⟩ := h2 x hx
    rw [hat] at hv1
    obtain rfl := DataW.held.inj hv1
    exact ⟨cs, hrun, .inr ⟨x, hx, rfl, hf⟩⟩
  · rw [Maps.atKey_of_not_has (by rw [← Bool.not_eq_true, h1 a]; exact he)] at hv1
    obtain rfl := DataW.held.inj hv1
    exact ⟨zs, hrun, .inl ⟨fun x hx e => he ⟨x, hx, e⟩, rfl⟩⟩
theorem HasMap.drop (h : HasMap P d id w M n ok l) (K : Keyed P 3) {t e : TypeId} (h3 : P.underlying 3 = some (.int .i64)) (ht : P.underlying t = some (.map 3 e)) {a : Int} (ha : (Lit.int .i64 a).wf = true) (hM : ∀ k, ok k → k ≠ M) (ty : TypeId) :
    ∃ w', (Builtin.delete_ #[t, 3] ty #[.map (some M), .int .i64 a]).run P w = .ok (.tuple #[]) w' ∧ HasMap P d id w' M n ok (l.filter (fun x => id x != a)) ∧ w.grownBy w' (some M) := by
  obtain ⟨D, h, h1, h2⟩ := h
  obtain ⟨w', hrun, ho, hg⟩ := h.drop K ht (Maps.keyOf_int_mk h3 ha) ty
  have hg := hg.grown
  refine ⟨w', hrun, ⟨_, ho, fun b => ?_, fun y hy => ?_⟩, hg⟩
  · by_cases e : b = a
    · subst e
      rw [Maps.has_del_same]
      simp
    · rw [Maps.has_del_other (ne_lit e), h1 b]
      constructor
      · rintro ⟨y, hy, rfl⟩
        exact ⟨y, List.mem_filter.2 ⟨hy, by simpa using e⟩, rfl⟩
      · rintro ⟨y, hy, rfl⟩
        exact ⟨y, (List.mem_filter.1 hy).1, rfl⟩
  · obtain ⟨hy, hne⟩ := List.mem_filter.1 hy
    obtain ⟨cs, ha', hf⟩ := h2 y hy
    exact ⟨cs, fun z => by rw [Maps.atKey_del_other (ne_lit (by simpa using hne)), ha' z], Kd.FK_grown hf hg (fun k hk he => hM k hk (Option.some.inj he))⟩
def InMap (P : Program) (d : Kd α) (id : α → Int) (w : World) (M r n : Nat) (ok : Nat → Prop) (l out : List α) (cnt : Nat) : Prop :=
  ∃ (D : DataW Value) (left : Lit → Bool), w.ranges P 3 heldR M r n D left cnt ∧ (∀ x ∈ l, EntryOf d id w ok D x) ∧
    (∀ a, left (.int .i64 a) = true ↔ (∃ x ∈ l, id x = a) ∧ ∀ y ∈ out, id y ≠ a) ∧ (∀ y ∈ out, y ∈ l) ∧ out.Pairwise (fun x y => id x ≠ id y)
theorem InMap.grown {r cnt : Nat} {out : List α} (h : InMap P d id w M r n ok l out cnt) {row : Option Nat} (hg : w.grownBy w' row) (hne : some M ≠ row) (hr : some r ≠ row) (hok : ∀ k, ok k → some k ≠ row) : InMap P d id w' M r n ok l out cnt := by
  obtain ⟨D, left, h, h2, h3⟩ := h
  refine ⟨D, left, h.kept hg hne hr, fun x hx => ?_, h3⟩
  obtain ⟨cs, ha, hf⟩ := h2 x hx
  exact ⟨cs, ha, Kd.FK_grown hf hg hok⟩
theorem InMap.below {r cnt : Nat} {out : List α} (h : InMap P d id w M r n ok l out cnt) (hb : Below w.heap.size w w') : InMap P d id w' M r n ok l out cnt :=
  h.grown (row := none) ⟨hb.os, hb.tape, hb.output, hb.size, fun i hi _ => hb.block i hi⟩ (by simp) (by simp) (by simp)
theorem InMap.lt {r cnt : Nat} {out : List α} (h : InMap P d id w M r n ok l out cnt) : M < w.heap.size ∧ r < w.heap.size := by
  obtain ⟨D, left, h, _⟩ := h
  exact ⟨h.owns.lt, h.lt⟩
theorem HasMap.range (h : HasMap P d id w M n ok l) (K : Keyed P 3) {t e : TypeId} (ht : P.underlying t = some (.map 3 e)) :
    ∃ w' cnt, (Instr.range t (.map (some M))).run P w = .ok (.pointer (some ⟨w.heap.size, 0, none⟩)) w' ∧ InMap P d id w' M w.heap.size n ok l [] cnt ∧ w.grownBy w' none ∧ w'.heap.size = w.heap.size + 1 := by
  obtain ⟨D, h, h1, h2⟩ := h
  obtain ⟨w', hrun, hrg, hg, hs⟩ := h.range K ht
  refine ⟨w', _, hrun, ⟨D, _, hrg, fun x hx => ?_, fun a => ?_, by simp, by simp⟩, hg, hs⟩
  · obtain ⟨cs, ha, hf⟩ := h2 x hx
    exact ⟨cs, ha, Kd.FK_grown hf hg (by simp)⟩
  · rw [h1 a]
    simp
theorem InMap.next {r cnt : Nat} {out : List α} (h : InMap P d id w M r n ok l out cnt) (K : Keyed P 3) (h3 : P.underlying 3 = some (.int .i64)) (hl : ∀ x ∈ l, ∀ y ∈ l, id x = id y → x = y) (hr : ∀ k, ok k → k ≠ r) (ty : TypeId) :
    ((Instr.next (.pointer (some ⟨r, 0, none⟩)) false ty).run P w = .ok (.tuple #[.bool false]) w ∧ ∀ x ∈ l, x ∈ out) ∨
    ∃ x cs w' cnt', x ∈ l ∧ Kd.FK d w' ok x cs ∧ (Instr.next (.pointer (some ⟨r, 0, none⟩)) false ty).run P w = .ok (.tuple #[.bool true, .int .i64 (id x), .agg cs.toArray]) w' ∧ InMap P d id w' M r n ok l (out ++ [x]) cnt' ∧ cnt' < cnt ∧ w.grownBy w' (some r) ∧ w'.heap.size = w.heap.size ∧
      (Instr.entry (.pointer (some ⟨r, 0, none⟩))).run P w' = .ok (.tuple #[.int .i64 (id x), .agg cs.toArray]) w' := by
  obtain ⟨D, left, h, h2, hlf, hsub, hpw⟩ := h
  rcases h.next K ty with ⟨h0, hno, hrun⟩ | ⟨key, v, kl, y, w', cnt', hkey, hlk, hv, hat, hrun, hrg, hlt, hgr, hsz, hen⟩
  · refine .inl ⟨hrun, fun x hx => ?_⟩
    have := hno (.int .i64 (id x))
    rw [← Bool.not_eq_true, hlf] at this
    by_cases he : ∃ y ∈ out, id y = id x
    · obtain ⟨y, hy, e⟩ := he
      rw [hl x hx y (hsub y hy) e.symm]
      exact hy
    · exact absurd ⟨⟨x, hx, rfl⟩, fun y hy e => he ⟨y, hy, e⟩⟩ this
  · obtain ⟨a, rfl, rfl, hwa⟩ := Maps.keyOf_int_inv h3 hkey
    obtain ⟨⟨x, hx, rfl⟩, hnew⟩ := (hlf a).1 hlk
    obtain ⟨cs, ha, hf⟩ := h2 x hx
    have e1 : DataW.held v = .held (.agg cs.toArray) := by
      have e2 := hat (.held v)
      rw [ha] at e2
      rw [e2]
      exact (Prod.mk.inj (show (DataW.held v, ([] : List MemPlace)) = (y.1, y.2) from Option.some.inj hv)).1
    obtain rfl := DataW.held.inj e1
    have hokr : ∀ k, ok k → some k ≠ some r := fun k hk he => hr k hk (Option.some.inj he)
    refine .inr ⟨x, cs, w', cnt', hx, Kd.FK_grown hf hgr hokr, hrun, ⟨D, _, hrg, fun y hy => ?_, fun b => ?_, fun y hy => ?_, ?_⟩, hlt, hgr, hsz, hen⟩
    · obtain ⟨cs', ha', hf'⟩ := h2 y hy
      exact ⟨cs', ha', Kd.FK_grown hf' hgr hokr⟩
    · show (left (.int .i64 b) && !(Lit.int .i64 b).sameKey (.int .i64 (id x))) = true ↔ _
      by_cases e : b = id x
      · subst e
        rw [WideAt.sameKey_self (K.key hkey)]
        simp
      · rw [Maps.sameKey_ne (ne_lit e)]
        simp only [Bool.not_false, Bool.and_true, hlf b, List.mem_append, List.mem_singleton]
        constructor
        · rintro ⟨h4, h5⟩
          refine ⟨h4, ?_⟩
          rintro y (hy | rfl)
          · exact h5 y hy
          · exact fun e2 => e e2.symm
        · rintro ⟨h4, h5⟩
          exact ⟨h4, fun y hy => h5 y (.inl hy)⟩
    · rcases List.mem_append.1 hy with hy | hy
      · exact hsub y hy
      · rw [List.mem_singleton.1 hy]
        exact hx
    · rw [List.pairwise_append]
      exact ⟨hpw, by simp, fun y hy z hz => by rw [List.mem_singleton.1 hz]; exact hnew y hy⟩
theorem InMap.has {r cnt : Nat} {out : List α} (h : InMap P d id w M r n ok l out cnt) : (∀ y ∈ out, y ∈ l) ∧ out.Pairwise (fun x y => id x ≠ id y) := by
  obtain ⟨D, left, _, _, _, h1, h2⟩ := h
  exact ⟨h1, h2⟩
end
section
variable {α : Type} {id : α → Int} {l : List α}
abbrev Rising (id : α → Int) (l : List α) : Prop := l.Pairwise (fun x y => id x < id y)
theorem rising_ins (h : Rising id l) (x : α) : Rising id (ins id x l) := by
  unfold ins
  refine List.pairwise_append.2 ⟨h.filter _, List.pairwise_cons.2 ⟨fun y hy => by simpa using (List.mem_filter.1 hy).2, h.filter _⟩, fun y hy z hz => ?_⟩
  have h1 : id y < id x := by simpa using (List.mem_filter.1 hy).2
  rcases List.mem_cons.1 hz with rfl | hz
  · exact h1
  · have h2 : id x < id z := by simpa using (List.mem_filter.1 hz).2
    omega
theorem ins_last {x : α} (h : ∀ y ∈ l, id y < id x) : ins id x l = l ++ [x] := by
  unfold ins
  rw [List.filter_eq_self.2 (fun y hy => by simpa using h y hy), List.filter_eq_nil_iff.2 (fun y hy => by have := h y hy; simp; omega)]
theorem rising_one (h : Rising id l) : ∀ x ∈ l, ∀ y ∈ l, id x = id y → x = y := by
  intro x hx y hy e
  obtain ⟨i, hi, rfl⟩ := List.getElem_of_mem hx
  obtain ⟨j, hj, rfl⟩ := List.getElem_of_mem hy
  rcases Nat.lt_trichotomy i j with h1 | rfl | h1
  · have := (List.pairwise_iff_getElem.1 h) i j hi hj h1
    omega
  · rfl
  · have := (List.pairwise_iff_getElem.1 h) j i hj hi h1
    omega
end
end Go.Proofs.YtijoaohckgbneaaGreatG
