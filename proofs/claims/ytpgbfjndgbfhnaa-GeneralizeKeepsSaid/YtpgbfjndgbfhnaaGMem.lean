/- The built-in copy onto a row of the call's own, element by element, for elements of any number of cells: a law for the walk. -/
import Derived.Test.YtpgbfjndgbfhnaaWWords
import Derived.Laws.CopyOwn
import Derived.Laws.CopyRow
import Derived.Laws.IdiomCopy
import Derived.Tactics
namespace Go.Proofs.YtpgbfjndgbfhnaaG
open Go.RowKit Go.Proofs.YtpgbfjndgbfhnaaW.PrintWords
set_option linter.unusedVariables false
set_option linter.unusedSimpArgs false
theorem bytesLess_irrefl : ∀ x : List UInt8, Op.bytesLess x x = false
  | [] => rfl
  | a :: x => by simp [Op.bytesLess, bytesLess_irrefl x, UInt8.lt_irrefl]
theorem bytesLess_trans : ∀ x y z : List UInt8, Op.bytesLess x y = true → Op.bytesLess y z = true → Op.bytesLess x z = true
  | [], _, [], _, h => by simp [Op.bytesLess] at h
  | [], _, _ :: _, _, _ => rfl
  | a :: x, [], _, h, _ => by simp [Op.bytesLess] at h
  | a :: x, b :: y, [], _, h => by simp [Op.bytesLess] at h
  | a :: x, b :: y, c :: z, h1, h2 => by
    simp only [Op.bytesLess, Bool.or_eq_true, decide_eq_true_eq, Bool.and_eq_true, beq_iff_eq] at *
    rcases h1 with h1 | ⟨rfl, h1⟩
    · rcases h2 with h2 | ⟨rfl, h2⟩
      · exact .inl (UInt8.lt_trans h1 h2)
      · exact .inl h1
    · rcases h2 with h2 | ⟨rfl, h2⟩
      · exact .inl h2
      · exact .inr ⟨rfl, bytesLess_trans x y z h1 h2⟩
theorem bytesLess_total : ∀ x y : List UInt8, Op.bytesLess x y = false → Op.bytesLess y x = false → x = y
  | [], [], _, _ => rfl
  | [], _ :: _, h, _ => by simp [Op.bytesLess] at h
  | _ :: _, [], _, h => by simp [Op.bytesLess] at h
  | a :: x, b :: y, h1, h2 => by
    simp only [Op.bytesLess, Bool.or_eq_false_iff, decide_eq_false_iff_not, Bool.and_eq_false_iff, beq_eq_false_iff_ne] at h1 h2
    have hab : a = b := UInt8.le_antisymm (UInt8.not_lt.mp h2.1) (UInt8.not_lt.mp h1.1)
    subst hab
    have e1 : Op.bytesLess x y = false := by rcases h1.2 with h | h; exact absurd rfl h; exact h
    have e2 : Op.bytesLess y x = false := by rcases h2.2 with h | h; exact absurd rfl h; exact h
    rw [bytesLess_total x y e1 e2]
theorem bytesLess_le (a b : List UInt8) : (Op.bytesLess a b || a == b) = !(Op.bytesLess b a) := by
  cases h : Op.bytesLess b a with
  | true =>
    cases h1 : Op.bytesLess a b with
    | true => exact absurd (bytesLess_trans _ _ _ h h1) (by rw [bytesLess_irrefl]; exact Bool.false_ne_true)
    | false =>
      have : (a == b) = false := beq_eq_false_iff_ne.mpr (fun e => by rw [e, bytesLess_irrefl] at h; cases h)
      rw [this]; rfl
  | false =>
    cases h1 : Op.bytesLess a b with
    | true => rfl
    | false =>
      have : (a == b) = true := beq_iff_eq.mpr (bytesLess_total _ _ h1 h)
      rw [this]; rfl
@[go_sem] theorem binOp_string_leq_g (t : TypeId) (a b : ByteArray) : binOp .leq t (.string a) (.string b) = pure (.bool !(Op.bytesLess b.toList a.toList)) := by
  rw [← bytesLess_le]
  simp [binOp, Op.stringOp]
@[go_sem] theorem binOp_string_gtr_g (t : TypeId) (a b : ByteArray) : binOp .gtr t (.string a) (.string b) = pure (.bool (Op.bytesLess b.toList a.toList)) := by
  have := bytesLess_le a.toList b.toList
  rw [← Bool.not_not (Op.bytesLess b.toList a.toList), ← this]
  simp [binOp, Op.stringOp]
@[go_sem] theorem binOp_string_geq_g (t : TypeId) (a b : ByteArray) : binOp .geq t (.string a) (.string b) = pure (.bool !(Op.bytesLess a.toList b.toList)) := by simp [binOp, Op.stringOp]
theorem run_copy_k (P : Program) (w : World) (dT sT ty elem : TypeId) (k g o dLen dCap : Nat) (a : Addr) (sLen sCap n : Nat) (cur : Array Value) (t : TypeId) (cs : List Value)
    (hu : P.underlying dT = some (.slice elem)) (hs : (P.info? elem).map (·.size) = some k)
    (hg : w.heap[g]? = some (.cells cur t (0, 0))) (hn : n = Nat.min sLen dLen) (hcs : cs.length = n * k)
    (hsrc : ∀ j v, cs[j]? = some v → w.cell? (a.add j) = some v) (hfit : o + cs.length ≤ cur.size) (h1 : ∀ v ∈ cs, v.oneCell' = true) :
    (Builtin.copy_ #[dT, sT] ty #[.slice (some ⟨g, o, none⟩) dLen dCap, .slice (some a) sLen sCap]).run P w =
      .ok (goInt n) (w.setRow g (cur.toList.take o ++ cs ++ cur.toList.drop (o + cs.length)).toArray) := by
  have hl := run_loadCells_list (P := P) w a cs hsrc
  have hst := run_storeCells_at P g o t cs 0 cur w hg (by simpa using hfit) h1
  cases hq : P.info? elem with
  | none => simp [hq] at hs
  | some i =>
    have hi : i.size = k := by simpa [hq] using hs
    rw [hcs] at hl
    simp [Builtin.copy_, run_underlying hu, Builtin.lenOf, Builtin.firstCells, sizeOf, typeInfo, hq, hi, ← hn, hl, hst]
theorem run_copy_zero (P : Program) (w : World) (dT sT ty elem : TypeId) (k : Nat) (d a : Option Addr) (dLen dCap sLen sCap : Nat) (hu : P.underlying dT = some (.slice elem)) (hs : (P.info? elem).map (·.size) = some k) (hn : Nat.min sLen dLen = 0) :
    (Builtin.copy_ #[dT, sT] ty #[.slice d dLen dCap, .slice a sLen sCap]).run P w = .ok (goInt 0) w := by
  cases hq : P.info? elem with
  | none => simp [hq] at hs
  | some i =>
    have hl : ∀ (x : Addr), (loadCells x 0).run P w = .ok #[] w := fun x => by simpa using run_loadCells_list (P := P) w x [] (by simp)
    cases d <;> cases a <;> simp [Builtin.copy_, run_underlying hu, Builtin.lenOf, Builtin.firstCells, sizeOf, typeInfo, hq, hn, storeCells, hl]
theorem take_seg (l cs : List Value) (o m : Nat) (h : o + cs.length ≤ m) (hm : m ≤ l.length) :
    (l.take o ++ cs ++ l.drop (o + cs.length)).take m = (l.take m).take o ++ (cs ++ (l.take m).drop (o + cs.length)) := by
  have hX : (l.take o ++ cs).length = o + cs.length := by rw [List.length_append, List.length_take, Nat.min_eq_left (by omega)]
  rw [List.take_append, List.take_of_length_le (by omega), hX, List.take_take, Nat.min_eq_left (by omega), List.drop_take, List.append_assoc]
section
variable {P : Program} {ops : Array Oper} {rest : List Oper} {o : Oper} {a : Act} {Q : Exit → Act → World → Prop} {α : Type}
theorem R_copy_run (d : Kd α) {Rr : α → List Value → Prop} {W : World} (base : Nat) (ty dT sT e : TypeId) (hu : P.underlying dT = some (.slice e)) (hinfo : (P.info? e).map (·.size) = some d.sz) (hs0 : 0 < d.sz)
    (v : Value) (xs ys : List α) (off n : Nat) (dp sp : Option Addr) (dLen dCap sLen sCap : Nat) (ok okp : Nat → Prop)
    (HO : d.R e W base ok v xs) (HR : ReadsRow Rr d.sz W sp sLen ys) (hKM : ∀ x cs, Rr x cs → d.M W base okp x cs) (hokp : ∀ k, okp k → ok k ∧ some k ≠ v.ownBlock)
    (hn : n = Nat.min sLen dLen) (hfit : off + n ≤ xs.length) (hpos : 0 < n → ∃ g, dp = some ⟨g, off * d.sz, none⟩ ∧ v.ownBlock = some g) :
    ∃ w1, (Builtin.copy_ #[dT, sT] ty #[.slice dp dLen dCap, .slice sp sLen sCap]).run P W = .ok (goInt n) w1 ∧ d.R e w1 base ok v (xs.take off ++ (ys.take n ++ xs.drop (off + n))) ∧ W.grownBy w1 v.ownBlock := by
  rcases Nat.eq_zero_or_pos n with h0 | h0
  · subst h0
    refine ⟨W, run_copy_zero P W dT sT ty e d.sz dp sp dLen dCap sLen sCap hu hinfo hn.symm, ?_, World.grownBy.refl W _⟩
    rw [List.take_zero, List.nil_append, Nat.add_zero, List.take_append_drop]
    exact HO
  · obtain ⟨g, rfl, hgv⟩ := hpos h0
    have hns : n ≤ sLen := by rw [hn]; exact Nat.min_le_left _ _
    have hys := HR.1
    obtain ⟨ad, hsp, _⟩ := HR.2.2 (by omega)
    subst hsp
    obtain ⟨news, hnr, hnc⟩ := ReadsRow.inner_ HR
    obtain ⟨hok, inner, hown, hr⟩ := HO
    obtain ⟨hil, hrow⟩ := hown
    rcases hrow with ⟨rfl, hx0⟩ | ⟨g', cap, cur, rfl, hbg, hh, hnc', hcm, hcs, ht⟩
    · simp [Value.ownBlock] at hgv
    · have hgg : g' = g := by simpa [Value.ownBlock] using hgv
      subst hgg
      have hnM : Reps (d.M W base okp) d.sz (ys.take n) (news.take (n * d.sz)) := Kd.reps_take (hnr.imp_ (fun p c hp => hKM p c hp)) (by omega)
      have hcl : (news.take (n * d.sz)).length = n * d.sz := by rw [hnM.1, List.length_take, Nat.min_eq_left (by omega)]
      have hone : ∀ u ∈ news.take (n * d.sz), u.oneCell' = true := by
        intro u hu'
        obtain ⟨q, hq, rfl⟩ := List.mem_iff_getElem.1 hu'
        have hql : q / d.sz < (ys.take n).length := by
          rw [Nat.div_lt_iff_lt_mul hs0, ← hnM.1]
          exact hq
        have hc := hnM.2 (q / d.sz) _ (List.getElem?_eq_getElem hql)
        refine d.K_one (d.K_of_M hc) _ ?_
        rw [List.mem_iff_getElem?]
        refine ⟨q % d.sz, ?_⟩
        have hm_ : q / d.sz * d.sz + q % d.sz = q := by rw [Nat.mul_comm]; exact Nat.div_add_mod _ _
        rw [List.getElem?_take, if_pos (Nat.mod_lt _ hs0), List.getElem?_drop, hm_, List.getElem?_eq_getElem hq]
      have hle : off * d.sz + n * d.sz ≤ xs.length * d.sz := by rw [← Nat.add_mul]; exact Nat.mul_le_mul_right _ hfit
      have hle2 : xs.length * d.sz ≤ cap * d.sz := Nat.mul_le_mul_right _ hnc'
      have hrun := run_copy_k P W dT sT ty e d.sz g' (off * d.sz) dLen dCap ad sLen sCap n cur e (news.take (n * d.sz)) hu hinfo hh hn hcl
        (fun j u hj => hnc j u (by
          rw [List.getElem?_take] at hj
          split at hj
          · exact hj
          · cases hj)) (by rw [hcl, hcs]; omega) hone
      have hg1 : W.grownBy (W.setRow g' (cur.toList.take (off * d.sz) ++ news.take (n * d.sz) ++ cur.toList.drop (off * d.sz + (news.take (n * d.sz)).length)).toArray) (some g') :=
        ⟨rfl, rfl, rfl, by simp [World.setRow], fun k hk hne => setRow_other W g' k _ (fun he => hne (by rw [he]))⟩
      have hxl : (xs.take off ++ (ys.take n ++ xs.drop (off + n))).length = xs.length := by
        rw [List.length_append, List.length_append, List.length_take, List.length_take, List.length_drop, Nat.min_eq_left (by omega), Nat.min_eq_left (by omega)]
        omega
      refine ⟨_, hrun, ⟨hok, inner.take (off * d.sz) ++ (news.take (n * d.sz) ++ inner.drop ((off + n) * d.sz)), ⟨?_, .inr ⟨g', cap, _, by rw [hxl], hbg, setRow_heap W g' cur _ e _ hh, ?_, hcm, ?_, ?_⟩⟩, ?_⟩, hg1⟩
      · rw [hxl, List.length_append, List.length_append, List.length_take, hcl, List.length_drop, hil, Nat.min_eq_left (by omega), Nat.add_mul]
        omega
      · rw [hxl]
        exact hnc'
      · rw [List.size_toArray, List.length_append, List.length_append, List.length_take, List.length_drop, hcl, Array.length_toList, hcs, Nat.min_eq_left (by omega)]
        omega
      · have hxl : (xs.take off ++ (ys.take n ++ xs.drop (off + n))).length = xs.length := by
          rw [List.length_append, List.length_append, List.length_take, List.length_take, List.length_drop, Nat.min_eq_left (by omega), Nat.min_eq_left (by omega)]
          omega
        rw [hxl, List.toList_toArray, take_seg _ _ _ _ (by rw [hcl]; exact hle) (show xs.length * d.sz ≤ cur.size by rw [hcs]; exact hle2), ht, hcl, Nat.add_mul]
      · have mv : ∀ k, (ok k ∧ some k ≠ (Value.slice (some ⟨g', 0, none⟩) xs.length cap).ownBlock) → (W.setRow g' (cur.toList.take (off * d.sz) ++ news.take (n * d.sz) ++ cur.toList.drop (off * d.sz + (news.take (n * d.sz)).length)).toArray).heap[k]? = W.heap[k]? :=
          fun k hk => setRow_other W g' k _ (fun he => hk.2 (by rw [he]; simp [Value.ownBlock]))
        have h1 := Kd.reps_append (Kd.reps_take (m := off) hr (by omega)) (Kd.reps_append (hnM.imp_ (fun p c hp => d.M_mono (fun k hk => hokp k hk) hp)) (Kd.reps_drop (m := off + n) hr))
        have h2 := h1.imp_ (R' := d.M (W.setRow g' (cur.toList.take (off * d.sz) ++ news.take (n * d.sz) ++ cur.toList.drop (off * d.sz + (news.take (n * d.sz)).length)).toArray) base (fun k => ok k ∧ some k ≠ (Value.slice (some ⟨g', 0, none⟩) xs.length cap).ownBlock)) (fun p c hp => d.M_move mv hp)
        exact h2
theorem R_head {d : Kd α} {e : Nat} {w : World} {base : Nat} {ok : Nat → Prop} {A : Option Addr} {n c : Nat} {xs : List α} (h : d.R e w base ok (.slice A n c) xs) (hp : 0 < xs.length) : ∃ g, A = some ⟨g, 0, none⟩ := by
  obtain ⟨_, inner, ⟨_, h2⟩, _⟩ := h
  rcases h2 with ⟨_, h0⟩ | ⟨g, cap, cur, he, _⟩
  · omega
  · injection he with ha _ _
    exact ⟨g, ha⟩
end
end Go.Proofs.YtpgbfjndgbfhnaaG
