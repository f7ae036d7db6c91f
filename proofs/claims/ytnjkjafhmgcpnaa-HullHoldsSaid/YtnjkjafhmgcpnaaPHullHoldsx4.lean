-- out of a driver of this session's prover over the kit's print: Lean checks it
import Derived.Test.YtnjkjafhmgcpnaaPHullHoldsx0
import Derived.Test.YtnjkjafhmgcpnaaPHullHoldsx2
import Derived.Test.YtnjkjafhmgcpnaaPHullHoldsx3
namespace Go.Proofs.Ytnjkjafhmgcpnaa.PHullHolds
open Go.Proofs.YtnjkjafhmgcpnaaG Go.Shelf Go.Lib
open Go.RowKit Go.Proofs.YtnjkjafhmgcpnaaW.PrintWords Go.Proofs.YtnjkjafhmgcpnaaW.PrintLast Go.Proofs.YtnjkjafhmgcpnaaW.PrintMore
attribute [local go_sem] max2_int min2_int max_two min_two max_three min_three max_four min_four   -- for this text's walks alone
set_option linter.unusedVariables false
set_option linter.unusedSimpArgs false


/-! ### hull_Of: function 9 -/

def ixOf {α : Type} (p : α → Bool) (l : List α) : Int := match l.findIdx? p with | some i => (i : Int) | none => -1
theorem ixOf_hit {α : Type} (p : α → Bool) (l : List α) (z : α) (k : Nat) (hk : k < l.length) (h : p (l.getD k z) = true) (hb : ∀ j, j < k → p (l.getD j z) = false) : ixOf p l = k := by
  have e : l.findIdx? p = some k := by
    rw [List.findIdx?_eq_some_iff_getElem]
    refine ⟨hk, ?_, fun j hj => ?_⟩
    · simpa [List.getD_eq_getElem?_getD, List.getElem?_eq_getElem hk] using h
    · have := hb j hj
      simpa [List.getD_eq_getElem?_getD, List.getElem?_eq_getElem (show j < l.length by omega)] using this
  unfold ixOf
  rw [e]
theorem ixOf_miss {α : Type} (p : α → Bool) (l : List α) (z : α) (hb : ∀ j, j < l.length → p (l.getD j z) = false) : ixOf p l = -1 := by
  have e : l.findIdx? p = none := by
    rw [List.findIdx?_eq_none_iff]
    intro x hx
    obtain ⟨j, hj, rfl⟩ := List.getElem_of_mem hx
    have := hb j hj
    simpa [List.getD_eq_getElem?_getD, List.getElem?_eq_getElem hj] using this
  unfold ixOf
  rw [e]

set_option maxHeartbeats 4000000 in
set_option maxRecDepth 100000 in
theorem ix30 (p : S28 → Bool) (g : Nat) (lb : Array Value) (eg : ∀ args w, (callFunc g args).run Try.prog w = .ok (.enter g args) w) (A0 : Option Addr) (c0 : Nat) (l0 : List S28) (w : World) (hr0 : Kd.C k28 w A0 l0.length l0)
    (hp : ∀ (W : World) (x : S28), Below w.heap.size w W → Calls Try.prog g (#[.agg #[.int .i64 x.f0, .int .i64 x.f1]] ++ lb) W fun e w' => e = .returned (.bool (p x)) ∧ Below w.heap.size w w') :
    Calls Try.prog 30 #[.slice A0 l0.length c0, .func (.func g) #[] lb] w fun e w' => e = .returned (.int .i64 (ixOf p l0)) ∧ Below w.heap.size w w' := by
  have hbig : l0.length ≤ 9223372036854775807 := hr0.2.1
  have HR0 := Aside0.mk hr0
  clear hr0
  have HP := Aside0.mk hp
  clear hp
  go_enter Try.func30, Try.ntmps30
  go_wp2
  go_loopg [5, 8] l0.length (fun gg _ s8 wr => ∃ kk : Int, 0 ≤ kk ∧ kk ≤ (l0.length : Int) ∧ (l0.length : Int) - kk ≤ gg ∧ s8 = .int .i64 kk ∧ Aside0 (Below w.heap.size w wr) ∧ Aside0 (∀ j : Nat, (j : Int) < kk → p (l0.getD j z28) = false))
  case atStart => exact ⟨0, by omega, by omega, by omega, rfl, ⟨Below.refl _ w⟩, ⟨fun j hj => absurd hj (by omega)⟩⟩
  case round =>
    obtain ⟨kk, hk0, hkk, hg, rfl, BW, AA⟩ := hrel
    by_cases hlt : kk < (l0.length : Int)
    · obtain ⟨ad, e0, hx0, hx1⟩ := at_T28 (Kd.C_below HR0.out BW.out) kk hk0 hlt
      cases e0
      have hcall := HP.out wr (rd_T28 l0 kk) BW.out
      have B := Aside0.mk (show rd_T28 l0 kk = l0.getD kk.toNat z28 from rfl)
      generalize rd_T28 l0 kk = y at hcall hx0 hx1 B
      cases hq : p y with
      | true =>
        rw [hq] at hcall
        have HQ := Aside0.mk hq
        clear hq
        go_wp2_with (go_at_fn g; refine hcall.mono ?_; rintro e w' ⟨rfl, hb'⟩)
        go_ret
        refine ⟨?_, hb'⟩
        rw [ixOf_hit p l0 z28 kk.toNat (by omega) (by rw [← B.out]; exact HQ.out) (fun j hj => AA.out j (by omega))]
        rw [Int.toNat_of_nonneg hk0]
        rfl
      | false =>
        rw [hq] at hcall
        have HQ := Aside0.mk hq
        clear hq
        go_wp2_with (go_at_fn g; refine hcall.mono ?_; rintro e w' ⟨rfl, hb'⟩)
        go_roundg (l0.length - (kk.toNat + 1))
        case measure => omega
        case rel =>
          refine ⟨kk + 1, by omega, by omega, by omega, by go_num, ⟨hb'⟩, ⟨fun j hj => ?_⟩⟩
          by_cases e : (j : Int) = kk
          · have : j = kk.toNat := by omega
            subst this
            rw [← B.out]; exact HQ.out
          · exact AA.out j (by omega)
    · have : kk = (l0.length : Int) := by omega
      subst this
      go_wp2
      go_ret
      refine ⟨?_, BW.out⟩
      rw [ixOf_miss p l0 z28 (fun j hj => AA.out j (by omega))]
      rfl
section
/-! hull.Of by hand: ContainsFunc, Clone, the chain, the whole -/
def vld (x : S28) : Bool := decide (0 ≤ x.f0) && decide (x.f0 < 32768) && decide (0 ≤ x.f1) && decide (x.f1 < 32768)
theorem valid_vld (x : S28) : grid_Valid.f x.f0 x.f1 = some (vld x) := by
  unfold grid_Valid.f vld
  by_cases h1 : 0 ≤ x.f0 <;> by_cases h2 : x.f0 < 32768 <;> by_cases h3 : 0 ≤ x.f1 <;> simp [h1, h2, h3]
theorem closure14 (W : World) (x : S28) : Calls Try.prog 14 (#[.agg #[.int .i64 x.f0, .int .i64 x.f1]] ++ #[]) W fun e w' => e = .returned (.bool (!vld x)) ∧ Below W.heap.size W w' := by
  have HV := Aside0.mk (valid_vld x)
  have HB := Aside0.mk (Below.refl W.heap.size W)
  generalize vld x = v at HV ⊢
  show Calls Try.prog 14 #[.agg #[.int .i64 x.f0, .int .i64 x.f1]] W _
  go_enter Try.func14, Try.ntmps14
  go_wp2_with (first | (go_at_call 15; refine (grid_Valid.calls _ _ _ _ HV.out).mono ?_; rintro e w1 ⟨rfl, hb1⟩) | go_in)
  go_ret
  exact ⟨rfl, (HB.out.alloc HB.out.size _).trans (hb1.mono (by simp))⟩
theorem ixOf_any {α : Type} (p : α → Bool) (l : List α) : decide (0 ≤ ixOf p l) = l.any p := by
  unfold ixOf
  cases h : l.findIdx? p with
  | none =>
    have h2 := List.findIdx?_eq_none_iff.mp h
    have : l.any p = false := by rw [List.any_eq_false]; intro x hx; rw [h2 x hx]; exact Bool.false_ne_true
    rw [this]; rfl
  | some i =>
    have h2 := List.findIdx?_eq_some_iff_getElem.mp h
    obtain ⟨hi, hp, _⟩ := h2
    have : l.any p = true := List.any_eq_true.mpr ⟨_, List.getElem_mem hi, hp⟩
    rw [this]
    exact decide_eq_true (by show (0 : Int) ≤ (i : Int); omega)
theorem contains13 (A0 : Option Addr) (c0 : Nat) (l0 : List S28) (w : World) (hr0 : Kd.C k28 w A0 l0.length l0) :
    Calls Try.prog 13 #[.slice A0 l0.length c0, .func (.func 14) #[] #[]] w fun e w' => e = .returned (.bool (l0.any (fun x => !vld x))) ∧ Below w.heap.size w w' := by
  have eg : ∀ args w, (callFunc 14 args).run Try.prog w = .ok (.enter 14 args) w := enters_of Try.func14 (by kernel_rfl) rfl
  have HX := Aside0.mk (ix30 (fun x => !vld x) 14 #[] eg A0 c0 l0 w hr0 (fun W x hb => (closure14 W x).mono (fun e w' h => ⟨h.1, hb.trans (h.2.mono hb.size)⟩)))
  have HA := Aside0.mk (ixOf_any (fun x => !vld x) l0)
  clear hr0 eg
  generalize l0.any (fun x => !vld x) = r at HA ⊢
  generalize ixOf (fun x => !vld x) l0 = n at HA HX
  go_enter Try.func13, Try.ntmps13
  go_wp2_with (first | (go_at_call 30; refine HX.out.mono ?_; rintro e w1 ⟨rfl, hb1⟩) | go_in)
  go_ret
  refine ⟨?_, hb1⟩
  rw [← HA.out]
  rfl
theorem clone16 (A0 : Option Addr) (c0 : Nat) (l0 : List S28) (w : World) (hr0 : Kd.C k28 w A0 l0.length l0) (hc0 : l0.length ≤ c0) (hl : l0.length ≤ 8796093022208) :
    Calls Try.prog 16 #[.slice A0 l0.length c0] w fun e w' => ∃ v : Value, e = .returned v ∧ Kd.R k28 28 w' w.heap.size (fun _ => True) v l0 ∧ Below w.heap.size w w' := by
  have HR := Aside0.mk hr0
  have HB := Aside0.mk (Below.refl w.heap.size w)
  cases A0 with
  | none =>
    have h0 : l0 = [] := by
      rcases Nat.eq_zero_or_pos l0.length with h | h
      · exact List.eq_nil_of_length_eq_zero h
      · obtain ⟨ad, h', _⟩ := hr0.2.2 h
        cases h'
    subst h0
    clear hr0 hl
    have hnil : ∀ W, (binOp .eql 22 (.slice none 0 c0) (.slice none 0 0)).run Try.prog W = .ok (.bool true) W := fun W => Lib.run_eql_slice_nil W 22 28 none 0 c0 0 0 Try.underlying22
    go_enter Try.func16, Try.ntmps16
    go_wp2
    go_ret
    exact ⟨_, rfl, Kd.R_nil _ _ _ _ _, HB.out⟩
  | some ad =>
    clear hr0
    have hnil : ∀ W, (binOp .eql 22 (.slice (some ad) l0.length c0) (.slice none 0 0)).run Try.prog W = .ok (.bool false) W := fun W => Lib.run_eql_slice_nil W 22 28 (some ad) l0.length c0 0 0 Try.underlying22
    have hO : Kd.R k28 28 (w.alloc (.cells #[] 28)) w.heap.size (fun _ => True) (.slice (some ⟨w.heap.size, 0, none⟩) 0 0) ([] : List S28) :=
      R_of_alloc k28 (W := w) w.heap.size 28 (xs := []) (inner := []) (ok := fun _ => True) (okp := fun _ => True) (Reps.none _ _) (fun _ _ => trivial) trivial (Nat.le_refl _) (by simp)
    have HO := Aside0.mk hO
    clear hO
    go_enter Try.func16, Try.ntmps16
    go_wp2_with (first
      | ((with_reducible refine gate_builtin (b := .append) (xs := #[.tmp 5, .tmp 6]) rfl ?_); at_builtin; refine Kd.R_append_rows k28 (w0 := w) w.heap.size rfl (.tmp 5) (.tmp 6) 22 28 (.agg #[(.int .i64 0), (.int .i64 0)]) 16 rfl Try.underlying22 info28 rfl (by decide) (by omega) (.slice (some ⟨w.heap.size, 0, none⟩) 0 0) [] l0 _ _ _ (fun _ => True) (fun _ => False) rfl rfl HO.out (Kd.C_alloc HR.out _) (fun _ _ h => h) (fun _ h => h.elim) (fun _ _ => trivial) (HB.out.alloc HB.out.size _) (by simp) (by simp; omega) ?_; intro v1 w1 ho1 hb1 hg1 hat1)
      | go_in)
    go_ret
    exact ⟨_, rfl, ho1, hb1⟩
/-- append(v, x) where v is full: nothing of v's block is asked but that it reads. -/
theorem full_append {α : Type} (d : Kd α) {P : Program} {ops : Array Oper} {rest : List Oper} {o : Oper} {a : Act} {Q : Exit → Act → World → Prop} {w0 W : World} (base : Nat) (hgd : o.guard = none) (s x : Operand) (t e : TypeId) (z : Value) (bytes : Nat)
    (ho : o.op = .call { callee := .builtin .append, args := #[s, x], argTypes := #[t, t] })
    (ht : P.underlying t = some (.slice e)) (hinfo : (P.info? e).map (fun i => (i.zero, i.size, i.bytes)) = some (some z, d.sz, bytes)) (hz : z.cells.size = d.sz) (hs0 : 0 < d.sz) (hb0 : 0 < bytes)
    (A : Option Addr) (xs : List α) (p : α) (cs : List Value) (hs : a.eval s = .slice A xs.length xs.length) (hx : a.eval x = .slice (some ⟨W.heap.size, 0, none⟩) 1 1)
    (hp : ∀ W' b ok, d.M W' b ok p cs) (hKM : ∀ W1 x c, d.K W1 x c → ∀ W' b ok, d.M W' b ok x c) (HC : d.C W A xs.length xs) (HB : Below base w0 W) (hbase : base ≤ W.heap.size) (hl : (xs.length + 1) * bytes ≤ 140737488355328)
    (h : ∀ v1 w1, d.R e w1 base (fun _ => True) v1 (xs ++ [p]) → Below base w0 w1 → wpList P ops Q rest (a.put o.dst v1) w1) :
    wpList P ops Q (o :: rest) a (W.alloc (.cells cs.toArray e)) := by
  obtain ⟨i0, hi, hzz⟩ := Option.map_eq_some_iff.1 hinfo
  simp only [Prod.mk.injEq] at hzz
  obtain ⟨hz0, hz1, hz2⟩ := hzz
  have hlen : xs.length + 1 ≤ 140737488355328 := Nat.le_trans (Nat.le_mul_of_pos_right _ hb0) hl
  obtain ⟨olds, hol, hnone, hold, hrep⟩ : ∃ olds : List Value, olds.length = xs.length * d.sz ∧ (A = none → xs.length = 0 ∧ xs.length = 0) ∧ (∀ b, A = some b → ∀ j u, olds[j]? = some u → (W.alloc (.cells cs.toArray e)).cell? (b.add j) = some u) ∧ Reps (fun x c => ∀ W' b ok, d.M W' b ok x c) d.sz xs olds := by
    rcases Nat.eq_zero_or_pos xs.length with h0 | h0
    · obtain rfl : xs = [] := List.eq_nil_of_length_eq_zero h0
      exact ⟨[], by simp, fun _ => ⟨rfl, rfl⟩, fun _ _ j u hj => by simp at hj, Reps.none _ _⟩
    · obtain ⟨ad, rfl, _⟩ := HC.2.2 h0
      obtain ⟨news, hnr, hnc⟩ := ReadsRow.inner_ HC
      refine ⟨news, hnr.1, (fun h => by cases h), (fun b hb j u hj => ?_), hnr.imp_ (fun x c hk => hKM W x c hk)⟩
      cases hb
      exact Go.Lib.cell?_alloc_some _ (hnc j u hj)
  have hcl : cs.length = d.sz := d.K_len (d.K_of_M (hp W 0 (fun _ => True)))
  refine wpList_append_grows (W.alloc (.cells cs.toArray e)) hgd s x t ho e i0 z d.sz bytes ht hi hz0 hz1 hz2 hz hs0 A xs.length xs.length olds hs hnone hol hold ⟨W.heap.size, 0, none⟩ 1 1 cs hx (by simpa using hcl)
    (World.news_of_block (cs := cs.toArray) (t := e) (fr := (0, 0)) (heap_alloc_new W _)) (d.K_one (d.K_of_M (hp W 0 (fun _ => True)))) (by omega) (by unfold maxLen; omega) hl ?_
  intro v1 w1 hown hg
  have hB1 : Below base w0 (W.alloc (.cells cs.toArray e)) := HB.alloc hbase _
  refine h v1 w1 (Kd.R_lower (base := (W.alloc (.cells cs.toArray e)).heap.size) ⟨fun _ _ => trivial, olds ++ cs, by rw [List.length_append, List.length_singleton]; exact hown, (hrep.imp_ (fun x c hk => hk _ _ _)).snoc (hp _ _ _) hcl⟩ (by simp; omega)) (hB1.grown hg (by simp; omega) (fun k hk => by cases hk))
/-! the chain -/
def turn (a b c : S28) : Int := (b.f0 - a.f0) * (c.f1 - a.f1) - (b.f1 - a.f1) * (c.f0 - a.f0)
def onG (p : S28) : Prop := 0 ≤ p.f0 ∧ p.f0 < 32768 ∧ 0 ≤ p.f1 ∧ p.f1 < 32768
theorem vld_iff (x : S28) : vld x = true ↔ onG x := by unfold vld onG; simp only [Bool.and_eq_true, decide_eq_true_eq, and_assoc]
theorem mul_bound {p q : Int} (hp : -32768 ≤ p ∧ p ≤ 32768) (hq : -32768 ≤ q ∧ q ≤ 32768) : -1073741824 ≤ p * q ∧ p * q ≤ 1073741824 := by
  have h : (p * q).natAbs ≤ 1073741824 := by
    rw [Int.natAbs_mul]
    exact Nat.mul_le_mul (show p.natAbs ≤ 32768 by omega) (show q.natAbs ≤ 32768 by omega)
  omega
theorem wrap_id {n : Int} (h : -9223372036854775808 ≤ n ∧ n ≤ 9223372036854775807) : wrap64 n = n := by unfold wrap64; omega
theorem turn_wrap {a b c : S28} (ha : onG a) (hb : onG b) (hc : onG c) : wrap64 ((wrap64 ((wrap64 (b.f0 - a.f0)) * (wrap64 (c.f1 - a.f1)))) - (wrap64 ((wrap64 (b.f1 - a.f1)) * (wrap64 (c.f0 - a.f0))))) = turn a b c := by
  unfold onG at ha hb hc
  have h1 := mul_bound (p := b.f0 - a.f0) (q := c.f1 - a.f1) (by omega) (by omega)
  have h2 := mul_bound (p := b.f1 - a.f1) (q := c.f0 - a.f0) (by omega) (by omega)
  rw [wrap_id (n := b.f0 - a.f0) (by omega), wrap_id (n := c.f1 - a.f1) (by omega), wrap_id (n := b.f1 - a.f1) (by omega), wrap_id (n := c.f0 - a.f0) (by omega), wrap_id (n := (b.f0 - a.f0) * (c.f1 - a.f1)) (by omega), wrap_id (n := (b.f1 - a.f1) * (c.f0 - a.f0)) (by omega), wrap_id (n := (b.f0 - a.f0) * (c.f1 - a.f1) - (b.f1 - a.f1) * (c.f0 - a.f0)) (by omega)]
  rfl
theorem valid0 (l : List S28) (hl : l.length ≤ 1000) (hv : ∀ p ∈ l, onG p) (d : Nat) : ∀ (k i : Nat), i ≤ l.length → l.length - i = d → d < k → seg_valid.l0 k l (l.length : Int) (i : Int) = some true := by
  induction d with
  | zero =>
    intro k i hi hd hk
    cases k with
    | zero => omega
    | succ k => simp only [seg_valid.l0]; rw [if_neg (by omega)]
  | succ d ih =>
    intro k i hi hd hk
    cases k with
    | zero => omega
    | succ k =>
      have hlt : i < l.length := by omega
      simp only [seg_valid.l0]
      have hy : rd_T28 l (i : Int) = l[i] := by unfold rd_T28; rw [Int.toNat_natCast, List.getD_eq_getElem?_getD, List.getElem?_eq_getElem hlt]; rfl
      have hvv := (vld_iff l[i]).mpr (hv _ (List.getElem_mem hlt))
      rw [if_pos (by omega), if_pos (by omega), if_pos (by omega), hy, valid_vld, Option.bind_some, if_pos hvv, wrap_id (by omega)]
      exact ih k (i + 1) (by omega) (by omega) (by omega)
theorem valid_all (l : List S28) (hl : l.length ≤ 1000) (hv : ∀ p ∈ l, onG p) (k : Nat) (hk : l.length < k) : seg_valid.f k l = some true := by
  unfold seg_valid.f
  exact valid0 l hl hv l.length k 0 (Nat.zero_le _) rfl hk
theorem nTurn {a b c : S28} (ha : onG a) (hb : onG b) (hc : onG c) (k : Nat) (hk : 10 < k) : seg_Turn.f k a.f0 a.f1 b.f0 b.f1 c.f0 c.f1 = some (turn a b c) := by
  unfold seg_Turn.f
  rw [valid_all _ (by simp) (by
    intro p hp
    simp at hp
    rcases hp with rfl | rfl | rfl <;> assumption) k (by simp; omega), Option.bind_some, if_pos rfl, turn_wrap ha hb hc]
def push (p : S28) : List S28 → List S28
  | [] => [p]
  | [a] => [p, a]
  | b :: a :: st => if turn a b p ≤ 0 then push p (a :: st) else p :: b :: a :: st
def stk (l : List S28) : List S28 := l.foldl (fun st p => push p st) []
theorem push_len (p : S28) : ∀ st, (push p st).length ≤ st.length + 1
  | [] => by simp [push]
  | [a] => by simp [push]
  | b :: a :: st => by
    rw [push]
    split
    · have := push_len p (a :: st); simp at this ⊢; omega
    · simp
theorem push_mem (p : S28) : ∀ st x, x ∈ push p st → x = p ∨ x ∈ st
  | [], x, h => by simp [push] at h; exact .inl h
  | [a], x, h => by simp [push] at h; rcases h with h | h <;> simp [h]
  | b :: a :: st, x, h => by
    rw [push] at h
    split at h
    · rcases push_mem p (a :: st) x h with h | h
      · exact .inl h
      · exact .inr (List.mem_cons_of_mem _ h)
    · rcases List.mem_cons.mp h with h | h
      · exact .inl h
      · exact .inr h
theorem stk_snoc (l : List S28) (p : S28) : stk (l ++ [p]) = push p (stk l) := by unfold stk; rw [List.foldl_append]; rfl
theorem stk_len (l : List S28) : ∀ st : List S28, (l.foldl (fun st p => push p st) st).length ≤ st.length + l.length := by
  induction l with
  | nil => intro st; simp
  | cons p l ih =>
    intro st
    have := ih (push p st)
    have h2 := push_len p st
    simp only [List.foldl_cons, List.length_cons]
    omega
theorem stk_mem (l : List S28) : ∀ (st : List S28) x, x ∈ l.foldl (fun st p => push p st) st → x ∈ st ∨ x ∈ l := by
  induction l with
  | nil => intro st x h; exact .inl h
  | cons p l ih =>
    intro st x h
    rcases ih (push p st) x h with h | h
    · rcases push_mem p st x h with h | h
      · exact .inr (by simp [h])
      · exact .inl h
    · exact .inr (List.mem_cons_of_mem _ h)
/-- What the chain holds: a row of its own, or a full slice. -/
def OutS (W : World) (base : Nat) (v : Value) (xs : List S28) : Prop := Kd.R k28 28 W base (fun _ => True) v xs ∨ ∃ A, v = .slice A xs.length xs.length ∧ Kd.C k28 W A xs.length xs
theorem OutS.form {W : World} {base : Nat} {v : Value} {xs : List S28} (h : OutS W base v xs) : ∃ A c, v = .slice A xs.length c ∧ xs.length ≤ c ∧ Kd.C k28 W A xs.length xs := by
  rcases h with h | ⟨A, rfl, h⟩
  · obtain ⟨A, c, rfl⟩ := Kd.R_slice h
    have := Kd.R_reads' h
    exact ⟨A, c, rfl, this.2.1, this.2.2⟩
  · exact ⟨A, _, rfl, Nat.le_refl _, h⟩
theorem OutS.below {W W1 : World} {base : Nat} {v : Value} {xs : List S28} (h : OutS W base v xs) (hb : Below W.heap.size W W1) : OutS W1 base v xs := by
  rcases h with h | ⟨A, rfl, h⟩
  · exact .inl (Kd.R_below h hb)
  · exact .inr ⟨A, rfl, Kd.C_below h hb⟩
theorem OutS.drew {W : World} {base : Nat} {v : Value} {xs : List S28} (h : OutS W base v xs) : OutS W.drew base v xs := h.below (below_drew1 (Below.refl _ _))
theorem OutS.slice {W : World} {base : Nat} {v : Value} {xs : List S28} (h : OutS W base v xs) : ∃ A c, v = .slice A xs.length c := by
  obtain ⟨A, c, e, _, _⟩ := h.form
  exact ⟨A, c, e⟩
theorem OutS.reads' {W : World} {base n c : Nat} {A : Option Addr} {xs : List S28} (h : OutS W base (.slice A n c) xs) : n = xs.length ∧ n ≤ c ∧ Kd.C k28 W A xs.length xs := by
  obtain ⟨A', c', e, h1, h2⟩ := h.form
  injection e with e1 e2 e3
  subst e1; subst e2; subst e3
  exact ⟨rfl, h1, h2⟩
theorem cut_to3 {P : Program} (t e : TypeId) (kh : IntKind) {i : TypeInfo} (ht : P.underlying t = some (.slice e)) (hi : P.info? e = some i) (A : Option Addr) (n c : Nat) (j : Int) (h0 : 0 ≤ j) (hm : j ≤ n) (hc : n ≤ c) :
    ∀ W : World, (Instr.slice t (.slice A n c) none (some (.int kh j)) (some (.int kh j))).run P W = .ok (.slice A j.toNat j.toNat) W := by
  intro W
  have hel : P.elem t = e := by simp [Program.elem, ht]
  have hu : P.underlying t = some (.slice (P.elem t)) := by rw [hel]; exact ht
  have ha : (A.map fun x => x.add 0) = A := by cases A <;> simp [Addr.add]
  rw [run_slice_hm W t A n c hu kh kh j j h0 (Int.le_refl _) (by omega), hel]
  simp [sizeOf, typeInfo, hi, sliced, Result.andThen, ha]
theorem OutS.cut {W : World} {base m : Nat} {A : Option Addr} {xs : List S28} (h : Kd.C k28 W A xs.length xs) (hm : m ≤ xs.length) : OutS W base (.slice A m m) (xs.take m) := by
  have hl : (xs.take m).length = m := by rw [List.length_take]; omega
  have := Kd.C_take h hm
  rw [hl] at this
  exact .inr ⟨A, by rw [hl], by rw [hl]; exact this⟩
theorem OutS.append {P : Program} {ops : Array Oper} {rest : List Oper} {o : Oper} {a : Act} {Q : Exit → Act → World → Prop} {w0 W : World} (base : Nat) (hgd : o.guard = none) (s x : Operand) (t : TypeId)
    (ho : o.op = .call { callee := .builtin .append, args := #[s, x], argTypes := #[t, t] })
    (ht : P.underlying t = some (.slice 28)) (hinfo : (P.info? 28).map (fun i => (i.zero, i.size, i.bytes)) = some (some (.agg #[(.int .i64 0), (.int .i64 0)]), 2, 16))
    (v : Value) (xs : List S28) (p : S28) (hs : a.eval s = v) (hx : a.eval x = .slice (some ⟨W.heap.size, 0, none⟩) 1 1)
    (HC : OutS W base v xs) (HB : Below base w0 W) (hbase : base ≤ W.heap.size) (hl : (xs.length + 1) * 16 ≤ 140737488355328)
    (h : ∀ v1 w1, Kd.R k28 28 w1 base (fun _ => True) v1 (xs ++ [p]) → Below base w0 w1 → wpList P ops Q rest (a.put o.dst v1) w1) :
    wpList P ops Q (o :: rest) a (W.alloc (.cells #[.int .i64 p.f0, .int .i64 p.f1] 28)) := by
  rcases HC with HC | ⟨A, rfl, HC⟩
  · exact Kd.R_append k28 (w0 := w0) base hgd s x t 28 (.agg #[(.int .i64 0), (.int .i64 0)]) 16 ho ht hinfo rfl (by decide) (by omega) v xs p [.int .i64 p.f0, .int .i64 p.f1] (fun _ => True) (fun _ => False) hs hx (k28_mkM _ _ _ p) (fun _ hk => hk.elim) (fun _ _ => trivial) HC HB hbase hl (fun v1 w1 h1 h2 _ _ => h v1 w1 h1 h2)
  · exact full_append k28 (w0 := w0) base hgd s x t 28 (.agg #[(.int .i64 0), (.int .i64 0)]) 16 ho ht hinfo rfl (by decide) (by omega) A xs p [.int .i64 p.f0, .int .i64 p.f1] hs hx (fun _ _ _ => k28_mkM _ _ _ p) (fun _ x c hk _ _ _ => by rw [k28_open hk]; exact k28_mkM _ _ _ x) HC HB hbase hl h
end
/-! ### hull_Of_2: function 20 -/
mutual
def hull_Of_2.l0 : Nat → List (S28) → List (S28) → Int → Int → Option ((List (S28)))
  | 0, _, _, _, _ => none
  | k + 1, x3, x7, x8, x9 => if x9 < x8 then (if 0 ≤ x9 then (if x9 < (x7.length : Int) then (hull_Of_2.l1 k x3 (x3.length : Int) x7 x8 x9 ((rd_T28 x7 x9).f0) ((rd_T28 x7 x9).f1)) else (none)) else (none)) else (if 0 ≤ (wrap64 ((x3.length : Int) - 1)) then (if (wrap64 ((x3.length : Int) - 1)) ≤ (x3.length : Int) then (some (x3.take ((wrap64 ((x3.length : Int) - 1)) : Int).toNat)) else (none)) else (none))
def hull_Of_2.l1 : Nat → List (S28) → Int → List (S28) → Int → Int → Int → Int → Option ((List (S28)))
  | 0, _, _, _, _, _, _, _ => none
  | k + 1, x3, x6, x7, x8, x9, x117000, x117001 => if x6 > 1 then (if 0 ≤ (wrap64 (x6 - 2)) then (if (wrap64 (x6 - 2)) < (x3.length : Int) then (if 0 ≤ (wrap64 (x6 - 1)) then (if (wrap64 (x6 - 1)) < (x3.length : Int) then ((seg_Turn.f k ((rd_T28 x3 (wrap64 (x6 - 2))).f0) ((rd_T28 x3 (wrap64 (x6 - 2))).f1) ((rd_T28 x3 (wrap64 (x6 - 1))).f0) ((rd_T28 x3 (wrap64 (x6 - 1))).f1) x117000 x117001).bind fun t119 => (if t119 ≤ 0 then (if (wrap64 (x6 - 1)) ≤ (x3.length : Int) then (hull_Of_2.l1 k (x3.take ((wrap64 (x6 - 1)) : Int).toNat) (wrap64 (x6 - 1)) x7 x8 x9 x117000 x117001) else (none)) else (if x3.length < 8796093022208 then (hull_Of_2.l0 k (x3 ++ [(⟨x117000, x117001⟩ : S28)]) x7 x8 (wrap64 (x9 + 1))) else (none)))) else (none)) else (none)) else (none)) else (none)) else (if x3.length < 8796093022208 then (hull_Of_2.l0 k (x3 ++ [(⟨x117000, x117001⟩ : S28)]) x7 x8 (wrap64 (x9 + 1))) else (none))
end
def hull_Of_2.f (k : Nat) (l0 : List (S28)) : Option ((List (S28))) := hull_Of_2.l0 k ([] : List (S28)) l0 (l0.length : Int) 0
theorem hull_Of_2.mono_l : ∀ k, (∀ y0 y1 y2 y3, LeO (hull_Of_2.l0 k y0 y1 y2 y3) (hull_Of_2.l0 (k + 1) y0 y1 y2 y3)) ∧ (∀ y0 y1 y2 y3 y4 y5 y6, LeO (hull_Of_2.l1 k y0 y1 y2 y3 y4 y5 y6) (hull_Of_2.l1 (k + 1) y0 y1 y2 y3 y4 y5 y6))
  | 0 => ⟨fun _ _ _ _ r h => by simp [hull_Of_2.l0] at h, fun _ _ _ _ _ _ _ r h => by simp [hull_Of_2.l1] at h⟩
  | k + 1 => by
    obtain ⟨ih0, ih1⟩ := hull_Of_2.mono_l k
    refine ⟨?_, ?_⟩
    · intro y0 y1 y2 y3
      unfold hull_Of_2.l0
      repeat' first
      | (with_reducible exact ih0 _ _ _ _)
      | (with_reducible exact ih1 _ _ _ _ _ _ _)
      | (with_reducible exact seg_Turn.mono _ _ _ _ _ _ _)
      | (with_reducible exact LeO.refl _)
      | (with_reducible exact LeO.none _)
      | (with_reducible refine LeO.ite ?_ ?_)
      | (with_reducible refine LeO.bind ?_ (fun _ => ?_))
      | exact ih0 _ _ _ _
      | exact ih1 _ _ _ _ _ _ _
      | exact seg_Turn.mono _ _ _ _ _ _ _
      | exact LeO.none _
      | refine LeO.ite ?_ ?_
      | refine LeO.bind ?_ (fun _ => ?_)
    · intro y0 y1 y2 y3 y4 y5 y6
      unfold hull_Of_2.l1
      repeat' first
      | (with_reducible exact ih0 _ _ _ _)
      | (with_reducible exact ih1 _ _ _ _ _ _ _)
      | (with_reducible exact seg_Turn.mono _ _ _ _ _ _ _)
      | (with_reducible exact LeO.refl _)
      | (with_reducible exact LeO.none _)
      | (with_reducible refine LeO.ite ?_ ?_)
      | (with_reducible refine LeO.bind ?_ (fun _ => ?_))
      | exact ih0 _ _ _ _
      | exact ih1 _ _ _ _ _ _ _
      | exact seg_Turn.mono _ _ _ _ _ _ _
      | exact LeO.none _
      | refine LeO.ite ?_ ?_
      | refine LeO.bind ?_ (fun _ => ?_)
theorem hull_Of_2.mono : ∀ a0 k, LeO (hull_Of_2.f k a0) (hull_Of_2.f (k + 1) a0) := by
  intro a0 k
  obtain ⟨ih0, ih1⟩ := hull_Of_2.mono_l k
  unfold hull_Of_2.f
  repeat' first
      | (with_reducible exact ih0 _ _ _ _)
      | (with_reducible exact ih1 _ _ _ _ _ _ _)
      | (with_reducible exact seg_Turn.mono _ _ _ _ _ _ _)
      | (with_reducible exact LeO.refl _)
      | (with_reducible exact LeO.none _)
      | (with_reducible refine LeO.ite ?_ ?_)
      | (with_reducible refine LeO.bind ?_ (fun _ => ?_))
      | exact ih0 _ _ _ _
      | exact ih1 _ _ _ _ _ _ _
      | exact seg_Turn.mono _ _ _ _ _ _ _
      | exact LeO.none _
      | refine LeO.ite ?_ ?_
      | refine LeO.bind ?_ (fun _ => ?_)
def hull_Of_2.T6 : Bool × List (List Nat × List Nat) := (true, [([], []), ([0], [0]), ([1], [1]), ([2], [2]), ([2], [2]), ([4, 2], [2, 4]), ([3, 5, 2], [2, 3, 5]), ([6, 2], [2, 6]), ([2], [2]), ([2], [2]), ([9, 2], [2, 9]), ([8, 10, 2], [2, 8, 10]), ([11, 2], [2, 11]), ([2], [2]), ([7, 12, 13, 2, 2], [2, 7, 12, 13]), ([14, 2], [2, 14]), ([2, 15], [2, 15])])
def hull_Of_2.B6 : List Nat := [0, 1, 3, 7, 7, 23, 63, 127, 7, 7, 519, 1799, 3847, 7, 16383, 32767, 65535]
theorem hull_Of_2.tab6 : rtab .any (opsOf Try.f20 6) = hull_Of_2.T6 := by kernel_rfl
theorem hull_Of_2.bits6 : waitsOk hull_Of_2.T6.2 hull_Of_2.B6 = true := by kernel_rfl
set_option maxHeartbeats 8000000 in
set_option maxRecDepth 100000 in
theorem hull_Of_2.calls (k : Nat) (A0 : Option Addr) (c0 : Nat) (l0 : List (S28)) (r : List (S28)) (w : World) (hr0 : Kd.C k28 w A0 l0.length l0) (hc0 : l0.length ≤ c0) (h : hull_Of_2.f k l0 = some r) :
    Calls Try.prog 20 #[.slice A0 l0.length c0] w fun e w' => ∃ v0_ : Value, e = .returned (v0_) ∧ Kd.R k28 28 w' w.heap.size (fun _ => True) v0_ r ∧ Below w.heap.size w w' := by
  have hu28 := Try.underlying28
  have HR0 := Aside0.mk hr0
  have HC0 := Aside0.mk hc0
  clear hr0 hc0
  have HB := Aside0.mk (Below.refl w.heap.size w)
  have H : (hull_Of_2.l0 k ([] : List (S28)) l0 (l0.length : Int) 0) = some r := h
  clear h
  have H' := Aside0.mk H
  clear H
  go_enter Try.func20, Try.ntmps20
  go_wp2
  go_loopg [3, 9] k (fun kq v3 v9 w' => ∃ (x3_1 : List (S28)) (x9_1 : Int), v9 = .int .i64 x9_1 ∧ Aside0 (hull_Of_2.l0 kq x3_1 l0 (l0.length : Int) x9_1 = some r) ∧ Aside0 (kq ≤ k) ∧ Aside0 (Kd.R k28 28 w' w.heap.size (fun _ => True) v3 x3_1) ∧ Aside0 (Below w.heap.size w w'))
  case atStart => exact ⟨(([] : List (S28))), (0), (by first | rfl | (simp; done) | (simp [*]; done)), H', ⟨Nat.le_refl _⟩, ⟨by first | exact Kd.R_nil _ _ _ _ _ | exact Kd.N_nil _ _ _ _ _ | exact Kd.V_nil _ _ _ _ _ | exact Kd.Q_nil _ _ _ _ _ | exact Kd.S_nil _ _ _ _ _⟩, ⟨by repeat (first | (with_reducible first | exact HB.out | apply below_alloc | apply pw_below_drewN | apply below_drew1) | exact HB.out)⟩⟩
  case round =>
    clear H'
    obtain ⟨x3_1, x9_1, rfl, HA, HK1, HO_3, HB⟩ := hrel
    cases gk with
    | zero => exact absurd HA.out (by simp [hull_Of_2.l0])
    | succ k1 =>
      have H := HA.out
      clear HA
      simp only [hull_Of_2.l0] at H
      by_cases c2 : x9_1 < (l0.length : Int)
      · rw [if_pos c2] at H
        have c2b0 : decide (x9_1 < (l0.length : Int)) = true := decide_eq_true c2
        clear c2
        by_cases c3 : 0 ≤ x9_1
        · rw [if_pos c3] at H
          have c3b0 : decide (0 ≤ x9_1) = true := decide_eq_true c3
          clear c3
          by_cases c4 : x9_1 < (l0.length : Int)
          · rw [if_pos c4] at H
            have c4b0 : decide (x9_1 < (l0.length : Int)) = true := decide_eq_true c4
            clear c4
            have H' := Aside0.mk H
            clear H
            have p115 : 0 ≤ (x9_1 : Int) := of_decide_eq_true (by first | (with_reducible assumption) | assumption)
            have q115 : x9_1 < (l0.length : Int) := of_decide_eq_true (by first | (with_reducible assumption) | assumption)
            obtain ⟨ad115, e115, hx115_0, hx115_1⟩ := at_T28 HR0.out x9_1 p115 q115
            cases e115
            replace hx115_0 := (HB.out.cell (World.block_lt_of_cell? w _ hx115_0)).trans hx115_0
            replace hx115_1 := (HB.out.cell (World.block_lt_of_cell? w _ hx115_1)).trans hx115_1
            replace p115 := eq_true p115
            replace q115 := eq_true q115
            go_wp2_with (first | ((with_reducible refine gate_dst (N := 5) rfl ?_); refine box_event ?hg (N := 5) ?hd (cs := #[.int .i64 0, .int .i64 0]) (t := 28) ?hr ?_; (case hd => rfl); (case hg => rfl); (case hr => first | (go_simp; done) | (go_simp; rfl)); intro gb116 hg w5 hbox hb; have n0_ := Aside0.mk (Kd.R_below (Kd.R_elderB (by (with_reducible repeat (first | apply Kd.R_alloc | apply Kd.R_drewN | apply Kd.R_drew)); exact HO_3.out) gb116 (Nat.le_of_eq hg.symm)) hb); have n1_ := Aside0.mk (below_step (by repeat (first | (with_reducible first | exact HB.out | apply below_alloc | apply pw_below_drewN | apply below_drew1) | exact HB.out)) hb); have n2_ := Aside0.mk (hbox); have n3_ := Aside0.mk ((by rw [hg]; exact (below_size (by repeat (first | (with_reducible first | exact HB.out | apply below_alloc | apply pw_below_drewN | apply below_drew1) | exact HB.out))) : w.heap.size ≤ gb116)); have n4_ := Aside0.mk ((by rw [hg]; exact (below_size (by repeat (first | (with_reducible first | exact HB.out | apply below_alloc | apply pw_below_drewN | apply below_drew1) | exact HB.out))) : w.heap.size ≤ gb116)); clear HO_3; clear HB; have HO_3 := n0_; have HB := n1_; have BK116 := n2_; have GW116 := n3_; have GE116 := n4_; clear n0_ n1_ n2_ n3_ n4_; clear hb hbox hg; have hcz6_0 : w5.cell? ⟨gb116, 0, none⟩ = some (.int .i64 0) := (blk_cell BK116.out 0).trans rfl; have hcz6_1 : w5.cell? ⟨gb116, 1, none⟩ = some (.int .i64 0) := (blk_cell BK116.out 1).trans rfl; have hfz6_0 := blk_frozen BK116.out 0; have hfz6_1 := blk_frozen BK116.out 1; obtain ⟨Ao7, co7, eo7⟩ := Kd.R_slice HO_3.out; subst eo7))
            go_loopg [3, 6] k1 (fun kq v3 v6 w' => ∃ (x3_2 : List (S28)) (x6_2 : Int), v6 = .int .i64 x6_2 ∧ Aside0 (hull_Of_2.l1 kq x3_2 x6_2 l0 (l0.length : Int) x9_1 ((rd_T28 l0 x9_1).f0) ((rd_T28 l0 x9_1).f1) = some r) ∧ Aside0 (kq ≤ k1) ∧ Aside0 (OutS w' w.heap.size v3 x3_2) ∧ Aside0 (w'.heap[gb116]? = some (.cells #[.int .i64 ((rd_T28 l0 x9_1).f0), .int .i64 ((rd_T28 l0 x9_1).f1)] 28 (0, 0))) ∧ Aside0 (Below w.heap.size w w'))
            case atStart => exact ⟨(x3_1), ((x3_1.length : Int)), (by first | rfl | (simp; done) | (simp [*]; done)), H', ⟨Nat.le_refl _⟩, ⟨.inl (Kd.R_mono (ok' := fun _ => True) (show Kd.R k28 28 _ w.heap.size (fun k_ => k_ ≠ gb116) _ _ from by (with_reducible repeat (first | apply Kd.R_alloc | apply Kd.R_drewN | apply Kd.R_drew)); exact Kd.R_mono (Kd.R_far (p := ⟨gb116, 1, none⟩) (Kd.R_far (p := ⟨gb116, 0, none⟩) (Kd.R_mono HO_3.out (fun k_ hk => (⟨hk, hk.2⟩ : _ ∧ k_ ≠ gb116))) (fun _ hk => hk.2) (.int .i64 ((rd_T28 l0 x9_1).f0))) (fun _ hk => hk.2) (.int .i64 ((rd_T28 l0 x9_1).f1))) (fun _ hk => hk.1.2)) (fun _ _ => trivial))⟩, ⟨by (with_reducible repeat (first | refine blk_drewN ?_ _ | refine blk_drew ?_ | refine blk_alloc ?_ _)); refine blk_put (cs := #[.int .i64 ((rd_T28 l0 x9_1).f0), .int .i64 0]) ?_ 1 _ rfl; (with_reducible repeat (first | refine blk_drewN ?_ _ | refine blk_drew ?_ | refine blk_alloc ?_ _)); refine blk_put (cs := #[.int .i64 0, .int .i64 0]) ?_ 0 _ rfl; (with_reducible repeat (first | refine blk_drewN ?_ _ | refine blk_drew ?_ | refine blk_alloc ?_ _)); exact BK116.out⟩, ⟨by repeat (first | (with_reducible first | exact HB.out | apply below_alloc | apply pw_below_drewN | apply below_drew1 | refine below_set ?_ GE116.out) | exact HB.out)⟩⟩
            case round =>
              clear H'
              try clear p1
              try clear q1
              try clear hx1
              try clear c2
              try clear c2b0
              try clear p2
              try clear c3
              try clear c3b0
              try clear c4
              try clear c4b0
              try clear hcz6_0
              try clear hcz6_1
              try clear hfz6_0
              try clear hfz6_1
              try clear hx115_0
              try clear hx115_1
              try clear p115
              try clear q115
              obtain ⟨x3_2, x6_2, rfl, HA, HK2, HO_3, BK116, HB⟩ := hrel
              cases gk with
              | zero => exact absurd HA.out (by simp [hull_Of_2.l1])
              | succ k2 =>
                have H := HA.out
                clear HA
                simp only [hull_Of_2.l1] at H
                by_cases c8 : x6_2 > 1
                · rw [if_pos c8] at H
                  have c8b0 : decide (1 < x6_2) = true := decide_eq_true c8
                  clear c8
                  obtain ⟨ji9, hji9⟩ : ∃ j_ : Int, (wrap64 (x6_2 - 2)) = j_ := ⟨_, rfl⟩
                  replace H : (if 0 ≤ (ji9) then (if (ji9) < (x3_2.length : Int) then (if 0 ≤ (wrap64 (x6_2 - 1)) then (if (wrap64 (x6_2 - 1)) < (x3_2.length : Int) then ((seg_Turn.f k2 ((rd_T28 x3_2 (ji9)).f0) ((rd_T28 x3_2 (ji9)).f1) ((rd_T28 x3_2 (wrap64 (x6_2 - 1))).f0) ((rd_T28 x3_2 (wrap64 (x6_2 - 1))).f1) ((rd_T28 l0 x9_1).f0) ((rd_T28 l0 x9_1).f1)).bind fun t119 => (if t119 ≤ 0 then (if (wrap64 (x6_2 - 1)) ≤ (x3_2.length : Int) then (hull_Of_2.l1 k2 (x3_2.take ((wrap64 (x6_2 - 1)) : Int).toNat) (wrap64 (x6_2 - 1)) l0 (l0.length : Int) x9_1 ((rd_T28 l0 x9_1).f0) ((rd_T28 l0 x9_1).f1)) else (none)) else (if x3_2.length < 8796093022208 then (hull_Of_2.l0 k2 (x3_2 ++ [(⟨((rd_T28 l0 x9_1).f0), ((rd_T28 l0 x9_1).f1)⟩ : S28)]) l0 (l0.length : Int) (wrap64 (x9_1 + 1))) else (none)))) else (none)) else (none)) else (none)) else (none)) = some r := by first | (rw [hji9] at H; exact H) | (simp only [hji9] at H ⊢; exact H)
                  have hji9w : (IntKind.i64.wrap (x6_2 - 2)) = ji9 := (i64_w _).trans hji9
                  by_cases c10 : 0 ≤ (ji9)
                  · rw [if_pos c10] at H
                    have c10b0 : decide (0 ≤ (ji9)) = true := decide_eq_true c10
                    clear c10
                    by_cases c11 : (ji9) < (x3_2.length : Int)
                    · rw [if_pos c11] at H
                      have c11b0 : decide ((ji9) < (x3_2.length : Int)) = true := decide_eq_true c11
                      clear c11
                      obtain ⟨ji12, hji12⟩ : ∃ j_ : Int, (wrap64 (x6_2 - 1)) = j_ := ⟨_, rfl⟩
                      replace H : (if 0 ≤ (ji12) then (if (ji12) < (x3_2.length : Int) then ((seg_Turn.f k2 ((rd_T28 x3_2 (ji9)).f0) ((rd_T28 x3_2 (ji9)).f1) ((rd_T28 x3_2 (ji12)).f0) ((rd_T28 x3_2 (ji12)).f1) ((rd_T28 l0 x9_1).f0) ((rd_T28 l0 x9_1).f1)).bind fun t119 => (if t119 ≤ 0 then (if (ji12) ≤ (x3_2.length : Int) then (hull_Of_2.l1 k2 (x3_2.take ((ji12) : Int).toNat) ji12 l0 (l0.length : Int) x9_1 ((rd_T28 l0 x9_1).f0) ((rd_T28 l0 x9_1).f1)) else (none)) else (if x3_2.length < 8796093022208 then (hull_Of_2.l0 k2 (x3_2 ++ [(⟨((rd_T28 l0 x9_1).f0), ((rd_T28 l0 x9_1).f1)⟩ : S28)]) l0 (l0.length : Int) (wrap64 (x9_1 + 1))) else (none)))) else (none)) else (none)) = some r := by first | (rw [hji12] at H; exact H) | (simp only [hji12] at H ⊢; exact H)
                      have hji12w : (IntKind.i64.wrap (x6_2 - 1)) = ji12 := (i64_w _).trans hji12
                      by_cases c13 : 0 ≤ (ji12)
                      · rw [if_pos c13] at H
                        have c13b0 : decide (0 ≤ (ji12)) = true := decide_eq_true c13
                        clear c13
                        by_cases c14 : (ji12) < (x3_2.length : Int)
                        · rw [if_pos c14] at H
                          have c14b0 : decide ((ji12) < (x3_2.length : Int)) = true := decide_eq_true c14
                          clear c14
                          replace H := Option.bind_eq_some_iff.mp H
                          obtain ⟨t119, A150, H⟩ := H
                          replace H : (if t119 ≤ 0 then (if (ji12) ≤ (x3_2.length : Int) then (hull_Of_2.l1 k2 (x3_2.take ((ji12) : Int).toNat) ji12 l0 (l0.length : Int) x9_1 ((rd_T28 l0 x9_1).f0) ((rd_T28 l0 x9_1).f1)) else (none)) else (if x3_2.length < 8796093022208 then (hull_Of_2.l0 k2 (x3_2 ++ [(⟨((rd_T28 l0 x9_1).f0), ((rd_T28 l0 x9_1).f1)⟩ : S28)]) l0 (l0.length : Int) (wrap64 (x9_1 + 1))) else (none))) = some r := H
                          have A15 := Aside0.mk A150
                          clear A150
                          by_cases c16 : t119 ≤ 0
                          · rw [if_pos c16] at H
                            have c16b0 : decide (t119 ≤ 0) = true := decide_eq_true c16
                            clear c16
                            by_cases c17 : (ji12) ≤ (x3_2.length : Int)
                            · rw [if_pos c17] at H
                              have c17b0 := eq_true c17
                              have c17b1 : decide ((ji12) ≤ (x3_2.length : Int)) = true := decide_eq_true c17
                              clear c17
                              obtain ⟨y120, hy120⟩ : ∃ y_ : List (S28), y_ = (x3_2.take ((ji12) : Int).toNat) := ⟨_, rfl⟩
                              replace H : (hull_Of_2.l1 k2 y120 ji12 l0 (l0.length : Int) x9_1 ((rd_T28 l0 x9_1).f0) ((rd_T28 l0 x9_1).f1)) = some r := by first | (rw [hy120]; with_reducible exact H) | (have H2_ := (Option.bind_some _ _).symm.trans H; rw [hy120]; with_reducible exact H2_) | (have H2_ := (Option.bind_some _ _).symm.trans H; with_reducible exact H2_) | with_reducible exact H | (rw [hy120]; exact H) | exact H
                              have Ny120 := Aside0.mk hy120
                              clear hy120
                              have H' := Aside0.mk H
                              clear H
                              try go_wp2
                              have n0_ := Aside0.mk (OutS.drew HO_3.out)
                              have n1_ := Aside0.mk (blk_drew BK116.out)
                              have n2_ := Aside0.mk (below_drew1 HB.out)
                              clear HO_3
                              clear BK116
                              clear HB
                              have HO_3 := n0_
                              have BK116 := n1_
                              have HB := n2_
                              clear n0_ n1_ n2_
                              obtain ⟨Ao19, co19, eo19⟩ := OutS.slice HO_3.out
                              (first | subst eo19 | (injection eo19 with f1_ f2_ f3_; have f4_ := f1_.symm; have f5_ := f3_.symm; clear f1_ f2_ f3_; subst f4_; subst f5_))
                              have p117 : 0 ≤ ((ji9) : Int) := of_decide_eq_true (by first | (with_reducible assumption) | assumption)
                              have q117 : (ji9) < (x3_2.length : Int) := of_decide_eq_true (by first | (with_reducible assumption) | assumption)
                              obtain ⟨ad117, e117, hx117_0, hx117_1⟩ := at_T28 (OutS.reads' HO_3.out).2.2 (ji9) p117 q117
                              cases e117
                              replace p117 := eq_true p117
                              replace q117 := eq_true q117
                              have p118 : 0 ≤ ((ji12) : Int) := of_decide_eq_true (by first | (with_reducible assumption) | assumption)
                              have q118 : (ji12) < (x3_2.length : Int) := of_decide_eq_true (by first | (with_reducible assumption) | assumption)
                              obtain ⟨ad118, e118, hx118_0, hx118_1⟩ := at_T28 (OutS.reads' HO_3.out).2.2 (ji12) p118 q118
                              obtain rfl : ad117 = ad118 := (by injection e118)
                              replace p118 := eq_true p118
                              replace q118 := eq_true q118
                              refine start_ (n := 17) (S := fun w' => w'.cell? ⟨gb116, 0, none⟩ = some (.int .i64 ((rd_T28 l0 x9_1).f0)) ∧ w'.cell? ⟨gb116, 1, none⟩ = some (.int .i64 ((rd_T28 l0 x9_1).f1)) ∧ w'.cell? (ad117.add (((ji9)).toNat * 2)) = some (.int .i64 ((rd_T28 x3_2 (ji9)).f0)) ∧ w'.cell? ⟨(ad117.add (((ji9)).toNat * 2)).block, (ad117.add (((ji9)).toNat * 2)).off + 1, none⟩ = some (.int .i64 ((rd_T28 x3_2 (ji9)).f1)) ∧ w'.cell? (ad117.add (((ji12)).toNat * 2)) = some (.int .i64 ((rd_T28 x3_2 (ji12)).f0)) ∧ w'.cell? ⟨(ad117.add (((ji12)).toNat * 2)).block, (ad117.add (((ji12)).toNat * 2)).off + 1, none⟩ = some (.int .i64 ((rd_T28 x3_2 (ji12)).f1))) (ds := []) #[false, false, false, false, false, false, false, false, false, false, false, false, false, false, false, false, false] (by kernel_rfl) rfl rfl ⟨(blk_cell BK116.out 0).trans rfl, (blk_cell BK116.out 1).trans rfl, hx117_0, hx117_1, hx118_0, hx118_1⟩ (fun hHeld => ?_); refine with_tabW hull_Of_2.tab6 hull_Of_2.bits6 (fun HT_ HW_ => ?_)
                              generalize wr.drew = w18 at HO_3 BK116 HB hx117_0 hx117_1 hx118_0 hx118_1 hHeld ⊢
                              refine pure_ (i := 0) (N := some 15) (v := ?_) (a' := ?_) #[true, false, false, false, false, false, false, false, false, false, false, false, false, false, false, false, false] rfl rfl (any_of HT_.out (by kernel_rfl)) (fun _ _ _ h => h) (Or.inl ⟨by rfl, ?_⟩) ?_ ?_
                              rotate_left
                              · intro w'
                                go_simp
                                with_reducible rfl
                              rotate_left
                              · simp only [Act.put, List.setIfInBounds_toArray, List.set_cons_zero, List.set_cons_succ, i64_w, i32_w]
                                rfl
                              refine pure_ (i := 1) (N := some 16) (v := ?_) (a' := ?_) #[true, true, false, false, false, false, false, false, false, false, false, false, false, false, false, false, false] rfl rfl (any_of HT_.out (by kernel_rfl)) (fun _ _ _ h => h) (Or.inl ⟨by rfl, ?_⟩) ?_ ?_
                              rotate_left
                              · intro w'
                                go_simp
                                with_reducible rfl
                              rotate_left
                              · simp only [Act.put, List.setIfInBounds_toArray, List.set_cons_zero, List.set_cons_succ, i64_w, i32_w]
                                rfl
                              refine pure_ (i := 2) (N := some 17) (v := ?_) (a' := ?_) #[true, true, true, false, false, false, false, false, false, false, false, false, false, false, false, false, false] rfl rfl (any_of HT_.out (by kernel_rfl)) (fun _ _ _ h => h) (Or.inl ⟨by rfl, ?_⟩) ?_ ?_
                              rotate_left
                              · intro w'
                                go_simp
                                with_reducible rfl
                              rotate_left
                              · simp only [Act.put, List.setIfInBounds_toArray, List.set_cons_zero, List.set_cons_succ, i64_w, i32_w]
                                rfl
                              refine pure_ (i := 3) (N := some 18) (v := ?_) (a' := ?_) #[true, true, true, true, false, false, false, false, false, false, false, false, false, false, false, false, false] rfl rfl (any_of HT_.out (by kernel_rfl)) (fun _ _ _ h => h) (Or.inl ⟨by rfl, ?_⟩) ?_ ?_
                              rotate_left
                              · intro w'
                                go_simp
                                with_reducible rfl
                              rotate_left
                              · simp only [Act.put, List.setIfInBounds_toArray, List.set_cons_zero, List.set_cons_succ, i64_w, i32_w]
                                rfl
                              refine pure_ (i := 4) (N := some 19) (v := ?_) (a' := ?_) #[true, true, true, true, true, false, false, false, false, false, false, false, false, false, false, false, false] rfl rfl (any_of HT_.out (by kernel_rfl)) (fun _ _ _ h => h) (Or.inl ⟨by rfl, ?_⟩) ?_ ?_
                              rotate_left
                              · intro w'
                                go_simp
                                with_reducible rfl
                              rotate_left
                              · simp only [Act.put, List.setIfInBounds_toArray, List.set_cons_zero, List.set_cons_succ, i64_w, i32_w]
                                rfl
                              refine pure_ (i := 5) (N := some 20) (v := ?_) (a' := ?_) #[true, true, true, true, true, true, false, false, false, false, false, false, false, false, false, false, false] rfl rfl (any_of HT_.out (by kernel_rfl)) (fun _ _ _ h => h) (Or.inl ⟨by rfl, ?_⟩) ?_ ?_
                              rotate_left
                              · intro w'
                                go_simp
                                with_reducible rfl
                              rotate_left
                              · simp only [Act.put, List.setIfInBounds_toArray, List.set_cons_zero, List.set_cons_succ, i64_w, i32_w]
                                rfl
                              refine pure_ (i := 6) (N := some 21) (v := ?_) (a' := ?_) #[true, true, true, true, true, true, true, false, false, false, false, false, false, false, false, false, false] rfl rfl (any_of HT_.out (by kernel_rfl)) (fun _ _ _ h => h) (Or.inl ⟨by rfl, ?_⟩) ?_ ?_
                              rotate_left
                              · intro w'
                                go_simp
                                with_reducible rfl
                              rotate_left
                              · simp only [Act.put, List.setIfInBounds_toArray, List.set_cons_zero, List.set_cons_succ, i64_w, i32_w]
                                rfl
                              refine pure_ (i := 8) (N := some 23) (v := ?_) (a' := ?_) #[true, true, true, true, true, true, true, false, true, false, false, false, false, false, false, false, false] rfl rfl (any_of HT_.out (by kernel_rfl)) (fun _ _ _ h => h) (Or.inl ⟨by rfl, ?_⟩) ?_ ?_
                              rotate_left
                              · intro w'
                                go_simp
                                with_reducible rfl
                              rotate_left
                              · simp only [Act.put, List.setIfInBounds_toArray, List.set_cons_zero, List.set_cons_succ, i64_w, i32_w]
                                rfl
                              refine pure_ (i := 9) (N := some 24) (v := ?_) (a' := ?_) #[true, true, true, true, true, true, true, false, true, true, false, false, false, false, false, false, false] rfl rfl (any_of HT_.out (by kernel_rfl)) (fun _ _ _ h => h) (Or.inl ⟨by rfl, ?_⟩) ?_ ?_
                              rotate_left
                              · intro w'
                                go_simp
                                with_reducible rfl
                              rotate_left
                              · simp only [Act.put, List.setIfInBounds_toArray, List.set_cons_zero, List.set_cons_succ, i64_w, i32_w]
                                rfl
                              refine pure_ (i := 10) (N := some 25) (v := ?_) (a' := ?_) #[true, true, true, true, true, true, true, false, true, true, true, false, false, false, false, false, false] rfl rfl (any_of HT_.out (by kernel_rfl)) (fun _ _ _ h => h) (Or.inl ⟨by rfl, ?_⟩) ?_ ?_
                              rotate_left
                              · intro w'
                                go_simp
                                with_reducible rfl
                              rotate_left
                              · simp only [Act.put, List.setIfInBounds_toArray, List.set_cons_zero, List.set_cons_succ, i64_w, i32_w]
                                rfl
                              refine pure_ (i := 11) (N := some 26) (v := ?_) (a' := ?_) #[true, true, true, true, true, true, true, false, true, true, true, true, false, false, false, false, false] rfl rfl (any_of HT_.out (by kernel_rfl)) (fun _ _ _ h => h) (Or.inl ⟨by rfl, ?_⟩) ?_ ?_
                              rotate_left
                              · intro w'
                                go_simp
                                with_reducible rfl
                              rotate_left
                              · simp only [Act.put, List.setIfInBounds_toArray, List.set_cons_zero, List.set_cons_succ, i64_w, i32_w]
                                rfl
                              refine take_ (i := 7) (N := some 22) (v := ?_) (a' := ?_) #[true, true, true, true, true, true, true, true, true, true, true, true, false, false, false, false, false] rfl rfl (take_ofW HT_.out HW_.out (by kernel_rfl)) (fun _ _ _ h => h) (Or.inl ⟨by rfl, ?_⟩) hHeld ?_ ?_
                              rotate_left
                              · rintro w' ⟨s0, s1, s2, s3, s4, s5⟩
                                go_simp
                                with_reducible rfl
                              rotate_left
                              · simp only [Act.put, List.setIfInBounds_toArray, List.set_cons_zero, List.set_cons_succ, i64_w, i32_w]
                                rfl
                              refine take_ (i := 12) (N := some 27) (v := ?_) (a' := ?_) #[true, true, true, true, true, true, true, true, true, true, true, true, true, false, false, false, false] rfl rfl (take_ofW HT_.out HW_.out (by kernel_rfl)) (fun _ _ _ h => h) (Or.inl ⟨by rfl, ?_⟩) hHeld ?_ ?_
                              rotate_left
                              · rintro w' ⟨s0, s1, s2, s3, s4, s5⟩
                                go_simp
                                with_reducible rfl
                              rotate_left
                              · simp only [Act.put, List.setIfInBounds_toArray, List.set_cons_zero, List.set_cons_succ, i64_w, i32_w]
                                rfl
                              refine take_ (i := 13) (N := some 28) (v := ?_) (a' := ?_) #[true, true, true, true, true, true, true, true, true, true, true, true, true, true, false, false, false] rfl rfl (take_ofW HT_.out HW_.out (by kernel_rfl)) (fun _ _ _ h => h) (Or.inl ⟨by rfl, ?_⟩) hHeld ?_ ?_
                              rotate_left
                              · rintro w' ⟨s0, s1, s2, s3, s4, s5⟩
                                go_simp
                                with_reducible rfl
                              rotate_left
                              · simp only [Act.put, List.setIfInBounds_toArray, List.set_cons_zero, List.set_cons_succ, i64_w, i32_w]
                                rfl
                              refine one_ (i := 14) (N := some 29) #[true, true, true, true, true, true, true, true, true, true, true, true, true, true, true, false, false] rfl rfl (one_of HT_.out (by kernel_rfl)) (by decide) (fun K hK => ?_)
                              refine goes_ Try.func21 (by kernel_rfl) rfl #[.agg #[.int .i64 ((rd_T28 x3_2 (ji9)).f0), .int .i64 ((rd_T28 x3_2 (ji9)).f1)], .agg #[.int .i64 ((rd_T28 x3_2 (ji12)).f0), .int .i64 ((rd_T28 x3_2 (ji12)).f1)], .agg #[.int .i64 ((rd_T28 l0 x9_1).f0), .int .i64 ((rd_T28 l0 x9_1).f1)]] (by rfl) rfl rfl (by (try simp only [List.map_toArray, List.map_cons, List.map_nil]); first | done | (simp only [hji12, hji9]; rfl) | rfl | (simp only [List.length_drop, List.length_take]; rfl)) ?_
                              with_reducible refine (seg_Turn.calls k2 ((rd_T28 x3_2 (ji9)).f0) ((rd_T28 x3_2 (ji9)).f1) ((rd_T28 x3_2 (ji12)).f0) ((rd_T28 x3_2 (ji12)).f1) ((rd_T28 l0 x9_1).f0) ((rd_T28 l0 x9_1).f1) t119 _ A15.out).mono ?_
                              rintro e w20 ⟨rfl, hb⟩
                              have HS2_ := (hb.cell (World.block_lt_of_cell? _ _ (hHeld.2.2.1))).trans (hHeld.2.2.1)
                              have HS3_ := (hb.cell (World.block_lt_of_cell? _ _ (hHeld.2.2.2.1))).trans (hHeld.2.2.2.1)
                              have HS4_ := (hb.cell (World.block_lt_of_cell? _ _ (hHeld.2.2.2.2.1))).trans (hHeld.2.2.2.2.1)
                              have HS5_ := (hb.cell (World.block_lt_of_cell? _ _ (hHeld.2.2.2.2.2))).trans (hHeld.2.2.2.2.2)
                              refine ⟨_, rfl, ?_⟩
                              have n0_ := Aside0.mk (OutS.below HO_3.out hb)
                              have n1_ := Aside0.mk (blk_below (g := gb116) (o := .cells #[.int .i64 ((rd_T28 l0 x9_1).f0), .int .i64 ((rd_T28 l0 x9_1).f1)] 28 (0, 0)) (by (with_reducible repeat (first | refine blk_drewN ?_ _ | refine blk_drew ?_ | refine blk_alloc ?_ _)); exact BK116.out) hb)
                              have n2_ := Aside0.mk (below_step (by repeat (first | (with_reducible first | exact HB.out | apply below_alloc | apply pw_below_drewN | apply below_drew1 | refine below_set ?_ GE116.out) | exact HB.out)) hb)
                              clear HO_3
                              clear BK116
                              clear HB
                              have HO_3 := n0_
                              have BK116 := n1_
                              have HB := n2_
                              clear n0_ n1_ n2_
                              (try clear hb)
                              (try clear hb2)
                              (try clear hk)
                              (try clear hi)
                              refine hK.out _ _ ⟨(blk_cell BK116.out 0).trans rfl, (blk_cell BK116.out 1).trans rfl, HS2_, HS3_, HS4_, HS5_⟩ (fun hHeld => ?_)
                              clear hK K
                              refine norm_ (a' := ?_) ?_ ?_
                              rotate_left
                              · show Act.put _ (some 29) _ = _
                                simp only [Act.put, List.setIfInBounds_toArray, List.set_cons_zero, List.set_cons_succ, i64_w, i32_w]
                                rfl
                              refine pure_ (i := 15) (N := some 30) (v := ?_) (a' := ?_) #[true, true, true, true, true, true, true, true, true, true, true, true, true, true, true, true, false] rfl rfl (any_of HT_.out (by kernel_rfl)) (fun _ _ _ h => h) (Or.inl ⟨by rfl, ?_⟩) ?_ ?_
                              rotate_left
                              · intro w'
                                go_simp
                                with_reducible rfl
                              rotate_left
                              · simp only [Act.put, List.setIfInBounds_toArray, List.set_cons_zero, List.set_cons_succ, i64_w, i32_w]
                                rfl
                              refine pure_ (i := 16) (N := some 31) (v := ?_) (a' := ?_) #[true, true, true, true, true, true, true, true, true, true, true, true, true, true, true, true, true] rfl rfl (any_of HT_.out (by kernel_rfl)) (fun _ _ _ h => h) (Or.inl ⟨by rfl, ?_⟩) ?_ ?_
                              rotate_left
                              · intro w'
                                go_simp
                                with_reducible rfl
                              rotate_left
                              · simp only [Act.put, List.setIfInBounds_toArray, List.set_cons_zero, List.set_cons_succ, i64_w, i32_w]
                                rfl
                              refine done_ (done_of HT_.out (by kernel_rfl)) ?_
                              have q21 : ((ji12) : Int) ≤ ((x3_2.length : Int) : Int) := of_decide_eq_true (by first | (with_reducible assumption) | assumption)
                              obtain ⟨i021, hi021, _, hsz21, _⟩ := info_parts info28
                              have hcut21 := cut_to3 (P := Try.prog) 22 28 .i64 Try.underlying22 hi021 (some ad117) x3_2.length co19 (ji12) (of_decide_eq_true (by first | (with_reducible assumption) | assumption)) q21 (OutS.reads' HO_3.out).2.1
                              have hr21 := OutS.cut (base := w.heap.size) (m := ((ji12) : Int).toNat) (OutS.reads' HO_3.out).2.2 (by omega)
                              have hy21 : y120.length = ((ji12) : Int).toNat := (by rw [Ny120.out, List.length_take]; omega)
                              rw [← Ny120.out] at hr21
                              rw [← hy21] at hcut21 hr21
                              clear hy21 hi021 hsz21 HO_3
                              have HO122 := Aside0.mk hr21
                              clear hr21
                              replace q21 := eq_true q21
                              try go_wp2
                              go_roundg k2
                              case measure => have := HK1.out; have := HK2.out; omega
                              case rel => exact ⟨(y120), (ji12), (by first | rfl | (simp; done) | (simp only [← hji12] <;> (first | rfl | simp)) | (simp [*]; done)), H', ⟨by have := HK1.out; have := HK2.out; omega⟩, ⟨by (with_reducible repeat (first | apply Kd.R_alloc | apply Kd.R_drewN | apply Kd.R_drew)); exact HO122.out⟩, ⟨by (with_reducible repeat (first | refine blk_drewN ?_ _ | refine blk_drew ?_ | refine blk_alloc ?_ _)); exact BK116.out⟩, ⟨by repeat (first | (with_reducible first | exact HB.out | apply below_alloc | apply pw_below_drewN | apply below_drew1 | refine below_set ?_ GE116.out) | exact HB.out)⟩⟩
                            · rw [if_neg c17] at H
                              exact absurd H (by simp)
                          · rw [if_neg c16] at H
                            have c16b0 : decide (t119 ≤ 0) = false := decide_eq_false c16
                            clear c16
                            by_cases c22 : x3_2.length < 8796093022208
                            · rw [if_pos c22] at H
                              have LMc22 := Aside0.mk c22
                              clear c22
                              obtain ⟨y123, hy123⟩ : ∃ y_ : List (S28), y_ = (x3_2 ++ [(⟨((rd_T28 l0 x9_1).f0), ((rd_T28 l0 x9_1).f1)⟩ : S28)]) := ⟨_, rfl⟩
                              replace H : (hull_Of_2.l0 k2 y123 l0 (l0.length : Int) (wrap64 (x9_1 + 1))) = some r := by first | (rw [hy123]; with_reducible exact H) | (have H2_ := (Option.bind_some _ _).symm.trans H; rw [hy123]; with_reducible exact H2_) | (have H2_ := (Option.bind_some _ _).symm.trans H; with_reducible exact H2_) | with_reducible exact H | (rw [hy123]; exact H) | exact H
                              have Ny123 := Aside0.mk hy123
                              clear hy123
                              have H' := Aside0.mk H
                              clear H
                              try go_wp2
                              have n0_ := Aside0.mk (OutS.drew HO_3.out)
                              have n1_ := Aside0.mk (blk_drew BK116.out)
                              have n2_ := Aside0.mk (below_drew1 HB.out)
                              clear HO_3
                              clear BK116
                              clear HB
                              have HO_3 := n0_
                              have BK116 := n1_
                              have HB := n2_
                              clear n0_ n1_ n2_
                              obtain ⟨Ao24, co24, eo24⟩ := OutS.slice HO_3.out
                              (first | subst eo24 | (injection eo24 with f1_ f2_ f3_; have f4_ := f1_.symm; have f5_ := f3_.symm; clear f1_ f2_ f3_; subst f4_; subst f5_))
                              have p117 : 0 ≤ ((ji9) : Int) := of_decide_eq_true (by first | (with_reducible assumption) | assumption)
                              have q117 : (ji9) < (x3_2.length : Int) := of_decide_eq_true (by first | (with_reducible assumption) | assumption)
                              obtain ⟨ad117, e117, hx117_0, hx117_1⟩ := at_T28 (OutS.reads' HO_3.out).2.2 (ji9) p117 q117
                              cases e117
                              replace p117 := eq_true p117
                              replace q117 := eq_true q117
                              have p118 : 0 ≤ ((ji12) : Int) := of_decide_eq_true (by first | (with_reducible assumption) | assumption)
                              have q118 : (ji12) < (x3_2.length : Int) := of_decide_eq_true (by first | (with_reducible assumption) | assumption)
                              obtain ⟨ad118, e118, hx118_0, hx118_1⟩ := at_T28 (OutS.reads' HO_3.out).2.2 (ji12) p118 q118
                              obtain rfl : ad117 = ad118 := (by injection e118)
                              replace p118 := eq_true p118
                              replace q118 := eq_true q118
                              refine start_ (n := 17) (S := fun w' => w'.cell? ⟨gb116, 0, none⟩ = some (.int .i64 ((rd_T28 l0 x9_1).f0)) ∧ w'.cell? ⟨gb116, 1, none⟩ = some (.int .i64 ((rd_T28 l0 x9_1).f1)) ∧ w'.cell? (ad117.add (((ji9)).toNat * 2)) = some (.int .i64 ((rd_T28 x3_2 (ji9)).f0)) ∧ w'.cell? ⟨(ad117.add (((ji9)).toNat * 2)).block, (ad117.add (((ji9)).toNat * 2)).off + 1, none⟩ = some (.int .i64 ((rd_T28 x3_2 (ji9)).f1)) ∧ w'.cell? (ad117.add (((ji12)).toNat * 2)) = some (.int .i64 ((rd_T28 x3_2 (ji12)).f0)) ∧ w'.cell? ⟨(ad117.add (((ji12)).toNat * 2)).block, (ad117.add (((ji12)).toNat * 2)).off + 1, none⟩ = some (.int .i64 ((rd_T28 x3_2 (ji12)).f1))) (ds := []) #[false, false, false, false, false, false, false, false, false, false, false, false, false, false, false, false, false] (by kernel_rfl) rfl rfl ⟨(blk_cell BK116.out 0).trans rfl, (blk_cell BK116.out 1).trans rfl, hx117_0, hx117_1, hx118_0, hx118_1⟩ (fun hHeld => ?_); refine with_tabW hull_Of_2.tab6 hull_Of_2.bits6 (fun HT_ HW_ => ?_)
                              generalize wr.drew = w23 at HO_3 BK116 HB hx117_0 hx117_1 hx118_0 hx118_1 hHeld ⊢
                              refine pure_ (i := 0) (N := some 15) (v := ?_) (a' := ?_) #[true, false, false, false, false, false, false, false, false, false, false, false, false, false, false, false, false] rfl rfl (any_of HT_.out (by kernel_rfl)) (fun _ _ _ h => h) (Or.inl ⟨by rfl, ?_⟩) ?_ ?_
                              rotate_left
                              · intro w'
                                go_simp
                                with_reducible rfl
                              rotate_left
                              · simp only [Act.put, List.setIfInBounds_toArray, List.set_cons_zero, List.set_cons_succ, i64_w, i32_w]
                                rfl
                              refine pure_ (i := 1) (N := some 16) (v := ?_) (a' := ?_) #[true, true, false, false, false, false, false, false, false, false, false, false, false, false, false, false, false] rfl rfl (any_of HT_.out (by kernel_rfl)) (fun _ _ _ h => h) (Or.inl ⟨by rfl, ?_⟩) ?_ ?_
                              rotate_left
                              · intro w'
                                go_simp
                                with_reducible rfl
                              rotate_left
                              · simp only [Act.put, List.setIfInBounds_toArray, List.set_cons_zero, List.set_cons_succ, i64_w, i32_w]
                                rfl
                              refine pure_ (i := 2) (N := some 17) (v := ?_) (a' := ?_) #[true, true, true, false, false, false, false, false, false, false, false, false, false, false, false, false, false] rfl rfl (any_of HT_.out (by kernel_rfl)) (fun _ _ _ h => h) (Or.inl ⟨by rfl, ?_⟩) ?_ ?_
                              rotate_left
                              · intro w'
                                go_simp
                                with_reducible rfl
                              rotate_left
                              · simp only [Act.put, List.setIfInBounds_toArray, List.set_cons_zero, List.set_cons_succ, i64_w, i32_w]
                                rfl
                              refine pure_ (i := 3) (N := some 18) (v := ?_) (a' := ?_) #[true, true, true, true, false, false, false, false, false, false, false, false, false, false, false, false, false] rfl rfl (any_of HT_.out (by kernel_rfl)) (fun _ _ _ h => h) (Or.inl ⟨by rfl, ?_⟩) ?_ ?_
                              rotate_left
                              · intro w'
                                go_simp
                                with_reducible rfl
                              rotate_left
                              · simp only [Act.put, List.setIfInBounds_toArray, List.set_cons_zero, List.set_cons_succ, i64_w, i32_w]
                                rfl
                              refine pure_ (i := 4) (N := some 19) (v := ?_) (a' := ?_) #[true, true, true, true, true, false, false, false, false, false, false, false, false, false, false, false, false] rfl rfl (any_of HT_.out (by kernel_rfl)) (fun _ _ _ h => h) (Or.inl ⟨by rfl, ?_⟩) ?_ ?_
                              rotate_left
                              · intro w'
                                go_simp
                                with_reducible rfl
                              rotate_left
                              · simp only [Act.put, List.setIfInBounds_toArray, List.set_cons_zero, List.set_cons_succ, i64_w, i32_w]
                                rfl
                              refine pure_ (i := 5) (N := some 20) (v := ?_) (a' := ?_) #[true, true, true, true, true, true, false, false, false, false, false, false, false, false, false, false, false] rfl rfl (any_of HT_.out (by kernel_rfl)) (fun _ _ _ h => h) (Or.inl ⟨by rfl, ?_⟩) ?_ ?_
                              rotate_left
                              · intro w'
                                go_simp
                                with_reducible rfl
                              rotate_left
                              · simp only [Act.put, List.setIfInBounds_toArray, List.set_cons_zero, List.set_cons_succ, i64_w, i32_w]
                                rfl
                              refine pure_ (i := 6) (N := some 21) (v := ?_) (a' := ?_) #[true, true, true, true, true, true, true, false, false, false, false, false, false, false, false, false, false] rfl rfl (any_of HT_.out (by kernel_rfl)) (fun _ _ _ h => h) (Or.inl ⟨by rfl, ?_⟩) ?_ ?_
                              rotate_left
                              · intro w'
                                go_simp
                                with_reducible rfl
                              rotate_left
                              · simp only [Act.put, List.setIfInBounds_toArray, List.set_cons_zero, List.set_cons_succ, i64_w, i32_w]
                                rfl
                              refine pure_ (i := 8) (N := some 23) (v := ?_) (a' := ?_) #[true, true, true, true, true, true, true, false, true, false, false, false, false, false, false, false, false] rfl rfl (any_of HT_.out (by kernel_rfl)) (fun _ _ _ h => h) (Or.inl ⟨by rfl, ?_⟩) ?_ ?_
                              rotate_left
                              · intro w'
                                go_simp
                                with_reducible rfl
                              rotate_left
                              · simp only [Act.put, List.setIfInBounds_toArray, List.set_cons_zero, List.set_cons_succ, i64_w, i32_w]
                                rfl
                              refine pure_ (i := 9) (N := some 24) (v := ?_) (a' := ?_) #[true, true, true, true, true, true, true, false, true, true, false, false, false, false, false, false, false] rfl rfl (any_of HT_.out (by kernel_rfl)) (fun _ _ _ h => h) (Or.inl ⟨by rfl, ?_⟩) ?_ ?_
                              rotate_left
                              · intro w'
                                go_simp
                                with_reducible rfl
                              rotate_left
                              · simp only [Act.put, List.setIfInBounds_toArray, List.set_cons_zero, List.set_cons_succ, i64_w, i32_w]
                                rfl
                              refine pure_ (i := 10) (N := some 25) (v := ?_) (a' := ?_) #[true, true, true, true, true, true, true, false, true, true, true, false, false, false, false, false, false] rfl rfl (any_of HT_.out (by kernel_rfl)) (fun _ _ _ h => h) (Or.inl ⟨by rfl, ?_⟩) ?_ ?_
                              rotate_left
                              · intro w'
                                go_simp
                                with_reducible rfl
                              rotate_left
                              · simp only [Act.put, List.setIfInBounds_toArray, List.set_cons_zero, List.set_cons_succ, i64_w, i32_w]
                                rfl
                              refine pure_ (i := 11) (N := some 26) (v := ?_) (a' := ?_) #[true, true, true, true, true, true, true, false, true, true, true, true, false, false, false, false, false] rfl rfl (any_of HT_.out (by kernel_rfl)) (fun _ _ _ h => h) (Or.inl ⟨by rfl, ?_⟩) ?_ ?_
                              rotate_left
                              · intro w'
                                go_simp
                                with_reducible rfl
                              rotate_left
                              · simp only [Act.put, List.setIfInBounds_toArray, List.set_cons_zero, List.set_cons_succ, i64_w, i32_w]
                                rfl
                              refine take_ (i := 7) (N := some 22) (v := ?_) (a' := ?_) #[true, true, true, true, true, true, true, true, true, true, true, true, false, false, false, false, false] rfl rfl (take_ofW HT_.out HW_.out (by kernel_rfl)) (fun _ _ _ h => h) (Or.inl ⟨by rfl, ?_⟩) hHeld ?_ ?_
                              rotate_left
                              · rintro w' ⟨s0, s1, s2, s3, s4, s5⟩
                                go_simp
                                with_reducible rfl
                              rotate_left
                              · simp only [Act.put, List.setIfInBounds_toArray, List.set_cons_zero, List.set_cons_succ, i64_w, i32_w]
                                rfl
                              refine take_ (i := 12) (N := some 27) (v := ?_) (a' := ?_) #[true, true, true, true, true, true, true, true, true, true, true, true, true, false, false, false, false] rfl rfl (take_ofW HT_.out HW_.out (by kernel_rfl)) (fun _ _ _ h => h) (Or.inl ⟨by rfl, ?_⟩) hHeld ?_ ?_
                              rotate_left
                              · rintro w' ⟨s0, s1, s2, s3, s4, s5⟩
                                go_simp
                                with_reducible rfl
                              rotate_left
                              · simp only [Act.put, List.setIfInBounds_toArray, List.set_cons_zero, List.set_cons_succ, i64_w, i32_w]
                                rfl
                              refine take_ (i := 13) (N := some 28) (v := ?_) (a' := ?_) #[true, true, true, true, true, true, true, true, true, true, true, true, true, true, false, false, false] rfl rfl (take_ofW HT_.out HW_.out (by kernel_rfl)) (fun _ _ _ h => h) (Or.inl ⟨by rfl, ?_⟩) hHeld ?_ ?_
                              rotate_left
                              · rintro w' ⟨s0, s1, s2, s3, s4, s5⟩
                                go_simp
                                with_reducible rfl
                              rotate_left
                              · simp only [Act.put, List.setIfInBounds_toArray, List.set_cons_zero, List.set_cons_succ, i64_w, i32_w]
                                rfl
                              refine one_ (i := 14) (N := some 29) #[true, true, true, true, true, true, true, true, true, true, true, true, true, true, true, false, false] rfl rfl (one_of HT_.out (by kernel_rfl)) (by decide) (fun K hK => ?_)
                              refine goes_ Try.func21 (by kernel_rfl) rfl #[.agg #[.int .i64 ((rd_T28 x3_2 (ji9)).f0), .int .i64 ((rd_T28 x3_2 (ji9)).f1)], .agg #[.int .i64 ((rd_T28 x3_2 (ji12)).f0), .int .i64 ((rd_T28 x3_2 (ji12)).f1)], .agg #[.int .i64 ((rd_T28 l0 x9_1).f0), .int .i64 ((rd_T28 l0 x9_1).f1)]] (by rfl) rfl rfl (by (try simp only [List.map_toArray, List.map_cons, List.map_nil]); first | done | (simp only [hji12, hji9]; rfl) | rfl | (simp only [List.length_drop, List.length_take]; rfl)) ?_
                              with_reducible refine (seg_Turn.calls k2 ((rd_T28 x3_2 (ji9)).f0) ((rd_T28 x3_2 (ji9)).f1) ((rd_T28 x3_2 (ji12)).f0) ((rd_T28 x3_2 (ji12)).f1) ((rd_T28 l0 x9_1).f0) ((rd_T28 l0 x9_1).f1) t119 _ A15.out).mono ?_
                              rintro e w25 ⟨rfl, hb⟩
                              have HS2_ := (hb.cell (World.block_lt_of_cell? _ _ (hHeld.2.2.1))).trans (hHeld.2.2.1)
                              have HS3_ := (hb.cell (World.block_lt_of_cell? _ _ (hHeld.2.2.2.1))).trans (hHeld.2.2.2.1)
                              have HS4_ := (hb.cell (World.block_lt_of_cell? _ _ (hHeld.2.2.2.2.1))).trans (hHeld.2.2.2.2.1)
                              have HS5_ := (hb.cell (World.block_lt_of_cell? _ _ (hHeld.2.2.2.2.2))).trans (hHeld.2.2.2.2.2)
                              refine ⟨_, rfl, ?_⟩
                              have n0_ := Aside0.mk (OutS.below HO_3.out hb)
                              have n1_ := Aside0.mk (blk_below (g := gb116) (o := .cells #[.int .i64 ((rd_T28 l0 x9_1).f0), .int .i64 ((rd_T28 l0 x9_1).f1)] 28 (0, 0)) (by (with_reducible repeat (first | refine blk_drewN ?_ _ | refine blk_drew ?_ | refine blk_alloc ?_ _)); exact BK116.out) hb)
                              have n2_ := Aside0.mk (below_step (by repeat (first | (with_reducible first | exact HB.out | apply below_alloc | apply pw_below_drewN | apply below_drew1 | refine below_set ?_ GE116.out) | exact HB.out)) hb)
                              clear HO_3
                              clear BK116
                              clear HB
                              have HO_3 := n0_
                              have BK116 := n1_
                              have HB := n2_
                              clear n0_ n1_ n2_
                              (try clear hb)
                              (try clear hb2)
                              (try clear hk)
                              (try clear hi)
                              refine hK.out _ _ ⟨(blk_cell BK116.out 0).trans rfl, (blk_cell BK116.out 1).trans rfl, HS2_, HS3_, HS4_, HS5_⟩ (fun hHeld => ?_)
                              clear hK K
                              refine norm_ (a' := ?_) ?_ ?_
                              rotate_left
                              · show Act.put _ (some 29) _ = _
                                simp only [Act.put, List.setIfInBounds_toArray, List.set_cons_zero, List.set_cons_succ, i64_w, i32_w]
                                rfl
                              refine pure_ (i := 15) (N := some 30) (v := ?_) (a' := ?_) #[true, true, true, true, true, true, true, true, true, true, true, true, true, true, true, true, false] rfl rfl (any_of HT_.out (by kernel_rfl)) (fun _ _ _ h => h) (Or.inl ⟨by rfl, ?_⟩) ?_ ?_
                              rotate_left
                              · intro w'
                                go_simp
                                with_reducible rfl
                              rotate_left
                              · simp only [Act.put, List.setIfInBounds_toArray, List.set_cons_zero, List.set_cons_succ, i64_w, i32_w]
                                rfl
                              refine pure_ (i := 16) (N := some 31) (v := ?_) (a' := ?_) #[true, true, true, true, true, true, true, true, true, true, true, true, true, true, true, true, true] rfl rfl (any_of HT_.out (by kernel_rfl)) (fun _ _ _ h => h) (Or.inl ⟨by rfl, ?_⟩) ?_ ?_
                              rotate_left
                              · intro w'
                                go_simp
                                with_reducible rfl
                              rotate_left
                              · simp only [Act.put, List.setIfInBounds_toArray, List.set_cons_zero, List.set_cons_succ, i64_w, i32_w]
                                rfl
                              refine done_ (done_of HT_.out (by kernel_rfl)) ?_
                              have hcz26_0 : w25.cell? ⟨gb116, 0, none⟩ = some (.int .i64 ((rd_T28 l0 x9_1).f0)) := (blk_cell BK116.out 0).trans rfl
                              have hcz26_1 : w25.cell? ⟨gb116, 1, none⟩ = some (.int .i64 ((rd_T28 l0 x9_1).f1)) := (blk_cell BK116.out 1).trans rfl
                              have hfz26_0 := blk_frozen BK116.out 0
                              have hfz26_1 := blk_frozen BK116.out 1
                              try go_wp2_with (first | ((with_reducible refine gate_builtin (b := .append) (xs := #[.tmp 40, .tmp 42]) rfl ?_); at_builtin; refine OutS.append (w0 := w) w.heap.size rfl (.tmp 40) (.tmp 42) 22 rfl Try.underlying22 info28 (.slice (some ad117) x3_2.length co24) x3_2 (⟨((rd_T28 l0 x9_1).f0), ((rd_T28 l0 x9_1).f1)⟩ : S28) rfl rfl ?aO ?aB ?aS ?aL ?_; (case aB => exact (by repeat (first | (with_reducible first | exact HB.out | apply below_alloc | apply pw_below_drewN | apply below_drew1 | refine below_set ?_ GE116.out) | exact HB.out))); (case aO => exact HO_3.out); (case aS => exact (below_size (by repeat (first | (with_reducible first | exact HB.out | apply below_alloc | apply pw_below_drewN | apply below_drew1 | refine below_set ?_ GE116.out) | exact HB.out)))); (case aL => have := LMc22.out; omega); intro v124 w27 ho hb; rw [← Ny123.out] at ho; have n1_ := Aside0.mk (hb); have n2_ := Aside0.mk (ho); clear BK116; clear HB; clear HO_3; have HB := n1_; have HO125 := n2_; clear n1_ n2_; clear ho hb))
                              go_roundg k2
                              case measure => have := HK1.out; have := HK2.out; omega
                              case rel => exact ⟨(y123), (wrap64 (x9_1 + 1)), (by first | rfl | (simp; done) | (simp [*]; done)), H', ⟨by have := HK1.out; have := HK2.out; omega⟩, ⟨by (with_reducible repeat (first | apply Kd.R_alloc | apply Kd.R_drewN | apply Kd.R_drew)); exact HO125.out⟩, ⟨by repeat (first | (with_reducible first | exact HB.out | apply below_alloc | apply pw_below_drewN | apply below_drew1 | refine below_set ?_ GE116.out) | exact HB.out)⟩⟩
                            · rw [if_neg c22] at H
                              exact absurd H (by simp)
                        · rw [if_neg c14] at H
                          exact absurd H (by simp)
                      · rw [if_neg c13] at H
                        exact absurd H (by simp)
                    · rw [if_neg c11] at H
                      exact absurd H (by simp)
                  · rw [if_neg c10] at H
                    exact absurd H (by simp)
                · rw [if_neg c8] at H
                  have c8b0 : decide (1 < x6_2) = false := decide_eq_false c8
                  clear c8
                  by_cases c28 : x3_2.length < 8796093022208
                  · rw [if_pos c28] at H
                    have LMc28 := Aside0.mk c28
                    clear c28
                    obtain ⟨y126, hy126⟩ : ∃ y_ : List (S28), y_ = (x3_2 ++ [(⟨((rd_T28 l0 x9_1).f0), ((rd_T28 l0 x9_1).f1)⟩ : S28)]) := ⟨_, rfl⟩
                    replace H : (hull_Of_2.l0 k2 y126 l0 (l0.length : Int) (wrap64 (x9_1 + 1))) = some r := by first | (rw [hy126]; with_reducible exact H) | (have H2_ := (Option.bind_some _ _).symm.trans H; rw [hy126]; with_reducible exact H2_) | (have H2_ := (Option.bind_some _ _).symm.trans H; with_reducible exact H2_) | with_reducible exact H | (rw [hy126]; exact H) | exact H
                    have Ny126 := Aside0.mk hy126
                    clear hy126
                    have H' := Aside0.mk H
                    clear H
                    try go_wp2
                    have n0_ := Aside0.mk (OutS.drew HO_3.out)
                    have n1_ := Aside0.mk (blk_drew BK116.out)
                    have n2_ := Aside0.mk (below_drew1 HB.out)
                    clear HO_3
                    clear BK116
                    clear HB
                    have HO_3 := n0_
                    have BK116 := n1_
                    have HB := n2_
                    clear n0_ n1_ n2_
                    refine start_ (n := 17) (S := fun w' => True) (ds := []) #[false, false, false, false, false, false, false, false, false, false, false, false, false, false, false, false, false] (by kernel_rfl) rfl rfl trivial (fun hHeld => ?_); refine with_tabW hull_Of_2.tab6 hull_Of_2.bits6 (fun HT_ HW_ => ?_)
                    generalize wr.drew = w29 at HO_3 BK116 HB hHeld ⊢
                    refine pure_ (i := 0) (N := some 15) (v := ?_) (a' := ?_) #[true, false, false, false, false, false, false, false, false, false, false, false, false, false, false, false, false] rfl rfl (any_of HT_.out (by kernel_rfl)) (fun _ _ _ h => h) (Or.inl ⟨by rfl, ?_⟩) ?_ ?_
                    rotate_left
                    · intro w'
                      go_simp
                      with_reducible rfl
                    rotate_left
                    · simp only [Act.put, List.setIfInBounds_toArray, List.set_cons_zero, List.set_cons_succ, i64_w, i32_w]
                      rfl
                    refine pure_ (i := 1) (N := some 16) (v := ?_) (a' := ?_) #[true, true, false, false, false, false, false, false, false, false, false, false, false, false, false, false, false] rfl rfl (any_of HT_.out (by kernel_rfl)) (fun _ _ _ h => h) (Or.inl ⟨by rfl, ?_⟩) ?_ ?_
                    rotate_left
                    · intro w'
                      go_simp
                      with_reducible rfl
                    rotate_left
                    · simp only [Act.put, List.setIfInBounds_toArray, List.set_cons_zero, List.set_cons_succ, i64_w, i32_w]
                      rfl
                    refine pure_ (i := 2) (N := some 17) (v := ?_) (a' := ?_) #[true, true, true, false, false, false, false, false, false, false, false, false, false, false, false, false, false] rfl rfl (any_of HT_.out (by kernel_rfl)) (fun _ _ _ h => h) (Or.inl ⟨by rfl, ?_⟩) ?_ ?_
                    rotate_left
                    · intro w'
                      go_simp
                      with_reducible rfl
                    rotate_left
                    · simp only [Act.put, List.setIfInBounds_toArray, List.set_cons_zero, List.set_cons_succ, i64_w, i32_w]
                      rfl
                    refine pure_ (i := 3) (N := some 18) (v := undef) (a' := ?_) #[true, true, true, true, false, false, false, false, false, false, false, false, false, false, false, false, false] rfl rfl (any_of HT_.out (by kernel_rfl)) (fun _ _ _ h => h) (Or.inr ⟨by rfl, rfl⟩) ?_ ?_
                    rotate_left
                    · simp only [Act.put, List.setIfInBounds_toArray, List.set_cons_zero, List.set_cons_succ, i64_w, i32_w]
                      rfl
                    refine pure_ (i := 4) (N := some 19) (v := undef) (a' := ?_) #[true, true, true, true, true, false, false, false, false, false, false, false, false, false, false, false, false] rfl rfl (any_of HT_.out (by kernel_rfl)) (fun _ _ _ h => h) (Or.inr ⟨by rfl, rfl⟩) ?_ ?_
                    rotate_left
                    · simp only [Act.put, List.setIfInBounds_toArray, List.set_cons_zero, List.set_cons_succ, i64_w, i32_w]
                      rfl
                    refine pure_ (i := 5) (N := some 20) (v := undef) (a' := ?_) #[true, true, true, true, true, true, false, false, false, false, false, false, false, false, false, false, false] rfl rfl (any_of HT_.out (by kernel_rfl)) (fun _ _ _ h => h) (Or.inr ⟨by rfl, rfl⟩) ?_ ?_
                    rotate_left
                    · simp only [Act.put, List.setIfInBounds_toArray, List.set_cons_zero, List.set_cons_succ, i64_w, i32_w]
                      rfl
                    refine pure_ (i := 6) (N := some 21) (v := undef) (a' := ?_) #[true, true, true, true, true, true, true, false, false, false, false, false, false, false, false, false, false] rfl rfl (any_of HT_.out (by kernel_rfl)) (fun _ _ _ h => h) (Or.inr ⟨by rfl, rfl⟩) ?_ ?_
                    rotate_left
                    · simp only [Act.put, List.setIfInBounds_toArray, List.set_cons_zero, List.set_cons_succ, i64_w, i32_w]
                      rfl
                    refine pure_ (i := 7) (N := some 22) (v := undef) (a' := ?_) #[true, true, true, true, true, true, true, true, false, false, false, false, false, false, false, false, false] rfl rfl (any_of HT_.out (by kernel_rfl)) (fun _ _ _ h => h) (Or.inr ⟨by rfl, rfl⟩) ?_ ?_
                    rotate_left
                    · simp only [Act.put, List.setIfInBounds_toArray, List.set_cons_zero, List.set_cons_succ, i64_w, i32_w]
                      rfl
                    refine pure_ (i := 8) (N := some 23) (v := undef) (a' := ?_) #[true, true, true, true, true, true, true, true, true, false, false, false, false, false, false, false, false] rfl rfl (any_of HT_.out (by kernel_rfl)) (fun _ _ _ h => h) (Or.inr ⟨by rfl, rfl⟩) ?_ ?_
                    rotate_left
                    · simp only [Act.put, List.setIfInBounds_toArray, List.set_cons_zero, List.set_cons_succ, i64_w, i32_w]
                      rfl
                    refine pure_ (i := 9) (N := some 24) (v := undef) (a' := ?_) #[true, true, true, true, true, true, true, true, true, true, false, false, false, false, false, false, false] rfl rfl (any_of HT_.out (by kernel_rfl)) (fun _ _ _ h => h) (Or.inr ⟨by rfl, rfl⟩) ?_ ?_
                    rotate_left
                    · simp only [Act.put, List.setIfInBounds_toArray, List.set_cons_zero, List.set_cons_succ, i64_w, i32_w]
                      rfl
                    refine pure_ (i := 10) (N := some 25) (v := undef) (a' := ?_) #[true, true, true, true, true, true, true, true, true, true, true, false, false, false, false, false, false] rfl rfl (any_of HT_.out (by kernel_rfl)) (fun _ _ _ h => h) (Or.inr ⟨by rfl, rfl⟩) ?_ ?_
                    rotate_left
                    · simp only [Act.put, List.setIfInBounds_toArray, List.set_cons_zero, List.set_cons_succ, i64_w, i32_w]
                      rfl
                    refine pure_ (i := 11) (N := some 26) (v := undef) (a' := ?_) #[true, true, true, true, true, true, true, true, true, true, true, true, false, false, false, false, false] rfl rfl (any_of HT_.out (by kernel_rfl)) (fun _ _ _ h => h) (Or.inr ⟨by rfl, rfl⟩) ?_ ?_
                    rotate_left
                    · simp only [Act.put, List.setIfInBounds_toArray, List.set_cons_zero, List.set_cons_succ, i64_w, i32_w]
                      rfl
                    refine pure_ (i := 12) (N := some 27) (v := undef) (a' := ?_) #[true, true, true, true, true, true, true, true, true, true, true, true, true, false, false, false, false] rfl rfl (any_of HT_.out (by kernel_rfl)) (fun _ _ _ h => h) (Or.inr ⟨by rfl, rfl⟩) ?_ ?_
                    rotate_left
                    · simp only [Act.put, List.setIfInBounds_toArray, List.set_cons_zero, List.set_cons_succ, i64_w, i32_w]
                      rfl
                    refine pure_ (i := 13) (N := some 28) (v := undef) (a' := ?_) #[true, true, true, true, true, true, true, true, true, true, true, true, true, true, false, false, false] rfl rfl (any_of HT_.out (by kernel_rfl)) (fun _ _ _ h => h) (Or.inr ⟨by rfl, rfl⟩) ?_ ?_
                    rotate_left
                    · simp only [Act.put, List.setIfInBounds_toArray, List.set_cons_zero, List.set_cons_succ, i64_w, i32_w]
                      rfl
                    refine pure_ (i := 14) (N := some 29) (v := undef) (a' := ?_) #[true, true, true, true, true, true, true, true, true, true, true, true, true, true, true, false, false] rfl rfl (any_of HT_.out (by kernel_rfl)) (fun _ _ _ h => h) (Or.inr ⟨by rfl, rfl⟩) ?_ ?_
                    rotate_left
                    · simp only [Act.put, List.setIfInBounds_toArray, List.set_cons_zero, List.set_cons_succ, i64_w, i32_w]
                      rfl
                    refine pure_ (i := 15) (N := some 30) (v := undef) (a' := ?_) #[true, true, true, true, true, true, true, true, true, true, true, true, true, true, true, true, false] rfl rfl (any_of HT_.out (by kernel_rfl)) (fun _ _ _ h => h) (Or.inr ⟨by rfl, rfl⟩) ?_ ?_
                    rotate_left
                    · simp only [Act.put, List.setIfInBounds_toArray, List.set_cons_zero, List.set_cons_succ, i64_w, i32_w]
                      rfl
                    refine pure_ (i := 16) (N := some 31) (v := ?_) (a' := ?_) #[true, true, true, true, true, true, true, true, true, true, true, true, true, true, true, true, true] rfl rfl (any_of HT_.out (by kernel_rfl)) (fun _ _ _ h => h) (Or.inl ⟨by rfl, ?_⟩) ?_ ?_
                    rotate_left
                    · intro w'
                      go_simp
                      with_reducible rfl
                    rotate_left
                    · simp only [Act.put, List.setIfInBounds_toArray, List.set_cons_zero, List.set_cons_succ, i64_w, i32_w]
                      rfl
                    refine done_ (done_of HT_.out (by kernel_rfl)) ?_
                    have hcz30_0 : w29.cell? ⟨gb116, 0, none⟩ = some (.int .i64 ((rd_T28 l0 x9_1).f0)) := (blk_cell BK116.out 0).trans rfl
                    have hcz30_1 : w29.cell? ⟨gb116, 1, none⟩ = some (.int .i64 ((rd_T28 l0 x9_1).f1)) := (blk_cell BK116.out 1).trans rfl
                    have hfz30_0 := blk_frozen BK116.out 0
                    have hfz30_1 := blk_frozen BK116.out 1
                    try go_wp2_with (first | ((with_reducible refine gate_builtin (b := .append) (xs := #[.tmp 40, .tmp 42]) rfl ?_); at_builtin; refine OutS.append (w0 := w) w.heap.size rfl (.tmp 40) (.tmp 42) 22 rfl Try.underlying22 info28 u3 x3_2 (⟨((rd_T28 l0 x9_1).f0), ((rd_T28 l0 x9_1).f1)⟩ : S28) rfl rfl ?aO ?aB ?aS ?aL ?_; (case aB => exact (by repeat (first | (with_reducible first | exact HB.out | apply below_alloc | apply pw_below_drewN | apply below_drew1 | refine below_set ?_ GE116.out) | exact HB.out))); (case aO => exact HO_3.out); (case aS => exact (below_size (by repeat (first | (with_reducible first | exact HB.out | apply below_alloc | apply pw_below_drewN | apply below_drew1 | refine below_set ?_ GE116.out) | exact HB.out)))); (case aL => have := LMc28.out; omega); intro v127 w31 ho hb; rw [← Ny126.out] at ho; have n1_ := Aside0.mk (hb); have n2_ := Aside0.mk (ho); clear BK116; clear HB; clear HO_3; have HB := n1_; have HO128 := n2_; clear n1_ n2_; clear ho hb))
                    go_roundg k2
                    case measure => have := HK1.out; have := HK2.out; omega
                    case rel => exact ⟨(y126), (wrap64 (x9_1 + 1)), (by first | rfl | (simp; done) | (simp [*]; done)), H', ⟨by have := HK1.out; have := HK2.out; omega⟩, ⟨by (with_reducible repeat (first | apply Kd.R_alloc | apply Kd.R_drewN | apply Kd.R_drew)); exact HO128.out⟩, ⟨by repeat (first | (with_reducible first | exact HB.out | apply below_alloc | apply pw_below_drewN | apply below_drew1 | refine below_set ?_ GE116.out) | exact HB.out)⟩⟩
                  · rw [if_neg c28] at H
                    exact absurd H (by simp)
          · rw [if_neg c4] at H
            exact absurd H (by simp)
        · rw [if_neg c3] at H
          exact absurd H (by simp)
      · rw [if_neg c2] at H
        have c2b0 : decide (x9_1 < (l0.length : Int)) = false := decide_eq_false c2
        clear c2
        obtain ⟨ji32, hji32⟩ : ∃ j_ : Int, (wrap64 ((x3_1.length : Int) - 1)) = j_ := ⟨_, rfl⟩
        replace H : (if 0 ≤ (ji32) then (if (ji32) ≤ (x3_1.length : Int) then (some (x3_1.take ((ji32) : Int).toNat)) else (none)) else (none)) = some r := by first | (rw [hji32] at H; exact H) | (simp only [hji32] at H ⊢; exact H)
        have hji32w : (IntKind.i64.wrap ((x3_1.length : Int) - 1)) = ji32 := (i64_w _).trans hji32
        by_cases c33 : 0 ≤ (ji32)
        · rw [if_pos c33] at H
          have c33b0 := eq_true c33
          have c33b1 : decide (0 ≤ (ji32)) = true := decide_eq_true c33
          clear c33
          by_cases c34 : (ji32) ≤ (x3_1.length : Int)
          · rw [if_pos c34] at H
            have c34b0 := eq_true c34
            have c34b1 : decide ((ji32) ≤ (x3_1.length : Int)) = true := decide_eq_true c34
            clear c34
            obtain ⟨y112, hy112⟩ : ∃ y_ : List (S28), y_ = (x3_1.take ((ji32) : Int).toNat) := ⟨_, rfl⟩
            replace H : (some y112) = some r := by first | (rw [hy112]; with_reducible exact H) | (have H2_ := (Option.bind_some _ _).symm.trans H; rw [hy112]; with_reducible exact H2_) | (have H2_ := (Option.bind_some _ _).symm.trans H; with_reducible exact H2_) | with_reducible exact H | (rw [hy112]; exact H) | exact H
            have Ny112 := Aside0.mk hy112
            clear hy112
            obtain rfl := Option.some.inj H
            obtain ⟨Ao35, co35, eo35⟩ := Kd.R_slice HO_3.out
            subst eo35
            have q36 : ((ji32) : Int) ≤ ((x3_1.length : Int) : Int) := of_decide_eq_true (by first | (with_reducible assumption) | assumption)
            obtain ⟨i036, hi036, _, hsz36, _⟩ := info_parts info28
            have hcut36 := cut_to (P := Try.prog) 22 28 .i64 Try.underlying22 hi036 Ao35 x3_1.length co35 (ji32) (of_decide_eq_true (by first | (with_reducible assumption) | assumption)) q36 (Kd.R_reads' HO_3.out).2.1
            have hr36 := Kd.R_take (m := ((ji32) : Int).toNat) HO_3.out (by omega)
            have hy36 : y112.length = ((ji32) : Int).toNat := (by rw [Ny112.out, List.length_take]; omega)
            rw [← Ny112.out] at hr36
            rw [← hy36] at hr36 hcut36
            clear hy36 hi036 hsz36 HO_3
            have HO114 := Aside0.mk hr36
            clear hr36
            replace q36 := eq_true q36
            go_wp2
            go_ret
            exact ⟨_, by first | rfl | (simp [errW_none, errW_some] <;> rfl) | (simp only [← hji32]; first | rfl | (simp [errW_none, errW_some] <;> rfl)) | (simp [*, errW_none, errW_some] <;> rfl), by (with_reducible repeat (first | apply Kd.R_alloc | apply Kd.R_drewN | apply Kd.R_drew)); exact HO114.out, by repeat (first | (with_reducible first | exact HB.out | apply below_alloc | apply pw_below_drewN | apply below_drew1) | exact HB.out)⟩
          · rw [if_neg c34] at H
            exact absurd H (by simp)
        · rw [if_neg c33] at H
          exact absurd H (by simp)

section
theorem R_plain28 {W : World} {base : Nat} {ok ok' : Nat → Prop} {v : Value} {xs : List S28} (h : Kd.R k28 28 W base ok v xs) (hk : ∀ k, v.ownBlock = some k → ok' k) : Kd.R k28 28 W base ok' v xs := by
  obtain ⟨_, inner, hown, hr⟩ := h
  exact ⟨hk, inner, hown, hr.imp_ (fun x c hc => by rw [k28_openM hc]; exact k28_mkM _ _ _ x)⟩
def hull_Of.f (k : Nat) (l0 : List (S28)) : Option (List (S28)) := if (l0.any (fun x => !vld x)) = true then some [] else (if l0.length ≤ 8796093022208 then ((api_Point_by_hull_compare.f l0).bind fun s => (api_Point_19.f s).bind fun u => if u.length < 3 then some u else (hull_Of_2.f k u).bind fun lo => (api_Point_22.f k u).bind fun rv => (hull_Of_2.f k rv).bind fun hi => if (lo.length + hi.length) * 16 ≤ 140737488355328 then some (lo ++ hi) else none) else none)
theorem hull_Of.mono : ∀ (l0 : List (S28)) (k : Nat), LeO (hull_Of.f k l0) (hull_Of.f (k + 1) l0) := by
  intro l0 k
  unfold hull_Of.f
  refine LeO.ite (LeO.refl _) (LeO.ite (LeO.bind (LeO.refl _) fun s => LeO.bind (LeO.refl _) fun u => LeO.ite (LeO.refl _) (LeO.bind (hull_Of_2.mono _ _) fun lo => LeO.bind (api_Point_22.mono _ _) fun rv => LeO.bind (hull_Of_2.mono _ _) fun hi => LeO.refl _)) (LeO.refl _))
set_option maxHeartbeats 8000000 in
set_option maxRecDepth 100000 in
theorem hull_Of.calls (k : Nat) (A0 : Option Addr) (c0 : Nat) (l0 : List (S28)) (r : List (S28)) (w : World) (hr0 : Kd.C k28 w A0 l0.length l0) (hc0 : l0.length ≤ c0) (h : hull_Of.f k l0 = some r) :
    Calls Try.prog 9 #[.slice A0 l0.length c0] w fun e w' => ∃ v0_ : Value, e = .returned (v0_) ∧ Kd.R k28 28 w' w.heap.size (fun _ => True) v0_ r ∧ Below w.heap.size w w' := by
  unfold hull_Of.f at h
  have HR := Aside0.mk hr0
  have HCN := Aside0.mk (contains13 A0 c0 l0 w hr0)
  clear hr0
  by_cases hany : (l0.any (fun x => !vld x)) = true
  · rw [if_pos hany] at h
    obtain rfl := Option.some.inj h
    rw [hany] at HCN
    clear h hany
    go_enter Try.func9, Try.ntmps9
    go_wp2_with (first | (go_at_call 13; refine HCN.out.mono ?_; rintro e w1 ⟨rfl, hb1⟩) | go_in)
    go_ret
    exact ⟨_, rfl, Kd.R_nil _ _ _ _ _, hb1⟩
  · rw [if_neg hany] at h
    rw [Bool.not_eq_true] at hany
    rw [hany] at HCN
    clear hany
    split at h
    case isFalse => cases h
    rename_i hlen
    obtain ⟨s, hs, h⟩ := Option.bind_eq_some_iff.mp h
    obtain ⟨u, hu, h⟩ := Option.bind_eq_some_iff.mp h
    have HS := Aside0.mk hs
    have HU := Aside0.mk hu
    have HL := Aside0.mk hlen
    clear hs hu hlen
    by_cases h3 : u.length < 3
    · rw [if_pos h3] at h
      obtain rfl := Option.some.inj h
      have h3I : decide ((u.length : Int) < 3) = true := decide_eq_true (by omega)
      clear h
      go_enter Try.func9, Try.ntmps9
      go_wp2_with (first
        | (go_at_call 13; refine HCN.out.mono ?_; rintro e w1 ⟨rfl, hb1⟩; have HB1 := Aside0.mk hb1; clear hb1)
        | (go_at_call 16; refine (clone16 A0 c0 l0 _ (Kd.C_below HR.out HB1.out) hc0 HL.out).mono ?_; rintro e w2 ⟨v2, rfl, ho2, hb2⟩; have HO2 := Aside0.mk (Kd.R_lower ho2 HB1.out.size); have HB2 := Aside0.mk (HB1.out.trans (hb2.mono HB1.out.size)); clear ho2 hb2)
        | (go_at_call 17; refine (api_Point_by_hull_compare.calls (fun _ => True) _ l0 s w _ HB2.out HO2.out HS.out).mono ?_; rintro e w3 ⟨rfl, ho3, hb3, _⟩; have HO3 := Aside0.mk ho3; have HB3 := Aside0.mk hb3; clear ho3 hb3)
        | (go_at_call 19; refine (api_Point_19.calls (fun _ => True) _ s u w _ HB3.out (Kd.R_mono HO3.out (fun _ _ => trivial)) HU.out).mono ?_; rintro e w4 ⟨v4, rfl, ho4, hb4, _⟩; have HO4 := Aside0.mk (Kd.R_mono (ok' := fun _ => True) ho4 (fun _ _ => trivial)); have HB4 := Aside0.mk hb4; clear ho4 hb4; obtain ⟨A4, c4, rfl⟩ := Kd.R_slice HO4.out)
        | go_in)
      go_ret
      exact ⟨_, rfl, HO4.out, HB4.out⟩
    · rw [if_neg h3] at h
      obtain ⟨lo, hlo, h⟩ := Option.bind_eq_some_iff.mp h
      obtain ⟨rv, hrv, h⟩ := Option.bind_eq_some_iff.mp h
      obtain ⟨hi, hhi, h⟩ := Option.bind_eq_some_iff.mp h
      split at h
      case isFalse => cases h
      rename_i hsz
      obtain rfl := Option.some.inj h
      have h3I : decide ((u.length : Int) < 3) = false := decide_eq_false (by omega)
      have HLO := Aside0.mk hlo
      have HRV := Aside0.mk hrv
      have HHI := Aside0.mk hhi
      have HSZ := Aside0.mk hsz
      clear h hlo hrv hhi hsz
      go_enter Try.func9, Try.ntmps9
      go_wp2_with (first
        | (go_at_call 13; refine HCN.out.mono ?_; rintro e w1 ⟨rfl, hb1⟩; have HB1 := Aside0.mk hb1; clear hb1)
        | (go_at_call 16; refine (clone16 A0 c0 l0 _ (Kd.C_below HR.out HB1.out) hc0 HL.out).mono ?_; rintro e w2 ⟨v2, rfl, ho2, hb2⟩; have HO2 := Aside0.mk (Kd.R_lower ho2 HB1.out.size); have HB2 := Aside0.mk (HB1.out.trans (hb2.mono HB1.out.size)); clear ho2 hb2)
        | (go_at_call 17; refine (api_Point_by_hull_compare.calls (fun _ => True) _ l0 s w _ HB2.out HO2.out HS.out).mono ?_; rintro e w3 ⟨rfl, ho3, hb3, _⟩; have HO3 := Aside0.mk ho3; have HB3 := Aside0.mk hb3; clear ho3 hb3)
        | (go_at_call 19; refine (api_Point_19.calls (fun _ => True) _ s u w _ HB3.out (Kd.R_mono HO3.out (fun _ _ => trivial)) HU.out).mono ?_; rintro e w4 ⟨v4, rfl, ho4, hb4, _⟩; obtain ⟨A4, c4, rfl⟩ := Kd.R_slice ho4; have hr4 := Kd.R_reads' ho4; have HC4 := Aside0.mk hr4.2.2; have HK4 := Aside0.mk hr4.2.1; have HO4 := Aside0.mk (R_plain28 (ok' := fun k => k < w4.heap.size) ho4 (fun k hk => Kd.R_lt ho4 k hk)); have HB4 := Aside0.mk hb4; clear ho4 hb4 hr4)
        | fail)
      refine (hull_Of_2.calls k A4 c4 u lo _ HC4.out HK4.out HLO.out).mono ?_
      rintro e w5 ⟨v5, rfl, ho5, hb5⟩
      have HO5 := Aside0.mk (Kd.R_below HO4.out hb5)
      have HB5 := Aside0.mk (HB4.out.trans (hb5.mono HB4.out.size))
      have HS5 := Aside0.mk HB4.out.size
      have HLW := Aside0.mk (R_plain28 (ok' := fun k => w4.heap.size ≤ k) ho5 (fun k hk => Kd.R_base ho5 k hk))
      clear ho5 hb5 HC4 HO4 HB4
      go_wp2_with fail
      refine (api_Point_22.calls k (fun k => k < w4.heap.size) _ u rv w _ HB5.out HO5.out HRV.out).mono ?_
      rintro e w6 ⟨rfl, ho6, hb6, hk6⟩
      have hr6 := Kd.R_reads' ho6
      have hlr : u.length = rv.length := hr6.1
      have HC6 := Aside0.mk hr6.2.2
      have HK6 := Aside0.mk (show rv.length ≤ c4 from hlr ▸ hr6.2.1)
      have HB6 := Aside0.mk hb6
      have HLW6 := Aside0.mk (Kd.R_lower (base' := w.heap.size) (Kd.R_kept HLW.out hk6 (fun k h1 h2 => by omega)) HS5.out)
      clear hr6 ho6 hb6 hk6 HLW HO5 HB5
      have HLR := Aside0.mk hlr
      clear hlr
      go_wp2_with fail
      rw [HLR.out]
      refine (hull_Of_2.calls k A4 c4 rv hi _ HC6.out HK6.out HHI.out).mono ?_
      rintro e w7 ⟨v7, rfl, ho7, hb7⟩
      obtain ⟨A7, c7, rfl⟩ := Kd.R_slice ho7
      have HLW7 := Aside0.mk (Kd.R_mono (ok' := fun _ => True) (Kd.R_below HLW6.out hb7) (fun _ _ => trivial))
      have HC7 := Aside0.mk (Kd.R_reads' ho7).2.2
      have HB7 := Aside0.mk (HB6.out.trans (hb7.mono HB6.out.size))
      clear ho7 hb7 HLW6 HB6 HC6
      go_wp2_with (first
        | ((with_reducible refine gate_builtin (b := .append) (xs := #[.tmp 22, .tmp 25]) rfl ?_); at_builtin; refine Kd.R_append_rows k28 (w0 := w) w.heap.size rfl (.tmp 22) (.tmp 25) 22 28 (.agg #[(.int .i64 0), (.int .i64 0)]) 16 rfl Try.underlying22 info28 rfl (by decide) (by omega) v5 lo hi _ _ _ (fun _ => True) (fun _ => False) rfl rfl HLW7.out HC7.out (fun _ _ h => h) (fun _ h => h.elim) (fun _ _ => trivial) HB7.out HB7.out.size HSZ.out ?_; intro v8 w8 ho8 hb8 hg8 hat8)
        | go_in)
      go_ret
      exact ⟨_, rfl, ho8, hb8⟩
end


end Go.Proofs.Ytnjkjafhmgcpnaa.PHullHolds
