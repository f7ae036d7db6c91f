/- c16, plain: the reference's readers of values and lists. -/
import Derived.Test.YtefambkodalomaaPureRd
import Derived.Test.YtefambkodalomaaPureNumRef
import Derived.Test.YtefambkodalomaaPAllx21
import Derived.Test.YtefambkodalomaaPAllx22
namespace Go.Proofs.Ytefambkodalomaa.Pure
open Go.RowKit Go.Proofs.Ytefambkodalomaa.PAll Go.Proofs.YtefambkodalomaaW.PrintWords Go.Proofs.YtefambkodalomaaW.PrintLast Go.Proofs.YtefambkodalomaaW.PrintMore Go.Proofs.YtefambkodalomaaG
set_option linter.unusedVariables false
set_option linter.unusedSimpArgs false
def RR {α β : Type} (g : Nat → Option β) (x : Except Int (α × Int)) (ok : α → Int → β) (er : β → Int) : Prop :=
  ∃ r, Ev g r ∧ match x with
    | .error e => er r = e
    | .ok a => r = ok a.1 a.2
theorem RR.bind {α β γ δ : Type} {o : Nat → Option β} {f : Nat → β → Option δ} {x : Except Int (α × Int)} {y : α → Int → Except Int (γ × Int)} {ok1 : α → Int → β} {er1 : β → Int} {ok2 : γ → Int → δ} {er2 : δ → Int}
    (ho : RR o x ok1 er1) (hx : ∀ e, x = .error e → e ≠ 0) (hd : ∀ r, er1 r ≠ 0 → ∃ r', Ev (fun k => f k r) r' ∧ er2 r' = er1 r) (hf : ∀ a q, x = .ok (a, q) → RR (fun k => f k (ok1 a q)) (y a q) ok2 er2) : RR (fun k => (o k).bind (f k)) (rB x y) ok2 er2 := by
  obtain ⟨r, hr, h⟩ := ho
  cases x with
  | error e =>
    have h : er1 r = e := h
    obtain ⟨r', h1, h2⟩ := hd r (by rw [h]; exact hx e rfl)
    exact ⟨r', Ev.bind hr h1, by show er2 r' = e; rw [h2, h]⟩
  | ok a =>
    obtain rfl : r = ok1 a.1 a.2 := h
    obtain ⟨r', h1, h2⟩ := hf a.1 a.2 rfl
    exact ⟨r', Ev.bind hr h1, h2⟩
theorem RR.step {α β : Type} {g f : Nat → Option β} {x : Except Int (α × Int)} {ok : α → Int → β} {er : β → Int} (h : ∀ k, g (k + 1) = f k) (hf : RR f x ok er) : RR g x ok er := by
  obtain ⟨r, hr, h'⟩ := hf
  exact ⟨r, Ev.step h hr, h'⟩
theorem RR.now {α β : Type} (a : α) (q : Int) (ok : α → Int → β) (er : β → Int) : RR (fun _ => some (ok a q)) (.ok (a, q)) ok er := ⟨_, Ev.now _, rfl⟩
abbrev E3 {α β γ : Type} (r : α × β × Int × γ) : Int := r.2.2.1
def Dead {β : Type} (f : Nat → ByteArray → Int → Int → Option β) (er : β → Int) : Prop := ∀ (s : ByteArray) (p e : Int), e ≠ 0 → ∃ r, Ev (fun k => f k s p e) r ∧ er r = e
theorem ref_next (s : ByteArray) (p : Int) (h0 : 0 ≤ p) (h1 : p ≤ (s.size : Int)) : Ev (fun k => mapmakerref02_next.f k s p 0) (spec s p 10 0) := by
  refine Ev.of (fun k => mapmakerref02_next.mono s p 0 k) (k := 30) ?_
  unfold mapmakerref02_next.f
  rw [if_pos h0, if_pos h1]
  exact next_spec s p h0 h1 10 0 rfl (by simp; omega)
theorem r_uint {s : ByteArray} (hs : (s.size : Int) ≤ 140737488355328) (p : Int) (h0 : 0 ≤ p) (h1 : p ≤ (s.size : Int)) : RR (fun k => mapmakerref02_Uint.f k s p 0) (rNum s p) (fun n q => (s, q, (0 : Int), n)) E3 := by
  refine ⟨(s, wrap64 (p + (spec s p 10 0).2.1), (spec s p 10 0).2.2, (spec s p 10 0).1), ?_, ?_⟩
  · unfold mapmakerref02_Uint.f
    simp only [if_true]
    exact Ev.bind (ref_next s p h0 h1) (Ev.now _)
  · unfold rNum
    by_cases c : (spec s p 10 0).2.2 = 0
    · have hf := spec_fwd s p 10 0 rfl c
      simp only [if_pos c]
      rw [w64 (by omega) (by omega), c]
    · simp only [if_neg c]
theorem d_uint : Dead (fun k s p e => mapmakerref02_Uint.f k s p e) E3 := by
  intro s p e he
  refine ⟨(s, p, e, 0), ?_, rfl⟩
  unfold mapmakerref02_Uint.f
  simp only [if_neg he]
  exact Ev.now _
theorem r_int {s : ByteArray} (hs : (s.size : Int) ≤ 140737488355328) (p : Int) (h0 : 0 ≤ p) (h1 : p ≤ (s.size : Int)) : RR (fun k => mapmakerref02_Int.f k s p 0) (rInt s p) (fun n q => (s, q, (0 : Int), n)) E3 := by
  unfold mapmakerref02_Int.f rInt
  refine RR.bind (r_uint hs p h0 h1) (fun _ h => rNum_err h) (fun r hr => ?_) fun n q hn => ?_
  · by_cases c : Int.tmod r.2.2.2 2 = 1
    · simp only [if_pos c]; exact ⟨_, Ev.now _, rfl⟩
    · simp only [if_neg c]; exact ⟨_, Ev.now _, rfl⟩
  · have hr := rNum_range hn
    have e1 : Int.tmod n 2 = n % 2 := Int.tmod_eq_emod_of_nonneg hr.1
    have e2 : IntKind.u64.wrap (Int.tdiv n 2) = n / 2 := by rw [Int.tdiv_eq_ediv_of_nonneg hr.1, IntKind.wrap_u64]; omega
    simp only [e1, e2]
    unfold unzig
    by_cases c : n % 2 = 1
    · simp only [if_pos c]
      refine ⟨_, Ev.now _, ?_⟩
      show (s, q, (0 : Int), wrap64 (wrap64 (-(wrap64 (n / 2))) - 1)) = (s, q, 0, -(n / 2) - 1)
      rw [w64 (x := n / 2) (by omega) (by omega), w64 (x := -(n / 2)) (by omega) (by omega), w64 (x := -(n / 2) - 1) (by omega) (by omega)]
    · simp only [if_neg c]
      refine ⟨_, Ev.now _, ?_⟩
      show (s, q, (0 : Int), wrap64 (n / 2)) = (s, q, 0, n / 2)
      rw [w64 (x := n / 2) (by omega) (by omega)]
theorem d_int : Dead (fun k s p e => mapmakerref02_Int.f k s p e) E3 := by
  intro s p e he
  obtain ⟨r, hr, h⟩ := d_uint s p e he
  unfold mapmakerref02_Int.f
  by_cases c : Int.tmod r.2.2.2 2 = 1
  · refine ⟨(r.1, r.2.1, r.2.2.1, wrap64 ((wrap64 (-(wrap64 (IntKind.u64.wrap (Int.tdiv r.2.2.2 2))))) - 1)), Ev.bind hr ?_, h⟩
    simp only [if_pos c]; exact Ev.now _
  · refine ⟨(r.1, r.2.1, r.2.2.1, wrap64 (IntKind.u64.wrap (Int.tdiv r.2.2.2 2))), Ev.bind hr ?_, h⟩
    simp only [if_neg c]; exact Ev.now _
theorem r_count' {s : ByteArray} (hs : (s.size : Int) ≤ 140737488355328) (p m : Int) (h0 : 0 ≤ p) (h1 : p ≤ (s.size : Int)) (hm : 0 ≤ m) (hm2 : m < 100000) :
    Ev (fun k => mapmakerref02_Count.f k s p 0 m) (match rCount s m p with | .error e => (s, p, e, 0) | .ok a => (s, a.2, 0, a.1)) := by
  have hw : IntKind.u64.wrap (mx m 0) = m := by
    have : mx m 0 = m := by unfold mx; omega
    rw [this, IntKind.wrap_u64]; omega
  unfold mapmakerref02_Count.f
  simp only [if_true]
  refine Ev.bind (ref_next s p h0 h1) ?_
  unfold rCount rNum
  by_cases c : (spec s p 10 0).2.2 = 0
  · have hf := spec_fwd s p 10 0 rfl c
    simp only [if_pos c, hw]
    by_cases d : m < (spec s p 10 0).1
    · simp only [rB, if_pos d, decide_eq_true (show (spec s p 10 0).1 > m from d)]
      exact Ev.step (f := fun _ => some (s, p, 5, 0)) (fun k => by simp only [mapmakerref02_Count.j0, if_true]; rw [if_neg (by decide)]) (Ev.now _)
    · simp only [rB, if_neg d, decide_eq_false (show ¬ (spec s p 10 0).1 > m from d)]
      refine Ev.step (f := fun _ => some (s, wrap64 (p + (spec s p 10 0).2.1), 0, wrap64 (spec s p 10 0).1)) (fun k => by simp only [mapmakerref02_Count.j0, Bool.false_eq_true, if_false, if_pos c]) (Ev.val (Ev.now _) ?_)
      rw [w64 (x := p + (spec s p 10 0).2.1) (by omega) (by omega), w64 (x := (spec s p 10 0).1) (by omega) (by omega)]
  · simp only [if_neg c, rB]
    exact Ev.step (f := fun _ => some (s, p, (spec s p 10 0).2.2, 0)) (fun k => by simp only [mapmakerref02_Count.j0, Bool.false_eq_true, if_false, if_neg c]) (Ev.now _)
theorem r_count {s : ByteArray} (hs : (s.size : Int) ≤ 140737488355328) (p m : Int) (h0 : 0 ≤ p) (h1 : p ≤ (s.size : Int)) (hm : 0 ≤ m) (hm2 : m < 100000) : RR (fun k => mapmakerref02_Count.f k s p 0 m) (rCount s m p) (fun n q => (s, q, (0 : Int), n)) E3 := by
  refine ⟨_, r_count' hs p m h0 h1 hm hm2, ?_⟩
  cases rCount s m p <;> rfl
theorem d_count (m : Int) (s : ByteArray) (p e : Int) (he : e ≠ 0) : Ev (fun k => mapmakerref02_Count.f k s p e m) (s, p, e, 0) := by
  unfold mapmakerref02_Count.f
  simp only [if_neg he]
  exact Ev.now _
theorem r_text {s : ByteArray} (hs : (s.size : Int) ≤ 140737488355328) (p : Int) (h0 : 0 ≤ p) (h1 : p ≤ (s.size : Int)) : RR (fun k => mapmakerref02_Text.f k s p 0 64) (rText s p) (fun n q => (s, q, (0 : Int), n)) E3 := by
  unfold mapmakerref02_Text.f rText
  refine RR.bind (r_count hs p 64 h0 h1 (by decide) (by decide)) (fun _ h => rCount_err h) (fun r hr => ?_) fun n q hn => ?_
  · simp only [if_neg hr]; exact ⟨_, Ev.now _, rfl⟩
  · have hf := rCount_fwd s 64 p n q h0 h1 hn
    have hc := rCount_le hn
    simp only [if_true]
    rw [w64 (x := (s.size : Int) - q) (by omega) (by omega), w64 (x := q + n) (by omega) (by omega)]
    by_cases d : (s.size : Int) < q + n
    · simp only [if_pos d, if_pos (show n > (s.size : Int) - q by omega)]
      exact ⟨_, Ev.now _, rfl⟩
    · simp only [if_neg d, if_neg (show ¬ n > (s.size : Int) - q by omega), if_pos (show 0 ≤ q by omega), if_pos (show q ≤ q + n by omega), if_pos (show q + n ≤ (s.size : Int) by omega)]
      exact ⟨_, Ev.now _, rfl⟩
theorem d_text : Dead (fun k s p e => mapmakerref02_Text.f k s p e 64) E3 := by
  intro s p e he
  refine ⟨(s, p, e, ⟨#[]⟩), ?_, rfl⟩
  unfold mapmakerref02_Text.f
  refine Ev.bind (d_count 64 s p e he) ?_
  simp only [if_neg he]
  exact Ev.now _
theorem d_tags0 (acc : List S130) (n i : Int) : Dead (fun k s p e => mapmakerref16_getTags.l0 k acc n i s p e) E3 := by
  intro s p e he
  refine ⟨(s, p, e, acc), ?_, rfl⟩
  have hj : Ev (fun k => mapmakerref16_getTags.j1 k acc n i false s p e) (s, p, e, acc) := Ev.step (f := fun _ => some (s, p, e, acc)) (fun k => by simp only [mapmakerref16_getTags.j1, Bool.false_eq_true, if_false]) (Ev.now _)
  have hb : (e == 0) = false := beq_eq_false_iff_ne.mpr he
  by_cases c : i < n
  · exact Ev.step (fun k => by simp only [mapmakerref16_getTags.l0]; rw [if_pos c, hb]) hj
  · exact Ev.step (fun k => by simp only [mapmakerref16_getTags.l0]; rw [if_neg c]) hj
theorem r_tags0 {s : ByteArray} (hs : (s.size : Int) ≤ 140737488355328) (n : Nat) (hn : n ≤ 16) : ∀ (d i : Nat) (acc : List S130) (p : Int), i + d = n → acc.length = i → 0 ≤ p → p ≤ (s.size : Int) →
    RR (fun k => mapmakerref16_getTags.l0 k acc (n : Int) (i : Int) s p 0) (rB (rList (rTag s) d p) fun l q => .ok (acc ++ l, q)) (fun l q => (s, q, (0 : Int), l)) E3
  | 0, i, acc, p, hd, hl, h0, h1 => by
    refine RR.step (fun k => by simp only [mapmakerref16_getTags.l0]; rw [if_neg (by omega)]) ?_
    refine RR.step (f := fun _ => some (s, p, 0, acc)) (fun k => by simp only [mapmakerref16_getTags.j1, Bool.false_eq_true, if_false]) ?_
    rw [rB_nil, List.append_nil]
    exact ⟨_, Ev.now _, rfl⟩
  | d + 1, i, acc, p, hd, hl, h0, h1 => by
    refine RR.step (fun k => by simp only [mapmakerref16_getTags.l0]; rw [if_pos (by omega)]) ?_
    refine RR.step (fun k => by simp only [mapmakerref16_getTags.j1, beq_self_eq_true, if_true]; rw [wr1 i (by omega)]) ?_
    rw [rB_cons, rB_tag]
    refine RR.bind (r_text hs p h0 h1) rText_err (fun r hr => ?_) fun a q ha => ?_
    · obtain ⟨r', g1, g2⟩ := d_text r.1 r.2.1 r.2.2.1 hr
      obtain ⟨r2, g3, g4⟩ := d_tags0 (acc ++ [⟨r.2.2.2, r'.2.2.2⟩]) n ((i + 1 : Nat) : Int) r'.1 r'.2.1 r'.2.2.1 (by rw [show r'.2.2.1 = r.2.2.1 from g2]; exact hr)
      exact ⟨r2, Ev.bind g1 (Ev.ifp (by omega) g3), by rw [g4]; exact g2⟩
    have h2 := rText_fwd s p a q h0 h1 ha
    refine RR.bind (r_text hs q (by omega) h2.2) rText_err (fun r hr => ?_) fun b q2 hb => ?_
    · obtain ⟨r2, g3, g4⟩ := d_tags0 (acc ++ [⟨a, r.2.2.2⟩]) n ((i + 1 : Nat) : Int) r.1 r.2.1 r.2.2.1 hr
      exact ⟨r2, Ev.ifp (by omega) g3, g4⟩
    have h3 := rText_fwd s q b q2 (by omega) h2.2 hb
    simp only [if_pos (show acc.length < 4398046511104 by omega)]
    have ih := r_tags0 hs n hn d (i + 1) (acc ++ [⟨a, b⟩]) q2 (by omega) (by simp [hl]) (by omega) h3.2
    simp only [acc1] at ih
    exact ih
theorem r_tags {s : ByteArray} (hs : (s.size : Int) ≤ 140737488355328) (p : Int) (h0 : 0 ≤ p) (h1 : p ≤ (s.size : Int)) : RR (fun k => mapmakerref16_getTags.f k s p 0) (rTags s p) (fun l q => (s, q, (0 : Int), l)) E3 := by
  unfold mapmakerref16_getTags.f rTags rMany
  refine RR.bind (r_count hs p 16 h0 h1 (by decide) (by decide)) (fun _ h => rCount_err h) (fun r hr => d_tags0 [] r.2.2.2 0 r.1 r.2.1 r.2.2.1 hr) fun n q hn => ?_
  have h2 := rCount_fwd s 16 p n q h0 h1 hn
  have hc := rCount_le hn
  obtain ⟨m, rfl⟩ := Int.eq_ofNat_of_zero_le hc.1
  have h := r_tags0 hs m (by omega) m 0 [] q (by omega) rfl (by omega) h2.2
  rw [Int.toNat_natCast]
  have e : (rB (rList (rTag s) m q) fun l q => .ok ([] ++ l, q)) = rList (rTag s) m q := by cases rList (rTag s) m q <;> rfl
  rw [e] at h
  exact h
theorem d_tags : Dead (fun k s p e => mapmakerref16_getTags.f k s p e) E3 := by
  intro s p e he
  obtain ⟨r, h1, h2⟩ := d_tags0 [] 0 0 s p e he
  exact ⟨r, Ev.bind (d_count 16 s p e he) h1, h2⟩
theorem r_node {s : ByteArray} (hs : (s.size : Int) ≤ 140737488355328) (p : Int) (h0 : 0 ≤ p) (h1 : p ≤ (s.size : Int)) : RR (fun k => mapmakerref16_getNode.f k s p 0) (rNode s p) (fun x q => (s, q, (0 : Int), x.f0, x.f1.f0, x.f1.f1, x.f2)) E3 := by
  unfold mapmakerref16_getNode.f rNode
  refine RR.bind (r_int hs p h0 h1) rInt_err (fun r hr => ?_) fun a q ha => ?_
  · obtain ⟨r1, g1, k1⟩ := d_int r.1 r.2.1 r.2.2.1 hr
    obtain ⟨r2, g2, k2⟩ := d_int r1.1 r1.2.1 r1.2.2.1 (by rw [show r1.2.2.1 = r.2.2.1 from k1]; exact hr)
    obtain ⟨r3, g3, k3⟩ := d_tags r2.1 r2.2.1 r2.2.2.1 (by rw [show r2.2.2.1 = r1.2.2.1 from k2, show r1.2.2.1 = r.2.2.1 from k1]; exact hr)
    exact ⟨(r3.1, r3.2.1, r3.2.2.1, r.2.2.2, r1.2.2.2, r2.2.2.2, r3.2.2.2), Ev.bind g1 (Ev.bind g2 (Ev.bind g3 (Ev.now _))), by show r3.2.2.1 = _; rw [show r3.2.2.1 = r2.2.2.1 from k3, show r2.2.2.1 = r1.2.2.1 from k2, show r1.2.2.1 = r.2.2.1 from k1]⟩
  have h2 := rInt_fwd s p a q h0 h1 ha
  refine RR.bind (r_int hs q (by omega) h2.2) rInt_err (fun r hr => ?_) fun b q2 hb => ?_
  · obtain ⟨r2, g2, k2⟩ := d_int r.1 r.2.1 r.2.2.1 hr
    obtain ⟨r3, g3, k3⟩ := d_tags r2.1 r2.2.1 r2.2.2.1 (by rw [show r2.2.2.1 = r.2.2.1 from k2]; exact hr)
    exact ⟨(r3.1, r3.2.1, r3.2.2.1, a, r.2.2.2, r2.2.2.2, r3.2.2.2), Ev.bind g2 (Ev.bind g3 (Ev.now _)), by show r3.2.2.1 = _; rw [show r3.2.2.1 = r2.2.2.1 from k3, show r2.2.2.1 = r.2.2.1 from k2]⟩
  have h3 := rInt_fwd s q b q2 (by omega) h2.2 hb
  refine RR.bind (r_int hs q2 (by omega) h3.2) rInt_err (fun r hr => ?_) fun c q3 hc => ?_
  · obtain ⟨r3, g3, k3⟩ := d_tags r.1 r.2.1 r.2.2.1 hr
    exact ⟨(r3.1, r3.2.1, r3.2.2.1, a, b, r.2.2.2, r3.2.2.2), Ev.bind g3 (Ev.now _), k3⟩
  have h4 := rInt_fwd s q2 c q3 (by omega) h3.2 hc
  refine RR.bind (r_tags hs q3 (by omega) h4.2) (rTags_err _) (fun r hr => ⟨(r.1, r.2.1, r.2.2.1, a, b, c, r.2.2.2), Ev.now _, rfl⟩) fun t q4 ht => ?_
  exact ⟨_, Ev.now _, rfl⟩
theorem d_way0 (id n i : Int) (acc : List Int) : Dead (fun k s p e => mapmakerref16_getWay.l0 k n i id acc s p e) E3 := by
  intro s p e he
  obtain ⟨r, g, h⟩ := d_tags s p e he
  refine ⟨(r.1, r.2.1, r.2.2.1, id, acc, r.2.2.2), ?_, h⟩
  by_cases c : i < n
  · exact Ev.step (fun k => by simp only [mapmakerref16_getWay.l0]; rw [if_pos c, if_neg he]) (Ev.bind g (Ev.now _))
  · exact Ev.step (fun k => by simp only [mapmakerref16_getWay.l0]; rw [if_neg c]) (Ev.bind g (Ev.now _))
theorem r_way0 {s : ByteArray} (hs : (s.size : Int) ≤ 140737488355328) (id : Int) (n : Nat) (hn : n ≤ 2000) : ∀ (d i : Nat) (acc : List Int) (p : Int), i + d = n → acc.length = i → 0 ≤ p → p ≤ (s.size : Int) →
    RR (fun k => mapmakerref16_getWay.l0 k (n : Int) (i : Int) id acc s p 0) (rB (rList (rInt s) d p) fun l q => rB (rTags s q) fun t q => .ok ((⟨id, acc ++ l, t⟩ : S56), q)) (fun x q => (s, q, (0 : Int), x.f0, x.f1, x.f2)) E3
  | 0, i, acc, p, hd, hl, h0, h1 => by
    refine RR.step (fun k => by simp only [mapmakerref16_getWay.l0]; rw [if_neg (by omega)]) ?_
    rw [rB_nil, List.append_nil]
    refine RR.bind (r_tags hs p h0 h1) (rTags_err _) (fun r hr => ⟨(r.1, r.2.1, r.2.2.1, id, acc, r.2.2.2), Ev.now _, rfl⟩) fun t q4 ht => ?_
    exact ⟨_, Ev.now _, rfl⟩
  | d + 1, i, acc, p, hd, hl, h0, h1 => by
    refine RR.step (fun k => by simp only [mapmakerref16_getWay.l0]; rw [if_pos (by omega), if_pos trivial, wr1 i (by omega)]) ?_
    rw [rB_cons]
    refine RR.bind (r_int hs p h0 h1) rInt_err (fun r hr => ?_) fun a q ha => ?_
    · obtain ⟨r2, g3, g4⟩ := d_way0 id n ((i + 1 : Nat) : Int) (acc ++ [r.2.2.2]) r.1 r.2.1 r.2.2.1 hr
      exact ⟨r2, Ev.ifp (by omega) g3, g4⟩
    have h2 := rInt_fwd s p a q h0 h1 ha
    simp only [if_pos (show acc.length < 17592186044416 by omega)]
    have ih := r_way0 hs id n hn d (i + 1) (acc ++ [a]) q (by omega) (by simp [hl]) (by omega) h2.2
    simp only [acc1] at ih
    exact ih
theorem r_way {s : ByteArray} (hs : (s.size : Int) ≤ 140737488355328) (p : Int) (h0 : 0 ≤ p) (h1 : p ≤ (s.size : Int)) : RR (fun k => mapmakerref16_getWay.f k s p 0) (rWay s p) (fun x q => (s, q, (0 : Int), x.f0, x.f1, x.f2)) E3 := by
  unfold mapmakerref16_getWay.f rWay
  refine RR.bind (r_int hs p h0 h1) rInt_err (fun r hr => ?_) fun a q ha => ?_
  · obtain ⟨r2, g2, k2⟩ := d_way0 r.2.2.2 0 0 [] r.1 r.2.1 r.2.2.1 hr
    exact ⟨r2, Ev.bind (d_count 2000 _ _ _ hr) g2, k2⟩
  have h2 := rInt_fwd s p a q h0 h1 ha
  rw [rMany_count]
  refine RR.bind (r_count hs q 2000 (by omega) h2.2 (by decide) (by decide)) (fun _ h => rCount_err h) (fun r hr => d_way0 a r.2.2.2 0 [] r.1 r.2.1 r.2.2.1 hr) fun n q2 hn => ?_
  have h3 := rCount_fwd s 2000 q n q2 (by omega) h2.2 hn
  have hc := rCount_le hn
  obtain ⟨m, rfl⟩ := Int.eq_ofNat_of_zero_le hc.1
  rw [Int.toNat_natCast]
  exact r_way0 hs a m (by omega) m 0 [] q2 (by omega) rfl (by omega) h3.2
theorem d_rel0 (id n i : Int) (acc : List S63) : Dead (fun k s p e => mapmakerref16_getRel.l0 k n i id acc s p e) E3 := by
  intro s p e he
  obtain ⟨r, g, h⟩ := d_tags s p e he
  refine ⟨(r.1, r.2.1, r.2.2.1, id, acc, r.2.2.2), ?_, h⟩
  have hj : Ev (fun k => mapmakerref16_getRel.j1 k n i false id acc s p e) (r.1, r.2.1, r.2.2.1, id, acc, r.2.2.2) := Ev.step (fun k => by simp only [mapmakerref16_getRel.j1, Bool.false_eq_true, if_false]; rfl) (Ev.bind g (Ev.now _))
  have hb : (e == 0) = false := beq_eq_false_iff_ne.mpr he
  by_cases c : i < n
  · exact Ev.step (fun k => by simp only [mapmakerref16_getRel.l0]; rw [if_pos c, hb]) hj
  · exact Ev.step (fun k => by simp only [mapmakerref16_getRel.l0]; rw [if_neg c]) hj
theorem r_rel0 {s : ByteArray} (hs : (s.size : Int) ≤ 140737488355328) (id : Int) (n : Nat) (hn : n ≤ 200) : ∀ (d i : Nat) (acc : List S63) (p : Int), i + d = n → acc.length = i → 0 ≤ p → p ≤ (s.size : Int) →
    RR (fun k => mapmakerref16_getRel.l0 k (n : Int) (i : Int) id acc s p 0) (rB (rList (rMem s) d p) fun l q => rB (rTags s q) fun t q => .ok ((⟨id, acc ++ l, t⟩ : S59), q)) (fun x q => (s, q, (0 : Int), x.f0, x.f1, x.f2)) E3
  | 0, i, acc, p, hd, hl, h0, h1 => by
    refine RR.step (fun k => by simp only [mapmakerref16_getRel.l0]; rw [if_neg (by omega)]) ?_
    refine RR.step (fun k => by simp only [mapmakerref16_getRel.j1, Bool.false_eq_true, if_false]; rfl) ?_
    rw [rB_nil, List.append_nil]
    refine RR.bind (r_tags hs p h0 h1) (rTags_err _) (fun r hr => ⟨(r.1, r.2.1, r.2.2.1, id, acc, r.2.2.2), Ev.now _, rfl⟩) fun t q4 ht => ?_
    exact ⟨_, Ev.now _, rfl⟩
  | d + 1, i, acc, p, hd, hl, h0, h1 => by
    refine RR.step (fun k => by simp only [mapmakerref16_getRel.l0]; rw [if_pos (by omega)]) ?_
    refine RR.step (fun k => by simp only [mapmakerref16_getRel.j1, beq_self_eq_true, if_true]; rw [wr1 i (by omega)]) ?_
    rw [rB_cons, rB_mem]
    refine RR.bind (r_int hs p h0 h1) rInt_err (fun r hr => ?_) fun a q ha => ?_
    · obtain ⟨r1, g1, k1⟩ := d_int r.1 r.2.1 r.2.2.1 hr
      have hr1 : r1.2.2.1 ≠ 0 := by rw [show r1.2.2.1 = r.2.2.1 from k1]; exact hr
      obtain ⟨r2, g2, k2⟩ := d_text r1.1 r1.2.1 r1.2.2.1 hr1
      obtain ⟨r3, g3, k3⟩ := d_rel0 id n ((i + 1 : Nat) : Int) (acc ++ [⟨⟨r.2.2.2, r1.2.2.2⟩, r2.2.2.2⟩]) r2.1 r2.2.1 r2.2.2.1 (by rw [show r2.2.2.1 = r1.2.2.1 from k2]; exact hr1)
      exact ⟨r3, Ev.bind g1 (Ev.bind g2 (Ev.ifp (by omega) g3)), by rw [k3, show r2.2.2.1 = r1.2.2.1 from k2]; exact k1⟩
    have h2 := rInt_fwd s p a q h0 h1 ha
    refine RR.bind (r_int hs q (by omega) h2.2) rInt_err (fun r hr => ?_) fun b q2 hb => ?_
    · obtain ⟨r2, g2, k2⟩ := d_text r.1 r.2.1 r.2.2.1 hr
      obtain ⟨r3, g3, k3⟩ := d_rel0 id n ((i + 1 : Nat) : Int) (acc ++ [⟨⟨a, r.2.2.2⟩, r2.2.2.2⟩]) r2.1 r2.2.1 r2.2.2.1 (by rw [show r2.2.2.1 = r.2.2.1 from k2]; exact hr)
      exact ⟨r3, Ev.bind g2 (Ev.ifp (by omega) g3), by rw [k3]; exact k2⟩
    have h3 := rInt_fwd s q b q2 (by omega) h2.2 hb
    refine RR.bind (r_text hs q2 (by omega) h3.2) rText_err (fun r hr => ?_) fun c q3 hc => ?_
    · obtain ⟨r3, g3, k3⟩ := d_rel0 id n ((i + 1 : Nat) : Int) (acc ++ [⟨⟨a, b⟩, r.2.2.2⟩]) r.1 r.2.1 r.2.2.1 hr
      exact ⟨r3, Ev.ifp (by omega) g3, k3⟩
    have h4 := rText_fwd s q2 c q3 (by omega) h3.2 hc
    simp only [if_pos (show acc.length < 4398046511104 by omega)]
    have ih := r_rel0 hs id n hn d (i + 1) (acc ++ [⟨⟨a, b⟩, c⟩]) q3 (by omega) (by simp [hl]) (by omega) h4.2
    simp only [acc1] at ih
    exact ih
theorem r_rel {s : ByteArray} (hs : (s.size : Int) ≤ 140737488355328) (p : Int) (h0 : 0 ≤ p) (h1 : p ≤ (s.size : Int)) : RR (fun k => mapmakerref16_getRel.f k s p 0) (rRel s p) (fun x q => (s, q, (0 : Int), x.f0, x.f1, x.f2)) E3 := by
  unfold mapmakerref16_getRel.f rRel
  refine RR.bind (r_int hs p h0 h1) rInt_err (fun r hr => ?_) fun a q ha => ?_
  · obtain ⟨r2, g2, k2⟩ := d_rel0 r.2.2.2 0 0 [] r.1 r.2.1 r.2.2.1 hr
    exact ⟨r2, Ev.bind (d_count 200 _ _ _ hr) g2, k2⟩
  have h2 := rInt_fwd s p a q h0 h1 ha
  rw [rMany_count]
  refine RR.bind (r_count hs q 200 (by omega) h2.2 (by decide) (by decide)) (fun _ h => rCount_err h) (fun r hr => d_rel0 a r.2.2.2 0 [] r.1 r.2.1 r.2.2.1 hr) fun n q2 hn => ?_
  have h3 := rCount_fwd s 200 q n q2 (by omega) h2.2 hn
  have hc := rCount_le hn
  obtain ⟨m, rfl⟩ := Int.eq_ofNat_of_zero_le hc.1
  rw [Int.toNat_natCast]
  exact r_rel0 hs a m (by omega) m 0 [] q2 (by omega) rfl (by omega) h3.2
end Go.Proofs.Ytefambkodalomaa.Pure
