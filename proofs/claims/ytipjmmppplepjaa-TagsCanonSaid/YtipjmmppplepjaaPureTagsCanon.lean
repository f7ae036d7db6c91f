/- TagsCanon: the program's Canon is idempotent, its result is valid, and the order of the tags does not matter, for any list; no condition. -/
import Derived.Test.YtipjmmppplepjaaPureCanon
namespace Go.Proofs.Ytipjmmppplepjaa.Pure
set_option linter.unusedVariables false
set_option linter.unusedSimpArgs false
open Go.RowKit Go.Proofs.Ytipjmmppplepjaa.PAll Go.Proofs.YtipjmmppplepjaaW.PrintWords Go.Proofs.YtipjmmppplepjaaW.PrintLast

theorem canon_last (l a : List S34) (e : Int) (h : CanonP l a e) (k : Nat) (hk : 200 < k) : mapmakerlaw06_TagsCanon.j1 (k + 1) l a e false = some true := by
  simp only [mapmakerlaw06_TagsCanon.j1]
  rw [if_neg Bool.false_ne_true, lives k (by omega)]
  have hal := h.len
  by_cases he : e = 0
  · rw [if_pos he]
    subst he
    have c1 : l.length ≤ 16 := by
      by_cases c : 16 < l.length
      · have := (h.long c).2; omega
      · omega
    have c2 : ∀ t ∈ l, goodB t = true := fun t ht => by
      cases hg : goodB t with
      | true => rfl
      | false => have := (h.bad c1 ⟨t, ht, hg⟩).2; omega
    have c3 : (l.map keyL).Nodup := by
      by_cases c : (l.map keyL).Nodup
      · exact c
      · have := (h.twice c1 c2 c).2; omega
    obtain ⟨_, hp, hs⟩ := h.fine c1 c2 c3
    have c2' : ∀ t ∈ a, goodB t = true := fun t ht => c2 t (hp.mem_iff.1 ht)
    obtain ⟨r, hr, hr0⟩ := check_some a k (by omega)
    obtain ⟨a', e', h1, hq⟩ := tagsCanon a k (by omega)
    obtain ⟨rfl, p2, s2⟩ := hq.fine hal c2' (nodup_of_sorted hs)
    obtain rfl := sorted_unique p2 s2 hs
    rw [h1, check_same, hr, hr0 hal c2' s2]
    simp only [Option.bind_some, if_true]
    rw [refSame a' a' (by unfold maxLen; omega) _ (by omega)]
    simp [hp.length_eq]
  · rw [if_neg he]
    have ha : a = [] := by
      by_cases c1 : 16 < l.length
      · exact (h.long c1).1
      by_cases c2 : ∃ t ∈ l, goodB t = false
      · exact (h.bad (by omega) c2).1
      have c2a : ∀ t ∈ l, goodB t = true := fun t ht => by
        cases hg : goodB t with
        | true => rfl
        | false => exact absurd ⟨t, ht, hg⟩ c2
      by_cases c3 : (l.map keyL).Nodup
      · exact absurd (h.fine (by omega) c2a c3).1 he
      · exact (h.twice (by omega) c2a c3).1
    subst ha
    rfl
theorem canon_back (l a : List S34) (e : Int) (h : CanonP l a e) (hl : l.length ≤ 40) (d : Nat) : ∀ (k : Nat) (out : List S34), d ≤ l.length → d + 300 < k → out = (l.drop d).reverse →
    mapmakerlaw06_TagsCanon.l0 k l a e out ((d : Int) - 1) = some true := by
  induction d with
  | zero =>
    intro k out hd hk ho
    obtain ⟨k, rfl⟩ : ∃ m, k = m + 2 := ⟨k - 2, by omega⟩
    simp only [mapmakerlaw06_TagsCanon.l0]
    rw [if_neg (by omega)]
    have hp : l.Perm out := by rw [ho]; exact (List.reverse_perm _).symm
    obtain ⟨b, f, h1, hq⟩ := tagsCanon out (k + 1) (by omega)
    obtain ⟨rfl, rfl⟩ := h.unique hq hp
    rw [h1, Option.bind_some, if_pos rfl, refSame a a (by have := h.len; unfold maxLen; omega) _ (by have := h.len; omega), Option.bind_some, decide_eq_true rfl]
    exact canon_last l a e h k (by omega)
  | succ d ih =>
    intro k out hd hk ho
    obtain ⟨k, rfl⟩ : ∃ m, k = m + 1 := ⟨k - 1, by omega⟩
    have hlt : d < l.length := by omega
    have e1 : ((d + 1 : Nat) : Int) - 1 = (d : Int) := by omega
    have hol : out.length ≤ 40 := by rw [ho]; simp; omega
    simp only [mapmakerlaw06_TagsCanon.l0]
    rw [e1, if_pos (by omega), if_pos (by omega), if_pos (by omega), if_pos (by omega), rd_at l d hlt]
    have hw : wrap64 ((d : Int) - 1) = (d : Int) - 1 := by unfold wrap64; omega
    rw [hw]
    refine ih k _ (by omega) (by omega) ?_
    rw [ho, List.drop_eq_getElem_cons hlt, List.reverse_cons]
theorem TagsCanon : mapmakerlaw06_TagsCanon.Pure := by
  intro l hw
  obtain ⟨x, hx, hx40⟩ := small l hw.1 (2 * l.length + 400) (by omega)
  refine ⟨2 * l.length + 400, ?_⟩
  unfold mapmakerlaw06_TagsCanon.f
  rw [hx, Option.bind_some, lives _ (by omega)]
  cases x with
  | false => rfl
  | true =>
    have hl := hx40 rfl
    obtain ⟨a, e, h1, hp⟩ := tagsCanon l (2 * l.length + 400) (by omega)
    rw [if_pos rfl, h1, Option.bind_some]
    have hw1 : wrap64 ((l.length : Int) - 1) = (l.length : Int) - 1 := by unfold wrap64; omega
    rw [hw1]
    exact canon_back l a e hp hl l.length _ [] (Nat.le_refl _) (by omega) (by simp)
end Go.Proofs.Ytipjmmppplepjaa.Pure
