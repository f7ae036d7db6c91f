/- A row of the call's own whose elements lead to what is only read, told by the elements' cells alone (their heads): so that a sort may lay them anew. -/
import Derived.Test.YtijoaohckgbneaaGreatGMap
import Derived.Test.YtijoaohckgbneaaGreatWN
namespace Go.Proofs.YtijoaohckgbneaaGreatG
open Go.RowKit Go.Proofs.YtijoaohckgbneaaGreatW.PrintWords
set_option linter.unusedVariables false
set_option linter.unusedSimpArgs false
section
variable {α η : Type}
def hdK (enc : η → List Value) (sz : Nat) (hl : ∀ x, (enc x).length = sz) (h1 : ∀ x, ∀ u ∈ enc x, u.oneCell' = true) : Kd η where
  sz := sz
  E := []
  K := fun _ x cs => cs = enc x
  M := fun _ _ _ x cs => cs = enc x
  K_len := fun h => by rw [h]; exact hl _
  K_one := fun h => by rw [h]; exact h1 _
  K_below := fun _ h => h
  K_of_M := fun h => h
  M_mono := fun _ h => h
  M_bound := fun h => h
  M_move := fun _ h => h
  M_lower := fun _ h => h
variable {d : Kd α} {id : α → Int} {hid : η → Int} {enc : η → List Value} {hl : ∀ x, (enc x).length = d.sz} {h1 : ∀ x, ∀ u ∈ enc x, u.oneCell' = true} {e base : Nat} {ok : Nat → Prop} {w w' : World} {v : Value} {xs : List α}
theorem hd_list {hd : α → List Value → Prop} (hh : ∀ x cs, hd x cs → ∃ y : η, cs = enc y ∧ hid y = id x) : ∀ (xs : List α) (rows : List (List Value)), rows.length = xs.length → (∀ (j : Nat) (x : α) (c : List Value), xs[j]? = some x → rows[j]? = some c → hd x c) → ∃ hs : List η, hs.map enc = rows ∧ hs.map hid = xs.map id
  | [], [], _, _ => ⟨[], rfl, rfl⟩
  | [], _ :: _, h, _ => by simp at h
  | _ :: _, [], h, _ => by simp at h
  | x :: xs, c :: rows, h, hf => by
    obtain ⟨hs, e1, e2⟩ := hd_list hh xs rows (by simpa using h) (fun j y d' hy hd' => hf (j + 1) y d' (by simpa using hy) (by simpa using hd'))
    obtain ⟨y, rfl, hy⟩ := hh x c (hf 0 x c rfl rfl)
    exact ⟨y :: hs, by simp [e1], by simp [e2, hy]⟩
theorem N_heads (hh : ∀ {w : World} {x cs}, d.K w x cs → ∃ y : η, cs = enc y ∧ hid y = id x) (h : Kd.N d e w base ok v xs) :
    ∃ hs : List η, hs.length = xs.length ∧ hs.map hid = xs.map id ∧ (hdK enc d.sz hl h1).R e w base (fun k => some k = v.ownBlock) v hs ∧ (∀ k, v.ownBlock = some k → ok k) ∧
      ∀ (j : Nat) (x : α) (y : η), xs[j]? = some x → hs[j]? = some y → Kd.FK d w (fun k => ok k ∧ some k ≠ v.ownBlock) x (enc y) := by
  obtain ⟨h0, rows, hlr, hR, hf⟩ := h
  obtain ⟨hs, rfl, e2⟩ := hd_list (hd := fun x c => d.K w x c) (enc := enc) (fun x cs hk => hh hk) xs rows hlr (fun j x c hx hc => Kd.FK_now (hf j x c hx hc))
  have hlen : hs.length = xs.length := by simpa using hlr
  refine ⟨hs, hlen, e2, ?_, h0, fun j x y hx hy => hf j x (enc y) hx (by simp [hy])⟩
  obtain ⟨hok, inner, ho, hr⟩ := hR
  refine ⟨hok, inner, ?_, ?_⟩
  · show w.ownsRow base e d.sz v hs.length inner
    rw [List.length_map] at ho
    exact ho
  · refine ⟨by have := hr.1; rw [List.length_map] at this; exact this, fun j p hj => ?_⟩
    exact (hr.2 j (enc p) (by simp [hj])).1
theorem N_sorted {hs hs2 : List η} {l : List α} (hR : (hdK enc d.sz hl h1).R e w' base (fun k => some k = v.ownBlock) v hs2) (h0 : ∀ k, v.ownBlock = some k → ok k)
    (hf : ∀ (j : Nat) (x : α) (y : η), xs[j]? = some x → hs[j]? = some y → Kd.FK d w (fun k => ok k ∧ some k ≠ v.ownBlock) x (enc y)) (hm : ∀ k, k < w.heap.size → some k ≠ v.ownBlock → w'.heap[k]? = w.heap[k]?)
    (he : hs.map hid = xs.map id) (hp : hs2.Perm hs) (hs' : hs2.Pairwise (fun x y => hid x ≤ hid y)) (hR' : Rising id l) (x1 : ∀ y ∈ xs, y ∈ l) (x2 : ∀ x ∈ l, x ∈ xs) (x3 : xs.Pairwise (fun x y => id x ≠ id y)) : Kd.N d e w' base ok v l := by
  have hlen : hs.length = xs.length := by have := congrArg List.length he; simpa using this
  -- the heads' numbers are the list's
  have hl2 : hs2.map hid = l.map id := by
    have p1 : (hs2.map hid).Perm (xs.map id) := he ▸ hp.map hid
    have n1 : (xs.map id).Nodup := List.pairwise_map.2 x3
    have n2 : (l.map id).Nodup := List.pairwise_map.2 (hR'.imp (fun hlt e => by omega))
    have p2 : (xs.map id).Perm (l.map id) := (List.perm_ext_iff_of_nodup n1 n2).2 fun a => by
      simp only [List.mem_map]
      exact ⟨fun ⟨y, hy, e⟩ => ⟨y, x1 y hy, e⟩, fun ⟨y, hy, e⟩ => ⟨y, x2 y hy, e⟩⟩
    refine (p1.trans p2).eq_of_pairwise (le := fun a b => a ≤ b) (fun a b _ _ h1 h2 => by omega) (List.pairwise_map.2 hs') (List.pairwise_map.2 (hR'.imp (fun hlt => by omega)))
  have hlen2 : hs2.length = l.length := by have := congrArg List.length hl2; simpa using this
  obtain ⟨hok, inner, ho, hr⟩ := hR
  refine ⟨h0, hs2.map enc, by simpa using hlen2, ⟨hok, inner, by rw [List.length_map]; exact ho, ⟨by have := hr.1; rw [List.length_map]; exact this, fun j p hj => ?_⟩⟩, fun j x c hx hc => ?_⟩
  · rw [List.getElem?_map, Option.map_eq_some_iff] at hj
    obtain ⟨y, hy, rfl⟩ := hj
    have h4 : (inner.drop (j * d.sz)).take d.sz = enc y := hr.2 j y hy
    exact ⟨h4, by show ((inner.drop (j * d.sz)).take d.sz).length = d.sz; rw [h4]; exact hl y, by show ∀ u ∈ (inner.drop (j * d.sz)).take d.sz, u.oneCell' = true; rw [h4]; exact h1 y⟩
  · rw [List.getElem?_map, Option.map_eq_some_iff] at hc
    obtain ⟨y, hy, rfl⟩ := hc
    have hyx : hid y = id x := by
      have h3 := congrArg (fun z => z[j]?) hl2
      simpa [hy, hx] using h3
    obtain ⟨i, hi, hiy⟩ := List.getElem_of_mem (hp.mem_iff.1 (List.mem_of_getElem? hy))
    have hi' : i < xs.length := by omega
    have hxi : id xs[i] = hid y := by
      have h3 := congrArg (fun z => z[i]?) he
      have h4 : hs[i]? = some y := by rw [List.getElem?_eq_getElem hi, hiy]
      simpa [h4, List.getElem?_eq_getElem hi'] using h3.symm
    have hxe : xs[i] = x := rising_one hR' _ (x1 _ (List.getElem_mem hi')) _ (List.mem_of_getElem? hx) (hxi.trans hyx)
    have hfk := hf i x y (by rw [List.getElem?_eq_getElem hi', hxe]) (by rw [List.getElem?_eq_getElem hi, hiy])
    exact Kd.FK_step hfk (fun k hk hlt => hm k hlt hk.2)
end
end Go.Proofs.YtijoaohckgbneaaGreatG
