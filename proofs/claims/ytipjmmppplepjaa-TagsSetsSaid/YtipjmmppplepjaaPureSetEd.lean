/- Plain facts: the program's Set and Drop answer what the reference answers, for any list. -/
import Derived.Test.YtipjmmppplepjaaPureCoreEd
namespace Go.Proofs.Ytipjmmppplepjaa.Pure
set_option linter.unusedVariables false
set_option linter.unusedSimpArgs false
open Go.RowKit Go.Proofs.Ytipjmmppplepjaa.PEd Go.Proofs.YtipjmmppplepjaaW.PrintWords Go.Proofs.YtipjmmppplepjaaW.PrintLast Go.Proofs.YtipjmmppplepjaaG

theorem keyIs_iff (a : ByteArray) (t : S34) : keyIs a t = true ↔ t.f0.toList = a.toList := by unfold keyIs; exact beq_iff_eq
theorem keyIs_not (a : ByteArray) (t : S34) : keyIs a t = false ↔ t.f0.toList ≠ a.toList := by unfold keyIs; exact beq_eq_false_iff_ne
theorem setGo_done (a1 a2 : ByteArray) (p : Int) : ∀ (l : List S34) (i : Nat), p < i → setGo a1 a2 p i l = setRest a1 a2 true true l
  | [], i, h => by simp [setGo, setRest]
  | t :: l, i, h => by
    rw [setGo, if_neg (by omega), setGo_done a1 a2 p l (i + 1) (by omega)]
    simp only [setRest, if_true]
    by_cases hk : t.f0.toList = a1.toList
    · rw [if_pos ((keyIs_iff a1 t).2 hk), if_pos hk]
    · rw [if_neg (fun h => hk ((keyIs_iff a1 t).1 h)), if_neg hk]
theorem setGo_has (a1 a2 : ByteArray) : ∀ (l : List S34) (i d : Nat), l.findIdx? (keyIs a1) = some d → setGo a1 a2 ((i + d : Nat) : Int) i l = setRest a1 a2 true false l
  | [], i, d, h => by simp at h
  | t :: l, i, d, h => by
    rw [List.findIdx?_cons] at h
    simp only [setRest, if_true]
    by_cases hk : keyIs a1 t = true
    · rw [if_pos hk] at h
      have hd : d = 0 := by injection h with h; omega
      subst hd
      rw [setGo, if_pos (by omega), if_pos ((keyIs_iff a1 t).1 hk), if_neg Bool.false_ne_true, setGo_done a1 a2 _ l (i + 1) (by omega)]
    · rw [if_neg hk] at h
      obtain ⟨d', hd', rfl⟩ := Option.map_eq_some_iff.1 h
      have := setGo_has a1 a2 l (i + 1) d' hd'
      rw [setGo, if_neg (by omega), if_neg hk, if_neg (fun h => hk ((keyIs_iff a1 t).2 h)), ← this, show i + 1 + d' = i + (d' + 1) by omega]
theorem setTo_nil (a1 : ByteArray) : setTo a1 ([] : List S34) = 0 := rfl
theorem setTo_cons (a1 : ByteArray) (t : S34) (l : List S34) : setTo a1 (t :: l) = if keyGt a1 t = true then 0 else setTo a1 l + 1 := by
  unfold setTo ixOf
  rw [List.findIdx?_cons]
  by_cases h : keyGt a1 t = true
  · rw [if_pos h, if_pos h]; rfl
  · rw [if_neg h, if_neg h]
    cases hf : l.findIdx? (keyGt a1) with
    | none => simp
    | some d =>
      simp only [Option.map_some]
      rw [if_neg (by omega), if_neg (by omega)]
      omega
theorem setTo_not (a1 a2 : ByteArray) : ∀ (l : List S34), l.take (setTo a1 l) ++ ⟨a1, a2⟩ :: l.drop (setTo a1 l) = setRest a1 a2 false false l
  | [] => by simp [setTo_nil, setRest]
  | t :: l => by
    rw [setTo_cons]
    simp only [setRest, Bool.false_eq_true, if_false]
    by_cases h : keyGt a1 t = true
    · rw [if_pos h, if_pos (show Op.bytesLess a1.toList t.f0.toList = true from h), setRest_done]
      rfl
    · rw [if_neg h, if_neg (show ¬ Op.bytesLess a1.toList t.f0.toList = true from h), ← setTo_not a1 a2 l, List.take_succ_cons, List.drop_succ_cons]
      rfl
theorem tagsSet (l : List S34) (a1 a2 : ByteArray) (hl : l.length < 4398046511104) : tags_Set.f l a1 a2 = some (setRest a1 a2 (getOf l a1).2 false l) := by
  unfold tags_Set.f
  rw [if_pos hl]
  congr 1
  cases hf : l.findIdx? (keyIs a1) with
  | none =>
    have hg : (getOf l a1).2 = false := by
      cases h : (getOf l a1).2 with
      | false => rfl
      | true =>
        obtain ⟨x, hx, e⟩ := (has_iff l a1).1 h
        rw [List.findIdx?_eq_none_iff] at hf
        have h2 := hf x hx
        rw [(keyIs_iff a1 x).2 e] at h2
        cases h2
    rw [hg]
    have hi : ixOf (keyIs a1) l = -1 := by unfold ixOf; rw [hf]
    rw [hi, if_pos (by omega)]
    exact setTo_not a1 a2 l
  | some d =>
    have hf' := hf
    rw [List.findIdx?_eq_some_iff_getElem] at hf'
    obtain ⟨hd, hp, _⟩ := hf'
    have hg : (getOf l a1).2 = true := (has_iff l a1).2 ⟨l[d], List.getElem_mem hd, (keyIs_iff a1 _).1 hp⟩
    rw [hg]
    have hi : ixOf (keyIs a1) l = (d : Int) := by unfold ixOf; rw [hf]
    rw [hi, if_neg (by omega)]
    have := setGo_has a1 a2 l 0 d hf
    rwa [Nat.zero_add] at this
theorem setRest_len1 (a1 a2 : ByteArray) (has : Bool) : ∀ (l : List S34), (setRest a1 a2 has true l).length ≤ l.length
  | [] => by simp [setRest]
  | t :: l => by
    simp only [setRest, if_true]
    have h1 := setRest_len1 a1 a2 has l
    (repeat' split) <;> simp only [List.length_cons] <;> omega
theorem setRest_len (a1 a2 : ByteArray) (has : Bool) : ∀ (l : List S34), (setRest a1 a2 has false l).length ≤ l.length + 1
  | [] => by simp [setRest]
  | t :: l => by
    simp only [setRest, Bool.false_eq_true, if_false]
    have h1 := setRest_len1 a1 a2 has l
    have h2 := setRest_len a1 a2 has l
    (repeat' split) <;> simp only [List.length_cons] <;> omega
theorem refDrop0 (l : List S34) (key : ByteArray) (hl : l.length ≤ 1000000) (d : Nat) : ∀ (k : Nat) (i : Nat) (out : List S34), i ≤ l.length → l.length - i = d → d < k → out.length + d < 4398046511104 →
    mapmakerref06_Drop.l0 k l key out (i : Int) = some (out ++ (l.drop i).filter (fun x => !keyIs key x)) := by
  induction d with
  | zero =>
    intro k i out hi hd hk ho
    obtain ⟨k, rfl⟩ : ∃ m, k = m + 1 := ⟨k - 1, by omega⟩
    simp only [mapmakerref06_Drop.l0]
    rw [if_neg (by omega), List.drop_eq_nil_of_le (by omega)]
    simp
  | succ d ih =>
    intro k i out hi hd hk ho
    obtain ⟨k, rfl⟩ : ∃ m, k = m + 1 := ⟨k - 1, by omega⟩
    have hlt : i < l.length := by omega
    simp only [mapmakerref06_Drop.l0]
    rw [if_pos (by omega), if_pos (by omega), rd_at l i hlt, wrap_succ i (by omega), List.drop_eq_getElem_cons hlt, List.filter_cons]
    by_cases h : l[i].f0.toList = key.toList
    · rw [if_pos h, ih k (i + 1) out (by omega) (by omega) (by omega) (by omega), (keyIs_iff key l[i]).2 h]
      rfl
    · rw [if_neg h, if_pos (by omega), ih k (i + 1) _ (by omega) (by omega) (by omega) (by rw [List.length_append, List.length_singleton]; omega), (keyIs_not key l[i]).2 h, List.append_assoc]
      rfl
theorem refDrop (l : List S34) (key : ByteArray) (hl : l.length ≤ 1000000) (k : Nat) (hk : l.length < k) : mapmakerref06_Drop.f k l key = some (l.filter (fun x => !keyIs key x)) := by
  unfold mapmakerref06_Drop.f
  have := refDrop0 l key hl l.length k 0 [] (by omega) (by omega) hk (by simp; omega)
  simpa using this
theorem tagsDrop (l : List S34) (key : ByteArray) (hl : l.length ≤ 8796093022208) : tags_Drop.f l key = some (l.filter (fun x => !keyIs key x)) := by unfold tags_Drop.f; rw [if_pos hl]
end Go.Proofs.Ytipjmmppplepjaa.Pure
