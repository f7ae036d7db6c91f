import Derived.Test.YtijoaohckgbneaaSq
-- out of a driver of this session's prover over the kit's print: Lean checks it
import Derived.Test.YtijoaohckgbneaaProg
import Derived.Below
import Derived.Deep.Draws
import Derived.Deep.AppendLies
import Derived.Maps.AppendAt
import Derived.OwnWalk
import Derived.Laws.BytesArg
import Derived.Laws.MakeOwn
import Derived.Laws.OwnMore
import Derived.Deep.OwnRows
import Derived.Tactics
import Derived.Lib.ConvBytes
import Derived.Laws.Slices
import Derived.WalkKit
import Derived.KernelRfl
import Derived.RowKit3
import Derived.Deep.LoopGhost
import Derived.Deep.QuietTactic
import Derived.BigQuiet
import Derived.WideLaws
import Derived.Deep.DeepCutAuto
import Derived.Deep.CutBlock
import Derived.Deep.RegionHeld3
import Derived.Laws.Rows
import Derived.Lib.AppendStr
import Derived.ArgAppend
import Derived.Laws.IdiomCopy
import Derived.OrdersHeld
import Derived.Laws.BitsLemmas
import Derived.RowKit
import Derived.Shelf.Abstract
import Derived.Shelf.RegionOpenPlain
import Derived.Deep.RegionWith
import Derived.Lib.SliceRun
import Derived.WalkSpells
import Derived.ArgAppend
import Derived.Test.YtijoaohckgbneaaGMem
import Derived.Test.YtijoaohckgbneaaGPut
import Derived.Test.YtijoaohckgbneaaGOpen
import Derived.Test.YtijoaohckgbneaaGMap
import Derived.Test.YtijoaohckgbneaaGHd
import Derived.Test.YtijoaohckgbneaaGSort
import Derived.Test.YtijoaohckgbneaaShelf
import Derived.Shelf.SlSortCmp.NoneTotal
import Derived.WideKeyEntry
import Derived.DeepKeys4
import Derived.Test.YtijoaohckgbneaaGOpen
import Derived.Test.YtijoaohckgbneaaWWords
import Derived.Test.YtijoaohckgbneaaWLast
import Derived.Test.YtijoaohckgbneaaWTab
import Derived.Test.YtijoaohckgbneaaWFour
import Derived.Test.YtijoaohckgbneaaWQPut
import Derived.Test.YtijoaohckgbneaaWApart
import Derived.Test.YtijoaohckgbneaaWArr
import Derived.Test.YtijoaohckgbneaaWZeros
import Derived.Test.YtijoaohckgbneaaWFoot
import Derived.Test.YtijoaohckgbneaaWKept
import Derived.Test.YtijoaohckgbneaaWShare
import Derived.Test.YtijoaohckgbneaaWN
import Derived.Test.YtijoaohckgbneaaWFootNe
import Derived.Test.YtijoaohckgbneaaWAt
import Derived.Test.YtijoaohckgbneaaWEqStruct
import Derived.Test.YtijoaohckgbneaaWRepsOne
import Derived.Test.YtijoaohckgbneaaWInv
import Derived.Test.YtijoaohckgbneaaWInvWords
import Derived.Test.YtijoaohckgbneaaWGuard
import Derived.Test.YtijoaohckgbneaaWNEv
import Derived.Test.YtijoaohckgbneaaWMore
namespace Go.Proofs.Ytijoaohckgbneaa.PAll
open Go.Proofs.YtijoaohckgbneaaG Go.Shelf Go.Lib
open Go.RowKit Go.Proofs.YtijoaohckgbneaaW.PrintWords Go.Proofs.YtijoaohckgbneaaW.PrintLast Go.Proofs.YtijoaohckgbneaaW.PrintMore
attribute [local go_sem] max2_int min2_int max_two min_two max_three min_three max_four min_four   -- for this text's walks alone
set_option linter.unusedVariables false
set_option linter.unusedSimpArgs false
def errW : Option Int → Value
 | none => .nilIface
 | some c => .iface 0 (.int .i64 c)
theorem errW_none : errW none = .nilIface := rfl
theorem errW_some (c : Int) : errW (some c) = .iface 0 (.int .i64 c) := rfl
theorem info42 : (Try.prog.info? 42).map (fun i => (i.zero, i.size, i.bytes)) = some (some (.agg #[(.int .i64 0), (.int .i64 0), (.int .i64 0), (.slice none 0 0)]), 4, 48) := by kernel_rfl
theorem info45 : (Try.prog.info? 45).map (fun i => (i.zero, i.size, i.bytes)) = some (some (.agg #[(.int .i64 0), (.slice none 0 0), (.slice none 0 0)]), 3, 56) := by kernel_rfl
theorem info48 : (Try.prog.info? 48).map (fun i => (i.zero, i.size, i.bytes)) = some (some (.agg #[(.int .i64 0), (.slice none 0 0), (.slice none 0 0)]), 3, 56) := by kernel_rfl
theorem info50 : (Try.prog.info? 50).map (fun i => (i.zero, i.size, i.bytes)) = some (some (.agg #[(.int .i64 0), (.int .i64 0), (.int .i64 0), (.int .i64 0), (.int .i64 0), (.slice none 0 0), (.int .i64 0), (.slice none 0 0), (.slice none 0 0), (.int .i64 0), (.slice none 0 0), (.slice none 0 0)]), 12, 176) := by kernel_rfl
-- the values' own types
structure S39 where
 f0 : Int
 f1 : Int
def z39 : S39 := ⟨(0 : Int), (0 : Int)⟩
def k39 : Kd S39 := Kd.iso (Kd.pair (Kd.int .i64) (Kd.int .i64)) (fun x : S39 => (x.f0, x.f1))
theorem k39_heap : Kd.Heap k39 := Kd.heap_iso _ (Kd.heap_pair (Kd.heap_int .i64) (Kd.heap_int .i64))
theorem k39_open {w : World} {x : S39} {cs : List Value} (h : k39.K w x cs) : cs = [.int .i64 x.f0, .int .i64 x.f1] := by
 obtain ⟨_, _, rfl, rfl, rfl⟩ := h; exact rfl
theorem k39_mk (w : World) (x : S39)  : k39.K w x [.int .i64 x.f0, .int .i64 x.f1] := ⟨[.int .i64 x.f0], [.int .i64 x.f1], rfl, rfl, rfl⟩
structure S103 where
 f0 : ByteArray
 f1 : ByteArray
def z103 : S103 := ⟨(⟨#[]⟩ : ByteArray), (⟨#[]⟩ : ByteArray)⟩
def k103 : Kd S103 := Kd.iso (Kd.pair Kd.string Kd.string) (fun x : S103 => (x.f0, x.f1))
theorem k103_heap : Kd.Heap k103 := Kd.heap_iso _ (Kd.heap_pair Kd.heap_string Kd.heap_string)
theorem k103_open {w : World} {x : S103} {cs : List Value} (h : k103.K w x cs) : cs = [.string x.f0, .string x.f1] := by
 obtain ⟨_, _, rfl, rfl, rfl⟩ := h; exact rfl
def rd_T103 (xs : List S103) (i : Int) : S103 := xs.getD i.toNat z103
theorem at_T103 {w : World} {A : Option Addr} {n : Nat} {xs : List S103} (h : Kd.C k103 w A n xs) (i : Int) (h0 : 0 ≤ i) (h1 : i < n) : ∃ ad , A = some ad ∧ w.cell? (ad.add (i.toNat * 2)) = some (.string (rd_T103 xs i).f0) ∧ w.cell? ⟨(ad.add (i.toNat * 2)).block, (ad.add (i.toNat * 2)).off + 1, none⟩ = some (.string (rd_T103 xs i).f1) := by
 obtain ⟨ad, c, e, _, hK, hc0⟩ := Kd.C_get h z103 i h0 h1; have hc : ∀ j u, c[j]? = some u → w.cell? (ad.add (i.toNat * 2 + j)) = some u := hc0; obtain rfl := k103_open hK; exact ⟨ad, e, hc 0 _ rfl, by rw [← add_field _ _ 1 (by omega)]; exact hc 1 _ rfl⟩
structure S42 where
 f0 : Int
 f1 : S39
 f2 : (List S103)
def z42 : S42 := ⟨(0 : Int), z39, ([] : List S103)⟩
def k42 : Kd S42 := Kd.iso (Kd.pair (Kd.int .i64) (Kd.pair k39 (Kd.slice 103 k103))) (fun x : S42 => (x.f0, x.f1, x.f2))
theorem k42_heap : Kd.Heap k42 := Kd.heap_iso _ (Kd.heap_pair (Kd.heap_int .i64) (Kd.heap_pair k39_heap (Kd.heap_slice 103 k103_heap)))
theorem k42_open {w : World} {x : S42} {cs : List Value} (h : k42.K w x cs) : ∃ A3 c3, cs = [.int .i64 x.f0, .int .i64 x.f1.f0, .int .i64 x.f1.f1, .slice A3 x.f2.length c3] ∧ x.f2.length ≤ c3 ∧ k103.C w A3 x.f2.length x.f2 := by
 obtain ⟨_, _, rfl, rfl, ⟨_, _, rfl, s1, ⟨A3, c3, rfl, l3, g3⟩⟩⟩ := h; obtain rfl := k39_open s1; exact ⟨A3, c3, rfl, l3, g3⟩
theorem k42_mk (w : World) (x : S42) {A3 : Option Addr} {c3 : Nat} (l3 : x.f2.length ≤ c3) (g3 : k103.C w A3 x.f2.length x.f2) : k42.K w x [.int .i64 x.f0, .int .i64 x.f1.f0, .int .i64 x.f1.f1, .slice A3 x.f2.length c3] := ⟨[.int .i64 x.f0], [.int .i64 x.f1.f0, .int .i64 x.f1.f1, .slice A3 x.f2.length c3], rfl, rfl, ⟨[.int .i64 x.f1.f0, .int .i64 x.f1.f1], [.slice A3 x.f2.length c3], rfl, (k39_mk w x.f1 ), ⟨A3, c3, rfl, l3, g3⟩⟩⟩
theorem k42_openF {W : World} {ok : Nat → Prop} {x : S42} {cs : List Value} (h : Kd.FK k42 W ok x cs) : ∃ A3 c3, cs = [.int .i64 x.f0, .int .i64 x.f1.f0, .int .i64 x.f1.f1, .slice A3 x.f2.length c3] ∧ x.f2.length ≤ c3 ∧ Kd.F k103 W ok A3 x.f2.length x.f2 := by
 obtain ⟨A3, c3, rfl, l3, _⟩ := k42_open (Kd.FK_now h); exact ⟨A3, c3, rfl, l3, (fun W' hW => by obtain ⟨A3_, c3_, he, l3_, g3_⟩ := k42_open (h W' hW); injection (Option.some.inj (show some (Value.slice A3 x.f2.length c3) = some (Value.slice A3_ x.f2.length c3_) from congrArg (fun l => l[3]?) he)) with ha_ _ _; rw [ha_]; exact g3_)⟩
theorem k42_mkF (W : World) (ok : Nat → Prop) (x : S42) {A3 : Option Addr} {c3 : Nat} (l3 : x.f2.length ≤ c3) (g3 : Kd.F k103 W ok A3 x.f2.length x.f2) : Kd.FK k42 W ok x [.int .i64 x.f0, .int .i64 x.f1.f0, .int .i64 x.f1.f1, .slice A3 x.f2.length c3] := fun W2 hW => k42_mk W2 x l3 (g3 W2 hW)
def rd_T42 (xs : List S42) (i : Int) : S42 := xs.getD i.toNat z42
theorem at_T42 {w : World} {A : Option Addr} {n : Nat} {xs : List S42} (h : Kd.C k42 w A n xs) (i : Int) (h0 : 0 ≤ i) (h1 : i < n) : ∃ ad A3 c3, A = some ad ∧ w.cell? (ad.add (i.toNat * 4)) = some (.int .i64 (rd_T42 xs i).f0) ∧ w.cell? ⟨(ad.add (i.toNat * 4)).block, (ad.add (i.toNat * 4)).off + 1, none⟩ = some (.int .i64 (rd_T42 xs i).f1.f0) ∧ w.cell? ⟨(ad.add (i.toNat * 4)).block, (ad.add (i.toNat * 4)).off + 2, none⟩ = some (.int .i64 (rd_T42 xs i).f1.f1) ∧ w.cell? ⟨(ad.add (i.toNat * 4)).block, (ad.add (i.toNat * 4)).off + 3, none⟩ = some (.slice A3 (rd_T42 xs i).f2.length c3) ∧ (rd_T42 xs i).f2.length ≤ c3 ∧ k103.C w A3 (rd_T42 xs i).f2.length (rd_T42 xs i).f2 := by
 obtain ⟨ad, c, e, _, hK, hc0⟩ := Kd.C_get h z42 i h0 h1; have hc : ∀ j u, c[j]? = some u → w.cell? (ad.add (i.toNat * 4 + j)) = some u := hc0; obtain ⟨A3, c3, rfl, l3, g3⟩ := k42_open hK; exact ⟨ad, A3, c3, e, hc 0 _ rfl, by rw [← add_field _ _ 1 (by omega)]; exact hc 1 _ rfl, by rw [← add_field _ _ 2 (by omega)]; exact hc 2 _ rfl, by rw [← add_field _ _ 3 (by omega)]; exact hc 3 _ rfl, l3, g3⟩
structure S45 where
 f0 : Int
 f1 : (List Int)
 f2 : (List S103)
def z45 : S45 := ⟨(0 : Int), ([] : List Int), ([] : List S103)⟩
def k45 : Kd S45 := Kd.iso (Kd.pair (Kd.int .i64) (Kd.pair (Kd.slice 3 (Kd.int .i64)) (Kd.slice 103 k103))) (fun x : S45 => (x.f0, x.f1, x.f2))
theorem k45_heap : Kd.Heap k45 := Kd.heap_iso _ (Kd.heap_pair (Kd.heap_int .i64) (Kd.heap_pair (Kd.heap_slice 3 (Kd.heap_int .i64)) (Kd.heap_slice 103 k103_heap)))
theorem k45_open {w : World} {x : S45} {cs : List Value} (h : k45.K w x cs) : ∃ A1 c1 A2 c2, cs = [.int .i64 x.f0, .slice A1 x.f1.length c1, .slice A2 x.f2.length c2] ∧ x.f1.length ≤ c1 ∧ (Kd.int .i64).C w A1 x.f1.length x.f1 ∧ x.f2.length ≤ c2 ∧ k103.C w A2 x.f2.length x.f2 := by
 obtain ⟨_, _, rfl, rfl, ⟨_, _, rfl, ⟨A1, c1, rfl, l1, g1⟩, ⟨A2, c2, rfl, l2, g2⟩⟩⟩ := h; exact ⟨A1, c1, A2, c2, rfl, l1, g1, l2, g2⟩
theorem k45_mk (w : World) (x : S45) {A1 : Option Addr} {c1 : Nat} (l1 : x.f1.length ≤ c1) (g1 : (Kd.int .i64).C w A1 x.f1.length x.f1) {A2 : Option Addr} {c2 : Nat} (l2 : x.f2.length ≤ c2) (g2 : k103.C w A2 x.f2.length x.f2) : k45.K w x [.int .i64 x.f0, .slice A1 x.f1.length c1, .slice A2 x.f2.length c2] := ⟨[.int .i64 x.f0], [.slice A1 x.f1.length c1, .slice A2 x.f2.length c2], rfl, rfl, ⟨[.slice A1 x.f1.length c1], [.slice A2 x.f2.length c2], rfl, ⟨A1, c1, rfl, l1, g1⟩, ⟨A2, c2, rfl, l2, g2⟩⟩⟩
theorem k45_openF {W : World} {ok : Nat → Prop} {x : S45} {cs : List Value} (h : Kd.FK k45 W ok x cs) : ∃ A1 c1 A2 c2, cs = [.int .i64 x.f0, .slice A1 x.f1.length c1, .slice A2 x.f2.length c2] ∧ x.f1.length ≤ c1 ∧ Kd.F (Kd.int .i64) W ok A1 x.f1.length x.f1 ∧ x.f2.length ≤ c2 ∧ Kd.F k103 W ok A2 x.f2.length x.f2 := by
 obtain ⟨A1, c1, A2, c2, rfl, l1, _, l2, _⟩ := k45_open (Kd.FK_now h); exact ⟨A1, c1, A2, c2, rfl, l1, (fun W' hW => by obtain ⟨A1_, c1_, A2_, c2_, he, l1_, g1_, l2_, g2_⟩ := k45_open (h W' hW); injection (Option.some.inj (show some (Value.slice A1 x.f1.length c1) = some (Value.slice A1_ x.f1.length c1_) from congrArg (fun l => l[1]?) he)) with ha_ _ _; rw [ha_]; exact g1_), l2, (fun W' hW => by obtain ⟨A1_, c1_, A2_, c2_, he, l1_, g1_, l2_, g2_⟩ := k45_open (h W' hW); injection (Option.some.inj (show some (Value.slice A2 x.f2.length c2) = some (Value.slice A2_ x.f2.length c2_) from congrArg (fun l => l[2]?) he)) with ha_ _ _; rw [ha_]; exact g2_)⟩
theorem k45_mkF (W : World) (ok : Nat → Prop) (x : S45) {A1 : Option Addr} {c1 : Nat} (l1 : x.f1.length ≤ c1) (g1 : Kd.F (Kd.int .i64) W ok A1 x.f1.length x.f1) {A2 : Option Addr} {c2 : Nat} (l2 : x.f2.length ≤ c2) (g2 : Kd.F k103 W ok A2 x.f2.length x.f2) : Kd.FK k45 W ok x [.int .i64 x.f0, .slice A1 x.f1.length c1, .slice A2 x.f2.length c2] := fun W2 hW => k45_mk W2 x l1 (g1 W2 hW) l2 (g2 W2 hW)
def rd_T45 (xs : List S45) (i : Int) : S45 := xs.getD i.toNat z45
theorem at_T45 {w : World} {A : Option Addr} {n : Nat} {xs : List S45} (h : Kd.C k45 w A n xs) (i : Int) (h0 : 0 ≤ i) (h1 : i < n) : ∃ ad A1 c1 A2 c2, A = some ad ∧ w.cell? (ad.add (i.toNat * 3)) = some (.int .i64 (rd_T45 xs i).f0) ∧ w.cell? ⟨(ad.add (i.toNat * 3)).block, (ad.add (i.toNat * 3)).off + 1, none⟩ = some (.slice A1 (rd_T45 xs i).f1.length c1) ∧ w.cell? ⟨(ad.add (i.toNat * 3)).block, (ad.add (i.toNat * 3)).off + 2, none⟩ = some (.slice A2 (rd_T45 xs i).f2.length c2) ∧ (rd_T45 xs i).f1.length ≤ c1 ∧ (Kd.int .i64).C w A1 (rd_T45 xs i).f1.length (rd_T45 xs i).f1 ∧ (rd_T45 xs i).f2.length ≤ c2 ∧ k103.C w A2 (rd_T45 xs i).f2.length (rd_T45 xs i).f2 := by
 obtain ⟨ad, c, e, _, hK, hc0⟩ := Kd.C_get h z45 i h0 h1; have hc : ∀ j u, c[j]? = some u → w.cell? (ad.add (i.toNat * 3 + j)) = some u := hc0; obtain ⟨A1, c1, A2, c2, rfl, l1, g1, l2, g2⟩ := k45_open hK; exact ⟨ad, A1, c1, A2, c2, e, hc 0 _ rfl, by rw [← add_field _ _ 1 (by omega)]; exact hc 1 _ rfl, by rw [← add_field _ _ 2 (by omega)]; exact hc 2 _ rfl, l1, g1, l2, g2⟩
structure S36 where
 f0 : Int
 f1 : Int
def z36 : S36 := ⟨(0 : Int), (0 : Int)⟩
def k36 : Kd S36 := Kd.iso (Kd.pair (Kd.int .i64) (Kd.int .i64)) (fun x : S36 => (x.f0, x.f1))
theorem k36_heap : Kd.Heap k36 := Kd.heap_iso _ (Kd.heap_pair (Kd.heap_int .i64) (Kd.heap_int .i64))
theorem k36_open {w : World} {x : S36} {cs : List Value} (h : k36.K w x cs) : cs = [.int .i64 x.f0, .int .i64 x.f1] := by
 obtain ⟨_, _, rfl, rfl, rfl⟩ := h; exact rfl
structure S89 where
 f0 : S36
 f1 : ByteArray
def z89 : S89 := ⟨z36, (⟨#[]⟩ : ByteArray)⟩
def k89 : Kd S89 := Kd.iso (Kd.pair k36 Kd.string) (fun x : S89 => (x.f0, x.f1))
theorem k89_heap : Kd.Heap k89 := Kd.heap_iso _ (Kd.heap_pair k36_heap Kd.heap_string)
theorem k89_open {w : World} {x : S89} {cs : List Value} (h : k89.K w x cs) : cs = [.int .i64 x.f0.f0, .int .i64 x.f0.f1, .string x.f1] := by
 obtain ⟨_, _, rfl, s0, rfl⟩ := h; obtain rfl := k36_open s0; exact rfl
def rd_T89 (xs : List S89) (i : Int) : S89 := xs.getD i.toNat z89
theorem at_T89 {w : World} {A : Option Addr} {n : Nat} {xs : List S89} (h : Kd.C k89 w A n xs) (i : Int) (h0 : 0 ≤ i) (h1 : i < n) : ∃ ad , A = some ad ∧ w.cell? (ad.add (i.toNat * 3)) = some (.int .i64 (rd_T89 xs i).f0.f0) ∧ w.cell? ⟨(ad.add (i.toNat * 3)).block, (ad.add (i.toNat * 3)).off + 1, none⟩ = some (.int .i64 (rd_T89 xs i).f0.f1) ∧ w.cell? ⟨(ad.add (i.toNat * 3)).block, (ad.add (i.toNat * 3)).off + 2, none⟩ = some (.string (rd_T89 xs i).f1) := by
 obtain ⟨ad, c, e, _, hK, hc0⟩ := Kd.C_get h z89 i h0 h1; have hc : ∀ j u, c[j]? = some u → w.cell? (ad.add (i.toNat * 3 + j)) = some u := hc0; obtain rfl := k89_open hK; exact ⟨ad, e, hc 0 _ rfl, by rw [← add_field _ _ 1 (by omega)]; exact hc 1 _ rfl, by rw [← add_field _ _ 2 (by omega)]; exact hc 2 _ rfl⟩
structure S48 where
 f0 : Int
 f1 : (List S89)
 f2 : (List S103)
def z48 : S48 := ⟨(0 : Int), ([] : List S89), ([] : List S103)⟩
def k48 : Kd S48 := Kd.iso (Kd.pair (Kd.int .i64) (Kd.pair (Kd.slice 89 k89) (Kd.slice 103 k103))) (fun x : S48 => (x.f0, x.f1, x.f2))
theorem k48_heap : Kd.Heap k48 := Kd.heap_iso _ (Kd.heap_pair (Kd.heap_int .i64) (Kd.heap_pair (Kd.heap_slice 89 k89_heap) (Kd.heap_slice 103 k103_heap)))
theorem k48_open {w : World} {x : S48} {cs : List Value} (h : k48.K w x cs) : ∃ A1 c1 A2 c2, cs = [.int .i64 x.f0, .slice A1 x.f1.length c1, .slice A2 x.f2.length c2] ∧ x.f1.length ≤ c1 ∧ k89.C w A1 x.f1.length x.f1 ∧ x.f2.length ≤ c2 ∧ k103.C w A2 x.f2.length x.f2 := by
 obtain ⟨_, _, rfl, rfl, ⟨_, _, rfl, ⟨A1, c1, rfl, l1, g1⟩, ⟨A2, c2, rfl, l2, g2⟩⟩⟩ := h; exact ⟨A1, c1, A2, c2, rfl, l1, g1, l2, g2⟩
theorem k48_mk (w : World) (x : S48) {A1 : Option Addr} {c1 : Nat} (l1 : x.f1.length ≤ c1) (g1 : k89.C w A1 x.f1.length x.f1) {A2 : Option Addr} {c2 : Nat} (l2 : x.f2.length ≤ c2) (g2 : k103.C w A2 x.f2.length x.f2) : k48.K w x [.int .i64 x.f0, .slice A1 x.f1.length c1, .slice A2 x.f2.length c2] := ⟨[.int .i64 x.f0], [.slice A1 x.f1.length c1, .slice A2 x.f2.length c2], rfl, rfl, ⟨[.slice A1 x.f1.length c1], [.slice A2 x.f2.length c2], rfl, ⟨A1, c1, rfl, l1, g1⟩, ⟨A2, c2, rfl, l2, g2⟩⟩⟩
theorem k48_openF {W : World} {ok : Nat → Prop} {x : S48} {cs : List Value} (h : Kd.FK k48 W ok x cs) : ∃ A1 c1 A2 c2, cs = [.int .i64 x.f0, .slice A1 x.f1.length c1, .slice A2 x.f2.length c2] ∧ x.f1.length ≤ c1 ∧ Kd.F k89 W ok A1 x.f1.length x.f1 ∧ x.f2.length ≤ c2 ∧ Kd.F k103 W ok A2 x.f2.length x.f2 := by
 obtain ⟨A1, c1, A2, c2, rfl, l1, _, l2, _⟩ := k48_open (Kd.FK_now h); exact ⟨A1, c1, A2, c2, rfl, l1, (fun W' hW => by obtain ⟨A1_, c1_, A2_, c2_, he, l1_, g1_, l2_, g2_⟩ := k48_open (h W' hW); injection (Option.some.inj (show some (Value.slice A1 x.f1.length c1) = some (Value.slice A1_ x.f1.length c1_) from congrArg (fun l => l[1]?) he)) with ha_ _ _; rw [ha_]; exact g1_), l2, (fun W' hW => by obtain ⟨A1_, c1_, A2_, c2_, he, l1_, g1_, l2_, g2_⟩ := k48_open (h W' hW); injection (Option.some.inj (show some (Value.slice A2 x.f2.length c2) = some (Value.slice A2_ x.f2.length c2_) from congrArg (fun l => l[2]?) he)) with ha_ _ _; rw [ha_]; exact g2_)⟩
theorem k48_mkF (W : World) (ok : Nat → Prop) (x : S48) {A1 : Option Addr} {c1 : Nat} (l1 : x.f1.length ≤ c1) (g1 : Kd.F k89 W ok A1 x.f1.length x.f1) {A2 : Option Addr} {c2 : Nat} (l2 : x.f2.length ≤ c2) (g2 : Kd.F k103 W ok A2 x.f2.length x.f2) : Kd.FK k48 W ok x [.int .i64 x.f0, .slice A1 x.f1.length c1, .slice A2 x.f2.length c2] := fun W2 hW => k48_mk W2 x l1 (g1 W2 hW) l2 (g2 W2 hW)
def rd_T48 (xs : List S48) (i : Int) : S48 := xs.getD i.toNat z48
theorem at_T48 {w : World} {A : Option Addr} {n : Nat} {xs : List S48} (h : Kd.C k48 w A n xs) (i : Int) (h0 : 0 ≤ i) (h1 : i < n) : ∃ ad A1 c1 A2 c2, A = some ad ∧ w.cell? (ad.add (i.toNat * 3)) = some (.int .i64 (rd_T48 xs i).f0) ∧ w.cell? ⟨(ad.add (i.toNat * 3)).block, (ad.add (i.toNat * 3)).off + 1, none⟩ = some (.slice A1 (rd_T48 xs i).f1.length c1) ∧ w.cell? ⟨(ad.add (i.toNat * 3)).block, (ad.add (i.toNat * 3)).off + 2, none⟩ = some (.slice A2 (rd_T48 xs i).f2.length c2) ∧ (rd_T48 xs i).f1.length ≤ c1 ∧ k89.C w A1 (rd_T48 xs i).f1.length (rd_T48 xs i).f1 ∧ (rd_T48 xs i).f2.length ≤ c2 ∧ k103.C w A2 (rd_T48 xs i).f2.length (rd_T48 xs i).f2 := by
 obtain ⟨ad, c, e, _, hK, hc0⟩ := Kd.C_get h z48 i h0 h1; have hc : ∀ j u, c[j]? = some u → w.cell? (ad.add (i.toNat * 3 + j)) = some u := hc0; obtain ⟨A1, c1, A2, c2, rfl, l1, g1, l2, g2⟩ := k48_open hK; exact ⟨ad, A1, c1, A2, c2, e, hc 0 _ rfl, by rw [← add_field _ _ 1 (by omega)]; exact hc 1 _ rfl, by rw [← add_field _ _ 2 (by omega)]; exact hc 2 _ rfl, l1, g1, l2, g2⟩
structure S50 where
 f0 : Int
 f1 : Int
 f2 : S42
 f3 : S45
 f4 : S48
def z50 : S50 := ⟨(0 : Int), (0 : Int), z42, z45, z48⟩
def k50 : Kd S50 := Kd.iso (Kd.pair (Kd.int .i64) (Kd.pair (Kd.int .i64) (Kd.pair k42 (Kd.pair k45 k48)))) (fun x : S50 => (x.f0, x.f1, x.f2, x.f3, x.f4))
theorem k50_heap : Kd.Heap k50 := Kd.heap_iso _ (Kd.heap_pair (Kd.heap_int .i64) (Kd.heap_pair (Kd.heap_int .i64) (Kd.heap_pair k42_heap (Kd.heap_pair k45_heap k48_heap))))
theorem k50_open {w : World} {x : S50} {cs : List Value} (h : k50.K w x cs) : ∃ A5 c5 A7 c7 A8 c8 A10 c10 A11 c11, cs = [.int .i64 x.f0, .int .i64 x.f1, .int .i64 x.f2.f0, .int .i64 x.f2.f1.f0, .int .i64 x.f2.f1.f1, .slice A5 x.f2.f2.length c5, .int .i64 x.f3.f0, .slice A7 x.f3.f1.length c7, .slice A8 x.f3.f2.length c8, .int .i64 x.f4.f0, .slice A10 x.f4.f1.length c10, .slice A11 x.f4.f2.length c11] ∧ x.f2.f2.length ≤ c5 ∧ k103.C w A5 x.f2.f2.length x.f2.f2 ∧ x.f3.f1.length ≤ c7 ∧ (Kd.int .i64).C w A7 x.f3.f1.length x.f3.f1 ∧ x.f3.f2.length ≤ c8 ∧ k103.C w A8 x.f3.f2.length x.f3.f2 ∧ x.f4.f1.length ≤ c10 ∧ k89.C w A10 x.f4.f1.length x.f4.f1 ∧ x.f4.f2.length ≤ c11 ∧ k103.C w A11 x.f4.f2.length x.f4.f2 := by
 obtain ⟨_, _, rfl, rfl, ⟨_, _, rfl, rfl, ⟨_, _, rfl, s2, ⟨_, _, rfl, s6, s9⟩⟩⟩⟩ := h; obtain ⟨A5, c5, rfl, l5, g5⟩ := k42_open s2; obtain ⟨A7, c7, A8, c8, rfl, l7, g7, l8, g8⟩ := k45_open s6; obtain ⟨A10, c10, A11, c11, rfl, l10, g10, l11, g11⟩ := k48_open s9; exact ⟨A5, c5, A7, c7, A8, c8, A10, c10, A11, c11, rfl, l5, g5, l7, g7, l8, g8, l10, g10, l11, g11⟩
theorem k50_mk (w : World) (x : S50) {A5 : Option Addr} {c5 : Nat} (l5 : x.f2.f2.length ≤ c5) (g5 : k103.C w A5 x.f2.f2.length x.f2.f2) {A7 : Option Addr} {c7 : Nat} (l7 : x.f3.f1.length ≤ c7) (g7 : (Kd.int .i64).C w A7 x.f3.f1.length x.f3.f1) {A8 : Option Addr} {c8 : Nat} (l8 : x.f3.f2.length ≤ c8) (g8 : k103.C w A8 x.f3.f2.length x.f3.f2) {A10 : Option Addr} {c10 : Nat} (l10 : x.f4.f1.length ≤ c10) (g10 : k89.C w A10 x.f4.f1.length x.f4.f1) {A11 : Option Addr} {c11 : Nat} (l11 : x.f4.f2.length ≤ c11) (g11 : k103.C w A11 x.f4.f2.length x.f4.f2) : k50.K w x [.int .i64 x.f0, .int .i64 x.f1, .int .i64 x.f2.f0, .int .i64 x.f2.f1.f0, .int .i64 x.f2.f1.f1, .slice A5 x.f2.f2.length c5, .int .i64 x.f3.f0, .slice A7 x.f3.f1.length c7, .slice A8 x.f3.f2.length c8, .int .i64 x.f4.f0, .slice A10 x.f4.f1.length c10, .slice A11 x.f4.f2.length c11] := ⟨[.int .i64 x.f0], [.int .i64 x.f1, .int .i64 x.f2.f0, .int .i64 x.f2.f1.f0, .int .i64 x.f2.f1.f1, .slice A5 x.f2.f2.length c5, .int .i64 x.f3.f0, .slice A7 x.f3.f1.length c7, .slice A8 x.f3.f2.length c8, .int .i64 x.f4.f0, .slice A10 x.f4.f1.length c10, .slice A11 x.f4.f2.length c11], rfl, rfl, ⟨[.int .i64 x.f1], [.int .i64 x.f2.f0, .int .i64 x.f2.f1.f0, .int .i64 x.f2.f1.f1, .slice A5 x.f2.f2.length c5, .int .i64 x.f3.f0, .slice A7 x.f3.f1.length c7, .slice A8 x.f3.f2.length c8, .int .i64 x.f4.f0, .slice A10 x.f4.f1.length c10, .slice A11 x.f4.f2.length c11], rfl, rfl, ⟨[.int .i64 x.f2.f0, .int .i64 x.f2.f1.f0, .int .i64 x.f2.f1.f1, .slice A5 x.f2.f2.length c5], [.int .i64 x.f3.f0, .slice A7 x.f3.f1.length c7, .slice A8 x.f3.f2.length c8, .int .i64 x.f4.f0, .slice A10 x.f4.f1.length c10, .slice A11 x.f4.f2.length c11], rfl, (k42_mk w x.f2 l5 g5), ⟨[.int .i64 x.f3.f0, .slice A7 x.f3.f1.length c7, .slice A8 x.f3.f2.length c8], [.int .i64 x.f4.f0, .slice A10 x.f4.f1.length c10, .slice A11 x.f4.f2.length c11], rfl, (k45_mk w x.f3 l7 g7 l8 g8), (k48_mk w x.f4 l10 g10 l11 g11)⟩⟩⟩⟩
theorem k50_openF {W : World} {ok : Nat → Prop} {x : S50} {cs : List Value} (h : Kd.FK k50 W ok x cs) : ∃ A5 c5 A7 c7 A8 c8 A10 c10 A11 c11, cs = [.int .i64 x.f0, .int .i64 x.f1, .int .i64 x.f2.f0, .int .i64 x.f2.f1.f0, .int .i64 x.f2.f1.f1, .slice A5 x.f2.f2.length c5, .int .i64 x.f3.f0, .slice A7 x.f3.f1.length c7, .slice A8 x.f3.f2.length c8, .int .i64 x.f4.f0, .slice A10 x.f4.f1.length c10, .slice A11 x.f4.f2.length c11] ∧ x.f2.f2.length ≤ c5 ∧ Kd.F k103 W ok A5 x.f2.f2.length x.f2.f2 ∧ x.f3.f1.length ≤ c7 ∧ Kd.F (Kd.int .i64) W ok A7 x.f3.f1.length x.f3.f1 ∧ x.f3.f2.length ≤ c8 ∧ Kd.F k103 W ok A8 x.f3.f2.length x.f3.f2 ∧ x.f4.f1.length ≤ c10 ∧ Kd.F k89 W ok A10 x.f4.f1.length x.f4.f1 ∧ x.f4.f2.length ≤ c11 ∧ Kd.F k103 W ok A11 x.f4.f2.length x.f4.f2 := by
 obtain ⟨A5, c5, A7, c7, A8, c8, A10, c10, A11, c11, rfl, l5, _, l7, _, l8, _, l10, _, l11, _⟩ := k50_open (Kd.FK_now h); exact ⟨A5, c5, A7, c7, A8, c8, A10, c10, A11, c11, rfl, l5, (fun W' hW => by obtain ⟨A5_, c5_, A7_, c7_, A8_, c8_, A10_, c10_, A11_, c11_, he, l5_, g5_, l7_, g7_, l8_, g8_, l10_, g10_, l11_, g11_⟩ := k50_open (h W' hW); injection (Option.some.inj (show some (Value.slice A5 x.f2.f2.length c5) = some (Value.slice A5_ x.f2.f2.length c5_) from congrArg (fun l => l[5]?) he)) with ha_ _ _; rw [ha_]; exact g5_), l7, (fun W' hW => by obtain ⟨A5_, c5_, A7_, c7_, A8_, c8_, A10_, c10_, A11_, c11_, he, l5_, g5_, l7_, g7_, l8_, g8_, l10_, g10_, l11_, g11_⟩ := k50_open (h W' hW); injection (Option.some.inj (show some (Value.slice A7 x.f3.f1.length c7) = some (Value.slice A7_ x.f3.f1.length c7_) from congrArg (fun l => l[7]?) he)) with ha_ _ _; rw [ha_]; exact g7_), l8, (fun W' hW => by obtain ⟨A5_, c5_, A7_, c7_, A8_, c8_, A10_, c10_, A11_, c11_, he, l5_, g5_, l7_, g7_, l8_, g8_, l10_, g10_, l11_, g11_⟩ := k50_open (h W' hW); injection (Option.some.inj (show some (Value.slice A8 x.f3.f2.length c8) = some (Value.slice A8_ x.f3.f2.length c8_) from congrArg (fun l => l[8]?) he)) with ha_ _ _; rw [ha_]; exact g8_), l10, (fun W' hW => by obtain ⟨A5_, c5_, A7_, c7_, A8_, c8_, A10_, c10_, A11_, c11_, he, l5_, g5_, l7_, g7_, l8_, g8_, l10_, g10_, l11_, g11_⟩ := k50_open (h W' hW); injection (Option.some.inj (show some (Value.slice A10 x.f4.f1.length c10) = some (Value.slice A10_ x.f4.f1.length c10_) from congrArg (fun l => l[10]?) he)) with ha_ _ _; rw [ha_]; exact g10_), l11, (fun W' hW => by obtain ⟨A5_, c5_, A7_, c7_, A8_, c8_, A10_, c10_, A11_, c11_, he, l5_, g5_, l7_, g7_, l8_, g8_, l10_, g10_, l11_, g11_⟩ := k50_open (h W' hW); injection (Option.some.inj (show some (Value.slice A11 x.f4.f2.length c11) = some (Value.slice A11_ x.f4.f2.length c11_) from congrArg (fun l => l[11]?) he)) with ha_ _ _; rw [ha_]; exact g11_)⟩
theorem k50_mkF (W : World) (ok : Nat → Prop) (x : S50) {A5 : Option Addr} {c5 : Nat} (l5 : x.f2.f2.length ≤ c5) (g5 : Kd.F k103 W ok A5 x.f2.f2.length x.f2.f2) {A7 : Option Addr} {c7 : Nat} (l7 : x.f3.f1.length ≤ c7) (g7 : Kd.F (Kd.int .i64) W ok A7 x.f3.f1.length x.f3.f1) {A8 : Option Addr} {c8 : Nat} (l8 : x.f3.f2.length ≤ c8) (g8 : Kd.F k103 W ok A8 x.f3.f2.length x.f3.f2) {A10 : Option Addr} {c10 : Nat} (l10 : x.f4.f1.length ≤ c10) (g10 : Kd.F k89 W ok A10 x.f4.f1.length x.f4.f1) {A11 : Option Addr} {c11 : Nat} (l11 : x.f4.f2.length ≤ c11) (g11 : Kd.F k103 W ok A11 x.f4.f2.length x.f4.f2) : Kd.FK k50 W ok x [.int .i64 x.f0, .int .i64 x.f1, .int .i64 x.f2.f0, .int .i64 x.f2.f1.f0, .int .i64 x.f2.f1.f1, .slice A5 x.f2.f2.length c5, .int .i64 x.f3.f0, .slice A7 x.f3.f1.length c7, .slice A8 x.f3.f2.length c8, .int .i64 x.f4.f0, .slice A10 x.f4.f1.length c10, .slice A11 x.f4.f2.length c11] := fun W2 hW => k50_mk W2 x l5 (g5 W2 hW) l7 (g7 W2 hW) l8 (g8 W2 hW) l10 (g10 W2 hW) l11 (g11 W2 hW)
def rd_T50 (xs : List S50) (i : Int) : S50 := xs.getD i.toNat z50
theorem at_T50 {w : World} {A : Option Addr} {n : Nat} {xs : List S50} (h : Kd.C k50 w A n xs) (i : Int) (h0 : 0 ≤ i) (h1 : i < n) : ∃ ad A5 c5 A7 c7 A8 c8 A10 c10 A11 c11, A = some ad ∧ w.cell? (ad.add (i.toNat * 12)) = some (.int .i64 (rd_T50 xs i).f0) ∧ w.cell? ⟨(ad.add (i.toNat * 12)).block, (ad.add (i.toNat * 12)).off + 1, none⟩ = some (.int .i64 (rd_T50 xs i).f1) ∧ w.cell? ⟨(ad.add (i.toNat * 12)).block, (ad.add (i.toNat * 12)).off + 2, none⟩ = some (.int .i64 (rd_T50 xs i).f2.f0) ∧ w.cell? ⟨(ad.add (i.toNat * 12)).block, (ad.add (i.toNat * 12)).off + 3, none⟩ = some (.int .i64 (rd_T50 xs i).f2.f1.f0) ∧ w.cell? ⟨(ad.add (i.toNat * 12)).block, (ad.add (i.toNat * 12)).off + 4, none⟩ = some (.int .i64 (rd_T50 xs i).f2.f1.f1) ∧ w.cell? ⟨(ad.add (i.toNat * 12)).block, (ad.add (i.toNat * 12)).off + 5, none⟩ = some (.slice A5 (rd_T50 xs i).f2.f2.length c5) ∧ w.cell? ⟨(ad.add (i.toNat * 12)).block, (ad.add (i.toNat * 12)).off + 6, none⟩ = some (.int .i64 (rd_T50 xs i).f3.f0) ∧ w.cell? ⟨(ad.add (i.toNat * 12)).block, (ad.add (i.toNat * 12)).off + 7, none⟩ = some (.slice A7 (rd_T50 xs i).f3.f1.length c7) ∧ w.cell? ⟨(ad.add (i.toNat * 12)).block, (ad.add (i.toNat * 12)).off + 8, none⟩ = some (.slice A8 (rd_T50 xs i).f3.f2.length c8) ∧ w.cell? ⟨(ad.add (i.toNat * 12)).block, (ad.add (i.toNat * 12)).off + 9, none⟩ = some (.int .i64 (rd_T50 xs i).f4.f0) ∧ w.cell? ⟨(ad.add (i.toNat * 12)).block, (ad.add (i.toNat * 12)).off + 10, none⟩ = some (.slice A10 (rd_T50 xs i).f4.f1.length c10) ∧ w.cell? ⟨(ad.add (i.toNat * 12)).block, (ad.add (i.toNat * 12)).off + 11, none⟩ = some (.slice A11 (rd_T50 xs i).f4.f2.length c11) ∧ (rd_T50 xs i).f2.f2.length ≤ c5 ∧ k103.C w A5 (rd_T50 xs i).f2.f2.length (rd_T50 xs i).f2.f2 ∧ (rd_T50 xs i).f3.f1.length ≤ c7 ∧ (Kd.int .i64).C w A7 (rd_T50 xs i).f3.f1.length (rd_T50 xs i).f3.f1 ∧ (rd_T50 xs i).f3.f2.length ≤ c8 ∧ k103.C w A8 (rd_T50 xs i).f3.f2.length (rd_T50 xs i).f3.f2 ∧ (rd_T50 xs i).f4.f1.length ≤ c10 ∧ k89.C w A10 (rd_T50 xs i).f4.f1.length (rd_T50 xs i).f4.f1 ∧ (rd_T50 xs i).f4.f2.length ≤ c11 ∧ k103.C w A11 (rd_T50 xs i).f4.f2.length (rd_T50 xs i).f4.f2 := by
 obtain ⟨ad, c, e, _, hK, hc0⟩ := Kd.C_get h z50 i h0 h1; have hc : ∀ j u, c[j]? = some u → w.cell? (ad.add (i.toNat * 12 + j)) = some u := hc0; obtain ⟨A5, c5, A7, c7, A8, c8, A10, c10, A11, c11, rfl, l5, g5, l7, g7, l8, g8, l10, g10, l11, g11⟩ := k50_open hK; exact ⟨ad, A5, c5, A7, c7, A8, c8, A10, c10, A11, c11, e, hc 0 _ rfl, by rw [← add_field _ _ 1 (by omega)]; exact hc 1 _ rfl, by rw [← add_field _ _ 2 (by omega)]; exact hc 2 _ rfl, by rw [← add_field _ _ 3 (by omega)]; exact hc 3 _ rfl, by rw [← add_field _ _ 4 (by omega)]; exact hc 4 _ rfl, by rw [← add_field _ _ 5 (by omega)]; exact hc 5 _ rfl, by rw [← add_field _ _ 6 (by omega)]; exact hc 6 _ rfl, by rw [← add_field _ _ 7 (by omega)]; exact hc 7 _ rfl, by rw [← add_field _ _ 8 (by omega)]; exact hc 8 _ rfl, by rw [← add_field _ _ 9 (by omega)]; exact hc 9 _ rfl, by rw [← add_field _ _ 10 (by omega)]; exact hc 10 _ rfl, by rw [← add_field _ _ 11 (by omega)]; exact hc 11 _ rfl, l5, g5, l7, g7, l8, g8, l10, g10, l11, g11⟩
structure S26 where
 f0 : (List S42)
 f1 : (List S45)
 f2 : (List S48)
def k26 : Kd S26 := Kd.iso (Kd.pair (Kd.slice 42 k42) (Kd.pair (Kd.slice 45 k45) (Kd.slice 48 k48))) (fun x : S26 => (x.f0, x.f1, x.f2))
theorem k26_open {w : World} {x : S26} {cs : List Value} (h : k26.K w x cs) : ∃ A0 c0 A1 c1 A2 c2, cs = [.slice A0 x.f0.length c0, .slice A1 x.f1.length c1, .slice A2 x.f2.length c2] ∧ x.f0.length ≤ c0 ∧ k42.C w A0 x.f0.length x.f0 ∧ x.f1.length ≤ c1 ∧ k45.C w A1 x.f1.length x.f1 ∧ x.f2.length ≤ c2 ∧ k48.C w A2 x.f2.length x.f2 := by
 obtain ⟨_, _, rfl, ⟨A0, c0, rfl, l0, g0⟩, ⟨_, _, rfl, ⟨A1, c1, rfl, l1, g1⟩, ⟨A2, c2, rfl, l2, g2⟩⟩⟩ := h; exact ⟨A0, c0, A1, c1, A2, c2, rfl, l0, g0, l1, g1, l2, g2⟩
end Go.Proofs.Ytijoaohckgbneaa.PAll
