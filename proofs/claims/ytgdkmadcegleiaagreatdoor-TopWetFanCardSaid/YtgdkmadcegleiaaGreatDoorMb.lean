/- Part 2 of this claim's texts, put together by a program of its author: LatKinds, LatGen, LatA, LatB, LatShelf, LatC, LatD, PLatx0, Sqz, PLatx1, PLatx, LatE, LatF, LatG, PleA, PPlex0, PPlex1, PPlex, PleB, PPlMx0, PPlMx1, PPlMx, PleD, PleE. -/
import Derived.Test.YtgdkmadcegleiaaGreatDoorProg
import Derived.Below
import Derived.Deep.Draws
import Derived.Deep.AppendLies
import Derived.Maps.AppendAt
import Derived.OwnWalk
import Derived.Laws.BytesArg
import Derived.Laws.MakeOwn
import Derived.Laws.OwnMore
import Derived.Deep.OwnRows
import Derived.Tactics
import Derived.Lib.ConvBytes
import Derived.Laws.Slices
import Derived.WalkKit
import Derived.KernelRfl
import Derived.RowKit3
import Derived.Deep.LoopGhost
import Derived.Deep.QuietTactic
import Derived.BigQuiet
import Derived.WideLaws
import Derived.Deep.DeepCutAuto
import Derived.Deep.CutBlock
import Derived.Deep.RegionHeld3
import Derived.Laws.Rows
import Derived.Lib.AppendStr
import Derived.ArgAppend
import Derived.Laws.IdiomCopy
import Derived.OrdersHeld
import Derived.Laws.BitsLemmas
import Derived.RowKit
import Derived.Test.YtgdkmadcegleiaaGreatDoorMa
import Derived.Shelf.Abstract
import Derived.Lib.OthersKept
import Derived.Lib.Strings
import Derived.Shelf.Small.Utf8
import Derived.Shelf.Unicode.Decode
import Derived.Shelf.Bits.Mul64
import Derived.Shelf.Unicode.DecodeSlow
import Derived.Shelf.Unicode.DecodeAny
import Derived.Shelf.Unicode.DecodeLast
import Derived.Shelf.Slices.Turned
open Go.RowKit Go.Proofs.YtgdkmadcegleiaaGreatDoorW.PrintWords Go.Proofs.YtgdkmadcegleiaaGreatDoorW.PrintLast Go.Proofs.YtgdkmadcegleiaaGreatDoorW.PrintMore
set_option linter.unusedVariables false
set_option linter.unusedSimpArgs false
attribute [local go_sem] max2_int min2_int max_two min_two max_three min_three max_four min_four
namespace Go.Proofs.YtgdkmadcegleiaaGreatDoor
namespace X
def rd_L4 (xs : List (List ByteArray)) (i : Int) : (List ByteArray) := xs.getD i.toNat ([] : List ByteArray)
def rd_L5 (xs : List (List Int)) (i : Int) : (List Int) := xs.getD i.toNat ([] : List Int)
structure S84 where
  f0 : Int
  f1 : Int
def z84 : S84 := ⟨(0 : Int), (0 : Int)⟩
def k84 : Kd S84 := Kd.iso (Kd.pair (Kd.int .i64) (Kd.int .i64)) (fun x : S84 => (x.f0, x.f1))
def rd_T84 (xs : List S84) (i : Int) : S84 := xs.getD i.toNat z84
structure S30 where
  f0 : Int
  f1 : Int
def z30 : S30 := ⟨(0 : Int), (0 : Int)⟩
def k30 : Kd S30 := Kd.iso (Kd.pair (Kd.int .i64) (Kd.int .i64)) (fun x : S30 => (x.f0, x.f1))
theorem k30_open {w : World} {x : S30} {cs : List Value} (h : k30.K w x cs) : cs = [.int .i64 x.f0, .int .i64 x.f1] := by
  obtain ⟨_, _, rfl, rfl, rfl⟩ := h
  exact rfl
theorem k30_openM {w : World} {base : Nat} {ok : Nat → Prop} {x : S30} {cs : List Value} (h : k30.M w base ok x cs) : cs = [.int .i64 x.f0, .int .i64 x.f1] := by
  obtain ⟨_, _, rfl, rfl, rfl⟩ := h
  exact rfl
theorem k30_mkM (w : World) (base : Nat) (ok : Nat → Prop) (x : S30)  : k30.M w base ok x [.int .i64 x.f0, .int .i64 x.f1] := ⟨[.int .i64 x.f0], [.int .i64 x.f1], rfl, rfl, rfl⟩
def rd_T30 (xs : List S30) (i : Int) : S30 := xs.getD i.toNat z30
theorem at_T30 {w : World} {A : Option Addr} {n : Nat} {xs : List S30} (h : Kd.C k30 w A n xs) (i : Int) (h0 : 0 ≤ i) (h1 : i < n) : ∃ ad , A = some ad ∧ w.cell? (ad.add (i.toNat * 2)) = some (.int .i64 (rd_T30 xs i).f0) ∧ w.cell? ⟨(ad.add (i.toNat * 2)).block, (ad.add (i.toNat * 2)).off + 1, none⟩ = some (.int .i64 (rd_T30 xs i).f1) := by
  obtain ⟨ad, c, e, _, hK, hc0⟩ := Kd.C_get h z30 i h0 h1
  have hc : ∀ j u, c[j]? = some u → w.cell? (ad.add (i.toNat * 2 + j)) = some u := hc0
  obtain rfl := k30_open hK
  exact ⟨ad, e, hc 0 _ rfl, by rw [← add_field _ _ 1 (by omega)]; exact hc 1 _ rfl⟩
def rd_L8 (xs : List (List S30)) (i : Int) : (List S30) := xs.getD i.toNat ([] : List S30)
structure S171 where
  f0 : S30
  f1 : S30
  f2 : S30
def z171 : S171 := ⟨z30, z30, z30⟩
def k171 : Kd S171 := Kd.iso (Kd.pair k30 (Kd.pair k30 k30)) (fun x : S171 => (x.f0, x.f1, x.f2))
theorem k171_open {w : World} {x : S171} {cs : List Value} (h : k171.K w x cs) : cs = [.int .i64 x.f0.f0, .int .i64 x.f0.f1, .int .i64 x.f1.f0, .int .i64 x.f1.f1, .int .i64 x.f2.f0, .int .i64 x.f2.f1] := by
  obtain ⟨_, _, rfl, s0, ⟨_, _, rfl, s2, s4⟩⟩ := h
  obtain rfl := k30_open s0
  obtain rfl := k30_open s2
  obtain rfl := k30_open s4
  exact rfl
def rd_T171 (xs : List S171) (i : Int) : S171 := xs.getD i.toNat z171
theorem at_T171 {w : World} {A : Option Addr} {n : Nat} {xs : List S171} (h : Kd.C k171 w A n xs) (i : Int) (h0 : 0 ≤ i) (h1 : i < n) : ∃ ad , A = some ad ∧ w.cell? (ad.add (i.toNat * 6)) = some (.int .i64 (rd_T171 xs i).f0.f0) ∧ w.cell? ⟨(ad.add (i.toNat * 6)).block, (ad.add (i.toNat * 6)).off + 1, none⟩ = some (.int .i64 (rd_T171 xs i).f0.f1) ∧ w.cell? ⟨(ad.add (i.toNat * 6)).block, (ad.add (i.toNat * 6)).off + 2, none⟩ = some (.int .i64 (rd_T171 xs i).f1.f0) ∧ w.cell? ⟨(ad.add (i.toNat * 6)).block, (ad.add (i.toNat * 6)).off + 3, none⟩ = some (.int .i64 (rd_T171 xs i).f1.f1) ∧ w.cell? ⟨(ad.add (i.toNat * 6)).block, (ad.add (i.toNat * 6)).off + 4, none⟩ = some (.int .i64 (rd_T171 xs i).f2.f0) ∧ w.cell? ⟨(ad.add (i.toNat * 6)).block, (ad.add (i.toNat * 6)).off + 5, none⟩ = some (.int .i64 (rd_T171 xs i).f2.f1) := by
  obtain ⟨ad, c, e, _, hK, hc0⟩ := Kd.C_get h z171 i h0 h1
  have hc : ∀ j u, c[j]? = some u → w.cell? (ad.add (i.toNat * 6 + j)) = some u := hc0
  obtain rfl := k171_open hK
  exact ⟨ad, e, hc 0 _ rfl, by rw [← add_field _ _ 1 (by omega)]; exact hc 1 _ rfl, by rw [← add_field _ _ 2 (by omega)]; exact hc 2 _ rfl, by rw [← add_field _ _ 3 (by omega)]; exact hc 3 _ rfl, by rw [← add_field _ _ 4 (by omega)]; exact hc 4 _ rfl, by rw [← add_field _ _ 5 (by omega)]; exact hc 5 _ rfl⟩
def rd_L10 (xs : List (List S171)) (i : Int) : (List S171) := xs.getD i.toNat ([] : List S171)
structure S126 where
  f0 : (List S30)
  f1 : (List S30)
  f2 : Int
  f3 : (List S171)
def z126 : S126 := ⟨([] : List S30), ([] : List S30), (0 : Int), ([] : List S171)⟩
def k126 : Kd S126 := Kd.iso (Kd.pair (Kd.slice 30 k30) (Kd.pair (Kd.slice 30 k30) (Kd.pair (Kd.int .i64) (Kd.slice 171 k171)))) (fun x : S126 => (x.f0, x.f1, x.f2, x.f3))
def rd_T126 (xs : List S126) (i : Int) : S126 := xs.getD i.toNat z126
structure S130 where
  f0 : Int
  f1 : Int
  f2 : Int
  f3 : Int
def z130 : S130 := ⟨(0 : Int), (0 : Int), (0 : Int), (0 : Int)⟩
def k130 : Kd S130 := Kd.iso (Kd.pair (Kd.int .i64) (Kd.pair (Kd.int .i64) (Kd.pair (Kd.int .i64) (Kd.int .i64)))) (fun x : S130 => (x.f0, x.f1, x.f2, x.f3))
def rd_T130 (xs : List S130) (i : Int) : S130 := xs.getD i.toNat z130
structure S156 where
  f0 : Int
  f1 : Int
def z156 : S156 := ⟨(0 : Int), (0 : Int)⟩
def k156 : Kd S156 := Kd.iso (Kd.pair (Kd.int .i64) (Kd.int .i64)) (fun x : S156 => (x.f0, x.f1))
def rd_T156 (xs : List S156) (i : Int) : S156 := xs.getD i.toNat z156
structure S173 where
  f0 : S30
  f1 : S30
def z173 : S173 := ⟨z30, z30⟩
def k173 : Kd S173 := Kd.iso (Kd.pair k30 k30) (fun x : S173 => (x.f0, x.f1))
theorem k173_open {w : World} {x : S173} {cs : List Value} (h : k173.K w x cs) : cs = [.int .i64 x.f0.f0, .int .i64 x.f0.f1, .int .i64 x.f1.f0, .int .i64 x.f1.f1] := by
  obtain ⟨_, _, rfl, s0, s2⟩ := h
  obtain rfl := k30_open s0
  obtain rfl := k30_open s2
  exact rfl
theorem k173_mkM (w : World) (base : Nat) (ok : Nat → Prop) (x : S173)  : k173.M w base ok x [.int .i64 x.f0.f0, .int .i64 x.f0.f1, .int .i64 x.f1.f0, .int .i64 x.f1.f1] := ⟨[.int .i64 x.f0.f0, .int .i64 x.f0.f1], [.int .i64 x.f1.f0, .int .i64 x.f1.f1], rfl, (k30_mkM w base ok x.f0 ), (k30_mkM w base ok x.f1 )⟩
def rd_T173 (xs : List S173) (i : Int) : S173 := xs.getD i.toNat z173
theorem at_T173 {w : World} {A : Option Addr} {n : Nat} {xs : List S173} (h : Kd.C k173 w A n xs) (i : Int) (h0 : 0 ≤ i) (h1 : i < n) : ∃ ad , A = some ad ∧ w.cell? (ad.add (i.toNat * 4)) = some (.int .i64 (rd_T173 xs i).f0.f0) ∧ w.cell? ⟨(ad.add (i.toNat * 4)).block, (ad.add (i.toNat * 4)).off + 1, none⟩ = some (.int .i64 (rd_T173 xs i).f0.f1) ∧ w.cell? ⟨(ad.add (i.toNat * 4)).block, (ad.add (i.toNat * 4)).off + 2, none⟩ = some (.int .i64 (rd_T173 xs i).f1.f0) ∧ w.cell? ⟨(ad.add (i.toNat * 4)).block, (ad.add (i.toNat * 4)).off + 3, none⟩ = some (.int .i64 (rd_T173 xs i).f1.f1) := by
  obtain ⟨ad, c, e, _, hK, hc0⟩ := Kd.C_get h z173 i h0 h1
  have hc : ∀ j u, c[j]? = some u → w.cell? (ad.add (i.toNat * 4 + j)) = some u := hc0
  obtain rfl := k173_open hK
  exact ⟨ad, e, hc 0 _ rfl, by rw [← add_field _ _ 1 (by omega)]; exact hc 1 _ rfl, by rw [← add_field _ _ 2 (by omega)]; exact hc 2 _ rfl, by rw [← add_field _ _ 3 (by omega)]; exact hc 3 _ rfl⟩
def rd_L15 (xs : List (List S173)) (i : Int) : (List S173) := xs.getD i.toNat ([] : List S173)
structure S55 where
  f0 : S30
  f1 : S30
def z55 : S55 := ⟨z30, z30⟩
def k55 : Kd S55 := Kd.iso (Kd.pair k30 k30) (fun x : S55 => (x.f0, x.f1))
theorem k55_open {w : World} {x : S55} {cs : List Value} (h : k55.K w x cs) : cs = [.int .i64 x.f0.f0, .int .i64 x.f0.f1, .int .i64 x.f1.f0, .int .i64 x.f1.f1] := by
  obtain ⟨_, _, rfl, s0, s2⟩ := h
  obtain rfl := k30_open s0
  obtain rfl := k30_open s2
  exact rfl
theorem k55_mkM (w : World) (base : Nat) (ok : Nat → Prop) (x : S55)  : k55.M w base ok x [.int .i64 x.f0.f0, .int .i64 x.f0.f1, .int .i64 x.f1.f0, .int .i64 x.f1.f1] := ⟨[.int .i64 x.f0.f0, .int .i64 x.f0.f1], [.int .i64 x.f1.f0, .int .i64 x.f1.f1], rfl, (k30_mkM w base ok x.f0 ), (k30_mkM w base ok x.f1 )⟩
def rd_T55 (xs : List S55) (i : Int) : S55 := xs.getD i.toNat z55
theorem at_T55 {w : World} {A : Option Addr} {n : Nat} {xs : List S55} (h : Kd.C k55 w A n xs) (i : Int) (h0 : 0 ≤ i) (h1 : i < n) : ∃ ad , A = some ad ∧ w.cell? (ad.add (i.toNat * 4)) = some (.int .i64 (rd_T55 xs i).f0.f0) ∧ w.cell? ⟨(ad.add (i.toNat * 4)).block, (ad.add (i.toNat * 4)).off + 1, none⟩ = some (.int .i64 (rd_T55 xs i).f0.f1) ∧ w.cell? ⟨(ad.add (i.toNat * 4)).block, (ad.add (i.toNat * 4)).off + 2, none⟩ = some (.int .i64 (rd_T55 xs i).f1.f0) ∧ w.cell? ⟨(ad.add (i.toNat * 4)).block, (ad.add (i.toNat * 4)).off + 3, none⟩ = some (.int .i64 (rd_T55 xs i).f1.f1) := by
  obtain ⟨ad, c, e, _, hK, hc0⟩ := Kd.C_get h z55 i h0 h1
  have hc : ∀ j u, c[j]? = some u → w.cell? (ad.add (i.toNat * 4 + j)) = some u := hc0
  obtain rfl := k55_open hK
  exact ⟨ad, e, hc 0 _ rfl, by rw [← add_field _ _ 1 (by omega)]; exact hc 1 _ rfl, by rw [← add_field _ _ 2 (by omega)]; exact hc 2 _ rfl, by rw [← add_field _ _ 3 (by omega)]; exact hc 3 _ rfl⟩
def rd_L17 (xs : List (List S55)) (i : Int) : (List S55) := xs.getD i.toNat ([] : List S55)
structure S58 where
  f0 : Int
  f1 : (List S55)
def z58 : S58 := ⟨(0 : Int), ([] : List S55)⟩
def k58 : Kd S58 := Kd.iso (Kd.pair (Kd.int .i64) (Kd.slice 55 k55)) (fun x : S58 => (x.f0, x.f1))
def rd_T58 (xs : List S58) (i : Int) : S58 := xs.getD i.toNat z58
structure S53 where
  f0 : (List Int)
  f1 : Int
  f2 : Int
  f3 : Int
def z53 : S53 := ⟨([] : List Int), (0 : Int), (0 : Int), (0 : Int)⟩
def k53 : Kd S53 := Kd.iso (Kd.pair (Kd.slice 3 (Kd.int .i64)) (Kd.pair (Kd.int .i64) (Kd.pair (Kd.int .i64) (Kd.int .i64)))) (fun x : S53 => (x.f0, x.f1, x.f2, x.f3))
def rd_T53 (xs : List S53) (i : Int) : S53 := xs.getD i.toNat z53
structure S47 where
  f0 : S30
  f1 : S30
def z47 : S47 := ⟨z30, z30⟩
def k47 : Kd S47 := Kd.iso (Kd.pair k30 k30) (fun x : S47 => (x.f0, x.f1))
theorem k47_open {w : World} {x : S47} {cs : List Value} (h : k47.K w x cs) : cs = [.int .i64 x.f0.f0, .int .i64 x.f0.f1, .int .i64 x.f1.f0, .int .i64 x.f1.f1] := by
  obtain ⟨_, _, rfl, s0, s2⟩ := h
  obtain rfl := k30_open s0
  obtain rfl := k30_open s2
  exact rfl
theorem k47_mkM (w : World) (base : Nat) (ok : Nat → Prop) (x : S47)  : k47.M w base ok x [.int .i64 x.f0.f0, .int .i64 x.f0.f1, .int .i64 x.f1.f0, .int .i64 x.f1.f1] := ⟨[.int .i64 x.f0.f0, .int .i64 x.f0.f1], [.int .i64 x.f1.f0, .int .i64 x.f1.f1], rfl, (k30_mkM w base ok x.f0 ), (k30_mkM w base ok x.f1 )⟩
def rd_T47 (xs : List S47) (i : Int) : S47 := xs.getD i.toNat z47
theorem at_T47 {w : World} {A : Option Addr} {n : Nat} {xs : List S47} (h : Kd.C k47 w A n xs) (i : Int) (h0 : 0 ≤ i) (h1 : i < n) : ∃ ad , A = some ad ∧ w.cell? (ad.add (i.toNat * 4)) = some (.int .i64 (rd_T47 xs i).f0.f0) ∧ w.cell? ⟨(ad.add (i.toNat * 4)).block, (ad.add (i.toNat * 4)).off + 1, none⟩ = some (.int .i64 (rd_T47 xs i).f0.f1) ∧ w.cell? ⟨(ad.add (i.toNat * 4)).block, (ad.add (i.toNat * 4)).off + 2, none⟩ = some (.int .i64 (rd_T47 xs i).f1.f0) ∧ w.cell? ⟨(ad.add (i.toNat * 4)).block, (ad.add (i.toNat * 4)).off + 3, none⟩ = some (.int .i64 (rd_T47 xs i).f1.f1) := by
  obtain ⟨ad, c, e, _, hK, hc0⟩ := Kd.C_get h z47 i h0 h1
  have hc : ∀ j u, c[j]? = some u → w.cell? (ad.add (i.toNat * 4 + j)) = some u := hc0
  obtain rfl := k47_open hK
  exact ⟨ad, e, hc 0 _ rfl, by rw [← add_field _ _ 1 (by omega)]; exact hc 1 _ rfl, by rw [← add_field _ _ 2 (by omega)]; exact hc 2 _ rfl, by rw [← add_field _ _ 3 (by omega)]; exact hc 3 _ rfl⟩
def rd_L21 (xs : List (List S47)) (i : Int) : (List S47) := xs.getD i.toNat ([] : List S47)
structure S33 where
  f0 : S30
  f1 : S30
  f2 : (List S47)
def z33 : S33 := ⟨z30, z30, ([] : List S47)⟩
def k33 : Kd S33 := Kd.iso (Kd.pair k30 (Kd.pair k30 (Kd.slice 47 k47))) (fun x : S33 => (x.f0, x.f1, x.f2))
def rd_T33 (xs : List S33) (i : Int) : S33 := xs.getD i.toNat z33
structure S42 where
  f0 : Int
  f1 : Int
def z42 : S42 := ⟨(0 : Int), (0 : Int)⟩
def k42 : Kd S42 := Kd.iso (Kd.pair (Kd.int .i64) (Kd.int .i64)) (fun x : S42 => (x.f0, x.f1))
def rd_T42 (xs : List S42) (i : Int) : S42 := xs.getD i.toNat z42
end X
end Go.Proofs.YtgdkmadcegleiaaGreatDoor
namespace Go.Proofs.YtgdkmadcegleiaaGreatDoor
namespace X
def idxI {α : Type} (p : α → Bool) (xs : List α) : Int := match xs.findIdx? p with
  | some i => (i : Int)
  | none => -1
theorem idxI_hit {α : Type} (p : α → Bool) (xs : List α) (k : Nat) (h : k < xs.length) (hp : p xs[k] = true) (hb : ∀ j, ∀ hj : j < k, p (xs[j]'(by omega)) = false) : idxI p xs = (k : Int) := by
  have e : xs.findIdx? p = some k := by
    rw [List.findIdx?_eq_some_iff_getElem]
    exact ⟨h, hp, fun j hj => by simpa using hb j hj⟩
  unfold idxI; rw [e]
theorem idxI_miss {α : Type} (p : α → Bool) (xs : List α) (hb : ∀ j, ∀ hj : j < xs.length, p xs[j] = false) : idxI p xs = -1 := by
  have e : xs.findIdx? p = none := by
    rw [List.findIdx?_eq_none_iff]
    intro x hx
    obtain ⟨j, hj, rfl⟩ := List.mem_iff_getElem.1 hx
    simpa using hb j hj
  unfold idxI; rw [e]
theorem idxI_hitD {α : Type} (p : α → Bool) (xs : List α) (z : α) (n k : Nat) (hn : xs.length = n) (h : k < n) (hp : p (xs.getD k z) = true) (hb : ∀ j, j < k → p (xs.getD j z) = false) : idxI p xs = (k : Int) := by
  have e : ∀ j, ∀ hj : j < xs.length, xs.getD j z = xs[j] := fun j hj => by simp [List.getD_eq_getElem?_getD, List.getElem?_eq_getElem hj]
  exact idxI_hit p xs k (by omega) (by rw [← e]; exact hp) (fun j hj => by rw [← e]; exact hb j hj)
theorem idxI_missD {α : Type} (p : α → Bool) (xs : List α) (z : α) (n : Nat) (hn : xs.length = n) (hb : ∀ j, j < n → p (xs.getD j z) = false) : idxI p xs = -1 := by
  have e : ∀ j, ∀ hj : j < xs.length, xs.getD j z = xs[j] := fun j hj => by simp [List.getD_eq_getElem?_getD, List.getElem?_eq_getElem hj]
  exact idxI_miss p xs (fun j hj => by rw [← e]; exact hb j (by omega))
theorem getD_mem {α : Type} {xs : List α} {z : α} {n k : Nat} (hn : xs.length = n) (h : k < n) : xs.getD k z ∈ xs := by
  rw [List.getD_eq_getElem?_getD, List.getElem?_eq_getElem (by omega)]
  exact List.getElem_mem _
theorem idxI_any {α : Type} (p : α → Bool) (xs : List α) : decide (0 ≤ idxI p xs) = xs.any p := by
  unfold idxI
  cases h : xs.findIdx? p with
  | none =>
    rw [List.findIdx?_eq_none_iff] at h
    simp only [show ¬ (0 : Int) ≤ -1 by decide, decide_false]
    symm
    rw [List.any_eq_false]
    intro x hx
    simpa using h x hx
  | some i =>
    rw [List.findIdx?_eq_some_iff_getElem] at h
    obtain ⟨hl, hp, _⟩ := h
    simp only [Int.natCast_nonneg, decide_true]
    symm
    rw [List.any_eq_true]
    exact ⟨_, List.getElem_mem hl, hp⟩
def PredK {α : Type} (g : Nat) (lb : Array Value) (d : Kd α) (mkv : List Value → Value) (xs : List α) (p : α → Bool) (w : World) : Prop :=
  ∀ x ∈ xs, ∀ (W : World) (cs : List Value), Below w.heap.size w W → d.K W x cs → Calls Tryz.prog g (#[mkv cs] ++ lb) W fun e W' => e = .returned (.bool (p x)) ∧ Below W.heap.size W W'
def cell1 (cs : List Value) : Value := cs.getD 0 .nilIface
def cellN (cs : List Value) : Value := .agg cs.toArray
theorem later_below {w W W' : World} (h : Below w.heap.size w W) (k : Below W.heap.size W W') : Below w.heap.size w W' := below_then h h.size k
theorem box_cell (w : World) (v : Value) (t : TypeId) {g : Nat} (h : g = w.heap.size) : (w.alloc (.cells #[v] t)).cell? ⟨g, 0, none⟩ = some v := by
  subst h; exact blk_cell (blk_new w _) 0
theorem keep_cell {w : World} {a : Addr} {v : Value} (o : Obj) (h : w.cell? a = some v) : (w.alloc o).cell? a = some v := pw_cell_below (below_alloc (Below.refl _ _) o) h
theorem one_blk (w : World) (o : Obj) {g : Nat} (h : g = w.heap.size) : (w.alloc o).heap[g]? = some o := by
  subst h; exact blk_new w o
theorem C_lit1 (W : World) (k : IntKind) (e : TypeId) (x : Int) {g : Nat} (h : g = W.heap.size) : Kd.C (Kd.int k) (W.alloc (.cells #[.int k x] e)) (some ⟨g, 0, none⟩) 1 [x] := by
  subst h
  exact Kd.C_of_reads (own_reads' (c := 1) (own_lit W 0 e k [x] (Nat.zero_le _) (by simp)))
theorem C_lit2 (W : World) (k : IntKind) (e : TypeId) (x y : Int) {g : Nat} (h : g = W.heap.size) : Kd.C (Kd.int k) (W.alloc (.cells #[.int k x, .int k y] e)) (some ⟨g, 0, none⟩) 2 [x, y] := by
  subst h
  exact Kd.C_of_reads (own_reads' (c := 2) (own_lit W 0 e k [x, y] (Nat.zero_le _) (by simp)))
set_option maxHeartbeats 2000000 in
theorem index_int' {g : Nat} {lb : Array Value} {xs : List (Int)} {p : Int → Bool} {w : World} {A : Option Addr} {n c : Nat} (eg : ∀ args w, (callFunc g args).run Tryz.prog w = .ok (.enter g args) w)
    (hn : xs.length = n) (hr : Kd.C (Kd.int .i64) w A n xs) (hp : PredK g lb (Kd.int .i64) cell1 xs p w) :
    Calls Tryz.prog 89 #[.slice A n c, .func (.func g) #[] lb] w fun e w' => e = .returned (.int .i64 (idxI p xs)) ∧ Below w.heap.size w w' := by
  have hm : n ≤ 9223372036854775807 := Kd.C_max hr
  have HN := Aside0.mk hn
  have HR := Aside0.mk hr
  have HP := Aside0.mk hp
  clear hr hp hn
  go_enter Tryz.func89, Tryz.ntmps89
  go_wp2
  go_loopg [5, 8] n (fun gg _ s8 wr => ∃ kk : Nat, kk ≤ n ∧ n - kk ≤ gg ∧ s8 = .int .i64 kk ∧ Aside0 (Below w.heap.size w wr) ∧ Aside0 (∀ j, j < kk → p (xs.getD j 0) = false))
  case atStart => exact ⟨0, Nat.zero_le _, by omega, rfl, ⟨Below.refl _ w⟩, ⟨fun j h0 => absurd h0 (Nat.not_lt_zero _)⟩⟩
  case round =>
    obtain ⟨kk, hkk, hg, rfl, BW, HA⟩ := hrel
    by_cases hlt : kk < n
    · have hltz : (kk : Int) < (n : Int) := by omega
      obtain ⟨ad, c1, rfl, hl1, hK, hcell⟩ := Kd.C_get (Kd.C_below HR.out BW.out) 0 (kk : Int) (by omega) hltz
      rw [Int.toNat_natCast] at hK hcell
      have hcall := HP.out _ (getD_mem HN.out hlt) wr _ BW.out hK
      have e1 : c1 = [Value.int .i64 (xs.getD kk 0)] := hK
      subst e1
      have hc0 : wr.cell? (ad.add kk) = some (Value.int .i64 (xs.getD kk 0)) := by
        have := hcell 0 _ rfl
        simpa [show (Kd.int .i64).sz = 1 from rfl] using this
      simp only [cell1, List.getD_cons_zero] at hcall
      clear hcell hl1
      have hxx : xs.getD kk 0 = xs.getD kk 0 := rfl
      generalize hy : xs.getD kk 0 = y at hcall hc0 hK
      have HY := Aside0.mk hy
      clear hy hxx hK
      cases hq : p y with
      | true =>
        rw [hq] at hcall
        have HQ := Aside0.mk hq
        have HC := Aside0.mk hcall
        clear hq hcall
        go_wp2_with (go_at_fn g; refine HC.out.mono ?_; rintro e w' ⟨rfl, hb'⟩)
        go_ret
        refine ⟨?_, later_below BW.out hb'⟩; rw [idxI_hitD p xs 0 n kk HN.out hlt (by rw [HY.out]; exact HQ.out) HA.out]; rfl
      | false =>
        rw [hq] at hcall
        have HQ := Aside0.mk hq
        have HC := Aside0.mk hcall
        clear hq hcall
        go_wp2_with (go_at_fn g; refine HC.out.mono ?_; rintro e w' ⟨rfl, hb'⟩)
        go_roundg (n - (kk + 1))
        case measure => omega
        case rel =>
          refine ⟨kk + 1, by omega, by omega, by go_num, ⟨later_below BW.out hb'⟩, ⟨fun j h1 => ?_⟩⟩
          by_cases e : j = kk
          · subst e; rw [HY.out]; exact HQ.out
          · exact HA.out j (by omega)
    · have hltz : ¬ (kk : Int) < (n : Int) := by omega
      have e : kk = n := by omega
      subst e
      go_wp2
      go_ret
      refine ⟨?_, BW.out⟩; rw [idxI_missD p xs 0 kk HN.out HA.out]; rfl
theorem index_int {g : Nat} {lb : Array Value} {xs : List (Int)} {p : Int → Bool} {w : World} {A : Option Addr} {c : Nat} (eg : ∀ args w, (callFunc g args).run Tryz.prog w = .ok (.enter g args) w)
    (hr : Kd.C (Kd.int .i64) w A xs.length xs) (hp : PredK g lb (Kd.int .i64) cell1 xs p w) :
    Calls Tryz.prog 89 #[.slice A xs.length c, .func (.func g) #[] lb] w fun e w' => e = .returned (.int .i64 (idxI p xs)) ∧ Below w.heap.size w w' := index_int' eg rfl hr hp
theorem contains_int {g : Nat} {lb : Array Value} {xs : List (Int)} {p : Int → Bool} {w : World} {A : Option Addr} {c : Nat} (eg : ∀ args w, (callFunc g args).run Tryz.prog w = .ok (.enter g args) w)
    (hr : Kd.C (Kd.int .i64) w A xs.length xs) (hp : PredK g lb (Kd.int .i64) cell1 xs p w) :
    Calls Tryz.prog 66 #[.slice A xs.length c, .func (.func g) #[] lb] w fun e w' => e = .returned (.bool (xs.any p)) ∧ Below w.heap.size w w' := by
  rw [← idxI_any p xs]
  have HR := Aside0.mk hr
  have HP := Aside0.mk hp
  have HE := Aside0.mk eg
  clear hr hp eg
  go_enter Tryz.func66, Tryz.ntmps66
  go_wp2_with (go_at_call 89; refine (index_int HE.out HR.out HP.out).mono ?_; rintro e w' ⟨rfl, hb'⟩)
  go_ret
  exact ⟨rfl, hb'⟩
set_option maxHeartbeats 2000000 in
theorem index_str' {g : Nat} {lb : Array Value} {xs : List (ByteArray)} {p : ByteArray → Bool} {w : World} {A : Option Addr} {n c : Nat} (eg : ∀ args w, (callFunc g args).run Tryz.prog w = .ok (.enter g args) w)
    (hn : xs.length = n) (hr : Kd.C (Kd.string) w A n xs) (hp : PredK g lb (Kd.string) cell1 xs p w) :
    Calls Tryz.prog 108 #[.slice A n c, .func (.func g) #[] lb] w fun e w' => e = .returned (.int .i64 (idxI p xs)) ∧ Below w.heap.size w w' := by
  have hm : n ≤ 9223372036854775807 := Kd.C_max hr
  have HN := Aside0.mk hn
  have HR := Aside0.mk hr
  have HP := Aside0.mk hp
  clear hr hp hn
  go_enter Tryz.func108, Tryz.ntmps108
  go_wp2
  go_loopg [5, 8] n (fun gg _ s8 wr => ∃ kk : Nat, kk ≤ n ∧ n - kk ≤ gg ∧ s8 = .int .i64 kk ∧ Aside0 (Below w.heap.size w wr) ∧ Aside0 (∀ j, j < kk → p (xs.getD j ByteArray.empty) = false))
  case atStart => exact ⟨0, Nat.zero_le _, by omega, rfl, ⟨Below.refl _ w⟩, ⟨fun j h0 => absurd h0 (Nat.not_lt_zero _)⟩⟩
  case round =>
    obtain ⟨kk, hkk, hg, rfl, BW, HA⟩ := hrel
    by_cases hlt : kk < n
    · have hltz : (kk : Int) < (n : Int) := by omega
      obtain ⟨ad, c1, rfl, hl1, hK, hcell⟩ := Kd.C_get (Kd.C_below HR.out BW.out) ByteArray.empty (kk : Int) (by omega) hltz
      rw [Int.toNat_natCast] at hK hcell
      have hcall := HP.out _ (getD_mem HN.out hlt) wr _ BW.out hK
      have e1 : c1 = [Value.string (xs.getD kk ByteArray.empty)] := hK
      subst e1
      have hc0 : wr.cell? (ad.add kk) = some (Value.string (xs.getD kk ByteArray.empty)) := by
        have := hcell 0 _ rfl
        simpa [show (Kd.string).sz = 1 from rfl] using this
      simp only [cell1, List.getD_cons_zero] at hcall
      clear hcell hl1
      have hxx : xs.getD kk ByteArray.empty = xs.getD kk ByteArray.empty := rfl
      generalize hy : xs.getD kk ByteArray.empty = y at hcall hc0 hK
      have HY := Aside0.mk hy
      clear hy hxx hK
      cases hq : p y with
      | true =>
        rw [hq] at hcall
        have HQ := Aside0.mk hq
        have HC := Aside0.mk hcall
        clear hq hcall
        go_wp2_with (go_at_fn g; refine HC.out.mono ?_; rintro e w' ⟨rfl, hb'⟩)
        go_ret
        refine ⟨?_, later_below BW.out hb'⟩; rw [idxI_hitD p xs ByteArray.empty n kk HN.out hlt (by rw [HY.out]; exact HQ.out) HA.out]; rfl
      | false =>
        rw [hq] at hcall
        have HQ := Aside0.mk hq
        have HC := Aside0.mk hcall
        clear hq hcall
        go_wp2_with (go_at_fn g; refine HC.out.mono ?_; rintro e w' ⟨rfl, hb'⟩)
        go_roundg (n - (kk + 1))
        case measure => omega
        case rel =>
          refine ⟨kk + 1, by omega, by omega, by go_num, ⟨later_below BW.out hb'⟩, ⟨fun j h1 => ?_⟩⟩
          by_cases e : j = kk
          · subst e; rw [HY.out]; exact HQ.out
          · exact HA.out j (by omega)
    · have hltz : ¬ (kk : Int) < (n : Int) := by omega
      have e : kk = n := by omega
      subst e
      go_wp2
      go_ret
      refine ⟨?_, BW.out⟩; rw [idxI_missD p xs ByteArray.empty kk HN.out HA.out]; rfl
theorem index_str {g : Nat} {lb : Array Value} {xs : List (ByteArray)} {p : ByteArray → Bool} {w : World} {A : Option Addr} {c : Nat} (eg : ∀ args w, (callFunc g args).run Tryz.prog w = .ok (.enter g args) w)
    (hr : Kd.C (Kd.string) w A xs.length xs) (hp : PredK g lb (Kd.string) cell1 xs p w) :
    Calls Tryz.prog 108 #[.slice A xs.length c, .func (.func g) #[] lb] w fun e w' => e = .returned (.int .i64 (idxI p xs)) ∧ Below w.heap.size w w' := index_str' eg rfl hr hp
theorem contains_str {g : Nat} {lb : Array Value} {xs : List (ByteArray)} {p : ByteArray → Bool} {w : World} {A : Option Addr} {c : Nat} (eg : ∀ args w, (callFunc g args).run Tryz.prog w = .ok (.enter g args) w)
    (hr : Kd.C (Kd.string) w A xs.length xs) (hp : PredK g lb (Kd.string) cell1 xs p w) :
    Calls Tryz.prog 98 #[.slice A xs.length c, .func (.func g) #[] lb] w fun e w' => e = .returned (.bool (xs.any p)) ∧ Below w.heap.size w w' := by
  rw [← idxI_any p xs]
  have HR := Aside0.mk hr
  have HP := Aside0.mk hp
  have HE := Aside0.mk eg
  clear hr hp eg
  go_enter Tryz.func98, Tryz.ntmps98
  go_wp2_with (go_at_call 108; refine (index_str HE.out HR.out HP.out).mono ?_; rintro e w' ⟨rfl, hb'⟩)
  go_ret
  exact ⟨rfl, hb'⟩
set_option maxHeartbeats 2000000 in
theorem index_face' {g : Nat} {lb : Array Value} {xs : List (S55)} {p : S55 → Bool} {w : World} {A : Option Addr} {n c : Nat} (eg : ∀ args w, (callFunc g args).run Tryz.prog w = .ok (.enter g args) w)
    (hn : xs.length = n) (hr : Kd.C (k55) w A n xs) (hp : PredK g lb (k55) cellN xs p w) :
    Calls Tryz.prog 92 #[.slice A n c, .func (.func g) #[] lb] w fun e w' => e = .returned (.int .i64 (idxI p xs)) ∧ Below w.heap.size w w' := by
  have hm : n ≤ 9223372036854775807 := Kd.C_max hr
  have HN := Aside0.mk hn
  have HR := Aside0.mk hr
  have HP := Aside0.mk hp
  clear hr hp hn
  go_enter Tryz.func92, Tryz.ntmps92
  go_wp2
  go_loopg [5, 8] n (fun gg _ s8 wr => ∃ kk : Nat, kk ≤ n ∧ n - kk ≤ gg ∧ s8 = .int .i64 kk ∧ Aside0 (Below w.heap.size w wr) ∧ Aside0 (∀ j, j < kk → p (xs.getD j z55) = false))
  case atStart => exact ⟨0, Nat.zero_le _, by omega, rfl, ⟨Below.refl _ w⟩, ⟨fun j h0 => absurd h0 (Nat.not_lt_zero _)⟩⟩
  case round =>
    obtain ⟨kk, hkk, hg, rfl, BW, HA⟩ := hrel
    by_cases hlt : kk < n
    · have hltz : (kk : Int) < (n : Int) := by omega
      obtain ⟨ad, c1, rfl, hl1, hK, hcell⟩ := Kd.C_get (Kd.C_below HR.out BW.out) z55 (kk : Int) (by omega) hltz
      rw [Int.toNat_natCast] at hK hcell
      have hcall := HP.out _ (getD_mem HN.out hlt) wr _ BW.out hK
      have e1 := k55_open hK
      subst e1
      have hc : ∀ j u, [Value.int .i64 (xs.getD kk z55).f0.f0, Value.int .i64 (xs.getD kk z55).f0.f1, Value.int .i64 (xs.getD kk z55).f1.f0, Value.int .i64 (xs.getD kk z55).f1.f1][j]? = some u → wr.cell? (ad.add (kk * 4 + j)) = some u := fun j u hu => hcell j u hu
      have hc0 : wr.cell? (ad.add (kk * 4)) = some (.int .i64 (xs.getD kk z55).f0.f0) := hc 0 _ rfl
      have hc1 : wr.cell? ⟨(ad.add (kk * 4)).block, (ad.add (kk * 4)).off + 1, none⟩ = some (.int .i64 (xs.getD kk z55).f0.f1) := by rw [← add_field _ _ 1 (by omega)]; exact hc 1 _ rfl
      have hc2 : wr.cell? ⟨(ad.add (kk * 4)).block, (ad.add (kk * 4)).off + 2, none⟩ = some (.int .i64 (xs.getD kk z55).f1.f0) := by rw [← add_field _ _ 2 (by omega)]; exact hc 2 _ rfl
      have hc3 : wr.cell? ⟨(ad.add (kk * 4)).block, (ad.add (kk * 4)).off + 3, none⟩ = some (.int .i64 (xs.getD kk z55).f1.f1) := by rw [← add_field _ _ 3 (by omega)]; exact hc 3 _ rfl
      clear hc
      simp only [cellN] at hcall
      clear hcell hl1
      have hxx : xs.getD kk z55 = xs.getD kk z55 := rfl
      generalize hy : xs.getD kk z55 = y at hcall hc0 hc1 hc2 hc3 hK
      have HY := Aside0.mk hy
      clear hy hxx hK
      cases hq : p y with
      | true =>
        rw [hq] at hcall
        have HQ := Aside0.mk hq
        have HC := Aside0.mk hcall
        clear hq hcall
        go_wp2_with (go_at_fn g; refine HC.out.mono ?_; rintro e w' ⟨rfl, hb'⟩)
        go_ret
        refine ⟨?_, later_below BW.out hb'⟩; rw [idxI_hitD p xs z55 n kk HN.out hlt (by rw [HY.out]; exact HQ.out) HA.out]; rfl
      | false =>
        rw [hq] at hcall
        have HQ := Aside0.mk hq
        have HC := Aside0.mk hcall
        clear hq hcall
        go_wp2_with (go_at_fn g; refine HC.out.mono ?_; rintro e w' ⟨rfl, hb'⟩)
        go_roundg (n - (kk + 1))
        case measure => omega
        case rel =>
          refine ⟨kk + 1, by omega, by omega, by go_num, ⟨later_below BW.out hb'⟩, ⟨fun j h1 => ?_⟩⟩
          by_cases e : j = kk
          · subst e; rw [HY.out]; exact HQ.out
          · exact HA.out j (by omega)
    · have hltz : ¬ (kk : Int) < (n : Int) := by omega
      have e : kk = n := by omega
      subst e
      go_wp2
      go_ret
      refine ⟨?_, BW.out⟩; rw [idxI_missD p xs z55 kk HN.out HA.out]; rfl
theorem index_face {g : Nat} {lb : Array Value} {xs : List (S55)} {p : S55 → Bool} {w : World} {A : Option Addr} {c : Nat} (eg : ∀ args w, (callFunc g args).run Tryz.prog w = .ok (.enter g args) w)
    (hr : Kd.C (k55) w A xs.length xs) (hp : PredK g lb (k55) cellN xs p w) :
    Calls Tryz.prog 92 #[.slice A xs.length c, .func (.func g) #[] lb] w fun e w' => e = .returned (.int .i64 (idxI p xs)) ∧ Below w.heap.size w w' := index_face' eg rfl hr hp
theorem contains_face {g : Nat} {lb : Array Value} {xs : List (S55)} {p : S55 → Bool} {w : World} {A : Option Addr} {c : Nat} (eg : ∀ args w, (callFunc g args).run Tryz.prog w = .ok (.enter g args) w)
    (hr : Kd.C (k55) w A xs.length xs) (hp : PredK g lb (k55) cellN xs p w) :
    Calls Tryz.prog 72 #[.slice A xs.length c, .func (.func g) #[] lb] w fun e w' => e = .returned (.bool (xs.any p)) ∧ Below w.heap.size w w' := by
  rw [← idxI_any p xs]
  have HR := Aside0.mk hr
  have HP := Aside0.mk hp
  have HE := Aside0.mk eg
  clear hr hp eg
  go_enter Tryz.func72, Tryz.ntmps72
  go_wp2_with (go_at_call 92; refine (index_face HE.out HR.out HP.out).mono ?_; rintro e w' ⟨rfl, hb'⟩)
  go_ret
  exact ⟨rfl, hb'⟩
set_option maxHeartbeats 2000000 in
theorem index_gap' {g : Nat} {lb : Array Value} {xs : List (S47)} {p : S47 → Bool} {w : World} {A : Option Addr} {n c : Nat} (eg : ∀ args w, (callFunc g args).run Tryz.prog w = .ok (.enter g args) w)
    (hn : xs.length = n) (hr : Kd.C (k47) w A n xs) (hp : PredK g lb (k47) cellN xs p w) :
    Calls Tryz.prog 78 #[.slice A n c, .func (.func g) #[] lb] w fun e w' => e = .returned (.int .i64 (idxI p xs)) ∧ Below w.heap.size w w' := by
  have hm : n ≤ 9223372036854775807 := Kd.C_max hr
  have HN := Aside0.mk hn
  have HR := Aside0.mk hr
  have HP := Aside0.mk hp
  clear hr hp hn
  go_enter Tryz.func78, Tryz.ntmps78
  go_wp2
  go_loopg [5, 8] n (fun gg _ s8 wr => ∃ kk : Nat, kk ≤ n ∧ n - kk ≤ gg ∧ s8 = .int .i64 kk ∧ Aside0 (Below w.heap.size w wr) ∧ Aside0 (∀ j, j < kk → p (xs.getD j z47) = false))
  case atStart => exact ⟨0, Nat.zero_le _, by omega, rfl, ⟨Below.refl _ w⟩, ⟨fun j h0 => absurd h0 (Nat.not_lt_zero _)⟩⟩
  case round =>
    obtain ⟨kk, hkk, hg, rfl, BW, HA⟩ := hrel
    by_cases hlt : kk < n
    · have hltz : (kk : Int) < (n : Int) := by omega
      obtain ⟨ad, c1, rfl, hl1, hK, hcell⟩ := Kd.C_get (Kd.C_below HR.out BW.out) z47 (kk : Int) (by omega) hltz
      rw [Int.toNat_natCast] at hK hcell
      have hcall := HP.out _ (getD_mem HN.out hlt) wr _ BW.out hK
      have e1 := k47_open hK
      subst e1
      have hc : ∀ j u, [Value.int .i64 (xs.getD kk z47).f0.f0, Value.int .i64 (xs.getD kk z47).f0.f1, Value.int .i64 (xs.getD kk z47).f1.f0, Value.int .i64 (xs.getD kk z47).f1.f1][j]? = some u → wr.cell? (ad.add (kk * 4 + j)) = some u := fun j u hu => hcell j u hu
      have hc0 : wr.cell? (ad.add (kk * 4)) = some (.int .i64 (xs.getD kk z47).f0.f0) := hc 0 _ rfl
      have hc1 : wr.cell? ⟨(ad.add (kk * 4)).block, (ad.add (kk * 4)).off + 1, none⟩ = some (.int .i64 (xs.getD kk z47).f0.f1) := by rw [← add_field _ _ 1 (by omega)]; exact hc 1 _ rfl
      have hc2 : wr.cell? ⟨(ad.add (kk * 4)).block, (ad.add (kk * 4)).off + 2, none⟩ = some (.int .i64 (xs.getD kk z47).f1.f0) := by rw [← add_field _ _ 2 (by omega)]; exact hc 2 _ rfl
      have hc3 : wr.cell? ⟨(ad.add (kk * 4)).block, (ad.add (kk * 4)).off + 3, none⟩ = some (.int .i64 (xs.getD kk z47).f1.f1) := by rw [← add_field _ _ 3 (by omega)]; exact hc 3 _ rfl
      clear hc
      simp only [cellN] at hcall
      clear hcell hl1
      have hxx : xs.getD kk z47 = xs.getD kk z47 := rfl
      generalize hy : xs.getD kk z47 = y at hcall hc0 hc1 hc2 hc3 hK
      have HY := Aside0.mk hy
      clear hy hxx hK
      cases hq : p y with
      | true =>
        rw [hq] at hcall
        have HQ := Aside0.mk hq
        have HC := Aside0.mk hcall
        clear hq hcall
        go_wp2_with (go_at_fn g; refine HC.out.mono ?_; rintro e w' ⟨rfl, hb'⟩)
        go_ret
        refine ⟨?_, later_below BW.out hb'⟩; rw [idxI_hitD p xs z47 n kk HN.out hlt (by rw [HY.out]; exact HQ.out) HA.out]; rfl
      | false =>
        rw [hq] at hcall
        have HQ := Aside0.mk hq
        have HC := Aside0.mk hcall
        clear hq hcall
        go_wp2_with (go_at_fn g; refine HC.out.mono ?_; rintro e w' ⟨rfl, hb'⟩)
        go_roundg (n - (kk + 1))
        case measure => omega
        case rel =>
          refine ⟨kk + 1, by omega, by omega, by go_num, ⟨later_below BW.out hb'⟩, ⟨fun j h1 => ?_⟩⟩
          by_cases e : j = kk
          · subst e; rw [HY.out]; exact HQ.out
          · exact HA.out j (by omega)
    · have hltz : ¬ (kk : Int) < (n : Int) := by omega
      have e : kk = n := by omega
      subst e
      go_wp2
      go_ret
      refine ⟨?_, BW.out⟩; rw [idxI_missD p xs z47 kk HN.out HA.out]; rfl
theorem index_gap {g : Nat} {lb : Array Value} {xs : List (S47)} {p : S47 → Bool} {w : World} {A : Option Addr} {c : Nat} (eg : ∀ args w, (callFunc g args).run Tryz.prog w = .ok (.enter g args) w)
    (hr : Kd.C (k47) w A xs.length xs) (hp : PredK g lb (k47) cellN xs p w) :
    Calls Tryz.prog 78 #[.slice A xs.length c, .func (.func g) #[] lb] w fun e w' => e = .returned (.int .i64 (idxI p xs)) ∧ Below w.heap.size w w' := index_gap' eg rfl hr hp
theorem contains_gap {g : Nat} {lb : Array Value} {xs : List (S47)} {p : S47 → Bool} {w : World} {A : Option Addr} {c : Nat} (eg : ∀ args w, (callFunc g args).run Tryz.prog w = .ok (.enter g args) w)
    (hr : Kd.C (k47) w A xs.length xs) (hp : PredK g lb (k47) cellN xs p w) :
    Calls Tryz.prog 52 #[.slice A xs.length c, .func (.func g) #[] lb] w fun e w' => e = .returned (.bool (xs.any p)) ∧ Below w.heap.size w w' := by
  rw [← idxI_any p xs]
  have HR := Aside0.mk hr
  have HP := Aside0.mk hp
  have HE := Aside0.mk eg
  clear hr hp eg
  go_enter Tryz.func52, Tryz.ntmps52
  go_wp2_with (go_at_call 78; refine (index_gap HE.out HR.out HP.out).mono ?_; rintro e w' ⟨rfl, hb'⟩)
  go_ret
  exact ⟨rfl, hb'⟩
end X
end Go.Proofs.YtgdkmadcegleiaaGreatDoor
namespace Go.Proofs.YtgdkmadcegleiaaGreatDoor
namespace X
theorem enters_within1 : ∀ args w, (callFunc 99 args).run Tryz.prog w = .ok (.enter 99 args) w := enters_of Tryz.func99 (by kernel_rfl) rfl
def outside (least most n : Int) : Bool := decide (n < least) || decide (most < n)
theorem within1_pred {g1 g2 : Nat} {least most : Int} {xs : List Int} {w : World} (h1 : w.cell? ⟨g1, 0, none⟩ = some (.int .i64 least)) (h2 : w.cell? ⟨g2, 0, none⟩ = some (.int .i64 most)) :
    PredK 99 #[.pointer (some ⟨g1, 0, none⟩), .pointer (some ⟨g2, 0, none⟩)] (Kd.int .i64) cell1 xs (outside least most) w := by
  intro x _ W cs hb hK
  have e : cs = [.int .i64 x] := hK
  subst e
  have k1 : W.cell? ⟨g1, 0, none⟩ = some (.int .i64 least) := pw_cell_below hb h1
  have k2 : W.cell? ⟨g2, 0, none⟩ = some (.int .i64 most) := pw_cell_below hb h2
  simp only [cell1, List.getD_cons_zero]
  show Calls Tryz.prog 99 #[.int .i64 x, .pointer (some ⟨g1, 0, none⟩), .pointer (some ⟨g2, 0, none⟩)] W _
  clear hb h1 h2 hK
  by_cases c1 : x < least
  · have d1 : decide (x < least) = true := decide_eq_true c1
    have e1 : outside least most x = true := by simp [outside, d1]
    rw [e1]
    clear c1 e1
    go_enter Tryz.func99, Tryz.ntmps99
    go_wp2
    go_ret
    exact ⟨rfl, by first | exact Below.refl _ _ | exact pw_below_drewN (Below.refl _ _) _⟩
  · have d1 : decide (x < least) = false := decide_eq_false c1
    clear c1
    by_cases c2 : most < x
    · have d2 : decide (most < x) = true := decide_eq_true c2
      have e1 : outside least most x = true := by simp [outside, d2]
      rw [e1]
      clear c2 e1
      go_enter Tryz.func99, Tryz.ntmps99
      go_wp2
      go_ret
      exact ⟨rfl, by first | exact Below.refl _ _ | exact pw_below_drewN (Below.refl _ _) _⟩
    · have d2 : decide (most < x) = false := decide_eq_false c2
      have e1 : outside least most x = false := by simp [outside, d1, d2]
      rw [e1]
      clear c2 e1
      go_enter Tryz.func99, Tryz.ntmps99
      go_wp2
      go_ret
      exact ⟨rfl, by first | exact Below.refl _ _ | exact pw_below_drewN (Below.refl _ _) _⟩
def z16_.f (a0 a1 : Int) (l2 : List Int) : Option Bool := some (l2.all fun n => decide (a0 ≤ n) && decide (n ≤ a1))
theorem any_outside (a0 a1 : Int) (l : List Int) : (!(l.any (outside a0 a1))) = l.all fun n => decide (a0 ≤ n) && decide (n ≤ a1) := by
  induction l with
  | nil => rfl
  | cons x l ih =>
    simp only [List.any_cons, List.all_cons, Bool.not_or, ih]
    congr 1
    simp only [outside, Bool.not_or]
    by_cases h1 : a0 ≤ x <;> by_cases h2 : x ≤ a1 <;> simp [h1, h2] <;> omega
set_option maxHeartbeats 1000000 in
theorem z16_.calls (a0 : Int) (a1 : Int) (A2 : Option Addr) (c2 : Nat) (l2 : List Int) (r : Bool) (w : World) (hr2 : Kd.C (Kd.int .i64) w A2 l2.length l2) (_hc2 : l2.length ≤ c2) (h : z16_.f a0 a1 l2 = some r) :
    Calls Tryz.prog 83 #[.int .i64 a0, .int .i64 a1, .slice A2 l2.length c2] w fun e w' => e = .returned (.bool r) ∧ Below w.heap.size w w' := by
  obtain rfl := Option.some.inj h
  rw [← any_outside]
  have HR := Aside0.mk hr2
  clear hr2 h
  go_enter Tryz.func83, Tryz.ntmps83
  go_wp2_with fail
  refine (contains_int (p := outside a0 a1) enters_within1 (Kd.C_alloc (Kd.C_alloc HR.out _) _) (within1_pred (by simp) (by simp))).mono ?_
  rintro e w' ⟨rfl, hb⟩
  have HB := Aside0.mk (below_then (below_alloc (below_alloc (Below.refl _ _) _) _) (by simp; omega) hb)
  clear hb
  go_wp2
  go_ret
  exact ⟨rfl, HB.out⟩
end X
end Go.Proofs.YtgdkmadcegleiaaGreatDoor
namespace Go.Proofs.YtgdkmadcegleiaaGreatDoor
namespace X
open Go.Lib (run_next_any_at run_next_ascii_at run_next_end_at iterAt_heap iterAt_size below_iterAt)
def inSet (set : ByteArray) (c : Nat) : Bool := set.data.toList.any fun d => d.toNat == c
def ascii (set : ByteArray) : Prop := ∀ d ∈ set.data.toList, d.toNat < 128
def inTake (set : ByteArray) (c m : Nat) : Bool := (set.data.toList.take m).any fun d => d.toNat == c
theorem inTake_all (set : ByteArray) (c : Nat) : inTake set c set.size = inSet set c := by
  unfold inTake inSet
  rw [List.take_of_length_le (by rw [Array.length_toList]; exact Nat.le_refl _)]
theorem inTake_succ (set : ByteArray) (c m : Nat) (h : m < set.size) : inTake set c (m + 1) = (inTake set c m || ((set[m]'h).toNat == c)) := by
  unfold inTake
  have h' : m < set.data.toList.length := by rw [Array.length_toList]; exact h
  rw [List.take_succ_eq_append_getElem h', List.any_append]
  simp
  rfl
theorem ascii_at {set : ByteArray} (h : ascii set) (m : Nat) (hm : m < set.size) : (set[m]'hm).toNat < 128 := by
  refine h _ ?_
  rw [show (set[m]'hm) = set.data.toList[m]'(by rw [Array.length_toList]; exact hm) from by simp; rfl]
  exact List.getElem_mem _
def cutL (set s : ByteArray) : ByteArray := ⟨(s.data.toList.dropWhile fun b => inSet set b.toNat).toArray⟩
theorem dropWhile_drop {α : Type} (p : α → Bool) (l : List α) (k : Nat) (hk : k ≤ l.length) (h : ∀ j, ∀ hj : j < l.length, j < k → p l[j] = true) (he : ∀ hk : k < l.length, p l[k] = false) : l.dropWhile p = l.drop k := by
  induction l generalizing k with
  | nil => simp
  | cons x l ih =>
    cases k with
    | zero =>
      have := he (by simp)
      simp only [List.getElem_cons_zero] at this
      simp [this]
    | succ k =>
      have hx := h 0 (by simp) (by omega)
      simp only [List.getElem_cons_zero] at hx
      rw [List.dropWhile_cons, if_pos hx, List.drop_succ_cons]
      exact ih k (by simpa using hk) (fun j hj hjk => by have := h (j + 1) (by simpa using hj) (by omega); simpa using this) (fun hk2 => by have := he (by simpa using hk2); simpa using this)
theorem cutL_at (set s : ByteArray) (k : Nat) (hk : k < s.size) (h : ∀ j, ∀ hj : j < s.size, j < k → inSet set (s[j]'hj).toNat = true) (he : inSet set (s[k]'hk).toNat = false) : cutL set s = s.extract k s.size := by
  have hl : s.data.toList.length = s.size := by rw [Array.length_toList]; rfl
  have e := dropWhile_drop (fun b => inSet set b.toNat) s.data.toList k (by omega) (fun j hj hjk => h j (by omega) hjk) (fun _ => he)
  unfold cutL
  rw [e, Lib.extract_eq, List.take_of_length_le (by simp [hl])]
theorem cutL_none (set s : ByteArray) (h : ∀ j, ∀ hj : j < s.size, inSet set (s[j]'hj).toNat = true) : cutL set s = ⟨#[]⟩ := by
  have hl : s.data.toList.length = s.size := by rw [Array.length_toList]; rfl
  have e := dropWhile_drop (fun b => inSet set b.toNat) s.data.toList s.size (by omega) (fun j hj _ => h j (by omega)) (fun hk => by omega)
  unfold cutL
  rw [e, List.drop_of_length_le (by omega)]
theorem high_not_in {set : ByteArray} (h : ascii set) {c : Nat} (hc : 128 ≤ c) : inSet set c = false := by
  unfold inSet
  rw [List.any_eq_false]
  intro d hd
  have := h d hd
  simp only [beq_iff_eq]
  omega
set_option maxHeartbeats 2000000 in
theorem cutLeft_calls (s set : ByteArray) (hset : ascii set) (w : World) (hs : s.size ≤ 9223372036854775807) :
    Calls Tryz.prog 97 #[.string s, .string set] w fun e w' => e = .returned (.string (cutL set s)) ∧ Below w.heap.size w w' := by
  have HS := Aside0.mk hset
  clear hset
  go_enter Tryz.func97, Tryz.ntmps97
  go_wp2
  go_loopg [7] s.size (fun gg _ wr => ∃ kk : Nat, kk ≤ s.size ∧ s.size - kk ≤ gg ∧ Aside0 (wr.heap[w.heap.size]? = some (.stringIter s kk)) ∧ Aside0 (Below w.heap.size w wr) ∧ Aside0 (∀ j, ∀ hj : j < s.size, j < kk → inSet set (s[j]'hj).toNat = true))
  case atStart => exact ⟨0, Nat.zero_le _, by omega, ⟨World.iter_heap w s 0⟩, ⟨below_alloc (Below.refl _ _) _⟩, ⟨fun j hj h0 => absurd h0 (Nat.not_lt_zero _)⟩⟩
  case round =>
    obtain ⟨kk, hkk, hg, HI, HB, HA⟩ := hrel
    by_cases hp : kk < s.size
    · obtain ⟨c, hc⟩ : ∃ c, (Utf8.decode s kk).1 = c := ⟨_, rfl⟩
      obtain ⟨wd, hwd⟩ : ∃ d, (Utf8.decode s kk).2 = d := ⟨_, rfl⟩
      have hnx : ∀ ty, (Instr.next (.pointer (some ⟨w.heap.size, 0, none⟩)) true ty).run Tryz.prog wr = _ := fun ty => run_next_any_at wr w.heap.size s kk ty HI.out hp
      rw [hc, hwd] at hnx
      obtain ⟨W1, hW1⟩ : ∃ W1, wr.iterAt w.heap.size s (kk + wd) = W1 := ⟨_, rfl⟩
      rw [hW1] at hnx
      have HI1 : Aside0 (W1.heap[w.heap.size]? = some (.stringIter s (kk + wd))) := ⟨by rw [← hW1]; exact iterAt_heap _ _ _ _ _ HI.out⟩
      have HB1 : Aside0 (Below w.heap.size w W1) := ⟨by rw [← hW1]; exact below_iterAt HB.out (Nat.le_refl _) _ _⟩
      have HQ : Aside0 (inSet set c = inSet set (s[kk]'hp).toNat ∧ (inSet set c = true → wd = 1)) := by
        refine ⟨?_⟩
        by_cases ha : (s[kk]'hp).toNat < 128
        · rw [decode_ascii s kk hp ha] at hc hwd
          exact ⟨by rw [← hc], fun _ => hwd.symm⟩
        · have hh := (decode_high s kk hp (by omega)).1
          rw [hc] at hh
          have e1 := high_not_in HS.out hh
          exact ⟨by rw [e1, high_not_in HS.out (by omega)], fun h => by rw [e1] at h; cases h⟩
      clear HI HB hW1 hc hwd
      go_wp2
      go_loopg [7] set.size (fun gg v7 wr2 => ∃ m : Nat, m ≤ set.size ∧ set.size - m ≤ gg ∧ v7 = .bool (inTake set c m) ∧ wr2 = W1.iter set m)
      case atStart => exact ⟨0, Nat.zero_le _, by omega, rfl, rfl⟩
      case round =>
        obtain ⟨m, hm, hg2, rfl, rfl⟩ := hrel
        by_cases hm2 : m < set.size
        · have hnx2 : ∀ ty, (Instr.next (.pointer (some ⟨W1.heap.size, 0, none⟩)) true ty).run Tryz.prog (W1.iter set m) = _ := fun ty => run_next_ascii W1 set m ty hm2 (ascii_at HS.out m hm2)
          have HSU := Aside0.mk (inTake_succ set c m hm2)
          obtain ⟨d, hd⟩ : ∃ d, (set[m]'hm2).toNat = d := ⟨_, rfl⟩
          rw [hd] at hnx2 HSU
          clear hd
          obtain ⟨q, hq⟩ : ∃ q, inTake set c m = q := ⟨_, rfl⟩
          rw [hq] at HSU ⊢
          clear hq
          cases q with
          | true =>
            go_wp2
            go_roundg (set.size - (m + 1))
            case measure => omega
            case rel => exact ⟨m + 1, by omega, by omega, by rw [HSU.out]; rfl, rfl⟩
          | false =>
            by_cases hcd : c = d
            · have h1 : (c == d) = true := beq_iff_eq.2 hcd
              have h2 : ((c : Int) == (d : Int)) = true := beq_iff_eq.2 (by omega)
              have hsu : inTake set c (m + 1) = true := by rw [HSU.out, hcd]; simp
              have HSV := Aside0.mk hsu
              clear hcd hsu
              go_wp2
              go_roundg (set.size - (m + 1))
              case measure => omega
              case rel => exact ⟨m + 1, by omega, by omega, by rw [HSV.out], rfl⟩
            · have h1 : (c == d) = false := beq_eq_false_iff_ne.2 hcd
              have h2 : ((c : Int) == (d : Int)) = false := beq_eq_false_iff_ne.2 (by omega)
              have hsu : inTake set c (m + 1) = false := by rw [HSU.out, Bool.false_or]; exact beq_eq_false_iff_ne.2 (fun h => hcd h.symm)
              have HSV := Aside0.mk hsu
              clear hcd hsu
              go_wp2
              go_roundg (set.size - (m + 1))
              case measure => omega
              case rel => exact ⟨m + 1, by omega, by omega, by rw [HSV.out], rfl⟩
        · have hnx2 : ∀ ty, (Instr.next (.pointer (some ⟨W1.heap.size, 0, none⟩)) true ty).run Tryz.prog (W1.iter set m) = _ := fun ty => run_next_end W1 set m ty hm2
          obtain rfl : m = set.size := by omega
          rw [inTake_all]
          have HE := Aside0.mk (rfl : inSet set c = inSet set c)
          obtain ⟨q, hq⟩ : ∃ q, inSet set c = q := ⟨_, rfl⟩
          rw [hq]
          have HV := Aside0.mk hq
          clear hq HE
          cases q with
          | true =>
            go_wp2
            go_roundg (s.size - (kk + 1))
            case measure => omega
            case rel =>
              have hw := HQ.out.2 HV.out
              refine ⟨kk + 1, by omega, by omega, ⟨by have := HI1.out; rw [hw] at this; exact Below.heap_alloc _ _ _ (by have := (Array.getElem?_eq_some_iff.1 HI1.out).1; exact this) |>.trans this⟩, ⟨below_alloc HB1.out _⟩, ⟨fun j hj h1 => ?_⟩⟩
              by_cases e : j = kk
              · subst e; rw [← HQ.out.1]; exact HV.out
              · exact HA.out j hj (by omega)
          | false =>
            go_wp2
            go_ret
            refine ⟨?_, below_alloc HB1.out _⟩
            rw [cutL_at set s kk hp HA.out (by rw [← HQ.out.1]; exact HV.out)]
            rfl
    · have hnx : ∀ ty, (Instr.next (.pointer (some ⟨w.heap.size, 0, none⟩)) true ty).run Tryz.prog wr = _ := fun ty => run_next_end_at wr w.heap.size s kk ty HI.out hp
      have HE : Aside0 (cutL set s = ⟨#[]⟩) := ⟨cutL_none set s (fun j hj => HA.out j hj (by omega))⟩
      go_wp2
      go_ret
      refine ⟨?_, HB.out⟩
      rw [HE.out]
      rfl
end X
end Go.Proofs.YtgdkmadcegleiaaGreatDoor
section
namespace Go.Proofs
open Go.Shelf
def Tryz.lays120_ren : Go.Shelf.Ren := ⟨fun | 120 => 115 | n => n, fun | 5 => 5 | 4 => 4 | n => n, fun | n => n⟩
def Tryz.lays197_ren : Go.Shelf.Ren := ⟨fun | 197 => 116 | 260 => 123 | n => n, fun | 9 => 9 | 21 => 21 | 3 => 3 | 4 => 4 | 5 => 5 | 105 => 176 | 119 => 193 | 0 => 0 | 46 => 113 | 139 => 196 | 138 => 195 | n => n, fun | 3 => 0 | 4 => 1 | n => n⟩
def Tryz.lays264_ren : Go.Shelf.Ren := ⟨fun | 264 => 81 | n => n, fun | 53 => 145 | 46 => 113 | n => n, fun | n => n⟩
theorem Tryz.lays264 : Go.Proofs.Lays.n264 Tryz.prog Tryz.lays264_ren := {
  mixed := by kernel_rfl
  f264 := Tryz.func81.trans (congrArg some (by kernel_rfl))
  t46 := Tryz.underlying113
  a46 := Tryz.isAgg113
  z46 := Tryz.sizeOf113
  v46 := Tryz.zeroValue113
  t53 := Tryz.underlying145
  a53 := Tryz.isAgg145
  z53 := Tryz.sizeOf145
  v53 := Tryz.zeroValue145 }
open Go.RowKit Go.Lib in
theorem Tryz.bits_Mul64 (x y : Nat) (hx : x < 18446744073709551616) (hy : y < 18446744073709551616) (w : World) :
    Calls Tryz.prog 81 #[.int .u64 x, .int .u64 y] w fun e w' => e = .returned (.tuple #[.int .u64 ((x * y / 18446744073709551616 : Nat) : Int), .int .u64 ((x * y % 18446744073709551616 : Nat) : Int)]) ∧ w' = w := Any.bits_Mul64 Tryz.lays264 x y hx hy w
def Tryz.lays212_ren : Go.Shelf.Ren := ⟨fun | 212 => 55 | 263 => 80 | 264 => 81 | n => n, fun | 46 => 113 | 51 => 142 | 146 => 143 | 53 => 145 | 148 => 146 | n => n, fun | n => n⟩
theorem Tryz.lays212 : Go.Proofs.Lays.n212 Tryz.prog Tryz.lays212_ren := {
  mixed := by kernel_rfl
  f212 := Tryz.func55.trans (congrArg some (by kernel_rfl))
  f263 := Tryz.func80.trans (congrArg some (by kernel_rfl))
  f264 := Tryz.func81.trans (congrArg some (by kernel_rfl))
  t46 := Tryz.underlying113
  a46 := Tryz.isAgg113
  z46 := Tryz.sizeOf113
  v46 := Tryz.zeroValue113
  t51 := Tryz.underlying142
  a51 := Tryz.isAgg142
  z51 := Tryz.sizeOf142
  v51 := Tryz.zeroValue142
  t53 := Tryz.underlying145
  a53 := Tryz.isAgg145
  z53 := Tryz.sizeOf145
  v53 := Tryz.zeroValue145
  t146 := Tryz.underlying143
  a146 := Tryz.isAgg143
  z146 := Tryz.sizeOf143
  v146 := Tryz.zeroValue143
  t148 := Tryz.underlying146
  a148 := Tryz.isAgg146
  z148 := Tryz.sizeOf146
  v148 := Tryz.zeroValue146 }
open Go.RowKit Go.Lib in
theorem Tryz.bits_Mul (x y : Nat) (hx : x < 18446744073709551616) (hy : y < 18446744073709551616) (w : World) :
    Calls Tryz.prog 55 #[.int .u64 x, .int .u64 y] w fun e w' => e = .returned (.tuple #[.int .u64 ((x * y / 18446744073709551616 : Nat) : Int), .int .u64 ((x * y % 18446744073709551616 : Nat) : Int)]) ∧ w' = w := Any.bits_Mul Tryz.lays212 x y hx hy w
def Tryz.lays260_ren : Go.Shelf.Ren := ⟨fun | 260 => 123 | n => n, fun | 9 => 9 | 21 => 21 | 3 => 3 | 4 => 4 | 5 => 5 | 119 => 193 | 0 => 0 | 46 => 113 | 139 => 196 | 138 => 195 | n => n, fun | 3 => 0 | 4 => 1 | n => n⟩
theorem Tryz.lays260 : Go.Proofs.Lays.n260 Tryz.prog Tryz.lays260_ren := {
  mixed := by kernel_rfl
  f260 := Tryz.func123.trans (congrArg some (by kernel_rfl))
  t0 := Tryz.underlying0
  a0 := Tryz.isAgg0
  z0 := Tryz.sizeOf0
  v0 := Tryz.zeroValue0
  t3 := Tryz.underlying3
  a3 := Tryz.isAgg3
  z3 := Tryz.sizeOf3
  v3 := Tryz.zeroValue3
  t4 := Tryz.underlying4
  a4 := Tryz.isAgg4
  z4 := Tryz.sizeOf4
  v4 := Tryz.zeroValue4
  t5 := Tryz.underlying5
  a5 := Tryz.isAgg5
  z5 := Tryz.sizeOf5
  v5 := Tryz.zeroValue5
  t9 := Tryz.underlying9
  a9 := Tryz.isAgg9
  z9 := Tryz.sizeOf9
  v9 := Tryz.zeroValue9
  t21 := Tryz.underlying21
  a21 := Tryz.isAgg21
  z21 := Tryz.sizeOf21
  v21 := Tryz.zeroValue21
  t46 := Tryz.underlying113
  a46 := Tryz.isAgg113
  z46 := Tryz.sizeOf113
  v46 := Tryz.zeroValue113
  t119 := Tryz.underlying193
  a119 := Tryz.isAgg193
  z119 := Tryz.sizeOf193
  t138 := Tryz.underlying195
  a138 := Tryz.isAgg195
  z138 := Tryz.sizeOf195
  v138 := Tryz.zeroValue195
  t139 := Tryz.underlying196
  a139 := Tryz.isAgg196
  z139 := Tryz.sizeOf196
  v139 := Tryz.zeroValue196
  g3 := by kernel_rfl
  g4 := by kernel_rfl }
def Tryz.lays271_ren : Go.Shelf.Ren := ⟨fun | 271 => 107 | 120 => 115 | 197 => 116 | 260 => 123 | n => n, fun | 9 => 9 | 21 => 21 | 3 => 3 | 4 => 4 | 5 => 5 | 105 => 176 | 119 => 193 | 0 => 0 | 46 => 113 | 139 => 196 | 138 => 195 | n => n, fun | 3 => 0 | 4 => 1 | n => n⟩
theorem Tryz.lays271 : Go.Proofs.Lays.n271 Tryz.prog Tryz.lays271_ren := {
  mixed := by kernel_rfl
  f120 := Tryz.func115.trans (congrArg some (by kernel_rfl))
  f197 := Tryz.func116.trans (congrArg some (by kernel_rfl))
  f260 := Tryz.func123.trans (congrArg some (by kernel_rfl))
  f271 := Tryz.func107.trans (congrArg some (by kernel_rfl))
  t0 := Tryz.underlying0
  a0 := Tryz.isAgg0
  z0 := Tryz.sizeOf0
  v0 := Tryz.zeroValue0
  t3 := Tryz.underlying3
  a3 := Tryz.isAgg3
  z3 := Tryz.sizeOf3
  v3 := Tryz.zeroValue3
  t4 := Tryz.underlying4
  a4 := Tryz.isAgg4
  z4 := Tryz.sizeOf4
  v4 := Tryz.zeroValue4
  t5 := Tryz.underlying5
  a5 := Tryz.isAgg5
  z5 := Tryz.sizeOf5
  v5 := Tryz.zeroValue5
  t9 := Tryz.underlying9
  a9 := Tryz.isAgg9
  z9 := Tryz.sizeOf9
  v9 := Tryz.zeroValue9
  t21 := Tryz.underlying21
  a21 := Tryz.isAgg21
  z21 := Tryz.sizeOf21
  v21 := Tryz.zeroValue21
  t46 := Tryz.underlying113
  a46 := Tryz.isAgg113
  z46 := Tryz.sizeOf113
  v46 := Tryz.zeroValue113
  t105 := Tryz.underlying176
  a105 := Tryz.isAgg176
  z105 := Tryz.sizeOf176
  v105 := Tryz.zeroValue176
  t119 := Tryz.underlying193
  a119 := Tryz.isAgg193
  z119 := Tryz.sizeOf193
  t138 := Tryz.underlying195
  a138 := Tryz.isAgg195
  z138 := Tryz.sizeOf195
  v138 := Tryz.zeroValue195
  t139 := Tryz.underlying196
  a139 := Tryz.isAgg196
  z139 := Tryz.sizeOf196
  v139 := Tryz.zeroValue196
  g3 := by kernel_rfl
  g4 := by kernel_rfl }
open Go.RowKit Go.Lib in
theorem Tryz.utf8_DecodeLastRuneInString (s : ByteArray) (w : World) (hs : s.size ≤ 9223372036854775807) (hT : Lib.Utf8Tabs 0 1 w) :
    Calls Tryz.prog 107 #[.string s] w fun e w' => e = .returned (.tuple #[.int .i32 (Lib.decodeLastL s.data.toList).1, .int .i64 (Lib.decodeLastL s.data.toList).2]) ∧ Below w.heap.size w w' := Any.utf8_DecodeLastRuneInString Tryz.lays271 s w hs hT
def Tryz.lays113_ren : Go.Shelf.Ren := ⟨fun | 113 => 112 | n => n, fun | 28 => 51 | 3 => 3 | 4 => 4 | 9 => 9 | 20 => 20 | 0 => 0 | n => n, fun | n => n⟩
def Tryz.lays114_ren : Go.Shelf.Ren := ⟨fun | 114 => 113 | n => n, fun | 28 => 51 | 3 => 3 | 4 => 4 | 9 => 9 | 20 => 20 | 0 => 0 | n => n, fun | n => n⟩
end Go.Proofs
end
namespace Go.Proofs.YtgdkmadcegleiaaGreatDoor
namespace X
open Go.Lib (run_next_any_at run_next_ascii_at run_next_end_at iterAt_heap iterAt_size below_iterAt)
def Tabs (w : World) : Prop := Lib.Utf8Tabs 0 1 w
theorem Tabs.below {w w1 : World} (h : Tabs w) (hb : Below w.heap.size w w1) : Tabs w1 :=
  ⟨fun c hc => pw_cell_below hb (h.1 c hc), fun i hi => ⟨pw_cell_below hb (h.2 i hi).1, pw_cell_below hb (h.2 i hi).2⟩⟩
theorem lastRune_low (l : List UInt8) (h : l ≠ []) (ha : (l.getLast h).toNat < 128) : Lib.decodeLastL l = ((l.getLast h).toNat, 1) := by
  have e : l.getD (l.length - 1) 0 = l.getLast h := by
    rw [List.getLast_eq_getElem, List.getD_eq_getElem?_getD, List.getElem?_eq_getElem (by have := List.length_pos_iff.2 h; omega)]
    rfl
  unfold Lib.decodeLastL
  rw [if_neg h, e, if_pos ha]
theorem lastRune_high (l : List UInt8) (h : l ≠ []) (ha : ¬ (l.getLast h).toNat < 128) : 128 ≤ (Lib.decodeLastL l).1 := by
  have hpos := List.length_pos_iff.2 h
  have e : l.getD (l.length - 1) 0 = l.getLast h := by
    rw [List.getLast_eq_getElem, List.getD_eq_getElem?_getD, List.getElem?_eq_getElem (by omega)]
    rfl
  have hlt := Lib.lastStart_lt l h
  generalize hst : Lib.lastStart l = st at hlt
  unfold Lib.decodeLastL
  rw [if_neg h, e, if_neg ha, hst]
  simp only
  split
  · rename_i hd
    have hsz : 0 < (⟨(l.drop st).toArray⟩ : ByteArray).size := by
      show 0 < (l.drop st).toArray.size
      rw [List.size_toArray, List.length_drop]; omega
    have hget : ((⟨(l.drop st).toArray⟩ : ByteArray)[0]'hsz) = l[st]'hlt := by
      show (l.drop st).toArray[0]'(by rw [List.size_toArray, List.length_drop]; omega) = _
      simp
    by_cases hb : (l[st]'hlt).toNat < 128
    · exfalso
      have hdec : Lib.decodeL (l.drop st) = ((l[st]'hlt).toNat, 1) := by
        unfold Lib.decodeL
        rw [decode_ascii _ 0 hsz (by rw [hget]; exact hb), hget]
      rw [hdec] at hd
      simp only at hd
      apply ha
      rw [List.getLast_eq_getElem]
      have : l.length - 1 = st := by omega
      simp only [this]
      exact hb
    · unfold Lib.decodeL
      exact (decode_high _ 0 hsz (by rw [hget]; omega)).1
  · decide
def cutR (set s : ByteArray) : ByteArray := ⟨((s.data.toList.reverse.dropWhile fun b => inSet set b.toNat).reverse).toArray⟩
theorem cutR_empty (set s : ByteArray) (h : ¬ 0 < s.size) : cutR set s = s := by
  have hl : s.data.toList = [] := by
    apply List.eq_nil_of_length_eq_zero
    rw [Array.length_toList]
    show s.size = 0
    omega
  unfold cutR
  rw [hl]
  cases s with
  | mk d =>
    have : d = #[] := by apply Array.ext'; simpa using hl
    subst this
    rfl
theorem toList_ne {s : ByteArray} (h : 0 < s.size) : s.data.toList ≠ [] := by
  intro e
  have : s.data.toList.length = s.size := by rw [Array.length_toList]; rfl
  rw [e] at this
  simp at this
  omega
theorem cutR_stop (set s : ByteArray) (h : 0 < s.size) (hl : inSet set (s.data.toList.getLast (toList_ne h)).toNat = false) : cutR set s = s := by
  have hne := toList_ne h
  have e : s.data.toList.reverse = s.data.toList.getLast hne :: s.data.toList.dropLast.reverse := by
    conv => lhs; rw [← List.dropLast_concat_getLast hne]
    rw [List.reverse_append]
    rfl
  unfold cutR
  rw [e, List.dropWhile_cons, if_neg (by rw [hl]; decide), ← e, List.reverse_reverse]
theorem cutR_step (set s : ByteArray) (h : 0 < s.size) (hl : inSet set (s.data.toList.getLast (toList_ne h)).toNat = true) : cutR set (s.extract 0 (s.size - 1)) = cutR set s := by
  have hne := toList_ne h
  have e : s.data.toList.reverse = s.data.toList.getLast hne :: s.data.toList.dropLast.reverse := by
    conv => lhs; rw [← List.dropLast_concat_getLast hne]
    rw [List.reverse_append]
    rfl
  have e2 : (s.extract 0 (s.size - 1)).data.toList = s.data.toList.dropLast := by
    rw [Lib.extract_data, List.drop_zero, List.dropLast_eq_take, Array.length_toList]
    rfl
  unfold cutR
  rw [e, e2, List.dropWhile_cons, if_pos hl]
theorem lastRune_in {set s : ByteArray} (hset : ascii set) (h : 0 < s.size) :
    inSet set (Lib.decodeLastL s.data.toList).1 = inSet set (s.data.toList.getLast (toList_ne h)).toNat ∧ (inSet set (Lib.decodeLastL s.data.toList).1 = true → (Lib.decodeLastL s.data.toList).2 = 1) := by
  by_cases ha : (s.data.toList.getLast (toList_ne h)).toNat < 128
  · rw [lastRune_low _ (toList_ne h) ha]
    exact ⟨rfl, fun _ => rfl⟩
  · have hh := lastRune_high _ (toList_ne h) ha
    have e := high_not_in hset hh
    exact ⟨by rw [e, high_not_in hset (by omega)], fun h => by rw [e] at h; cases h⟩
set_option maxHeartbeats 2000000 in
theorem cutRight_calls (s set : ByteArray) (hset : ascii set) (w : World) (hs : s.size ≤ 9223372036854775807) (hT : Tabs w) :
    Calls Tryz.prog 96 #[.string s, .string set] w fun e w' => e = .returned (.string (cutR set s)) ∧ Below w.heap.size w w' := by
  have HS := Aside0.mk hset
  have HT := Aside0.mk hT
  clear hset hT
  go_enter Tryz.func96, Tryz.ntmps96
  go_wp2
  go_loopg [0, 7] s.size (fun gg v0 _ wr => ∃ cur : ByteArray, v0 = .string cur ∧ cur.size ≤ gg ∧ cur.size ≤ 9223372036854775807 ∧ Aside0 (cutR set cur = cutR set s) ∧ Aside0 (Below w.heap.size w wr))
  case atStart => exact ⟨s, rfl, Nat.le_refl _, hs, ⟨rfl⟩, ⟨Below.refl _ _⟩⟩
  case round =>
    obtain ⟨cur, rfl, hg, hsz, HR, HB⟩ := hrel
    by_cases hp : 0 < cur.size
    · have hpi : (0 : Int) < (cur.size : Int) := by omega
      have HL := Aside0.mk (lastRune_in HS.out hp)
      have hcall := Tryz.utf8_DecodeLastRuneInString cur wr hsz (HT.out.below HB.out)
      obtain ⟨c, hc⟩ : ∃ c, (Lib.decodeLastL cur.data.toList).1 = c := ⟨_, rfl⟩
      obtain ⟨wd, hwd⟩ : ∃ c, (Lib.decodeLastL cur.data.toList).2 = c := ⟨_, rfl⟩
      rw [hc, hwd] at hcall HL
      clear hc hwd
      have HC := Aside0.mk hcall
      clear hcall
      go_wp2_with (go_at_call 107; refine HC.out.mono ?_; rintro e w1 ⟨rfl, hb1⟩; have HB1 := Aside0.mk (later_below HB.out hb1); clear hb1 HC)
      go_loopg [7] set.size (fun gg v7 wr2 => ∃ m : Nat, m ≤ set.size ∧ set.size - m ≤ gg ∧ v7 = .bool (inTake set c m) ∧ wr2 = w1.iter set m)
      case atStart => exact ⟨0, Nat.zero_le _, by omega, rfl, rfl⟩
      case round =>
        obtain ⟨m, hm, hg2, rfl, rfl⟩ := hrel
        by_cases hm2 : m < set.size
        · have hnx2 : ∀ ty, (Instr.next (.pointer (some ⟨w1.heap.size, 0, none⟩)) true ty).run Tryz.prog (w1.iter set m) = _ := fun ty => run_next_ascii w1 set m ty hm2 (ascii_at HS.out m hm2)
          have HSU := Aside0.mk (inTake_succ set c m hm2)
          obtain ⟨d, hd⟩ : ∃ d, (set[m]'hm2).toNat = d := ⟨_, rfl⟩
          rw [hd] at hnx2 HSU
          clear hd
          obtain ⟨q, hq⟩ : ∃ q, inTake set c m = q := ⟨_, rfl⟩
          rw [hq] at HSU ⊢
          clear hq
          cases q with
          | true =>
            go_wp2
            go_roundg (set.size - (m + 1))
            case measure => omega
            case rel => exact ⟨m + 1, by omega, by omega, by rw [HSU.out]; rfl, rfl⟩
          | false =>
            by_cases hcd : c = d
            · have h1 : (c == d) = true := beq_iff_eq.2 hcd
              have h2 : ((c : Int) == (d : Int)) = true := beq_iff_eq.2 (by omega)
              have hsu : inTake set c (m + 1) = true := by rw [HSU.out, hcd]; simp
              have HSV := Aside0.mk hsu
              clear hcd hsu
              go_wp2
              go_roundg (set.size - (m + 1))
              case measure => omega
              case rel => exact ⟨m + 1, by omega, by omega, by rw [HSV.out], rfl⟩
            · have h1 : (c == d) = false := beq_eq_false_iff_ne.2 hcd
              have h2 : ((c : Int) == (d : Int)) = false := beq_eq_false_iff_ne.2 (by omega)
              have hsu : inTake set c (m + 1) = false := by rw [HSU.out, Bool.false_or]; exact beq_eq_false_iff_ne.2 (fun h => hcd h.symm)
              have HSV := Aside0.mk hsu
              clear hcd hsu
              go_wp2
              go_roundg (set.size - (m + 1))
              case measure => omega
              case rel => exact ⟨m + 1, by omega, by omega, by rw [HSV.out], rfl⟩
        · have hnx2 : ∀ ty, (Instr.next (.pointer (some ⟨w1.heap.size, 0, none⟩)) true ty).run Tryz.prog (w1.iter set m) = _ := fun ty => run_next_end w1 set m ty hm2
          obtain rfl : m = set.size := by omega
          rw [inTake_all]
          obtain ⟨q, hq⟩ : ∃ q, inSet set c = q := ⟨_, rfl⟩
          rw [hq]
          have HV := Aside0.mk hq
          clear hq
          cases q with
          | true =>
            have hw1 := HL.out.2 HV.out
            subst hw1
            have HX := Aside0.mk (cutR_step set cur hp (by rw [← HL.out.1]; exact HV.out))
            go_wp2
            go_roundg (cur.size - 1)
            case measure => omega
            case rel => exact ⟨_, rfl, by simp, by simp; omega, ⟨HX.out.trans HR.out⟩, ⟨below_alloc HB1.out _⟩⟩
          | false =>
            have HX := Aside0.mk (cutR_stop set cur hp (by rw [← HL.out.1]; exact HV.out))
            go_wp2
            go_ret
            refine ⟨?_, below_alloc HB1.out _⟩
            rw [← HR.out, HX.out]
            rfl
    · have hpi : ¬ (0 : Int) < (cur.size : Int) := by omega
      have hz : cur.size = 0 := by omega
      have HX := Aside0.mk (cutR_empty set cur hp)
      have hpi2 : decide ((0 : Int) < (cur.size : Int)) = false := decide_eq_false hpi
      have hpi3 : decide (0 < cur.size) = false := decide_eq_false hp
      clear hz
      go_wp2
      go_ret
      refine ⟨?_, HB.out⟩
      rw [← HR.out, HX.out]
      rfl
end X
end Go.Proofs.YtgdkmadcegleiaaGreatDoor
namespace Go.Proofs.YtgdkmadcegleiaaGreatDoor
namespace X
def isShort (wide : Int) (n0 : Nat) (row : ByteArray) : Bool := !(decide (1 ≤ (row.size : Int)) && decide ((row.size : Int) ≤ wide)) || !(row.size == n0)
theorem enters_checked1 : ∀ args w, (callFunc 94 args).run Tryz.prog w = .ok (.enter 94 args) w := enters_of Tryz.func94 (by kernel_rfl) rfl
theorem enters_checked2 : ∀ args w, (callFunc 95 args).run Tryz.prog w = .ok (.enter 95 args) w := enters_of Tryz.func95 (by kernel_rfl) rfl
set_option maxHeartbeats 1000000 in
theorem checked1_pred {g1 g2 : Nat} {wide : Int} {A : Option Addr} {c : Nat} {rows : List ByteArray} {w : World} (h1 : w.cell? ⟨g1, 0, none⟩ = some (.int .i64 wide)) (h2 : w.cell? ⟨g2, 0, none⟩ = some (.slice A rows.length c)) (hr : Kd.C Kd.string w A rows.length rows) :
    PredK 94 #[.pointer (some ⟨g1, 0, none⟩), .pointer (some ⟨g2, 0, none⟩)] Kd.string cell1 rows (isShort wide (rows.getD 0 ByteArray.empty).size) w := by
  intro x hx W cs hb hK
  have e : cs = [.string x] := hK
  subst e
  have hn : 0 < rows.length := List.length_pos_of_mem hx
  have HR := Aside0.mk (Kd.C_below hr hb)
  have k1 : W.cell? ⟨g1, 0, none⟩ = some (.int .i64 wide) := pw_cell_below hb h1
  have k2 : W.cell? ⟨g2, 0, none⟩ = some (.slice A rows.length c) := pw_cell_below hb h2
  simp only [cell1, List.getD_cons_zero]
  show Calls Tryz.prog 94 #[.string x, .pointer (some ⟨g1, 0, none⟩), .pointer (some ⟨g2, 0, none⟩)] W _
  obtain ⟨n, hn2⟩ : ∃ n, rows.length = n := ⟨_, rfl⟩
  rw [hn2] at k2 hn HR
  have HN := Aside0.mk hn
  clear hb h1 h2 hK hr hx hn2
  obtain ⟨ad, rfl, hcell⟩ := Kd.at_string HR.out 0 (Int.le_refl 0) (by omega)
  have hc0 : W.cell? ad = some (.string (rdOf ByteArray.empty rows 0)) := by rw [← hcell]; simp [Addr.add]
  have e0 : rdOf ByteArray.empty rows 0 = rows.getD 0 ByteArray.empty := rfl
  rw [e0] at hc0
  generalize hr0 : rows.getD 0 ByteArray.empty = r0 at hc0
  clear hcell e0 hr0
  have hni : (0 : Int) < (n : Int) := by omega
  cases hq : (decide (1 ≤ (x.size : Int)) && decide ((x.size : Int) ≤ wide)) with
  | false =>
    have hs : isShort wide r0.size x = true := by unfold isShort; rw [hq]; rfl
    rw [hs]
    have HQ := Aside0.mk hq
    clear hq hs
    go_enter Tryz.func94, Tryz.ntmps94
    go_wp2_with (go_at_call 83; refine (z16_.calls 1 wide _ 1 [(x.size : Int)] false _ (C_lit1 _ _ _ _ (by simp)) (Nat.le_refl 1) (by unfold z16_.f; rw [List.all_cons, HQ.out]; rfl)).mono ?_; rintro e w' ⟨rfl, hb1⟩; have HB1 := Aside0.mk (below_then (below_alloc (Below.refl _ _) _) (by simp) hb1); clear hb1)
    go_ret
    exact ⟨rfl, HB1.out⟩
  | true =>
    have HQ := Aside0.mk hq
    clear hq
    by_cases hxe : x.size = r0.size
    · have hs : isShort wide r0.size x = false := by unfold isShort; rw [HQ.out, hxe]; simp
      rw [hs]
      have hb1 : (x.size == r0.size) = true := beq_iff_eq.2 hxe
      have hb2 : ((x.size : Int) == (r0.size : Int)) = true := beq_iff_eq.2 (by omega)
      have hb3 : ((x.size : Int) != (r0.size : Int)) = false := bne_eq_false_iff_eq.2 (by omega)
      clear hs hxe
      go_enter Tryz.func94, Tryz.ntmps94
      go_wp2_with (go_at_call 83; refine (z16_.calls 1 wide _ 1 [(x.size : Int)] true _ (C_lit1 _ _ _ _ (by simp)) (Nat.le_refl 1) (by unfold z16_.f; rw [List.all_cons, HQ.out]; rfl)).mono ?_; rintro e w' ⟨rfl, hb1⟩; have HB1 := Aside0.mk (below_then (below_alloc (Below.refl _ _) _) (by simp) hb1); clear hb1; have k2' := pw_cell_below HB1.out k2; have hc0' := pw_cell_below HB1.out hc0)
      go_ret
      exact ⟨rfl, HB1.out⟩
    · have hs : isShort wide r0.size x = true := by unfold isShort; rw [beq_eq_false_iff_ne.2 hxe]; simp
      rw [hs]
      have hb1 : (x.size == r0.size) = false := beq_eq_false_iff_ne.2 hxe
      have hb2 : ((x.size : Int) == (r0.size : Int)) = false := beq_eq_false_iff_ne.2 (by omega)
      have hb3 : ((x.size : Int) != (r0.size : Int)) = true := bne_iff_ne.2 (by omega)
      clear hs hxe
      go_enter Tryz.func94, Tryz.ntmps94
      go_wp2_with (go_at_call 83; refine (z16_.calls 1 wide _ 1 [(x.size : Int)] true _ (C_lit1 _ _ _ _ (by simp)) (Nat.le_refl 1) (by unfold z16_.f; rw [List.all_cons, HQ.out]; rfl)).mono ?_; rintro e w' ⟨rfl, hb1⟩; have HB1 := Aside0.mk (below_then (below_alloc (Below.refl _ _) _) (by simp) hb1); clear hb1; have k2' := pw_cell_below HB1.out k2; have hc0' := pw_cell_below HB1.out hc0)
      go_ret
      exact ⟨rfl, HB1.out⟩
def isOther (among row : ByteArray) : Bool := !(row.data.toList.all fun b => inSet among b.toNat)
theorem cut_other (among row : ByteArray) : ((cutR among (cutL among row)).data.toList = []) ↔ isOther among row = false := by
  unfold cutR cutL isOther
  simp only [Bool.not_eq_false', List.reverse_eq_nil_iff]
  generalize row.data.toList = l
  constructor
  · intro h
    rw [List.all_eq_true]
    intro b hb
    induction l with
    | nil => cases hb
    | cons x l ih =>
      rw [List.dropWhile_cons] at h
      split at h
      · rename_i hx
        rcases List.mem_cons.1 hb with rfl | hb
        · exact hx
        · exact ih h hb
      · rename_i hx
        exfalso
        have hz : ∀ z ∈ (x :: l).reverse, inSet among z.toNat = true := by
          generalize (x :: l).reverse = m at h
          intro z hz
          induction m with
          | nil => cases hz
          | cons y m ih2 =>
            rw [List.dropWhile_cons] at h
            split at h
            · rename_i hy
              rcases List.mem_cons.1 hz with rfl | hz
              · exact hy
              · exact ih2 h hz
            · cases h
        exact hx (hz x (by simp))
  · intro h
    rw [List.all_eq_true] at h
    have : l.dropWhile (fun b => inSet among b.toNat) = [] := by
      induction l with
      | nil => rfl
      | cons x l ih =>
        rw [List.dropWhile_cons, if_pos (h x (by simp))]
        exact ih (fun y hy => h y (by simp [hy]))
    rw [this]
    rfl
theorem cutL_size (among row : ByteArray) : (cutL among row).size ≤ row.size := by
  unfold cutL
  show (List.toArray _).size ≤ _
  rw [List.size_toArray]
  refine Nat.le_trans (List.dropWhile_sublist _).length_le ?_
  rw [Array.length_toList]
  exact Nat.le_refl _
set_option maxHeartbeats 1000000 in
theorem checked2_pred {g1 : Nat} {among : ByteArray} (ha : ascii among) {rows : List ByteArray} {w : World} (h1 : w.cell? ⟨g1, 0, none⟩ = some (.string among)) (hT : Tabs w) (hsz : ∀ r ∈ rows, r.size ≤ 9223372036854775807) :
    PredK 95 #[.pointer (some ⟨g1, 0, none⟩)] Kd.string cell1 rows (isOther among) w := by
  intro x hx W cs hb hK
  have e : cs = [.string x] := hK
  subst e
  have HS := Aside0.mk (hsz x hx)
  have HT := Aside0.mk (hT.below hb)
  have HA := Aside0.mk ha
  have k1 : W.cell? ⟨g1, 0, none⟩ = some (.string among) := pw_cell_below hb h1
  simp only [cell1, List.getD_cons_zero]
  show Calls Tryz.prog 95 #[.string x, .pointer (some ⟨g1, 0, none⟩)] W _
  clear hb h1 hK hx hsz hT ha
  have HO := Aside0.mk (cut_other among x)
  have hbb : (cutR among (cutL among x)).toList.isEmpty = !(isOther among x) := by
    rw [Lib.toList_data]
    cases hq : isOther among x with
    | false => rw [HO.out.2 hq]; rfl
    | true =>
      have : (cutR among (cutL among x)).data.toList ≠ [] := fun e => by rw [HO.out.1 e] at hq; cases hq
      simpa using this
  go_enter Tryz.func95, Tryz.ntmps95
  go_wp2
  go_region_held3 (fun w' => w'.cell? ⟨g1, 0, none⟩ = some (.string among) ∧ Aside0 (Below W.heap.size W w'))
    (first | exact ⟨k1, ⟨below_drew (Below.refl _ _)⟩⟩ | (go_split_ands; exact ⟨pw_cell_below hb1 (by assumption), ⟨later_below (Aside0.out ‹_›) hb1⟩⟩))
    ((first
      | (go_at_call 97; refine (cutLeft_calls x among HA.out _ HS.out).mono ?_; rintro e w1 ⟨rfl, hb1⟩)
      | (go_at_call 96; refine (cutRight_calls (cutL among x) among HA.out _ (Nat.le_trans (cutL_size _ _) HS.out) (HT.out.below ((‹_ ∧ Aside0 (Below W.heap.size W _)› : _ ∧ _).2.out))).mono ?_; rintro e w1 ⟨rfl, hb1⟩)))
  rename_i hh
  obtain ⟨hh1, hh2⟩ := hh
  clear hb1
  go_wp2
  go_ret
  exact ⟨by simp, hh2.out⟩
def checkedF (rows : List ByteArray) (high wide : Int) (among : ByteArray) : Int :=
  if (decide (1 ≤ (rows.length : Int)) && decide ((rows.length : Int) ≤ high)) = false then 4
  else if rows.any (isShort wide (rows.getD 0 ByteArray.empty).size) = true then 4
  else if rows.any (isOther among) = true then 2 else 0
set_option maxHeartbeats 1000000 in
set_option maxRecDepth 100000 in
theorem checked_calls (A : Option Addr) (c : Nat) (rows : List ByteArray) (high wide : Int) (among : ByteArray) (ha : ascii among) (hw : wide ≤ 9223372036854775807) (w : World) (hr : Kd.C Kd.string w A rows.length rows) (hT : Tabs w) :
    Calls Tryz.prog 82 #[.slice A rows.length c, .int .i64 high, .int .i64 wide, .string among] w fun e w' => e = .returned (.int .i64 (checkedF rows high wide among)) ∧ Below w.heap.size w w' := by
  have HR := Aside0.mk hr
  have HT := Aside0.mk hT
  have HA := Aside0.mk ha
  have HW := Aside0.mk hw
  obtain ⟨r, hres⟩ : ∃ r, checkedF rows high wide among = r := ⟨_, rfl⟩
  rw [hres]
  have HRES := Aside0.mk hres
  clear hr hT ha hw hres
  cases hq : (decide (1 ≤ (rows.length : Int)) && decide ((rows.length : Int) ≤ high)) with
  | false =>
    have HQ := Aside0.mk hq
    obtain rfl : r = 4 := by rw [← HRES.out]; unfold checkedF; rw [if_pos hq]
    clear hq
    go_enter Tryz.func82, Tryz.ntmps82
    go_wp2_with (go_at_call 83; refine (z16_.calls 1 high _ 1 [(rows.length : Int)] false _ (C_lit1 _ _ _ _ (by simp)) (Nat.le_refl 1) (by unfold z16_.f; rw [List.all_cons, HQ.out]; rfl)).mono ?_; rintro e w' ⟨rfl, hb1⟩; have HB1 := Aside0.mk (below_then (below_alloc (below_alloc (below_alloc (below_alloc (Below.refl _ _) _) _) _) _) (by simp; omega) hb1); clear hb1)
    go_ret
    exact ⟨rfl, HB1.out⟩
  | true =>
    have HQ := Aside0.mk hq
    clear hq
    cases hs : rows.any (isShort wide (rows.getD 0 ByteArray.empty).size) with
    | true =>
      have HS := Aside0.mk hs
      obtain rfl : r = 4 := by rw [← HRES.out]; unfold checkedF; rw [if_neg (by rw [HQ.out]; decide), if_pos hs]
      clear hs
      go_enter Tryz.func82, Tryz.ntmps82
      go_wp2_with fail
      refine (z16_.calls 1 high _ 1 [(rows.length : Int)] true _ (C_lit1 _ _ _ _ (by simp)) (Nat.le_refl 1) (by unfold z16_.f; rw [List.all_cons, HQ.out]; rfl)).mono ?_
      rintro e w1 ⟨rfl, hb1⟩
      have k1 : w1.cell? ⟨w.heap.size, 0, none⟩ = some (.slice A rows.length c) := pw_cell_below hb1 (keep_cell _ (keep_cell _ (keep_cell _ (box_cell _ _ _ rfl))))
      have k2 : w1.cell? ⟨w.heap.size + 1, 0, none⟩ = some (.int .i64 wide) := pw_cell_below hb1 (keep_cell _ (keep_cell _ (box_cell _ _ _ (by simp))))
      have k3 : w1.cell? ⟨w.heap.size + 1 + 1, 0, none⟩ = some (.string among) := pw_cell_below hb1 (keep_cell _ (box_cell _ _ _ (by simp)))
      have HB1 := Aside0.mk (below_then (below_alloc (below_alloc (below_alloc (below_alloc (Below.refl _ _) _) _) _) _) (by simp; omega) hb1)
      clear hb1
      go_wp2_with fail
      refine (contains_str enters_checked1 (Kd.C_below HR.out HB1.out) (checked1_pred k2 k1 (Kd.C_below HR.out HB1.out))).mono ?_
      rintro e w2 ⟨rfl, hb2⟩
      rw [HS.out]
      have HB2 := Aside0.mk (later_below HB1.out hb2)
      clear hb2
      go_wp2
      go_ret
      exact ⟨rfl, HB2.out⟩
    | false =>
      have HS := Aside0.mk hs
      have HZ : Aside0 (∀ x ∈ rows, x.size ≤ 9223372036854775807) := ⟨fun x hx => by
        rw [List.any_eq_false] at hs
        have h1 := hs x hx
        unfold isShort at h1
        simp at h1
        have := HW.out
        omega⟩
      clear hs
      have hr3 : r = if rows.any (isOther among) = true then 2 else 0 := by rw [← HRES.out]; unfold checkedF; rw [if_neg (by rw [HQ.out]; decide), if_neg (by rw [HS.out]; decide)]
      cases ho : rows.any (isOther among) with
      | true =>
        have HO := Aside0.mk ho
        obtain rfl : r = 2 := by rw [hr3, if_pos ho]
        clear ho hr3
        go_enter Tryz.func82, Tryz.ntmps82
        go_wp2_with fail
        refine (z16_.calls 1 high _ 1 [(rows.length : Int)] true _ (C_lit1 _ _ _ _ (by simp)) (Nat.le_refl 1) (by unfold z16_.f; rw [List.all_cons, HQ.out]; rfl)).mono ?_
        rintro e w1 ⟨rfl, hb1⟩
        have k1 : w1.cell? ⟨w.heap.size, 0, none⟩ = some (.slice A rows.length c) := pw_cell_below hb1 (keep_cell _ (keep_cell _ (keep_cell _ (box_cell _ _ _ rfl))))
        have k2 : w1.cell? ⟨w.heap.size + 1, 0, none⟩ = some (.int .i64 wide) := pw_cell_below hb1 (keep_cell _ (keep_cell _ (box_cell _ _ _ (by simp))))
        have k3 : w1.cell? ⟨w.heap.size + 1 + 1, 0, none⟩ = some (.string among) := pw_cell_below hb1 (keep_cell _ (box_cell _ _ _ (by simp)))
        have HB1 := Aside0.mk (below_then (below_alloc (below_alloc (below_alloc (below_alloc (Below.refl _ _) _) _) _) _) (by simp; omega) hb1)
        clear hb1
        go_wp2_with fail
        refine (contains_str enters_checked1 (Kd.C_below HR.out HB1.out) (checked1_pred k2 k1 (Kd.C_below HR.out HB1.out))).mono ?_
        rintro e w2 ⟨rfl, hb2⟩
        rw [HS.out]
        have HB2 := Aside0.mk (later_below HB1.out hb2)
        have k1' := pw_cell_below hb2 k1
        have k3' := pw_cell_below hb2 k3
        clear hb2 k1 k2 k3
        go_wp2_with fail
        refine (contains_str enters_checked2 (Kd.C_below HR.out HB2.out) (checked2_pred HA.out k3' (HT.out.below HB2.out) HZ.out)).mono ?_
        rintro e w3 ⟨rfl, hb3⟩
        rw [HO.out]
        have HB3 := Aside0.mk (later_below HB2.out hb3)
        clear hb3
        go_wp2
        go_ret
        exact ⟨rfl, HB3.out⟩
      | false =>
        have HO := Aside0.mk ho
        obtain rfl : r = 0 := by rw [hr3, if_neg (by rw [ho]; decide)]
        clear ho hr3
        go_enter Tryz.func82, Tryz.ntmps82
        go_wp2_with fail
        refine (z16_.calls 1 high _ 1 [(rows.length : Int)] true _ (C_lit1 _ _ _ _ (by simp)) (Nat.le_refl 1) (by unfold z16_.f; rw [List.all_cons, HQ.out]; rfl)).mono ?_
        rintro e w1 ⟨rfl, hb1⟩
        have k1 : w1.cell? ⟨w.heap.size, 0, none⟩ = some (.slice A rows.length c) := pw_cell_below hb1 (keep_cell _ (keep_cell _ (keep_cell _ (box_cell _ _ _ rfl))))
        have k2 : w1.cell? ⟨w.heap.size + 1, 0, none⟩ = some (.int .i64 wide) := pw_cell_below hb1 (keep_cell _ (keep_cell _ (box_cell _ _ _ (by simp))))
        have k3 : w1.cell? ⟨w.heap.size + 1 + 1, 0, none⟩ = some (.string among) := pw_cell_below hb1 (keep_cell _ (box_cell _ _ _ (by simp)))
        have HB1 := Aside0.mk (below_then (below_alloc (below_alloc (below_alloc (below_alloc (Below.refl _ _) _) _) _) _) (by simp; omega) hb1)
        clear hb1
        go_wp2_with fail
        refine (contains_str enters_checked1 (Kd.C_below HR.out HB1.out) (checked1_pred k2 k1 (Kd.C_below HR.out HB1.out))).mono ?_
        rintro e w2 ⟨rfl, hb2⟩
        rw [HS.out]
        have HB2 := Aside0.mk (later_below HB1.out hb2)
        have k1' := pw_cell_below hb2 k1
        have k3' := pw_cell_below hb2 k3
        clear hb2 k1 k2 k3
        go_wp2_with fail
        refine (contains_str enters_checked2 (Kd.C_below HR.out HB2.out) (checked2_pred HA.out k3' (HT.out.below HB2.out) HZ.out)).mono ?_
        rintro e w3 ⟨rfl, hb3⟩
        rw [HO.out]
        have HB3 := Aside0.mk (later_below HB2.out hb3)
        clear hb3
        go_wp2
        go_ret
        exact ⟨rfl, HB3.out⟩
theorem ascii_colours : ascii ⟨#[48, 49, 50, 51]⟩ := by intro d hd; simp at hd; rcases hd with rfl | rfl | rfl | rfl <;> decide
theorem ascii_signs : ascii ⟨#[46, 35]⟩ := by intro d hd; simp at hd; rcases hd with rfl | rfl <;> decide
def lattice_Check.f (l0 : List ByteArray) : Option Int := some (checkedF l0 8 8 ⟨#[48, 49, 50, 51]⟩)
theorem lattice_Check.calls (A0 : Option Addr) (c0 : Nat) (l0 : List ByteArray) (r : Int) (w : World) (hr0 : Kd.C Kd.string w A0 l0.length l0) (_hc0 : l0.length ≤ c0) (h : lattice_Check.f l0 = some r) (hT : Tabs w) :
    Calls Tryz.prog 58 #[.slice A0 l0.length c0] w fun e w' => e = .returned (.int .i64 r) ∧ Below w.heap.size w w' := by
  obtain rfl := Option.some.inj h
  have HR := Aside0.mk hr0
  have HT := Aside0.mk hT
  clear hr0 hT h
  go_enter Tryz.func58, Tryz.ntmps58
  go_wp2_with (go_at_call 82; refine (checked_calls A0 c0 l0 8 8 _ ascii_colours (by decide) _ HR.out HT.out).mono ?_; rintro e w' ⟨rfl, hb⟩)
  go_ret
  exact ⟨rfl, hb⟩
def lattice_Bars.f (l0 : List ByteArray) : Option Int := some (checkedF l0 4 4 ⟨#[46, 35]⟩)
theorem lattice_Bars.calls (A0 : Option Addr) (c0 : Nat) (l0 : List ByteArray) (r : Int) (w : World) (hr0 : Kd.C Kd.string w A0 l0.length l0) (_hc0 : l0.length ≤ c0) (h : lattice_Bars.f l0 = some r) (hT : Tabs w) :
    Calls Tryz.prog 60 #[.slice A0 l0.length c0] w fun e w' => e = .returned (.int .i64 r) ∧ Below w.heap.size w w' := by
  obtain rfl := Option.some.inj h
  have HR := Aside0.mk hr0
  have HT := Aside0.mk hT
  clear hr0 hT h
  go_enter Tryz.func60, Tryz.ntmps60
  go_wp2_with (go_at_call 82; refine (checked_calls A0 c0 l0 4 4 _ ascii_signs (by decide) _ HR.out HT.out).mono ?_; rintro e w' ⟨rfl, hb⟩)
  go_ret
  exact ⟨rfl, hb⟩
end X
end Go.Proofs.YtgdkmadcegleiaaGreatDoor
namespace Go.Proofs.YtgdkmadcegleiaaGreatDoor
namespace PLat
open X
attribute [local go_sem] max2_int min2_int max_two min_two max_three min_three max_four min_four   -- for this text's walks alone
def errW : Option Int → Value
  | none => .nilIface
  | some c => .iface 0 (.int .i64 c)
theorem errW_none : errW none = .nilIface := rfl
theorem errW_some (c : Int) : errW (some c) = .iface 0 (.int .i64 c) := rfl
theorem info3 : (Tryz.prog.info? 3).map (fun i => (i.zero, i.size, i.bytes)) = some (some (.int .i64 0), 1, 8) := by kernel_rfl
end PLat
end Go.Proofs.YtgdkmadcegleiaaGreatDoor
namespace Go.Proofs.YtgdkmadcegleiaaGreatDoor
namespace Sq
section
variable {w W W' : World} {g g' : Nat} {o : Obj}
theorem kX (h : w.heap[g]? = some o) (hs : w.heap[g]? = some o → W.heap[g]? = some o := by intro h_; (with_reducible repeat (first | refine blk_drewN ?_ _ | refine blk_drew ?_ | refine blk_alloc ?_ _)); exact h_) : W.heap[g]? = some o := hs h
theorem kB (h : Aside0 (w.heap[g]? = some o)) (hb : Below W.heap.size W W') (hs : w.heap[g]? = some o → W.heap[g]? = some o := by intro h_; (with_reducible repeat (first | refine blk_drewN ?_ _ | refine blk_drew ?_ | refine blk_alloc ?_ _)); exact h_) : Aside0 (W'.heap[g]? = some o) := ⟨blk_below (hs h.out) hb⟩
theorem kN (h : Aside0 (w.heap[g]? = some o)) (hg : g' = W.heap.size) (hs : w.heap[g]? = some o → W.heap[g]? = some o := by intro h_; (with_reducible repeat (first | refine blk_drewN ?_ _ | refine blk_drew ?_ | refine blk_alloc ?_ _)); exact h_) : Aside0 (g ≠ g') := ⟨by rw [hg]; exact Nat.ne_of_lt (blk_lt (hs h.out))⟩
theorem kM (h : Aside0 (w.heap[g]? = some o)) (hg : g' = W.heap.size) (hs : w.heap[g]? = some o → W.heap[g]? = some o := by intro h_; (with_reducible repeat (first | refine blk_drewN ?_ _ | refine blk_drew ?_ | refine blk_alloc ?_ _)); exact h_) : Aside0 (g' ≠ g) := ⟨by rw [hg]; exact Nat.ne_of_gt (blk_lt (hs h.out))⟩
theorem kF (h : Aside0 (w.heap[g]? = some o)) (n : Aside0 (g ≠ g')) (hs : w.heap[g]? = some o → g ≠ g' → W.heap[g]? = some o := by intro h_ n_; (with_reducible repeat (first | refine blk_drewN ?_ _ | refine blk_drew ?_ | refine blk_alloc ?_ _ | refine blk_far ?_ n_ _)); exact h_) : W.heap[g]? = some o := hs h.out n.out
theorem kP {t : TypeId} {c0 c2 : Array Value} (h : Aside0 (w.heap[g]? = some (.cells c0 t (0, 0)))) (hs : w.heap[g]? = some (.cells c0 t (0, 0)) → W.heap[g]? = some (.cells c2 t (0, 0)) := by intro h_; (repeat' (first | exact h_ | (with_reducible refine blk_drewN ?_ _) | (with_reducible refine blk_drew ?_) | (with_reducible refine blk_alloc ?_ _) | (with_reducible apply blk_put))); all_goals (first | (simp only [List.setIfInBounds_toArray, List.set_cons_zero, List.set_cons_succ]; first | done | rfl) | rfl)) : W.heap[g]? = some (.cells c2 t (0, 0)) := hs h.out
theorem bX {W0 : World} (h : Aside0 (Below w.heap.size w W0)) (hs : Below w.heap.size w W0 → Below w.heap.size w W := by intro h_; repeat (first | (with_reducible first | exact h_ | apply below_alloc | apply pw_below_drewN | apply below_drew1 | refine below_set ?_ (Aside0.out (by assumption))) | exact h_)) : Below w.heap.size w W := hs h.out
theorem bS {W0 : World} (h : Aside0 (Below w.heap.size w W0)) (hb : Below W.heap.size W W') (hs : Below w.heap.size w W0 → Below w.heap.size w W := by intro h_; repeat (first | (with_reducible first | exact h_ | apply below_alloc | apply pw_below_drewN | apply below_drew1 | refine below_set ?_ (Aside0.out (by assumption))) | exact h_)) : Aside0 (Below w.heap.size w W') := ⟨below_step (hs h.out) hb⟩
theorem bG {W0 : World} (h : Aside0 (Below w.heap.size w W0)) (hg : g = W.heap.size) (hs : Below w.heap.size w W0 → Below w.heap.size w W := by intro h_; repeat (first | (with_reducible first | exact h_ | apply below_alloc | apply pw_below_drewN | apply below_drew1 | refine below_set ?_ (Aside0.out (by assumption))) | exact h_)) : Aside0 (w.heap.size ≤ g) := ⟨by rw [hg]; exact below_size (hs h.out)⟩
end
section
variable {α : Type} {d : Kd α} {e base : Nat} {w W W' : World} {ok : Nat → Prop} {v : Value} {xs : List α}
theorem rX (h : Kd.R d e w base ok v xs) (hs : Kd.R d e w base ok v xs → Kd.R d e W base ok v xs := by intro h_; (with_reducible repeat (first | apply Kd.R_alloc | apply Kd.R_drewN | apply Kd.R_drew)); exact h_) : Kd.R d e W base ok v xs := hs h
theorem rB (h : Aside0 (Kd.R d e w base ok v xs)) (hb : Below W.heap.size W W') (hs : Kd.R d e w base ok v xs → Kd.R d e W base ok v xs := by intro h_; (with_reducible repeat (first | apply Kd.R_alloc | apply Kd.R_drewN | apply Kd.R_drew)); exact h_) : Aside0 (Kd.R d e W' base ok v xs) := ⟨Kd.R_below (hs h.out) hb⟩
end
section
variable {P : Program} {ops : Array Oper} {Q : Exit → Act → World → Prop} {md : Region.Mode} {S : World → Prop} {ds : List Nat}
theorem oneA {T : Bool × List (List Nat × List Nat)} {i : Nat} {N : Option Tmp} {oi : Oper} {fuel : Nat} {l l' : Array Bool} {a : Act} {w : World} (hT : Aside0 (rtab md ops = T))
    (h : ∀ K : Act → World → Prop, Shut (∀ a' w', S w' → (S w' → wpAnyLast P md ops Q S ds fuel l' a' w') → K a' w') → if Region.wanted oi (yielded ops a.tmps) = true then Oper.wp P oi a w K Q else K (a.put N undef) w)
    (hi : ops[i]? = some oi := by rfl) (hN : oi.dst = N := by rfl) (_hl : l.setIfInBounds i true = l' := by (simp only [List.setIfInBounds_toArray, List.set_cons_zero, List.set_cons_succ]); rfl) (hb : (readyT T.2 l.toList == [i] && l.toList.set i true == l'.toList) = true := by kernel_rfl) (hd : i ∉ ds := by decide) : wpAnyLast P md ops Q S ds (fuel + 1) l a w :=
  one_ l' hi hN (one_of hT.out hb) hd h
theorem normA {N : Option Tmp} {v : Value} {fuel : Nat} {l : Array Bool} {a a' : Act} {w : World} (h : wpAnyLast P md ops Q S ds fuel l a' w)
    (ha : a.put N v = a' := by (simp only [Act.put, List.setIfInBounds_toArray, List.set_cons_zero, List.set_cons_succ, i64_w, i32_w]); rfl) : wpAnyLast P md ops Q S ds fuel l (a.put N v) w := norm_ ha h
theorem pA {T : Bool × List (List Nat × List Nat)} (i n : Nat) {oi : Oper} {v : Value} {fuel : Nat} {l l' : Array Bool} {a a' : Act} {w : World} (hT : Aside0 (rtab md ops = T))
    (h : wpAnyLast P md ops Q S ds fuel l' a' w)
    (hi : ops[i]? = some oi := by rfl) (hN : oi.dst = some n := by rfl) (_hl : l.setIfInBounds i true = l' := by (simp only [List.setIfInBounds_toArray, List.set_cons_zero, List.set_cons_succ]); rfl) (hb : anyT T l.toList l'.toList i = true := by kernel_rfl)
    (hw : Region.wanted oi (yielded ops a.tmps) = true := by rfl) (hy : ∀ w', (execOp a.eval oi).run P w' = .ok (.value v) w' := by intro w'; go_simp; with_reducible rfl)
    (ha : a.put (some n) v = a' := by (simp only [Act.put, List.setIfInBounds_toArray, List.set_cons_zero, List.set_cons_succ, i64_w, i32_w]); rfl) (hQ : ∀ c a w, Q (.panic c) (a.put oi.dst v) w → Q (.panic c) a w := by exact fun _ _ _ h => h) : wpAnyLast P md ops Q S ds (fuel + 1) l a w :=
  pure_ l' hi hN (any_of hT.out hb) hQ (Or.inl ⟨hw, hy⟩) ha h
theorem pB {T : Bool × List (List Nat × List Nat)} (i n : Nat) {oi : Oper} {fuel : Nat} {l l' : Array Bool} {a a' : Act} {w : World} (hT : Aside0 (rtab md ops = T))
    (h : wpAnyLast P md ops Q S ds fuel l' a' w)
    (hi : ops[i]? = some oi := by rfl) (hN : oi.dst = some n := by rfl) (_hl : l.setIfInBounds i true = l' := by (simp only [List.setIfInBounds_toArray, List.set_cons_zero, List.set_cons_succ]); rfl) (hb : anyT T l.toList l'.toList i = true := by kernel_rfl)
    (hw : Region.wanted oi (yielded ops a.tmps) = false := by rfl) (ha : a.put (some n) undef = a' := by (simp only [Act.put, List.setIfInBounds_toArray, List.set_cons_zero, List.set_cons_succ, i64_w, i32_w]); rfl) (hQ : ∀ c a w, Q (.panic c) (a.put oi.dst undef) w → Q (.panic c) a w := by exact fun _ _ _ h => h) : wpAnyLast P md ops Q S ds (fuel + 1) l a w :=
  pure_ l' hi hN (any_of hT.out hb) hQ (Or.inr ⟨hw, rfl⟩) ha h
theorem tA {T : Bool × List (List Nat × List Nat)} {B : List Nat} (i n : Nat) {oi : Oper} {v : Value} {fuel : Nat} {l l' : Array Bool} {a a' : Act} {w : World} (hT : Aside0 (rtab md ops = T)) (hW : Aside0 (waitsOk T.2 B = true)) (hS : S w)
    (h : wpAnyLast P md ops Q S ds fuel l' a' w)
    (hi : ops[i]? = some oi := by rfl) (hN : oi.dst = some n := by rfl) (_hl : l.setIfInBounds i true = l' := by (simp only [List.setIfInBounds_toArray, List.set_cons_zero, List.set_cons_succ]); rfl) (hb : takeW T B ds l.toList l'.toList i = true := by kernel_rfl)
    (hw : Region.wanted oi (yielded ops a.tmps) = true := by rfl) (hy : ∀ w', S w' → (execOp a.eval oi).run P w' = .ok (.value v) w' := by rintro w' s_; (repeat (obtain ⟨_, s_⟩ := s_)); go_simp; with_reducible rfl)
    (ha : a.put (some n) v = a' := by (simp only [Act.put, List.setIfInBounds_toArray, List.set_cons_zero, List.set_cons_succ, i64_w, i32_w]); rfl) (hQ : ∀ c a w, Q (.panic c) (a.put oi.dst v) w → Q (.panic c) a w := by exact fun _ _ _ h => h) : wpAnyLast P md ops Q S ds (fuel + 1) l a w :=
  take_ l' hi hN (take_ofW hT.out hW.out hb) hQ (Or.inl ⟨hw, hy⟩) hS ha h
theorem goesB {oi : Oper} {N : Option Tmp} {a : Act} {w : World} {K : Act → World → Prop} {f : FuncId} {fn : Func} {ars : Array Operand} {ts : Array TypeId} (hf : P.funcs[f]? = some fn) (args : Array Value)
    (h : Calls P f args w fun e w' => ∃ v, e = .returned v ∧ K (a.put N v) w')
    (hname : (fn.name == "runtime.NumGoroutine") = false := by kernel_rfl) (hb : fn.body.isSome = true := by rfl) (hw : Region.wanted oi (yielded ops a.tmps) = true := by rfl) (hN : oi.dst = N := by rfl) (hop : oi.op = .call { callee := .value (.func f), args := ars, argTypes := ts } := by rfl)
    (hargs : ars.map a.eval = args := by (try simp only [List.map_toArray, List.map_cons, List.map_nil]); first | done | rfl | (simp only [List.length_drop, List.length_take]; rfl)) : if Region.wanted oi (yielded ops a.tmps) = true then Oper.wp P oi a w K Q else K (a.put N undef) w := goes_ hf hname hb args hw hN hop hargs h
theorem goesA {rest : List Oper} {oi : Oper} {a : Act} {w : World} (N : Option Tmp) {f : FuncId} {fn : Func} {ars : Array Operand} {ts : Array TypeId} (hf : P.funcs[f]? = some fn) (args : Array Value)
    (h : Calls P f args w fun e w' => ∃ v, e = .returned v ∧ wpList P ops Q rest (a.put N v) w')
    (hd : oi.dst = N := by rfl) (hg : oi.guard = none := by rfl) (hname : (fn.name == "runtime.NumGoroutine") = false := by kernel_rfl) (hb : fn.body.isSome = true := by rfl)
    (hop : oi.op = .call { callee := .value (.func f), args := ars, argTypes := ts } := by rfl) (hargs : ars.map a.eval = args := by (try simp only [List.map_toArray, List.map_cons, List.map_nil]); first | done | rfl | (simp only [List.length_drop, List.length_take]; rfl)) : wpList P ops Q (oi :: rest) a w := goesL_ N hd hg hf hname hb args hop hargs h
end
section
variable {P : Program} {ops : Array Oper} {rest : List Oper} {o : Oper} {a : Act} {Q : Exit → Act → World → Prop}
theorem boxA {W : World} {N : Tmp} {cs : Array Value} {t : TypeId}
    (h : ∀ g, g = W.heap.size → ∀ w1, w1.heap[g]? = some (.cells cs t (0, 0)) → Below W.heap.size W w1 → wpList P ops Q rest (a.put o.dst (.pointer (some ⟨g, 0, none⟩))) w1)
    (hgd : o.guard = none := by rfl) (hd : o.dst = some N := by rfl) (hrun : (execOp a.eval o).run P W = .ok (.value (.pointer (some ⟨W.heap.size, 0, none⟩))) (W.alloc (.cells cs t (0, 0))) := by first | (go_simp; done) | (go_simp; rfl)) : wpList P ops Q (o :: rest) a W := box_event hgd hd hrun h
end
theorem bc {w : World} {g : Nat} {t : TypeId} {cs : Array Value} {v : Value} (h : Aside0 (w.heap[g]? = some (.cells cs t (0, 0)))) (i : Nat) (e : cs[i]? = some v := by rfl) : w.cell? ⟨g, i, none⟩ = some v := (blk_cell h.out i).trans e
theorem bindA {α β : Type} {x : Option α} {f : α → Option β} {b : β} (h : x.bind f = some b) : ∃ a, Aside0 (x = some a) ∧ f a = some b := by
  obtain ⟨a, h1, h2⟩ := Option.bind_eq_some_iff.mp h
  exact ⟨a, ⟨h1⟩, h2⟩
theorem eqA {α : Type} {a b : α} (h : a = b := by first | rfl | (simp [errW_none, errW_some] <;> rfl) | (simp [*, errW_none, errW_some] <;> rfl)) : a = b := h
theorem eR {α : Type} {a b : α} (h : a = b := by first | rfl | (simp; done) | (simp [*]; done)) : a = b := h
theorem nn {a b : Nat} (h : Aside0 (a ≠ b)) : a ≠ b ∧ b ≠ a := ⟨h.out, h.out.symm⟩
theorem cc1 {w : World} {g t : Nat} {x0 : Value} (h : Aside0 (w.heap[g]? = some (.cells #[x0] t (0, 0)))) : w.cell? ⟨g, 0, none⟩ = some x0 ∧ w.frozen? ⟨g, 0, none⟩ = false :=
  ⟨(blk_cell h.out 0).trans rfl, blk_frozen h.out 0⟩
theorem cc2 {w : World} {g t : Nat} {x0 x1 : Value} (h : Aside0 (w.heap[g]? = some (.cells #[x0, x1] t (0, 0)))) : w.cell? ⟨g, 0, none⟩ = some x0 ∧ w.cell? ⟨g, 1, none⟩ = some x1 ∧ w.frozen? ⟨g, 0, none⟩ = false ∧ w.frozen? ⟨g, 1, none⟩ = false :=
  ⟨(blk_cell h.out 0).trans rfl, (blk_cell h.out 1).trans rfl, blk_frozen h.out 0, blk_frozen h.out 1⟩
theorem cc3 {w : World} {g t : Nat} {x0 x1 x2 : Value} (h : Aside0 (w.heap[g]? = some (.cells #[x0, x1, x2] t (0, 0)))) : w.cell? ⟨g, 0, none⟩ = some x0 ∧ w.cell? ⟨g, 1, none⟩ = some x1 ∧ w.cell? ⟨g, 2, none⟩ = some x2 ∧ w.frozen? ⟨g, 0, none⟩ = false ∧ w.frozen? ⟨g, 1, none⟩ = false ∧ w.frozen? ⟨g, 2, none⟩ = false :=
  ⟨(blk_cell h.out 0).trans rfl, (blk_cell h.out 1).trans rfl, (blk_cell h.out 2).trans rfl, blk_frozen h.out 0, blk_frozen h.out 1, blk_frozen h.out 2⟩
theorem cc4 {w : World} {g t : Nat} {x0 x1 x2 x3 : Value} (h : Aside0 (w.heap[g]? = some (.cells #[x0, x1, x2, x3] t (0, 0)))) : w.cell? ⟨g, 0, none⟩ = some x0 ∧ w.cell? ⟨g, 1, none⟩ = some x1 ∧ w.cell? ⟨g, 2, none⟩ = some x2 ∧ w.cell? ⟨g, 3, none⟩ = some x3 ∧ w.frozen? ⟨g, 0, none⟩ = false ∧ w.frozen? ⟨g, 1, none⟩ = false ∧ w.frozen? ⟨g, 2, none⟩ = false ∧ w.frozen? ⟨g, 3, none⟩ = false :=
  ⟨(blk_cell h.out 0).trans rfl, (blk_cell h.out 1).trans rfl, (blk_cell h.out 2).trans rfl, (blk_cell h.out 3).trans rfl, blk_frozen h.out 0, blk_frozen h.out 1, blk_frozen h.out 2, blk_frozen h.out 3⟩
theorem cc5 {w : World} {g t : Nat} {x0 x1 x2 x3 x4 : Value} (h : Aside0 (w.heap[g]? = some (.cells #[x0, x1, x2, x3, x4] t (0, 0)))) : w.cell? ⟨g, 0, none⟩ = some x0 ∧ w.cell? ⟨g, 1, none⟩ = some x1 ∧ w.cell? ⟨g, 2, none⟩ = some x2 ∧ w.cell? ⟨g, 3, none⟩ = some x3 ∧ w.cell? ⟨g, 4, none⟩ = some x4 ∧ w.frozen? ⟨g, 0, none⟩ = false ∧ w.frozen? ⟨g, 1, none⟩ = false ∧ w.frozen? ⟨g, 2, none⟩ = false ∧ w.frozen? ⟨g, 3, none⟩ = false ∧ w.frozen? ⟨g, 4, none⟩ = false :=
  ⟨(blk_cell h.out 0).trans rfl, (blk_cell h.out 1).trans rfl, (blk_cell h.out 2).trans rfl, (blk_cell h.out 3).trans rfl, (blk_cell h.out 4).trans rfl, blk_frozen h.out 0, blk_frozen h.out 1, blk_frozen h.out 2, blk_frozen h.out 3, blk_frozen h.out 4⟩
theorem cc6 {w : World} {g t : Nat} {x0 x1 x2 x3 x4 x5 : Value} (h : Aside0 (w.heap[g]? = some (.cells #[x0, x1, x2, x3, x4, x5] t (0, 0)))) : w.cell? ⟨g, 0, none⟩ = some x0 ∧ w.cell? ⟨g, 1, none⟩ = some x1 ∧ w.cell? ⟨g, 2, none⟩ = some x2 ∧ w.cell? ⟨g, 3, none⟩ = some x3 ∧ w.cell? ⟨g, 4, none⟩ = some x4 ∧ w.cell? ⟨g, 5, none⟩ = some x5 ∧ w.frozen? ⟨g, 0, none⟩ = false ∧ w.frozen? ⟨g, 1, none⟩ = false ∧ w.frozen? ⟨g, 2, none⟩ = false ∧ w.frozen? ⟨g, 3, none⟩ = false ∧ w.frozen? ⟨g, 4, none⟩ = false ∧ w.frozen? ⟨g, 5, none⟩ = false :=
  ⟨(blk_cell h.out 0).trans rfl, (blk_cell h.out 1).trans rfl, (blk_cell h.out 2).trans rfl, (blk_cell h.out 3).trans rfl, (blk_cell h.out 4).trans rfl, (blk_cell h.out 5).trans rfl, blk_frozen h.out 0, blk_frozen h.out 1, blk_frozen h.out 2, blk_frozen h.out 3, blk_frozen h.out 4, blk_frozen h.out 5⟩
theorem sX {α : Type} {d : Kd α} {w W : World} {A : Option Addr} {n : Nat} {xs : List α} (h : Kd.C d w A n xs) (hs : Kd.C d w A n xs → Kd.C d W A n xs := by intro h_; repeat (first | exact h_ | (with_reducible refine Kd.C_alloc ?_ _) | (with_reducible refine Kd.C_drewN ?_ _) | (with_reducible refine Kd.C_drew ?_))) : Kd.C d W A n xs := hs h
end Sq
end Go.Proofs.YtgdkmadcegleiaaGreatDoor
namespace Go.Proofs.YtgdkmadcegleiaaGreatDoor
namespace PLat
open Sq X
attribute [local go_sem] max2_int min2_int max_two min_two max_three min_three max_four min_four   -- for this text's walks alone
def z33_.f (l0 : List ByteArray) (a1_0 : Int) (a1_1 : Int) : Option (Bool) := if 0 < (l0.length : Int) then ((z16_.f 0 (wrap64 (((rdOf ByteArray.empty l0 0).size : Int) - 1)) (([a1_0] : List Int))).bind fun t106 => (if t106 = true then ((z16_.f 0 (wrap64 ((l0.length : Int) - 1)) (([a1_1] : List Int))).bind fun t110 => (some t110)) else (some false))) else (none)
def z33_.T1 : Bool × List (List Nat × List Nat) := (true, [([], []), ([0], [0]), ([1], [1]), ([2], [2]), ([3], [3]), ([], []), ([5], [5]), ([6], [6]), ([4, 7], [4, 7]), ([8, 8], [8]), ([9], [9]), ([10, 9], [9, 10]), ([11, 9], [9, 11]), ([9], [9]), ([13, 9], [9, 13]), ([14, 9], [9, 14]), ([12, 15, 9, 9], [9, 12, 15]), ([9, 16], [9, 16]), ([17, 16, 0, 1, 2, 3, 4, 5, 6, 7, 8, 9, 10, 11, 12, 13, 14, 15, 16, 17], [17])])
def z33_.B1 : List Nat := [0, 1, 3, 7, 15, 0, 32, 96, 255, 511, 1023, 2047, 4095, 1023, 9215, 25599, 65535, 131071, 262143]
theorem z33_.tab1 : rtab .any (opsOf Tryz.f63 1) = z33_.T1 := by kernel_rfl
theorem z33_.bits1 : waitsOk z33_.T1.2 z33_.B1 = true := by kernel_rfl
set_option maxHeartbeats 8000000 in
set_option maxRecDepth 100000 in
theorem z33_.calls (A0 : Option Addr) (c0 : Nat) (l0 : List ByteArray) (a1_0 : Int) (a1_1 : Int) (r : Bool) (w : World) (hr0 : Kd.C Kd.string w A0 l0.length l0) (hc0 : l0.length ≤ c0) (h : z33_.f l0 a1_0 a1_1 = some r) :
  Calls Tryz.prog 63 #[.slice A0 l0.length c0, .agg #[.int .i64 a1_0, .int .i64 a1_1]] w fun e w' => e = .returned (.bool r) ∧ Below w.heap.size w w' := by
 have hu84 := Tryz.underlying84
 have HR0 := Aside0.mk hr0
 have HC0 := Aside0.mk hc0
 clear hr0 hc0
 have HB := Aside0.mk (Below.refl w.heap.size w)
 have H : (if 0 < (l0.length : Int) then ((z16_.f 0 (wrap64 (((rdOf ByteArray.empty l0 0).size : Int) - 1)) (([a1_0] : List Int))).bind fun t106 => (if t106 = true then ((z16_.f 0 (wrap64 ((l0.length : Int) - 1)) (([a1_1] : List Int))).bind fun t110 => (some t110)) else (some false))) else (none)) = some r := h
 clear h
 by_cases c3 : 0 < (l0.length : Int)
 ·rw [if_pos c3] at H
  have c3b0 : decide (0 < (l0.length : Int)) = true := decide_eq_true c3
  have c3b1 : decide (0 < l0.length) = true := decide_eq_true (by omega)
  clear c3
  obtain ⟨y103, hy103⟩ : ∃ y_ : List Int, y_ = (([a1_0] : List Int)) := ⟨_, rfl⟩
  replace H : ((z16_.f 0 (wrap64 (((rdOf ByteArray.empty l0 0).size : Int) - 1)) y103).bind fun t106 => (if t106 = true then ((z16_.f 0 (wrap64 ((l0.length : Int) - 1)) (([a1_1] : List Int))).bind fun t110 => (some t110)) else (some false))) = some r := by first | (rw [hy103]; with_reducible exact H) | (have H2_ := (Option.bind_some _ _).symm.trans H; rw [hy103]; with_reducible exact H2_) | (have H2_ := (Option.bind_some _ _).symm.trans H; with_reducible exact H2_) | with_reducible exact H | (rw [hy103]; exact H) | exact H
  have Ny103 := Aside0.mk hy103
  clear hy103
  replace H := bindA H
  obtain ⟨t106, A4, H⟩ := H
  try dsimp only at H
  by_cases c5 : t106 = true
  ·subst c5
   have H1 : ((z16_.f 0 (wrap64 ((l0.length : Int) - 1)) (([a1_1] : List Int))).bind fun t110 => (some t110)) = some r := by rw [if_pos rfl] at H; exact H
   clear H
   have H := H1
   clear H1
   obtain ⟨y107, hy107⟩ : ∃ y_ : List Int, y_ = (([a1_1] : List Int)) := ⟨_, rfl⟩
   replace H : ((z16_.f 0 (wrap64 ((l0.length : Int) - 1)) y107).bind fun t110 => (some t110)) = some r := by first | (rw [hy107]; with_reducible exact H) | (have H2_ := (Option.bind_some _ _).symm.trans H; rw [hy107]; with_reducible exact H2_) | (have H2_ := (Option.bind_some _ _).symm.trans H; with_reducible exact H2_) | with_reducible exact H | (rw [hy107]; exact H) | exact H
   have Ny107 := Aside0.mk hy107
   clear hy107
   replace H := bindA H
   obtain ⟨t110, A6, H⟩ := H
   try dsimp only at H
   obtain rfl := Option.some.inj H
   go_enter Tryz.func63, Tryz.ntmps63
   try go_wp2_with (first | ((with_reducible refine gate_dst (N := 3) rfl ?_); (try (refine gate_guard (by rfl) ?_; dsimp only)); refine boxA (N := 3) (cs := #[.int .i64 a1_0, .int .i64 a1_1]) (t := 84) ?_; intro gb101 hg w7 hbox hb; have BK101 := Aside0.mk (hbox); have GE101 := bG HB hg; replace HB := bS HB hb; clear hb hbox hg))
   replace BK101 := Aside0.mk (blk_drew BK101.out)
   replace HB := Aside0.mk (below_drew1 HB.out)
   have p102 : 0 ≤ (0 : Int) := (by omega)
   have q102 : 0 < (l0.length : Int) := of_decide_eq_true (by first | (with_reducible assumption) | assumption)
   obtain ⟨ad102, e102, hx102_0⟩ := Kd.at_string HR0.out 0 p102 q102
   have hw102_0 := hx102_0
   (try rw [show ((0 : Int)).toNat = 0 from rfl] at hw102_0)
   (try rw [show 0 * 1 = 0 from rfl] at hw102_0)
   (try rw [Addr.add_zero'] at hw102_0)
   cases e102
   have qi102 : (0 < l0.length) = True := eq_true (by omega)
   (try rw [show ((0 : Int)).toNat = 0 from rfl] at hx102_0)
   (try rw [Addr.add_zero'] at hx102_0)
   replace hx102_0 := (HB.out.cell (World.block_lt_of_cell? w _ hx102_0)).trans hx102_0
   replace p102 := eq_true p102
   replace q102 := eq_true q102
   refine start_ (n := 19) (S := fun w' => w'.cell? ⟨gb101, 0, none⟩ = some (.int .i64 a1_0) ∧ w'.cell? ⟨gb101, 1, none⟩ = some (.int .i64 a1_1) ∧ w'.cell? ad102 = some (.string (rdOf ByteArray.empty l0 0))) (ds := []) #[false, false, false, false, false, false, false, false, false, false, false, false, false, false, false, false, false, false, false] (by kernel_rfl) rfl rfl ⟨bc BK101 0, bc BK101 1, ((HB.out.cell (World.block_lt_of_cell? w _ hw102_0)).trans hw102_0)⟩ (fun hHeld => ?_); refine with_tabW z33_.tab1 z33_.bits1 (fun HT_ HW_ => ?_)
   generalize w7.drew = w8 at BK101 HB hx102_0 hHeld ⊢
   refine pA 0 5 HT_ ?_
   refine pA 1 6 HT_ ?_
   refine pA 5 10 HT_ ?_
   refine tA 2 7 HT_ HW_ hHeld ?_
   refine pA 3 8 HT_ ?_
   refine pA 4 9 HT_ ?_
   refine tA 6 11 HT_ HW_ hHeld ?_
   refine oneA (i := 7) (N := some 12) HT_ (fun K hK => ?_)
   refine Kd.R_lit_step (Kd.int .i64) _ 3 ?hg (N := 12) ?hd (xs := ([a1_0] : List Int)) (inner := [.int .i64 a1_0]) (ok := fun _ => True) (okp := fun _ => True) ?hr ?hp (fun _ hk => hk) trivial (Below.refl _ _) (Nat.le_refl _) (by simp) ?_; (case hd => rfl); (case hg => rfl); (case hr => first | (go_simp; done) | (go_simp; rfl)); (case hp => exact (Reps.one (show Kd.M (Kd.int .i64) _ _ _ a1_0 [.int .i64 a1_0] from rfl) (Reps.none _ _)))
   intro v104 w9 ho10 hb hg_ hnew_
   clear hg_ hnew_
   (first | rw [← Ny103.out] at ho10 | (simp only [Int.reduceToNat] at ho10; rw [← Ny103.out] at ho10))
   have HO105 := Aside0.mk (Kd.R_lower ho10 (below_size (bX HB)))
   replace BK101 := kB BK101 hb
   replace HB := bS HB hb
   clear hb ho10
   obtain ⟨Ao11, co11, eo11⟩ := Kd.R_slice HO105.out
   (first | subst eo11 | (injection eo11 with f1_ f2_ f3_; have f4_ := f1_.symm; have f5_ := f3_.symm; clear f1_ f2_ f3_; subst f4_; subst f5_))
   refine hK.out _ _ ⟨bc BK101 0, bc BK101 1, ((HB.out.cell (World.block_lt_of_cell? w _ hw102_0)).trans hw102_0)⟩ (fun hHeld => ?_)
   clear hK K
   refine normA (N := some 12) ?_
   refine oneA (i := 8) (N := some 13) HT_ (fun K hK => ?_)
   refine goesB Tryz.func83 #[.int .i64 0, .int .i64 (wrap64 (((rdOf ByteArray.empty l0 0).size : Int) - 1)), .slice Ao11 y103.length co11] ?_
   with_reducible refine (z16_.calls 0 (wrap64 (((rdOf ByteArray.empty l0 0).size : Int) - 1)) _ _ y103 true _ ?side1 ?side2 A4.out).mono ?_
   (case side1 => exact sX (Kd.R_reads' HO105.out).2.2)
   (case side2 => exact (Kd.R_reads' HO105.out).2.1)
   rintro e w12 ⟨rfl, hb⟩
   refine ⟨_, rfl, ?_⟩
   replace HO105 := rB HO105 hb
   replace BK101 := kB BK101 hb
   replace HB := bS HB hb
   refine hK.out _ _ ⟨bc BK101 0, bc BK101 1, ((HB.out.cell (World.block_lt_of_cell? w _ hw102_0)).trans hw102_0)⟩ (fun hHeld => ?_)
   clear hK K
   refine normA (N := some 13) ?_
   refine pA 9 14 HT_ ?_
   refine pA 10 15 HT_ ?_
   refine pA 11 16 HT_ ?_
   refine pA 12 17 HT_ ?_
   refine pA 13 18 HT_ ?_
   refine tA 14 19 HT_ HW_ hHeld ?_
   refine oneA (i := 15) (N := some 20) HT_ (fun K hK => ?_)
   refine Kd.R_lit_step (Kd.int .i64) _ 3 ?hg (N := 20) ?hd (xs := ([a1_1] : List Int)) (inner := [.int .i64 a1_1]) (ok := fun _ => True) (okp := fun _ => True) ?hr ?hp (fun _ hk => hk) trivial (Below.refl _ _) (Nat.le_refl _) (by simp) ?_; (case hd => rfl); (case hg => rfl); (case hr => first | (go_simp; done) | (go_simp; rfl)); (case hp => exact (Reps.one (show Kd.M (Kd.int .i64) _ _ _ a1_1 [.int .i64 a1_1] from rfl) (Reps.none _ _)))
   intro v108 w13 ho14 hb hg_ hnew_
   clear hg_ hnew_
   (first | rw [← Ny107.out] at ho14 | (simp only [Int.reduceToNat] at ho14; rw [← Ny107.out] at ho14))
   have HO109 := Aside0.mk (Kd.R_lower (Kd.R_new' ho14 (Kd.R_lt (rX HO105.out))) (below_size (bX HB)))
   replace HO105 := Aside0.mk (Kd.R_elder' (rX HO105.out) (Kd.R_base ho14) hb)
   replace BK101 := kB BK101 hb
   replace HB := bS HB hb
   clear hb ho14
   obtain ⟨Ao15, co15, eo15⟩ := Kd.R_slice HO109.out
   (first | subst eo15 | (injection eo15 with f1_ f2_ f3_; have f4_ := f1_.symm; have f5_ := f3_.symm; clear f1_ f2_ f3_; subst f4_; subst f5_))
   refine hK.out _ _ ⟨bc BK101 0, bc BK101 1, ((HB.out.cell (World.block_lt_of_cell? w _ hw102_0)).trans hw102_0)⟩ (fun hHeld => ?_)
   clear hK K
   refine normA (N := some 20) ?_
   refine oneA (i := 16) (N := some 21) HT_ (fun K hK => ?_)
   refine goesB Tryz.func83 #[.int .i64 0, .int .i64 (wrap64 ((l0.length : Int) - 1)), .slice Ao15 y107.length co15] ?_
   with_reducible refine (z16_.calls 0 (wrap64 ((l0.length : Int) - 1)) _ _ y107 t110 _ ?side1 ?side2 A6.out).mono ?_
   (case side1 => exact sX (Kd.R_reads' HO109.out).2.2)
   (case side2 => exact (Kd.R_reads' HO109.out).2.1)
   rintro e w16 ⟨rfl, hb⟩
   refine ⟨_, rfl, ?_⟩
   replace HO105 := rB HO105 hb
   replace HO109 := rB HO109 hb
   replace BK101 := kB BK101 hb
   replace HB := bS HB hb
   refine hK.out _ _ ⟨bc BK101 0, bc BK101 1, ((HB.out.cell (World.block_lt_of_cell? w _ hw102_0)).trans hw102_0)⟩ (fun hHeld => ?_)
   clear hK K
   refine normA (N := some 21) ?_
   refine pA 17 22 HT_ ?_
   refine pA 18 4 HT_ ?_
   refine done_ (done_of HT_.out (by kernel_rfl)) ?_
   try go_wp2
   go_ret
   exact ⟨eqA, bX HB⟩
  ·replace c5 := Bool.eq_false_iff.mpr c5
   subst c5
   have H1 : (some false) = some r := by rw [if_neg (show ¬ (false = true) by decide)] at H; exact H
   clear H
   have H := H1
   clear H1
   obtain rfl := Option.some.inj H
   go_enter Tryz.func63, Tryz.ntmps63
   try go_wp2_with (first | ((with_reducible refine gate_dst (N := 3) rfl ?_); (try (refine gate_guard (by rfl) ?_; dsimp only)); refine boxA (N := 3) (cs := #[.int .i64 a1_0, .int .i64 a1_1]) (t := 84) ?_; intro gb101 hg w17 hbox hb; have BK101 := Aside0.mk (hbox); have GE101 := bG HB hg; replace HB := bS HB hb; clear hb hbox hg))
   replace BK101 := Aside0.mk (blk_drew BK101.out)
   replace HB := Aside0.mk (below_drew1 HB.out)
   have p102 : 0 ≤ (0 : Int) := (by omega)
   have q102 : 0 < (l0.length : Int) := of_decide_eq_true (by first | (with_reducible assumption) | assumption)
   obtain ⟨ad102, e102, hx102_0⟩ := Kd.at_string HR0.out 0 p102 q102
   have hw102_0 := hx102_0
   (try rw [show ((0 : Int)).toNat = 0 from rfl] at hw102_0)
   (try rw [show 0 * 1 = 0 from rfl] at hw102_0)
   (try rw [Addr.add_zero'] at hw102_0)
   cases e102
   have qi102 : (0 < l0.length) = True := eq_true (by omega)
   (try rw [show ((0 : Int)).toNat = 0 from rfl] at hx102_0)
   (try rw [Addr.add_zero'] at hx102_0)
   replace hx102_0 := (HB.out.cell (World.block_lt_of_cell? w _ hx102_0)).trans hx102_0
   replace p102 := eq_true p102
   replace q102 := eq_true q102
   refine start_ (n := 19) (S := fun w' => w'.cell? ⟨gb101, 0, none⟩ = some (.int .i64 a1_0) ∧ w'.cell? ⟨gb101, 1, none⟩ = some (.int .i64 a1_1) ∧ w'.cell? ad102 = some (.string (rdOf ByteArray.empty l0 0))) (ds := []) #[false, false, false, false, false, false, false, false, false, false, false, false, false, false, false, false, false, false, false] (by kernel_rfl) rfl rfl ⟨bc BK101 0, bc BK101 1, ((HB.out.cell (World.block_lt_of_cell? w _ hw102_0)).trans hw102_0)⟩ (fun hHeld => ?_); refine with_tabW z33_.tab1 z33_.bits1 (fun HT_ HW_ => ?_)
   generalize w17.drew = w18 at BK101 HB hx102_0 hHeld ⊢
   refine pA 0 5 HT_ ?_
   refine pA 1 6 HT_ ?_
   refine pA 5 10 HT_ ?_
   refine tA 2 7 HT_ HW_ hHeld ?_
   refine pA 3 8 HT_ ?_
   refine pA 4 9 HT_ ?_
   refine tA 6 11 HT_ HW_ hHeld ?_
   refine oneA (i := 7) (N := some 12) HT_ (fun K hK => ?_)
   refine Kd.R_lit_step (Kd.int .i64) _ 3 ?hg (N := 12) ?hd (xs := ([a1_0] : List Int)) (inner := [.int .i64 a1_0]) (ok := fun _ => True) (okp := fun _ => True) ?hr ?hp (fun _ hk => hk) trivial (Below.refl _ _) (Nat.le_refl _) (by simp) ?_; (case hd => rfl); (case hg => rfl); (case hr => first | (go_simp; done) | (go_simp; rfl)); (case hp => exact (Reps.one (show Kd.M (Kd.int .i64) _ _ _ a1_0 [.int .i64 a1_0] from rfl) (Reps.none _ _)))
   intro v104 w19 ho20 hb hg_ hnew_
   clear hg_ hnew_
   (first | rw [← Ny103.out] at ho20 | (simp only [Int.reduceToNat] at ho20; rw [← Ny103.out] at ho20))
   have HO105 := Aside0.mk (Kd.R_lower ho20 (below_size (bX HB)))
   replace BK101 := kB BK101 hb
   replace HB := bS HB hb
   clear hb ho20
   obtain ⟨Ao21, co21, eo21⟩ := Kd.R_slice HO105.out
   (first | subst eo21 | (injection eo21 with f1_ f2_ f3_; have f4_ := f1_.symm; have f5_ := f3_.symm; clear f1_ f2_ f3_; subst f4_; subst f5_))
   refine hK.out _ _ ⟨bc BK101 0, bc BK101 1, ((HB.out.cell (World.block_lt_of_cell? w _ hw102_0)).trans hw102_0)⟩ (fun hHeld => ?_)
   clear hK K
   refine normA (N := some 12) ?_
   refine oneA (i := 8) (N := some 13) HT_ (fun K hK => ?_)
   refine goesB Tryz.func83 #[.int .i64 0, .int .i64 (wrap64 (((rdOf ByteArray.empty l0 0).size : Int) - 1)), .slice Ao21 y103.length co21] ?_
   with_reducible refine (z16_.calls 0 (wrap64 (((rdOf ByteArray.empty l0 0).size : Int) - 1)) _ _ y103 false _ ?side1 ?side2 A4.out).mono ?_
   (case side1 => exact sX (Kd.R_reads' HO105.out).2.2)
   (case side2 => exact (Kd.R_reads' HO105.out).2.1)
   rintro e w22 ⟨rfl, hb⟩
   refine ⟨_, rfl, ?_⟩
   replace HO105 := rB HO105 hb
   replace BK101 := kB BK101 hb
   replace HB := bS HB hb
   refine hK.out _ _ ⟨bc BK101 0, bc BK101 1, ((HB.out.cell (World.block_lt_of_cell? w _ hw102_0)).trans hw102_0)⟩ (fun hHeld => ?_)
   clear hK K
   refine normA (N := some 13) ?_
   refine pA 9 14 HT_ ?_
   refine pB 10 15 HT_ ?_
   refine pB 11 16 HT_ ?_
   refine pB 12 17 HT_ ?_
   refine pB 13 18 HT_ ?_
   refine pB 14 19 HT_ ?_
   refine pB 15 20 HT_ ?_
   refine pB 16 21 HT_ ?_
   refine pA 17 22 HT_ ?_
   refine pA 18 4 HT_ ?_
   refine done_ (done_of HT_.out (by kernel_rfl)) ?_
   try go_wp2
   go_ret
   exact ⟨eqA, bX HB⟩
 ·rw [if_neg c3] at H
  exact absurd H (by simp)
def z57_.f (l0 : List ByteArray) (a1_0 : Int) (a1_1 : Int) (a2 : Int) (a3 : Int) : Option (Bool) := if (l0.length : Int) = 0 then (none) else (if 0 ≤ (Int.tmod (wrap64 ((wrap64 (a3 + (l0.length : Int))) - a1_1)) (l0.length : Int)) then (if (Int.tmod (wrap64 ((wrap64 (a3 + (l0.length : Int))) - a1_1)) (l0.length : Int)) < (l0.length : Int) then (if ((rdOf ByteArray.empty l0 (Int.tmod (wrap64 ((wrap64 (a3 + (l0.length : Int))) - a1_1)) (l0.length : Int))).size : Int) = 0 then (none) else (if 0 ≤ (Int.tmod (wrap64 ((wrap64 (a2 + ((rdOf ByteArray.empty l0 (Int.tmod (wrap64 ((wrap64 (a3 + (l0.length : Int))) - a1_1)) (l0.length : Int))).size : Int))) - a1_0)) ((rdOf ByteArray.empty l0 (Int.tmod (wrap64 ((wrap64 (a3 + (l0.length : Int))) - a1_1)) (l0.length : Int))).size : Int)) then (if (Int.tmod (wrap64 ((wrap64 (a2 + ((rdOf ByteArray.empty l0 (Int.tmod (wrap64 ((wrap64 (a3 + (l0.length : Int))) - a1_1)) (l0.length : Int))).size : Int))) - a1_0)) ((rdOf ByteArray.empty l0 (Int.tmod (wrap64 ((wrap64 (a3 + (l0.length : Int))) - a1_1)) (l0.length : Int))).size : Int)) < ((rdOf ByteArray.empty l0 (Int.tmod (wrap64 ((wrap64 (a3 + (l0.length : Int))) - a1_1)) (l0.length : Int))).size : Int) then (some ((bt (rdOf ByteArray.empty l0 (Int.tmod (wrap64 ((wrap64 (a3 + (l0.length : Int))) - a1_1)) (l0.length : Int))) (Int.tmod (wrap64 ((wrap64 (a2 + ((rdOf ByteArray.empty l0 (Int.tmod (wrap64 ((wrap64 (a3 + (l0.length : Int))) - a1_1)) (l0.length : Int))).size : Int))) - a1_0)) ((rdOf ByteArray.empty l0 (Int.tmod (wrap64 ((wrap64 (a3 + (l0.length : Int))) - a1_1)) (l0.length : Int))).size : Int))) == 46)) else (none)) else (none))) else (none)) else (none))
set_option maxHeartbeats 8000000 in
set_option maxRecDepth 100000 in
theorem z57_.calls (A0 : Option Addr) (c0 : Nat) (l0 : List ByteArray) (a1_0 : Int) (a1_1 : Int) (a2 : Int) (a3 : Int) (r : Bool) (w : World) (hr0 : Kd.C Kd.string w A0 l0.length l0) (hc0 : l0.length ≤ c0) (h : z57_.f l0 a1_0 a1_1 a2 a3 = some r) :
  Calls Tryz.prog 84 #[.slice A0 l0.length c0, .agg #[.int .i64 a1_0, .int .i64 a1_1], .int .i64 a2, .int .i64 a3] w fun e w' => e = .returned (.bool r) ∧ Below w.heap.size w w' := by
 have hu84 := Tryz.underlying84
 have HR0 := Aside0.mk hr0
 have HC0 := Aside0.mk hc0
 clear hr0 hc0
 have HB := Aside0.mk (Below.refl w.heap.size w)
 have H : (if (l0.length : Int) = 0 then (none) else (if 0 ≤ (Int.tmod (wrap64 ((wrap64 (a3 + (l0.length : Int))) - a1_1)) (l0.length : Int)) then (if (Int.tmod (wrap64 ((wrap64 (a3 + (l0.length : Int))) - a1_1)) (l0.length : Int)) < (l0.length : Int) then (if ((rdOf ByteArray.empty l0 (Int.tmod (wrap64 ((wrap64 (a3 + (l0.length : Int))) - a1_1)) (l0.length : Int))).size : Int) = 0 then (none) else (if 0 ≤ (Int.tmod (wrap64 ((wrap64 (a2 + ((rdOf ByteArray.empty l0 (Int.tmod (wrap64 ((wrap64 (a3 + (l0.length : Int))) - a1_1)) (l0.length : Int))).size : Int))) - a1_0)) ((rdOf ByteArray.empty l0 (Int.tmod (wrap64 ((wrap64 (a3 + (l0.length : Int))) - a1_1)) (l0.length : Int))).size : Int)) then (if (Int.tmod (wrap64 ((wrap64 (a2 + ((rdOf ByteArray.empty l0 (Int.tmod (wrap64 ((wrap64 (a3 + (l0.length : Int))) - a1_1)) (l0.length : Int))).size : Int))) - a1_0)) ((rdOf ByteArray.empty l0 (Int.tmod (wrap64 ((wrap64 (a3 + (l0.length : Int))) - a1_1)) (l0.length : Int))).size : Int)) < ((rdOf ByteArray.empty l0 (Int.tmod (wrap64 ((wrap64 (a3 + (l0.length : Int))) - a1_1)) (l0.length : Int))).size : Int) then (some ((bt (rdOf ByteArray.empty l0 (Int.tmod (wrap64 ((wrap64 (a3 + (l0.length : Int))) - a1_1)) (l0.length : Int))) (Int.tmod (wrap64 ((wrap64 (a2 + ((rdOf ByteArray.empty l0 (Int.tmod (wrap64 ((wrap64 (a3 + (l0.length : Int))) - a1_1)) (l0.length : Int))).size : Int))) - a1_0)) ((rdOf ByteArray.empty l0 (Int.tmod (wrap64 ((wrap64 (a3 + (l0.length : Int))) - a1_1)) (l0.length : Int))).size : Int))) == 46)) else (none)) else (none))) else (none)) else (none))) = some r := h
 clear h
 by_cases c5 : (l0.length : Int) = 0
 ·rw [if_pos c5] at H
  exact absurd H (by simp)
 ·rw [if_neg c5] at H
  have c5b0 : ((l0.length : Int) == 0) = false := beq_eq_false_iff_ne.mpr c5
  have c5b1 : ((l0.length : Int) != 0) = true := bne_iff_ne.mpr c5
  have c5b2 : ¬ (l0 = []) := fun h_ => c5 (by rw [h_]; rfl)
  obtain ⟨ji6, hji6⟩ : ∃ j_ : Int, (Int.tmod (wrap64 ((wrap64 (a3 + (l0.length : Int))) - a1_1)) (l0.length : Int)) = j_ := ⟨_, rfl⟩
  replace H : (if 0 ≤ (ji6) then (if (ji6) < (l0.length : Int) then (if ((rdOf ByteArray.empty l0 (ji6)).size : Int) = 0 then (none) else (if 0 ≤ (Int.tmod (wrap64 ((wrap64 (a2 + ((rdOf ByteArray.empty l0 (ji6)).size : Int))) - a1_0)) ((rdOf ByteArray.empty l0 (ji6)).size : Int)) then (if (Int.tmod (wrap64 ((wrap64 (a2 + ((rdOf ByteArray.empty l0 (ji6)).size : Int))) - a1_0)) ((rdOf ByteArray.empty l0 (ji6)).size : Int)) < ((rdOf ByteArray.empty l0 (ji6)).size : Int) then (some ((bt (rdOf ByteArray.empty l0 (ji6)) (Int.tmod (wrap64 ((wrap64 (a2 + ((rdOf ByteArray.empty l0 (ji6)).size : Int))) - a1_0)) ((rdOf ByteArray.empty l0 (ji6)).size : Int))) == 46)) else (none)) else (none))) else (none)) else (none)) = some r := by first | (rw [hji6] at H; exact H) | (simp only [hji6] at H ⊢; exact H)
  by_cases c7 : 0 ≤ (ji6)
  ·rw [if_pos c7] at H
   have c7b0 : decide (0 ≤ (ji6)) = true := decide_eq_true c7
   clear c7
   by_cases c8 : (ji6) < (l0.length : Int)
   ·rw [if_pos c8] at H
    have c8b0 : decide ((ji6) < (l0.length : Int)) = true := decide_eq_true c8
    clear c8
    by_cases c9 : ((rdOf ByteArray.empty l0 (ji6)).size : Int) = 0
    ·rw [if_pos c9] at H
     exact absurd H (by simp)
    ·rw [if_neg c9] at H
     have c9b0 : (((rdOf ByteArray.empty l0 (ji6)).size : Int) == 0) = false := beq_eq_false_iff_ne.mpr c9
     have c9b1 : (((rdOf ByteArray.empty l0 (ji6)).size : Int) != 0) = true := bne_iff_ne.mpr c9
     obtain ⟨ji10, hji10⟩ : ∃ j_ : Int, (Int.tmod (wrap64 ((wrap64 (a2 + ((rdOf ByteArray.empty l0 (ji6)).size : Int))) - a1_0)) ((rdOf ByteArray.empty l0 (ji6)).size : Int)) = j_ := ⟨_, rfl⟩
     replace H : (if 0 ≤ (ji10) then (if (ji10) < ((rdOf ByteArray.empty l0 (ji6)).size : Int) then (some ((bt (rdOf ByteArray.empty l0 (ji6)) (ji10)) == 46)) else (none)) else (none)) = some r := by first | (rw [hji10] at H; exact H) | (simp only [hji10] at H ⊢; exact H)
     by_cases c11 : 0 ≤ (ji10)
     ·rw [if_pos c11] at H
      have c11b0 : decide (0 ≤ (ji10)) = true := decide_eq_true c11
      clear c11
      by_cases c12 : (ji10) < ((rdOf ByteArray.empty l0 (ji6)).size : Int)
      ·rw [if_pos c12] at H
       have c12b0 : decide ((ji10) < ((rdOf ByteArray.empty l0 (ji6)).size : Int)) = true := decide_eq_true c12
       clear c12
       obtain rfl := Option.some.inj H
       go_enter Tryz.func84, Tryz.ntmps84
       go_wp2_with (first | ((with_reducible refine gate_dst (N := 5) rfl ?_); refine boxA (N := 5) (cs := #[.int .i64 a1_0, .int .i64 a1_1]) (t := 84) ?_; intro gb111 hg w14 hbox hb; have BK111 := Aside0.mk (hbox); have GE111 := bG HB hg; replace HB := bS HB hb; clear hb hbox hg; obtain ⟨hcz15_0, hcz15_1, hfz15_0, hfz15_1⟩ := cc2 BK111; have p112 : 0 ≤ ((ji6) : Int) := of_decide_eq_true (by first | (with_reducible assumption) | assumption); have q112 : (ji6) < (l0.length : Int) := of_decide_eq_true (by first | (with_reducible assumption) | assumption); obtain ⟨ad112, e112, hx112_0⟩ := Kd.at_string HR0.out (ji6) p112 q112; cases e112; replace hx112_0 := (HB.out.cell (World.block_lt_of_cell? w _ hx112_0)).trans hx112_0; replace p112 := eq_true p112; replace q112 := eq_true q112; have p13 : 0 ≤ ((ji10) : Int) := of_decide_eq_true (by first | (with_reducible assumption) | assumption); have q13 : (ji10) < ((rdOf ByteArray.empty l0 (ji6)).size : Int) := of_decide_eq_true (by first | (with_reducible assumption) | assumption); have hx13 := bt_at (rdOf ByteArray.empty l0 (ji6)) (ji10); replace p13 := eq_true p13; replace q13 := eq_true q13))
       go_ret
       exact ⟨by first | rfl | (simp [errW_none, errW_some] <;> rfl) | (simp only [← hji6, ← hji10]; first | rfl | (simp [errW_none, errW_some] <;> rfl)) | (simp [*, errW_none, errW_some] <;> rfl), bX HB⟩
      ·rw [if_neg c12] at H
       exact absurd H (by simp)
     ·rw [if_neg c11] at H
      exact absurd H (by simp)
   ·rw [if_neg c8] at H
    exact absurd H (by simp)
  ·rw [if_neg c7] at H
   exact absurd H (by simp)
def lattice_unless.f (a0 : Bool) (a1 : Int) : Option (Int) := if a0 = true then (some 0) else (some a1)
set_option maxHeartbeats 8000000 in
set_option maxRecDepth 100000 in
theorem lattice_unless.calls (a0 : Bool) (a1 : Int) (r : Int) (w : World) (h : lattice_unless.f a0 a1 = some r) :
  Calls Tryz.prog 62 #[.bool a0, .int .i64 a1] w fun e w' => e = .returned (.int .i64 r) ∧ Drawn0 w w' := by
 have H : (if a0 = true then (some 0) else (some a1)) = some r := h
 clear h
 by_cases c3 : a0 = true
 ·subst c3
  have H1 : (some 0) = some r := by rw [if_pos rfl] at H; exact H
  clear H
  have H := H1
  clear H1
  obtain rfl := Option.some.inj H
  go_enter Tryz.func62, Tryz.ntmps62
  go_wp2
  go_ret
  exact ⟨by first | rfl | (simp; done) | (simp [*]; done), by repeat (first | exact Drawn0.refl _ | apply Drawn0.step)⟩
 ·replace c3 := Bool.eq_false_iff.mpr c3
  subst c3
  have H1 : (some a1) = some r := by rw [if_neg (show ¬ (false = true) by decide)] at H; exact H
  clear H
  have H := H1
  clear H1
  obtain rfl := Option.some.inj H
  go_enter Tryz.func62, Tryz.ntmps62
  go_wp2
  go_ret
  exact ⟨by first | rfl | (simp; done) | (simp [*]; done), by repeat (first | exact Drawn0.refl _ | apply Drawn0.step)⟩
end PLat
end Go.Proofs.YtgdkmadcegleiaaGreatDoor
namespace Go.Proofs.YtgdkmadcegleiaaGreatDoor
namespace PLat
open X
attribute [local go_sem] max2_int min2_int max_two min_two max_three min_three max_four min_four   -- for this text's walks alone
end PLat
end Go.Proofs.YtgdkmadcegleiaaGreatDoor
namespace Go.Proofs.YtgdkmadcegleiaaGreatDoor
namespace X
open PLat
def BB (w : World) (g : Nat) (l : List UInt8) : Prop :=
  ∃ cells fr, w.heap[g]? = some (.cells cells 5 fr) ∧ (∀ j, j < l.length → cells[j]? = some (.int .u8 (l.getD j 0).toNat)) ∧ l.length ≤ fr.1
theorem BB.cell {w : World} {g : Nat} {l : List UInt8} (h : BB w g l) {j : Nat} (hj : j < l.length) : w.cell? ⟨g, j, none⟩ = some (.int .u8 (l.getD j 0).toNat) := by
  obtain ⟨cells, fr, hb, hc, _⟩ := h
  have := cell_of_row w g j cells _ fr hb
  rw [this, hc j hj]
theorem BB.free {w : World} {g : Nat} {l : List UInt8} (h : BB w g l) {j : Nat} (hj : j < l.length) : w.frozen? ⟨g, j, none⟩ = false := by
  obtain ⟨cells, fr, hb, _, hf⟩ := h
  simp only [World.frozen?, hb]
  simp
  omega
theorem BB.below {w w1 : World} {g : Nat} {l : List UInt8} (h : BB w g l) (hb : Below w.heap.size w w1) : BB w1 g l := by
  obtain ⟨cells, fr, hb0, hc, hf⟩ := h
  exact ⟨cells, fr, (hb.block g (Array.getElem?_eq_some_iff.1 hb0).1).trans hb0, hc, hf⟩
theorem BB.lt {w : World} {g : Nat} {l : List UInt8} (h : BB w g l) : g < w.heap.size := by
  obtain ⟨cells, fr, hb0, _⟩ := h
  exact (Array.getElem?_eq_some_iff.1 hb0).1
theorem BB.new (W : World) (s : ByteArray) : BB (Lib.bytesWorld W 5 s) W.heap.size s.data.toList := by
  have hl : s.data.toList.length = s.size := by rw [Array.length_toList]; rfl
  refine ⟨_, _, Lib.bytesWorld_at_new W 5 s, fun j hj => ?_, ?_⟩
  · have h1 := Lib.bytesWorld_cell W 5 s j (by omega)
    rw [cell_of_row _ _ _ _ _ _ (Lib.bytesWorld_at_new W 5 s)] at h1
    exact h1
  · show s.data.toList.length ≤ (Lib.bytesCells W 5 s).size
    have h1 : ∀ j, j < s.data.toList.length → j < (Lib.bytesCells W 5 s).size := fun j hj => by
      have h1 := Lib.bytesWorld_cell W 5 s j (by omega)
      rw [cell_of_row _ _ _ _ _ _ (Lib.bytesWorld_at_new W 5 s)] at h1
      exact (Array.getElem?_eq_some_iff.1 h1).1
    rcases Nat.eq_zero_or_pos s.data.toList.length with h0 | h0
    · omega
    · have := h1 (s.data.toList.length - 1) (by omega)
      omega
theorem BB.set {w : World} {g : Nat} {l : List UInt8} (h : BB w g l) (j : Nat) (x : UInt8) : BB (w.setCell ⟨g, j, none⟩ (.int .u8 x.toNat)) g (l.set j x) := by
  obtain ⟨cells, fr, hb, hc, hf⟩ := h
  refine ⟨cells.setIfInBounds j (.int .u8 x.toNat), fr, ?_, fun i hi => ?_, by rw [List.length_set]; exact hf⟩
  · have hlt := (Array.getElem?_eq_some_iff.1 hb).1
    simp [World.setCell, Array.getElem?_modify, hb]
  · rw [List.length_set] at hi
    have h1 := hc i hi
    have hlt := (Array.getElem?_eq_some_iff.1 h1).1
    by_cases e : i = j
    · subst e
      simp [hlt, List.getD_eq_getElem?_getD, hi]
    · rw [Array.getElem?_setIfInBounds_ne (Ne.symm e), h1]
      simp [List.getD_eq_getElem?_getD, List.getElem?_set_ne (Ne.symm e)]
theorem BB.string {w : World} {g c : Nat} {l : List UInt8} {src dst : TypeId} (hs : Tryz.prog.underlying src = some (.slice 5)) (hd : Tryz.prog.underlying dst = some .string) (h : BB w g l) :
    (convert src dst (.slice (some ⟨g, 0, none⟩) l.length c)).run Tryz.prog w = .ok (.string ⟨l.toArray⟩) w := by
  have hx : (l.map fun b => (b.toNat : Int)).length = l.length := List.length_map _
  have h1 := run_convert_bytes_arg (P := Tryz.prog) w src 5 hs Tryz.underlying5 g 0 l.length c (l.map fun b => (b.toNat : Int)) hx (fun i hi => by
    rw [Nat.zero_add, h.cell hi]
    simp [List.getD_eq_getElem?_getD, List.getElem?_eq_getElem hi]) dst hd
  have h2 : strOfNums (l.map fun b => (b.toNat : Int)) = ⟨l.toArray⟩ := by
    unfold strOfNums
    have : (l.map fun b => (b.toNat : Int)).map (fun n => UInt8.ofNat n.toNat) = l := by
      rw [List.map_map]
      conv => rhs; rw [← List.map_id l]
      apply List.map_congr_left
      intro b _
      simp
    rw [this]
  rw [h2] at h1
  exact h1
def showL (op : Nat → Bool) (l : List UInt8) : List UInt8 := l.mapIdx fun x b => if op x then b else 63
def partL (op : Nat → Bool) (l : List UInt8) (k : Nat) : List UInt8 := l.mapIdx fun x b => if x < k ∧ op x = false then 63 else b
theorem partL_zero (op : Nat → Bool) (l : List UInt8) : partL op l 0 = l := by
  unfold partL
  apply List.ext_getElem (by simp)
  intro i h1 h2
  simp
theorem partL_length (op : Nat → Bool) (l : List UInt8) (k : Nat) : (partL op l k).length = l.length := by unfold partL; simp
theorem partL_end (op : Nat → Bool) (l : List UInt8) : partL op l l.length = showL op l := by
  unfold partL showL
  apply List.ext_getElem (by simp)
  intro i h1 h2
  simp at h1
  simp only [List.getElem_mapIdx]
  cases op i <;> simp [h1]
theorem partL_open (op : Nat → Bool) (l : List UInt8) (k : Nat) (h : op k = true) : partL op l (k + 1) = partL op l k := by
  unfold partL
  apply List.ext_getElem (by simp)
  intro i h1 h2
  simp only [List.getElem_mapIdx]
  by_cases e : i = k
  · subst e; simp [h]
  · simp only [show (i < k + 1) = (i < k) from propext (by omega)]
theorem partL_shut (op : Nat → Bool) (l : List UInt8) (k : Nat) (hk : k < l.length) (h : op k = false) : partL op l (k + 1) = (partL op l k).set k 63 := by
  unfold partL
  apply List.ext_getElem (by simp)
  intro i h1 h2
  simp only [List.getElem_mapIdx, List.getElem_set]
  by_cases e : i = k
  · subst e; simp [h]
  · rw [if_neg (Ne.symm e)]
    simp only [show (i < k + 1) = (i < k) from propext (by omega)]
def showRows (op : Nat → Nat → Bool) (p : List ByteArray) : List ByteArray := p.mapIdx fun y row => ⟨(showL (fun x => op x y) row.data.toList).toArray⟩
theorem showRows_length (op : Nat → Nat → Bool) (p : List ByteArray) : (showRows op p).length = p.length := by unfold showRows; simp
theorem showRows_take (op : Nat → Nat → Bool) (p : List ByteArray) (k : Nat) (h : k < p.length) : (showRows op p).take (k + 1) = (showRows op p).take k ++ [⟨(showL (fun x => op x k) (p.getD k ByteArray.empty).data.toList).toArray⟩] := by
  have h2 : k < (showRows op p).length := by rw [showRows_length]; exact h
  have e : (showRows op p)[k]'h2 = ⟨(showL (fun x => op x k) (p.getD k ByteArray.empty).data.toList).toArray⟩ := by
    have : p.getD k ByteArray.empty = p[k] := by simp [List.getD_eq_getElem?_getD, List.getElem?_eq_getElem h]
    rw [this]
    simp only [showRows, List.getElem_mapIdx]
  rw [List.take_succ_eq_append_getElem h2, e]
theorem info9' : (Tryz.prog.info? 9).map (fun i => (i.zero, i.size, i.bytes)) = some (some (.string ⟨#[]⟩), 1, 16) := by kernel_rfl
set_option maxHeartbeats 4000000 in
set_option maxRecDepth 100000 in
theorem show_calls (A0 : Option Addr) (c0 : Nat) (l0 : List ByteArray) (A1 : Option Addr) (c1 : Nat) (p : List ByteArray) (sx sy : Int) (op : Nat → Nat → Bool) (w : World)
    (hr0 : Kd.C Kd.string w A0 l0.length l0) (hc0 : l0.length ≤ c0) (hr1 : Kd.C Kd.string w A1 p.length p) (hc1 : p.length ≤ c1) (hn : p.length ≤ 1000000) (hsz : ∀ y, y < p.length → (p.getD y ByteArray.empty).size ≤ 1000000)
    (hop : ∀ y, y < p.length → ∀ x, x < (p.getD y ByteArray.empty).size → z57_.f l0 sx sy (x : Int) (y : Int) = some (op x y)) :
    Calls Tryz.prog 64 #[.slice A0 l0.length c0, .slice A1 p.length c1, .agg #[.int .i64 sx, .int .i64 sy]] w fun e w' => ∃ v, e = .returned v ∧ Kd.R Kd.string 9 w' w.heap.size (fun _ => True) v (showRows op p) ∧ Below w.heap.size w w' := by
  have HR0 := Aside0.mk hr0
  have HC0 := Aside0.mk hc0
  have HR1 := Aside0.mk hr1
  have HSZ := Aside0.mk hsz
  have HOP := Aside0.mk hop
  have HN := Aside0.mk hn
  obtain ⟨n, hnl⟩ : ∃ n, p.length = n := ⟨_, rfl⟩
  have HNL := Aside0.mk hnl
  rw [hnl] at hn HR1 hc1 ⊢
  clear hr0 hr1 hsz hop hnl hc0
  go_enter Tryz.func64, Tryz.ntmps64
  go_wp2
  go_loopg [6, 13] n (fun gg v6 v13 wr => ∃ k : Nat, k ≤ n ∧ n - k ≤ gg ∧ v13 = .int .i64 k ∧ Aside0 (Kd.R Kd.string 9 wr w.heap.size (fun _ => True) v6 ((showRows op p).take k)) ∧ Aside0 (Below w.heap.size w wr) ∧ Aside0 (wr.heap[w.heap.size]? = some (.cells #[.int .i64 sx, .int .i64 sy] 84 (0, 0))))
  case atStart => exact ⟨0, Nat.zero_le _, by omega, rfl, ⟨by rw [List.take_zero]; exact Kd.R_nil _ _ _ _ _⟩, ⟨below_alloc (Below.refl _ _) _⟩, ⟨blk_new w _⟩⟩
  case round =>
    obtain ⟨k, hk, hg, rfl, HO, HB, HK⟩ := hrel
    by_cases hlt : k < n
    · have hlti : (k : Int) < (n : Int) := by omega
      obtain ⟨ad, rfl, hcell⟩ := Kd.at_string (Kd.C_below HR1.out HB.out) (k : Int) (by omega) hlti
      rw [Int.toNat_natCast] at hcell
      have e0 : rdOf ByteArray.empty p (k : Int) = p.getD k ByteArray.empty := by unfold rdOf; rw [Int.toNat_natCast]
      rw [e0] at hcell
      have HSK := Aside0.mk (HSZ.out k (by rw [HNL.out]; exact hlt))
      have HOK := Aside0.mk (HOP.out k (by rw [HNL.out]; exact hlt))
      have HTK := Aside0.mk (showRows_take op p k (by rw [HNL.out]; exact hlt))
      generalize hrow : p.getD k ByteArray.empty = row at hcell HSK HOK HTK
      clear hrow e0
      have kb := fun W => print_bytes (P := Tryz.prog) 9 65 5 Tryz.underlying9 Tryz.underlying65 Tryz.underlying5 row W
      have hdl : row.data.toList.length = row.size := by rw [Array.length_toList]; rfl
      have HDL := Aside0.mk hdl
      clear hdl
      have hszk : row.size ≤ 1000000 := HSK.out
      obtain ⟨wo, rfl⟩ : ∃ wo : World, wo = wr := ⟨_, rfl⟩
      go_wp2
      go_loopg [22] row.size (fun gg2 v22 wr2 => ∃ x : Nat, x ≤ row.size ∧ row.size - x ≤ gg2 ∧ v22 = .int .i64 x ∧ Aside0 (BB wr2 wo.heap.size (partL (fun x => op x k) row.data.toList x)) ∧ Aside0 (Below wo.heap.size wo wr2))
      case atStart => exact ⟨0, Nat.zero_le _, by omega, rfl, ⟨by rw [partL_zero]; exact BB.new wo row⟩, ⟨bytes_below (Below.refl _ _) (Nat.le_refl _) _ row⟩⟩
      case round =>
        obtain ⟨x, hx, hg2, rfl, HBB, HB2⟩ := hrel
        clear kb hcell
        by_cases hxl : x < row.size
        · have hxi : (x : Int) < (row.size : Int) := by omega
          have HK2 := blk_below HK.out HB2.out
          have hz0 : _ = some (Value.int .i64 sx) := (blk_cell HK2 0).trans rfl
          have hz1 : _ = some (Value.int .i64 sy) := (blk_cell HK2 1).trans rfl
          have HRW := Aside0.mk (Kd.C_below HR0.out (later_below HB.out HB2.out))
          have HOX := Aside0.mk (HOK.out x hxl)
          have HXL : Aside0 (x < (partL (fun x => op x k) row.data.toList x).length) := ⟨by rw [partL_length, HDL.out]; exact hxl⟩
          clear HK2
          obtain ⟨q, hq⟩ : ∃ q, op x k = q := ⟨_, rfl⟩
          rw [hq] at HOX
          have HQ := Aside0.mk hq
          clear hq
          cases q with
          | true =>
            go_wp2_with (go_at_call 84; refine (z57_.calls _ _ l0 sx sy (x : Int) (k : Int) true _ HRW.out HC0.out HOX.out).mono ?_; rintro e w3 ⟨rfl, hb3⟩; have HB3 := Aside0.mk hb3; clear hb3)
            go_roundg (row.size - (x + 1))
            case measure => omega
            case rel => exact ⟨x + 1, by omega, by omega, by go_num, ⟨by rw [partL_open (fun x => op x k) _ _ HQ.out]; exact HBB.out.below HB3.out⟩, ⟨later_below HB2.out HB3.out⟩⟩
          | false =>
            go_wp2_with (go_at_call 84; refine (z57_.calls _ _ l0 sx sy (x : Int) (k : Int) false _ HRW.out HC0.out HOX.out).mono ?_; rintro e w3 ⟨rfl, hb3⟩; have HB3 := Aside0.mk hb3; have hc3 := (HBB.out.below hb3).cell HXL.out; have hf3 := (HBB.out.below hb3).free HXL.out; clear hb3)
            go_roundg (row.size - (x + 1))
            case measure => omega
            case rel => exact ⟨x + 1, by omega, by omega, by go_num, ⟨by rw [partL_shut (fun x => op x k) _ _ (by rw [HDL.out]; exact hxl) HQ.out]; exact (HBB.out.below HB3.out).set x 63⟩, ⟨(later_below HB2.out HB3.out).setCell (Nat.le_refl _) _⟩⟩
        · have hxi : ¬ (x : Int) < (row.size : Int) := by omega
          have hxd : decide (x < row.size) = false := decide_eq_false hxl
          obtain rfl : x = row.size := by omega
          have HEND : Aside0 (BB wr wo.heap.size (showL (fun x => op x k) row.data.toList)) := ⟨by have := HBB.out; rw [← HDL.out, partL_end] at this; exact this⟩
          have ks : ∀ c, (convert 65 9 (.slice (some ⟨wo.heap.size, 0, none⟩) row.size c)).run Tryz.prog wr = .ok (.string ⟨(showL (fun x => op x k) row.data.toList).toArray⟩) wr := fun c => by
            have := BB.string (c := c) Tryz.underlying65 Tryz.underlying9 HEND.out
            rwa [show (showL (fun x => op x k) row.data.toList).length = row.size from by unfold showL; rw [List.length_mapIdx, HDL.out]] at this
          have HOB := Aside0.mk (Kd.R_below HO.out HB2.out)
          have HBB' := Aside0.mk (later_below HB.out HB2.out)
          have HKB := Aside0.mk (blk_below HK.out HB2.out)
          have HLEN : Aside0 (((showRows op p).take k).length = k) := ⟨by rw [List.length_take, showRows_length, HNL.out]; omega⟩
          generalize hnew : (⟨(showL (fun x => op x k) row.data.toList).toArray⟩ : ByteArray) = nrow at ks HTK
          clear hnew hxi hxd hxl hx hg2 HBB HB2 HEND
          go_wp2_with (at_builtin; refine Kd.R_append Kd.string (w0 := w) w.heap.size rfl (.tmp 35) (.tmp 38) 80 9 (.string ⟨#[]⟩) 16 rfl Tryz.underlying80 info9' rfl (by decide) (by omega) _ _ nrow [.string nrow] (fun _ => True) (fun _ => False) rfl rfl rfl (fun _ hk => hk.elim) (fun _ _ => trivial) HOB.out HBB'.out (below_size HBB'.out) (by rw [HLEN.out]; omega) ?_; intro v1 w5 ho hb hg5 hat; have HO5 := Aside0.mk ho; have HB5 := Aside0.mk hb; have HK5 := Aside0.mk (blk_grown HKB.out hg5 (Kd.R_ne HOB.out HKB.out (by decide))); clear ho hb hg5 hat)
          go_roundg (n - (k + 1))
          case measure => omega
          case rel => exact ⟨k + 1, by omega, by omega, by go_num, ⟨by rw [HTK.out]; exact HO5.out⟩, ⟨HB5.out⟩, ⟨HK5.out⟩⟩
    · have hlti : ¬ (k : Int) < (n : Int) := by omega
      obtain rfl : k = n := by omega
      have HE : Aside0 ((showRows op p).take k = showRows op p) := ⟨List.take_of_length_le (by rw [showRows_length, HNL.out]; exact Nat.le_refl _)⟩
      go_wp2
      go_ret
      exact ⟨_, rfl, by rw [← HE.out]; exact HO.out, HB.out⟩
end X
end Go.Proofs.YtgdkmadcegleiaaGreatDoor
namespace Go.Proofs.YtgdkmadcegleiaaGreatDoor
namespace X
open PLat
def firstErr (es : Nat → Int) : Nat → Int
  | 0 => 0
  | n + 1 => if firstErr es n = 0 then es n else firstErr es n
theorem firstErr_zero (es : Nat → Int) (n : Nat) (h : ∀ j, j < n → es j = 0) : firstErr es n = 0 := by
  induction n with
  | zero => rfl
  | succ n ih =>
    unfold firstErr
    rw [if_pos (ih fun j hj => h j (by omega))]
    exact h n (by omega)
theorem firstErr_hit (es : Nat → Int) (n k : Nat) (hk : k < n) (h : ∀ j, j < k → es j = 0) (hne : es k ≠ 0) : firstErr es n = es k := by
  induction n with
  | zero => omega
  | succ n ih =>
    unfold firstErr
    by_cases e : k = n
    · subst e
      rw [if_pos (firstErr_zero es k h)]
    · rw [ih (by omega), if_neg hne]
set_option maxHeartbeats 2000000 in
theorem first_calls (n c : Nat) (fs : Nat → FuncId) (caps : Nat → Array Value) (es : Nat → Int) (ad : Addr) (w : World) (hn : n ≤ 1000)
    (hcell : ∀ i, i < n → w.cell? (ad.add i) = some (.func (.func (fs i)) #[] (caps i)))
    (hent : ∀ i, i < n → ∀ args w, (callFunc (fs i) args).run Tryz.prog w = .ok (.enter (fs i) args) w)
    (hth : ∀ i, i < n → (∀ j, j < i → es j = 0) → ∀ W, Below w.heap.size w W → Calls Tryz.prog (fs i) (caps i) W fun e W' => e = .returned (.int .i64 (es i)) ∧ Below W.heap.size W W') :
    Calls Tryz.prog 56 #[.slice (some ad) n c] w fun e w' => e = .returned (.int .i64 (firstErr es n)) ∧ Below w.heap.size w w' := by
  have HC := Aside0.mk hcell
  have HE := Aside0.mk hent
  have HT := Aside0.mk hth
  clear hcell hent hth
  go_enter Tryz.func56, Tryz.ntmps56
  go_wp2
  go_loopg [8] n (fun gg v8 wr => ∃ k : Nat, k ≤ n ∧ n - k ≤ gg ∧ v8 = .int .i64 k ∧ Aside0 (Below w.heap.size w wr) ∧ Aside0 (∀ j, j < k → es j = 0))
  case atStart => exact ⟨0, Nat.zero_le _, by omega, rfl, ⟨Below.refl _ _⟩, ⟨fun j h => absurd h (Nat.not_lt_zero _)⟩⟩
  case round =>
    obtain ⟨k, hk, hg, rfl, HB, HZ⟩ := hrel
    by_cases hlt : k < n
    · have hlti : (k : Int) < (n : Int) := by omega
      have hc0 := pw_cell_below HB.out (HC.out k hlt)
      have heg := HE.out k hlt
      have hcall := HT.out k hlt HZ.out wr HB.out
      have HF : Aside0 (es k = es k) := ⟨rfl⟩
      obtain ⟨g, hgg⟩ : ∃ g, fs k = g := ⟨_, rfl⟩
      obtain ⟨cp, hcp⟩ : ∃ cp, caps k = cp := ⟨_, rfl⟩
      obtain ⟨ev, hev⟩ : ∃ ev, es k = ev := ⟨_, rfl⟩
      rw [hgg, hcp] at hc0 hcall
      rw [hgg] at heg
      rw [hev] at hcall
      have HEV := Aside0.mk hev
      have HCC := Aside0.mk hcall
      clear hgg hcp hev hcall HF
      by_cases hz : ev = 0
      · subst hz
        go_wp2_with (go_at_fn g; refine HCC.out.mono ?_; rintro e w1 ⟨rfl, hb1⟩)
        go_roundg (n - (k + 1))
        case measure => omega
        case rel =>
          refine ⟨k + 1, by omega, by omega, by go_num, ⟨later_below HB.out hb1⟩, ⟨fun j hj => ?_⟩⟩
          by_cases e : j = k
          · subst e; exact HEV.out
          · exact HZ.out j (by omega)
      · have hz1 : (ev == 0) = false := beq_eq_false_iff_ne.2 hz
        have hz2 : (ev != 0) = true := bne_iff_ne.2 hz
        have HH := Aside0.mk (firstErr_hit es n k hlt HZ.out (by rw [HEV.out]; exact hz))
        clear hz
        go_wp2_with (go_at_fn g; refine HCC.out.mono ?_; rintro e w1 ⟨rfl, hb1⟩)
        go_ret
        refine ⟨?_, later_below HB.out hb1⟩
        rw [HH.out, HEV.out]
        rfl
    · have hlti : ¬ (k : Int) < (n : Int) := by omega
      obtain rfl : k = n := by omega
      have HH := Aside0.mk (firstErr_zero es k HZ.out)
      go_wp2
      go_ret
      refine ⟨?_, HB.out⟩
      rw [HH.out]
      rfl
structure Rows (rows : List ByteArray) (high wide : Nat) (among : ByteArray) (n0 : Nat) : Prop where
  len1 : 1 ≤ rows.length
  len2 : rows.length ≤ high
  w1 : 1 ≤ n0
  w2 : n0 ≤ wide
  size : ∀ y, y < rows.length → (rows.getD y ByteArray.empty).size = n0
  among : ∀ r ∈ rows, ∀ b ∈ r.data.toList, inSet among b.toNat = true
theorem rows_of {rows : List ByteArray} {high wide : Nat} {among : ByteArray} (h : checkedF rows high wide among = 0) : Rows rows high wide among (rows.getD 0 ByteArray.empty).size := by
  unfold checkedF at h
  split at h
  · omega
  · rename_i h1
    split at h
    · omega
    · rename_i h2
      split at h
      · omega
      · rename_i h3
        simp only [Bool.not_eq_false, Bool.and_eq_true, decide_eq_true_eq] at h1
        have hs : ∀ y, y < rows.length → isShort wide (rows.getD 0 ByteArray.empty).size (rows.getD y ByteArray.empty) = false := by
          intro y hy
          cases hq : isShort (wide : Int) (rows.getD 0 ByteArray.empty).size (rows.getD y ByteArray.empty) with
          | false => rfl
          | true => exact absurd (List.any_eq_true.2 ⟨_, getD_mem rfl hy, hq⟩) h2
        have hs2 : ∀ y, y < rows.length → 1 ≤ (rows.getD y ByteArray.empty).size ∧ (rows.getD y ByteArray.empty).size ≤ wide ∧ (rows.getD y ByteArray.empty).size = (rows.getD 0 ByteArray.empty).size := by
          intro y hy
          have := hs y hy
          unfold isShort at this
          simp only [Bool.or_eq_false_iff, Bool.not_eq_false', Bool.and_eq_true, decide_eq_true_eq, beq_iff_eq] at this
          omega
        refine ⟨by omega, by omega, (hs2 0 (by omega)).1, (hs2 0 (by omega)).2.1, fun y hy => (hs2 y hy).2.2, fun r hr b hb => ?_⟩
        cases hq : isOther among r with
        | true => exact absurd (List.any_eq_true.2 ⟨r, hr, hq⟩) h3
        | false =>
          unfold isOther at hq
          simp only [Bool.not_eq_false', List.all_eq_true] at hq
          exact hq b hb
theorem wrap_id {a : Int} (h1 : -1000000000000 ≤ a) (h2 : a ≤ 1000000000000) : wrap64 a = a := by unfold wrap64; omega
def openB (l : List ByteArray) (sx sy : Int) (x y : Nat) : Bool :=
  let row := l.getD ((((y : Int) + l.length - sy) % l.length).toNat) ByteArray.empty
  bt row (((x : Int) + row.size - sx) % row.size) == 46
theorem mod_part {x n s : Int} (hn : 0 < n) (hn2 : n ≤ 1000) (h0 : 0 ≤ s) (h1 : s < n) (hx : 0 ≤ x) (hx2 : x ≤ 1000) :
    ∃ i, (x + n - s) % n = i ∧ Int.tmod (wrap64 (wrap64 (x + n) - s)) n = i ∧ 0 ≤ i ∧ i < n := by
  refine ⟨_, rfl, ?_, Int.emod_nonneg _ (by omega), Int.emod_lt_of_pos _ hn⟩
  rw [wrap_id (a := x + n) (by omega) (by omega), wrap_id (a := x + n - s) (by omega) (by omega)]
  exact Int.tmod_eq_emod_of_nonneg (by omega)
theorem open_f {l : List ByteArray} {among : ByteArray} {n0 : Nat} (h : Rows l 4 4 among n0) {sx sy : Int} (hx0 : 0 ≤ sx) (hx1 : sx < n0) (hy0 : 0 ≤ sy) (hy1 : sy < l.length) {x y : Nat} (hx : x ≤ 1000) (hy : y ≤ 1000) :
    z57_.f l sx sy (x : Int) (y : Int) = some (openB l sx sy x y) := by
  have h1 := h.len1
  have h2 := h.len2
  have h3 := h.w1
  have h4 := h.w2
  obtain ⟨iy, e1, e2, e3, e4⟩ := mod_part (x := (y : Int)) (n := (l.length : Int)) (s := sy) (by omega) (by omega) hy0 hy1 (by omega) (by omega)
  have hsz := h.size iy.toNat (by omega)
  obtain ⟨ix, g1, g2, g3, g4⟩ := mod_part (x := (x : Int)) (n := ((l.getD iy.toNat ByteArray.empty).size : Int)) (s := sx) (by omega) (by omega) hx0 (by omega) (by omega) (by omega)
  have hl0 : ¬ (l.length : Int) = 0 := by omega
  have hr0 : ¬ ((l.getD iy.toNat ByteArray.empty).size : Int) = 0 := by omega
  have er : rdOf ByteArray.empty l iy = l.getD iy.toNat ByteArray.empty := rfl
  unfold z57_.f openB
  rw [if_neg hl0, e2, if_pos e3, if_pos e4, er, if_neg hr0, g2, if_pos g3, if_pos g4]
  simp only [e1, g1]
def shiftB (l : List ByteArray) (sx sy : Int) : Bool := (decide (0 ≤ sx) && decide (sx < (l.getD 0 ByteArray.empty).size)) && (decide (0 ≤ sy) && decide (sy < l.length))
theorem isShift_f {l : List ByteArray} {among : ByteArray} {n0 : Nat} (h : Rows l 4 4 among n0) (sx sy : Int) : z33_.f l sx sy = some (shiftB l sx sy) := by
  have h1 := h.len1
  have h2 := h.len2
  have h4 := h.w2
  have h0 : (l.getD 0 ByteArray.empty).size = n0 := h.size 0 (by omega)
  have er : rdOf ByteArray.empty l 0 = l.getD 0 ByteArray.empty := rfl
  have e1 : wrap64 ((n0 : Int) - 1) = (n0 : Int) - 1 := by unfold wrap64; omega
  have e2 : wrap64 ((l.length : Int) - 1) = (l.length : Int) - 1 := by unfold wrap64; omega
  unfold z33_.f z16_.f shiftB
  rw [er, h0, e1, e2]
  rw [if_pos (by omega)]
  simp only [Option.bind_some, List.all_cons, List.all_nil, Bool.and_true]
  have a1 : decide (sx ≤ (n0 : Int) - 1) = decide (sx < (n0 : Int)) := by rw [decide_eq_decide]; omega
  have a2 : decide (sy ≤ (l.length : Int) - 1) = decide (sy < (l.length : Int)) := by rw [decide_eq_decide]; omega
  rw [a1, a2]
  cases (decide (0 ≤ sx) && decide (sx < (n0 : Int))) <;> simp
end X
end Go.Proofs.YtgdkmadcegleiaaGreatDoor
namespace Go.Proofs.YtgdkmadcegleiaaGreatDoor
namespace X
open PLat
def checkE (p : List ByteArray) : Int := checkedF p 8 8 ⟨#[48, 49, 50, 51]⟩
def barsE (l : List ByteArray) : Int := checkedF l 4 4 ⟨#[46, 35]⟩
def seenE (p : List ByteArray) : Int := checkedF p 8 8 ⟨#[48, 49, 50, 51, 63]⟩
theorem enters_show1 : ∀ args w, (callFunc 57 args).run Tryz.prog w = .ok (.enter 57 args) w := enters_of Tryz.func57 (by kernel_rfl) rfl
theorem enters_show2 : ∀ args w, (callFunc 59 args).run Tryz.prog w = .ok (.enter 59 args) w := enters_of Tryz.func59 (by kernel_rfl) rfl
theorem enters_show3 : ∀ args w, (callFunc 61 args).run Tryz.prog w = .ok (.enter 61 args) w := enters_of Tryz.func61 (by kernel_rfl) rfl
theorem show1_calls {g : Nat} {A : Option Addr} {c : Nat} {p : List ByteArray} {w : World} (hc : w.cell? ⟨g, 0, none⟩ = some (.slice A p.length c)) (hr : Kd.C Kd.string w A p.length p) (hl : p.length ≤ c) (hT : Tabs w) :
    Calls Tryz.prog 57 #[.pointer (some ⟨g, 0, none⟩)] w fun e w' => e = .returned (.int .i64 (checkE p)) ∧ Below w.heap.size w w' := by
  have HR := Aside0.mk hr
  have HT := Aside0.mk hT
  clear hr hT
  go_enter Tryz.func57, Tryz.ntmps57
  go_wp2_with (go_at_call 58; refine (lattice_Check.calls A c p _ _ HR.out hl rfl HT.out).mono ?_; rintro e w' ⟨rfl, hb⟩)
  go_ret
  exact ⟨rfl, hb⟩
theorem show2_calls {g : Nat} {A : Option Addr} {c : Nat} {p : List ByteArray} {w : World} (hc : w.cell? ⟨g, 0, none⟩ = some (.slice A p.length c)) (hr : Kd.C Kd.string w A p.length p) (hl : p.length ≤ c) (hT : Tabs w) :
    Calls Tryz.prog 59 #[.pointer (some ⟨g, 0, none⟩)] w fun e w' => e = .returned (.int .i64 (barsE p)) ∧ Below w.heap.size w w' := by
  have HR := Aside0.mk hr
  have HT := Aside0.mk hT
  clear hr hT
  go_enter Tryz.func59, Tryz.ntmps59
  go_wp2_with (go_at_call 60; refine (lattice_Bars.calls A c p _ _ HR.out hl rfl HT.out).mono ?_; rintro e w' ⟨rfl, hb⟩)
  go_ret
  exact ⟨rfl, hb⟩
theorem show3_calls {g1 g2 : Nat} {A : Option Addr} {c : Nat} {l : List ByteArray} {sx sy : Int} {w : World} (hc : w.cell? ⟨g1, 0, none⟩ = some (.slice A l.length c)) (h2 : w.heap[g2]? = some (.cells #[.int .i64 sx, .int .i64 sy] 84 (0, 0))) (hr : Kd.C Kd.string w A l.length l) (hl : l.length ≤ c) (hb : barsE l = 0) :
    Calls Tryz.prog 61 #[.pointer (some ⟨g1, 0, none⟩), .pointer (some ⟨g2, 0, none⟩)] w fun e w' => e = .returned (.int .i64 (if shiftB l sx sy = true then 0 else 3)) ∧ Below w.heap.size w w' := by
  have HR := Aside0.mk hr
  have HS := Aside0.mk (isShift_f (rows_of (high := 4) (wide := 4) hb) sx sy)
  have hz0 : _ = some (Value.int .i64 sx) := (blk_cell h2 0).trans rfl
  have hz1 : _ = some (Value.int .i64 sy) := (blk_cell h2 1).trans rfl
  clear hr hb h2
  obtain ⟨q, hq⟩ : ∃ q, shiftB l sx sy = q := ⟨_, rfl⟩
  rw [hq] at HS ⊢
  clear hq
  cases q with
  | true =>
    go_enter Tryz.func61, Tryz.ntmps61
    go_wp2_with (first | (go_at_call 63; refine (z33_.calls A c l sx sy true _ HR.out hl HS.out).mono ?_; rintro e w1 ⟨rfl, hb1⟩; have HB1 := Aside0.mk hb1; clear hb1) | (go_at_call 62; refine (lattice_unless.calls true 3 0 _ rfl).mono ?_; rintro e w2 ⟨rfl, hd⟩; have HB2 := Aside0.mk (later_below HB1.out hd.below); clear hd))
    go_ret
    exact ⟨rfl, HB2.out⟩
  | false =>
    go_enter Tryz.func61, Tryz.ntmps61
    go_wp2_with (first | (go_at_call 63; refine (z33_.calls A c l sx sy false _ HR.out hl HS.out).mono ?_; rintro e w1 ⟨rfl, hb1⟩; have HB1 := Aside0.mk hb1; clear hb1) | (go_at_call 62; refine (lattice_unless.calls false 3 3 _ rfl).mono ?_; rintro e w2 ⟨rfl, hd⟩; have HB2 := Aside0.mk (later_below HB1.out hd.below); clear hd))
    go_ret
    exact ⟨rfl, HB2.out⟩
def showE (p l : List ByteArray) (sx sy : Int) : Int := if checkE p = 0 then if barsE l = 0 then if shiftB l sx sy = true then 0 else 3 else barsE l else checkE p
def z58_.f (l0 : List ByteArray) (l1 : List ByteArray) (a2_0 : Int) (a2_1 : Int) : Option (List ByteArray × Int) :=
  some (if showE l0 l1 a2_0 a2_1 = 0 then showRows (openB l1 a2_0 a2_1) l0 else [], showE l0 l1 a2_0 a2_1)
def show_fs : Nat → FuncId
  | 0 => 57
  | 1 => 59
  | _ => 61
def show_caps (g : Nat) : Nat → Array Value
  | 0 => #[.pointer (some ⟨g, 0, none⟩)]
  | 1 => #[.pointer (some ⟨g + 1, 0, none⟩)]
  | _ => #[.pointer (some ⟨g + 1, 0, none⟩), .pointer (some ⟨g + 1 + 1, 0, none⟩)]
def show_es (p l : List ByteArray) (sx sy : Int) : Nat → Int
  | 0 => checkE p
  | 1 => barsE l
  | _ => if shiftB l sx sy = true then 0 else 3
theorem show_first (p l : List ByteArray) (sx sy : Int) : firstErr (show_es p l sx sy) 3 = showE p l sx sy := by
  unfold showE
  simp only [firstErr, show_es, if_true]
  by_cases h1 : checkE p = 0
  · by_cases h2 : barsE l = 0 <;> simp [h1, h2]
  · simp [h1]
theorem rows_big {rows : List ByteArray} {high wide : Nat} {among : ByteArray} {n0 : Nat} (h : Rows rows high wide among n0) (hh : high ≤ 8) (hw : wide ≤ 8) : rows.length ≤ 1000000 ∧ ∀ y, y < rows.length → (rows.getD y ByteArray.empty).size ≤ 1000000 :=
  ⟨by have := h.len2; omega, fun y hy => by have := h.size y hy; have := h.w2; omega⟩
theorem open_all {p l : List ByteArray} {a1 a2 : ByteArray} {n0 n1 : Nat} {sx sy : Int} (hp : Rows p 8 8 a1 n0) (hl : Rows l 4 4 a2 n1) (hs : shiftB l sx sy = true) :
    ∀ y, y < p.length → ∀ x, x < (p.getD y ByteArray.empty).size → z57_.f l sx sy (x : Int) (y : Int) = some (openB l sx sy x y) := by
  intro y hy x hx
  have h1 := hp.size y hy
  have h2 := hp.len2
  have h3 := hp.w2
  unfold shiftB at hs
  simp only [Bool.and_eq_true, decide_eq_true_eq] at hs
  have h0 := hl.size 0 (by have := hl.len1; omega)
  exact open_f hl hs.1.1 (by omega) hs.2.1 hs.2.2 (by omega) (by omega)
def showW (w : World) (A0 : Option Addr) (n0 c0 : Nat) (A1 : Option Addr) (n1 c1 : Nat) (sx sy : Int) : World :=
  (((w.alloc (.cells #[.slice A0 n0 c0] 80)).alloc (.cells #[.slice A1 n1 c1] 80)).alloc (.cells #[.int .i64 sx, .int .i64 sy] 84)).alloc
    (.cells #[.func (.func 57) #[] #[.pointer (some ⟨w.heap.size, 0, none⟩)], .func (.func 59) #[] #[.pointer (some ⟨w.heap.size + 1, 0, none⟩)],
      .func (.func 61) #[] #[.pointer (some ⟨w.heap.size + 1, 0, none⟩), .pointer (some ⟨w.heap.size + 1 + 1, 0, none⟩)]] 118)
section
variable (w : World) (A0 : Option Addr) (n0 c0 : Nat) (A1 : Option Addr) (n1 c1 : Nat) (sx sy : Int)
theorem showW_c0 : (showW w A0 n0 c0 A1 n1 c1 sx sy).cell? ⟨w.heap.size, 0, none⟩ = some (.slice A0 n0 c0) := keep_cell _ (keep_cell _ (keep_cell _ (box_cell _ _ _ rfl)))
theorem showW_c1 : (showW w A0 n0 c0 A1 n1 c1 sx sy).cell? ⟨w.heap.size + 1, 0, none⟩ = some (.slice A1 n1 c1) := keep_cell _ (keep_cell _ (box_cell _ _ _ (by simp)))
theorem showW_b2 : (showW w A0 n0 c0 A1 n1 c1 sx sy).heap[w.heap.size + 1 + 1]? = some (.cells #[.int .i64 sx, .int .i64 sy] 84 (0, 0)) := blk_alloc (one_blk _ _ (by simp)) _
theorem showW_below : Below w.heap.size w (showW w A0 n0 c0 A1 n1 c1 sx sy) := below_alloc (below_alloc (below_alloc (below_alloc (Below.refl _ _) _) _) _) _
theorem showW_f (i : Nat) (hi : i < 3) : (showW w A0 n0 c0 A1 n1 c1 sx sy).cell? ((⟨w.heap.size + 1 + 1 + 1, 0, none⟩ : Addr).add i) = some (.func (.func (show_fs i)) #[] (show_caps w.heap.size i)) := by
  rw [add_plain]
  have hb : (showW w A0 n0 c0 A1 n1 c1 sx sy).heap[w.heap.size + 1 + 1 + 1]? = _ := one_blk _ _ (by simp)
  rw [blk_cell hb i]
  match i, hi with
  | 0, _ => rfl
  | 1, _ => rfl
  | 2, _ => rfl
end
set_option maxHeartbeats 4000000 in
set_option maxRecDepth 100000 in
theorem z58_.calls (A0 : Option Addr) (c0 : Nat) (l0 : List ByteArray) (A1 : Option Addr) (c1 : Nat) (l1 : List ByteArray) (a2_0 : Int) (a2_1 : Int) (r1 : List ByteArray) (r2 : Int) (w : World) (hr0 : Kd.C Kd.string w A0 l0.length l0) (hc0 : l0.length ≤ c0) (hr1 : Kd.C Kd.string w A1 l1.length l1) (hc1 : l1.length ≤ c1) (h : z58_.f l0 l1 a2_0 a2_1 = some (r1, r2)) (hT : Tabs w) :
    Calls Tryz.prog 28 #[.slice A0 l0.length c0, .slice A1 l1.length c1, .agg #[.int .i64 a2_0, .int .i64 a2_1]] w fun e w' => ∃ v0_ : Value, e = .returned (.tuple #[v0_, .int .i64 r2]) ∧ Kd.R Kd.string 9 w' w.heap.size (fun _ => True) v0_ r1 ∧ Below w.heap.size w w' := by
  have h' := Option.some.inj h
  have e2 : showE l0 l1 a2_0 a2_1 = r2 := congrArg Prod.snd h'
  have e1 : (if showE l0 l1 a2_0 a2_1 = 0 then showRows (openB l1 a2_0 a2_1) l0 else []) = r1 := congrArg Prod.fst h'
  rw [e2] at e1
  have HR0 := Aside0.mk hr0
  have HR1 := Aside0.mk hr1
  have HT := Aside0.mk hT
  have HC0 := Aside0.mk hc0
  have HC1 := Aside0.mk hc1
  have HE1 := Aside0.mk e1
  have HE2 := Aside0.mk e2
  have HF := Aside0.mk ((show_first l0 l1 a2_0 a2_1).trans e2)
  clear hr0 hr1 hT h h' e1 e2 hc0 hc1
  go_enter Tryz.func28, Tryz.ntmps28
  go_wp2_with fail
  refine (first_calls 3 3 show_fs (show_caps w.heap.size) (show_es l0 l1 a2_0 a2_1) ⟨w.heap.size + 1 + 1 + 1, 0, none⟩ (showW w A0 l0.length c0 A1 l1.length c1 a2_0 a2_1) (by decide) (showW_f w A0 l0.length c0 A1 l1.length c1 a2_0 a2_1) ?_ ?_).mono ?_
  · intro i hi
    match i, hi with
    | 0, _ => exact enters_show1
    | 1, _ => exact enters_show2
    | 2, _ => exact enters_show3
  · intro i hi hz W hW
    have hW0 := later_below (showW_below w A0 l0.length c0 A1 l1.length c1 a2_0 a2_1) hW
    have k0 := pw_cell_below hW (showW_c0 w A0 l0.length c0 A1 l1.length c1 a2_0 a2_1)
    have k1 := pw_cell_below hW (showW_c1 w A0 l0.length c0 A1 l1.length c1 a2_0 a2_1)
    match i, hi, hz with
    | 0, _, _ => exact show1_calls k0 (Kd.C_below HR0.out hW0) HC0.out (HT.out.below hW0)
    | 1, _, _ => exact show2_calls k1 (Kd.C_below HR1.out hW0) HC1.out (HT.out.below hW0)
    | 2, _, hz => exact show3_calls k1 (blk_below (showW_b2 w A0 l0.length c0 A1 l1.length c1 a2_0 a2_1) hW) (Kd.C_below HR1.out hW0) HC1.out (hz 1 (by omega))
  rintro e w1 ⟨rfl, hb1⟩
  rw [HF.out]
  have HB1 := Aside0.mk (later_below (showW_below w A0 l0.length c0 A1 l1.length c1 a2_0 a2_1) hb1)
  have k0 := pw_cell_below hb1 (showW_c0 w A0 l0.length c0 A1 l1.length c1 a2_0 a2_1)
  have k1 := pw_cell_below hb1 (showW_c1 w A0 l0.length c0 A1 l1.length c1 a2_0 a2_1)
  have kb := blk_below (showW_b2 w A0 l0.length c0 A1 l1.length c1 a2_0 a2_1) hb1
  have k2 : _ = some (Value.int .i64 a2_0) := (blk_cell kb 0).trans rfl
  have k3 : _ = some (Value.int .i64 a2_1) := (blk_cell kb 1).trans rfl
  clear hb1 kb
  by_cases hz : r2 = 0
  · subst hz
    have HE : Aside0 (checkE l0 = 0 ∧ barsE l1 = 0 ∧ shiftB l1 a2_0 a2_1 = true) := ⟨by
      have := HE2.out
      unfold showE at this
      split at this
      · split at this
        · split at this
          · exact ⟨by assumption, by assumption, by assumption⟩
          · omega
        · omega
      · omega⟩
    have HG := Aside0.mk (show_calls A1 c1 l1 A0 c0 l0 a2_0 a2_1 (openB l1 a2_0 a2_1) w1 (Kd.C_below HR1.out HB1.out) HC1.out (Kd.C_below HR0.out HB1.out) HC0.out (rows_big (rows_of (high := 8) (wide := 8) HE.out.1) (by decide) (by decide)).1 (rows_big (rows_of (high := 8) (wide := 8) HE.out.1) (by decide) (by decide)).2
      (open_all (rows_of (high := 8) (wide := 8) HE.out.1) (rows_of (high := 4) (wide := 4) HE.out.2.1) HE.out.2.2))
    go_wp2_with (go_at_call 64; refine HG.out.mono ?_; rintro e w2 ⟨v, rfl, hv, hb2⟩; have HV := Aside0.mk hv; have HB2 := Aside0.mk (later_below HB1.out hb2); clear hv hb2)
    go_ret2
    exact ⟨_, rfl, by rw [← HE1.out]; exact Kd.R_lower HV.out HB1.out.size, HB2.out⟩
  · have hz1 : (r2 == 0) = false := beq_eq_false_iff_ne.2 hz
    have hz2 : (r2 != 0) = true := bne_iff_ne.2 hz
    have HN : Aside0 (r1 = []) := ⟨by rw [← HE1.out, if_neg hz]⟩
    clear hz
    go_wp2
    go_ret2
    exact ⟨_, rfl, by rw [HN.out]; exact Kd.R_nil _ _ _ _ _, HB1.out⟩
end X
end Go.Proofs.YtgdkmadcegleiaaGreatDoor
namespace Go.Proofs.YtgdkmadcegleiaaGreatDoor
namespace X
theorem enters_pwithin1 : ∀ args w, (callFunc 68 args).run Tryz.prog w = .ok (.enter 68 args) w := enters_of Tryz.func68 (by kernel_rfl) rfl
def poutside (least most n : Int) : Bool := decide (n < least) || decide (most < n)
theorem pwithin1_pred {g1 g2 : Nat} {least most : Int} {xs : List Int} {w : World} (h1 : w.cell? ⟨g1, 0, none⟩ = some (.int .i64 least)) (h2 : w.cell? ⟨g2, 0, none⟩ = some (.int .i64 most)) :
    PredK 68 #[.pointer (some ⟨g1, 0, none⟩), .pointer (some ⟨g2, 0, none⟩)] (Kd.int .i64) cell1 xs (poutside least most) w := by
  intro x _ W cs hb hK
  have e : cs = [.int .i64 x] := hK
  subst e
  have k1 : W.cell? ⟨g1, 0, none⟩ = some (.int .i64 least) := pw_cell_below hb h1
  have k2 : W.cell? ⟨g2, 0, none⟩ = some (.int .i64 most) := pw_cell_below hb h2
  simp only [cell1, List.getD_cons_zero]
  show Calls Tryz.prog 68 #[.int .i64 x, .pointer (some ⟨g1, 0, none⟩), .pointer (some ⟨g2, 0, none⟩)] W _
  clear hb h1 h2 hK
  by_cases c1 : x < least
  · have d1 : decide (x < least) = true := decide_eq_true c1
    have e1 : poutside least most x = true := by simp [poutside, d1]
    rw [e1]
    clear c1 e1
    go_enter Tryz.func68, Tryz.ntmps68
    go_wp2
    go_ret
    exact ⟨rfl, by first | exact Below.refl _ _ | exact pw_below_drewN (Below.refl _ _) _⟩
  · have d1 : decide (x < least) = false := decide_eq_false c1
    clear c1
    by_cases c2 : most < x
    · have d2 : decide (most < x) = true := decide_eq_true c2
      have e1 : poutside least most x = true := by simp [poutside, d2]
      rw [e1]
      clear c2 e1
      go_enter Tryz.func68, Tryz.ntmps68
      go_wp2
      go_ret
      exact ⟨rfl, by first | exact Below.refl _ _ | exact pw_below_drewN (Below.refl _ _) _⟩
    · have d2 : decide (most < x) = false := decide_eq_false c2
      have e1 : poutside least most x = false := by simp [poutside, d1, d2]
      rw [e1]
      clear c2 e1
      go_enter Tryz.func68, Tryz.ntmps68
      go_wp2
      go_ret
      exact ⟨rfl, by first | exact Below.refl _ _ | exact pw_below_drewN (Below.refl _ _) _⟩
def z2_.f (a0 a1 : Int) (l2 : List Int) : Option Bool := some (l2.all fun n => decide (a0 ≤ n) && decide (n ≤ a1))
theorem any_poutside (a0 a1 : Int) (l : List Int) : (!(l.any (poutside a0 a1))) = l.all fun n => decide (a0 ≤ n) && decide (n ≤ a1) := by
  induction l with
  | nil => rfl
  | cons x l ih =>
    simp only [List.any_cons, List.all_cons, Bool.not_or, ih]
    congr 1
    simp only [poutside, Bool.not_or]
    by_cases h1 : a0 ≤ x <;> by_cases h2 : x ≤ a1 <;> simp [h1, h2] <;> omega
set_option maxHeartbeats 1000000 in
theorem z2_.calls (a0 : Int) (a1 : Int) (A2 : Option Addr) (c2 : Nat) (l2 : List Int) (r : Bool) (w : World) (hr2 : Kd.C (Kd.int .i64) w A2 l2.length l2) (_hc2 : l2.length ≤ c2) (h : z2_.f a0 a1 l2 = some r) :
    Calls Tryz.prog 37 #[.int .i64 a0, .int .i64 a1, .slice A2 l2.length c2] w fun e w' => e = .returned (.bool r) ∧ Below w.heap.size w w' := by
  obtain rfl := Option.some.inj h
  rw [← any_poutside]
  have HR := Aside0.mk hr2
  clear hr2 h
  go_enter Tryz.func37, Tryz.ntmps37
  go_wp2_with fail
  refine (contains_int (p := poutside a0 a1) enters_pwithin1 (Kd.C_alloc (Kd.C_alloc HR.out _) _) (pwithin1_pred (by simp) (by simp))).mono ?_
  rintro e w' ⟨rfl, hb⟩
  have HB := Aside0.mk (below_then (below_alloc (below_alloc (Below.refl _ _) _) _) (by simp; omega) hb)
  clear hb
  go_wp2
  go_ret
  exact ⟨rfl, HB.out⟩
end X
end Go.Proofs.YtgdkmadcegleiaaGreatDoor
namespace Go.Proofs.YtgdkmadcegleiaaGreatDoor
namespace PPle
open X
attribute [local go_sem] max2_int min2_int max_two min_two max_three min_three max_four min_four   -- for this text's walks alone
def errW : Option Int → Value
  | none => .nilIface
  | some c => .iface 0 (.int .i64 c)
theorem errW_none : errW none = .nilIface := rfl
theorem errW_some (c : Int) : errW (some c) = .iface 0 (.int .i64 c) := rfl
theorem info3 : (Tryz.prog.info? 3).map (fun i => (i.zero, i.size, i.bytes)) = some (some (.int .i64 0), 1, 8) := by kernel_rfl
end PPle
end Go.Proofs.YtgdkmadcegleiaaGreatDoor
namespace Go.Proofs.YtgdkmadcegleiaaGreatDoor
namespace PPle
open Sq X
attribute [local go_sem] max2_int min2_int max_two min_two max_three min_three max_four min_four   -- for this text's walks alone
def z55_.f (a0_0 : Int) (a0_1 : Int) (a1 : Int) (a2 : Int) : Option (Bool) := (z2_.f a1 a2 (([a0_0, a0_1] : List Int))).bind fun t105 => (if t105 = true then (some (decide (a0_0 ≤ a0_1))) else (some false))
set_option maxHeartbeats 8000000 in
set_option maxRecDepth 100000 in
theorem z55_.calls (a0_0 : Int) (a0_1 : Int) (a1 : Int) (a2 : Int) (r : Bool) (w : World) (h : z55_.f a0_0 a0_1 a1 a2 = some r) :
  Calls Tryz.prog 71 #[.agg #[.int .i64 a0_0, .int .i64 a0_1], .int .i64 a1, .int .i64 a2] w fun e w' => e = .returned (.bool r) ∧ Below w.heap.size w w' := by
 have hu30 := Tryz.underlying30
 have HB := Aside0.mk (Below.refl w.heap.size w)
 have H : ((z2_.f a1 a2 (([a0_0, a0_1] : List Int))).bind fun t105 => (if t105 = true then (some (decide (a0_0 ≤ a0_1))) else (some false))) = some r := h
 clear h
 obtain ⟨y102, hy102⟩ : ∃ y_ : List Int, y_ = (([a0_0, a0_1] : List Int)) := ⟨_, rfl⟩
 replace H : ((z2_.f a1 a2 y102).bind fun t105 => (if t105 = true then (some (decide (a0_0 ≤ a0_1))) else (some false))) = some r := by first | (rw [hy102]; with_reducible exact H) | (have H2_ := (Option.bind_some _ _).symm.trans H; rw [hy102]; with_reducible exact H2_) | (have H2_ := (Option.bind_some _ _).symm.trans H; with_reducible exact H2_) | with_reducible exact H | (rw [hy102]; exact H) | exact H
 have Ny102 := Aside0.mk hy102
 clear hy102
 replace H := bindA H
 obtain ⟨t105, A4, H⟩ := H
 try dsimp only at H
 by_cases c5 : t105 = true
 ·subst c5
  have H1 : (some (decide (a0_0 ≤ a0_1))) = some r := by rw [if_pos rfl] at H; exact H
  clear H
  have H := H1
  clear H1
  obtain rfl := Option.some.inj H
  go_enter Tryz.func71, Tryz.ntmps71
  go_wp2_with (first | ((with_reducible refine gate_dst (N := 3) rfl ?_); refine boxA (N := 3) (cs := #[.int .i64 a0_0, .int .i64 a0_1]) (t := 30) ?_; intro gb101 hg w6 hbox hb; have BK101 := Aside0.mk (hbox); have GE101 := bG HB hg; replace HB := bS HB hb; clear hb hbox hg; obtain ⟨hcz7_0, hcz7_1, hfz7_0, hfz7_1⟩ := cc2 BK101) | ((with_reducible refine gate_dst (N := 13) rfl ?_); refine Kd.R_lit (Kd.int .i64) _ 3 ?hg (N := 13) ?hd (xs := ([a0_0, a0_1] : List Int)) (inner := [.int .i64 a0_0, .int .i64 a0_1]) (ok := fun _ => True) (okp := fun _ => True) ?hr ?hp (fun _ hk => hk) trivial (Below.refl _ _) (Nat.le_refl _) (by simp) ?_; (case hd => rfl); (case hg => rfl); (case hr => first | (go_simp; done) | (go_simp; rfl)); (case hp => exact (Reps.one (show Kd.M (Kd.int .i64) _ _ _ a0_0 [.int .i64 a0_0] from rfl) (Reps.one (show Kd.M (Kd.int .i64) _ _ _ a0_1 [.int .i64 a0_1] from rfl) (Reps.none _ _)))); intro v103 w8 ho9 hb hg_ hnew_; clear hg_ hnew_; (first | rw [← Ny102.out] at ho9 | (simp only [Int.reduceToNat] at ho9; rw [← Ny102.out] at ho9)); have HO104 := Aside0.mk (Kd.R_lower ho9 (below_size (bX HB))); replace BK101 := kB BK101 hb; replace HB := bS HB hb; clear hb ho9; obtain ⟨Ao10, co10, eo10⟩ := Kd.R_slice HO104.out; subst eo10) | ((with_reducible refine gate_callee (f := 37) rfl ?_); refine goesA (some 14) Tryz.func37 #[.int .i64 a1, .int .i64 a2, .slice Ao10 y102.length co10] ?_; (with_reducible refine (z2_.calls a1 a2 _ _ y102 true _ ?side1 ?side2 A4.out).mono ?_); (case side1 => exact sX (Kd.R_reads' HO104.out).2.2); (case side2 => exact (Kd.R_reads' HO104.out).2.1); rintro e w11 ⟨rfl, hb⟩; refine ⟨_, rfl, ?_⟩; replace HO104 := rB HO104 hb; replace BK101 := kB BK101 hb; replace HB := bS HB hb; obtain ⟨hcz12_0, hcz12_1, hfz12_0, hfz12_1⟩ := cc2 BK101))
  go_ret
  exact ⟨eqA, bX HB⟩
 ·replace c5 := Bool.eq_false_iff.mpr c5
  subst c5
  have H1 : (some false) = some r := by rw [if_neg (show ¬ (false = true) by decide)] at H; exact H
  clear H
  have H := H1
  clear H1
  obtain rfl := Option.some.inj H
  go_enter Tryz.func71, Tryz.ntmps71
  go_wp2_with (first | ((with_reducible refine gate_dst (N := 3) rfl ?_); refine boxA (N := 3) (cs := #[.int .i64 a0_0, .int .i64 a0_1]) (t := 30) ?_; intro gb101 hg w13 hbox hb; have BK101 := Aside0.mk (hbox); have GE101 := bG HB hg; replace HB := bS HB hb; clear hb hbox hg; obtain ⟨hcz14_0, hcz14_1, hfz14_0, hfz14_1⟩ := cc2 BK101) | ((with_reducible refine gate_dst (N := 13) rfl ?_); refine Kd.R_lit (Kd.int .i64) _ 3 ?hg (N := 13) ?hd (xs := ([a0_0, a0_1] : List Int)) (inner := [.int .i64 a0_0, .int .i64 a0_1]) (ok := fun _ => True) (okp := fun _ => True) ?hr ?hp (fun _ hk => hk) trivial (Below.refl _ _) (Nat.le_refl _) (by simp) ?_; (case hd => rfl); (case hg => rfl); (case hr => first | (go_simp; done) | (go_simp; rfl)); (case hp => exact (Reps.one (show Kd.M (Kd.int .i64) _ _ _ a0_0 [.int .i64 a0_0] from rfl) (Reps.one (show Kd.M (Kd.int .i64) _ _ _ a0_1 [.int .i64 a0_1] from rfl) (Reps.none _ _)))); intro v103 w15 ho16 hb hg_ hnew_; clear hg_ hnew_; (first | rw [← Ny102.out] at ho16 | (simp only [Int.reduceToNat] at ho16; rw [← Ny102.out] at ho16)); have HO104 := Aside0.mk (Kd.R_lower ho16 (below_size (bX HB))); replace BK101 := kB BK101 hb; replace HB := bS HB hb; clear hb ho16; obtain ⟨Ao17, co17, eo17⟩ := Kd.R_slice HO104.out; subst eo17) | ((with_reducible refine gate_callee (f := 37) rfl ?_); refine goesA (some 14) Tryz.func37 #[.int .i64 a1, .int .i64 a2, .slice Ao17 y102.length co17] ?_; (with_reducible refine (z2_.calls a1 a2 _ _ y102 false _ ?side1 ?side2 A4.out).mono ?_); (case side1 => exact sX (Kd.R_reads' HO104.out).2.2); (case side2 => exact (Kd.R_reads' HO104.out).2.1); rintro e w18 ⟨rfl, hb⟩; refine ⟨_, rfl, ?_⟩; replace HO104 := rB HO104 hb; replace BK101 := kB BK101 hb; replace HB := bS HB hb))
  go_ret
  exact ⟨eqA, bX HB⟩
def z36_.l0 : Nat → Int → Int → List Int → Int → Int → Int → List (S55) → List Int → Int → Int → Int → Int → Int → Option (Int)
 | 0, _, _, _, _, _, _, _, _, _, _, _, _, _ => none
 | k + 1, x1, x7, x13, x14, x15, x107000, x107001, x107002, x107003, x107004, x107005, x108000, x108001 => if x15 < x14 then (if 0 ≤ x15 then (if x15 < (x13.length : Int) then (z36_.l0 k x1 (mn x7 (wrap64 ((mx (wrap64 (x108000 - (wrap64 ((rd x13 x15) + x1)))) (wrap64 ((wrap64 ((rd x13 x15) + x1)) - x108001))) - x107003))) x13 x14 (wrap64 (x15 + 1)) x107000 x107001 x107002 x107003 x107004 x107005 x108000 x108001) else (none)) else (none)) else (some x7)
def z36_.f (k : Nat) (a0_0 : Int) (l0_1 : List (S55)) (l0_2 : List Int) (a0_3 : Int) (a0_4 : Int) (a0_5 : Int) (a1 : Int) (a2_0 : Int) (a2_1 : Int) : Option (Int) := z36_.l0 k a1 5000 l0_2 (l0_2.length : Int) 0 a0_0 l0_1 l0_2 a0_3 a0_4 a0_5 a2_0 a2_1
set_option maxHeartbeats 8000000 in
set_option maxRecDepth 100000 in
theorem z36_.calls (k : Nat) (a0_0 : Int) (A0_1 : Option Addr) (c0_1 : Nat) (l0_1 : List (S55)) (A0_2 : Option Addr) (c0_2 : Nat) (l0_2 : List Int) (a0_3 : Int) (a0_4 : Int) (a0_5 : Int) (a1 : Int) (a2_0 : Int) (a2_1 : Int) (r : Int) (w : World) (hr0_1 : Kd.C k55 w A0_1 l0_1.length l0_1) (hc0_1 : l0_1.length ≤ c0_1) (hr0_2 : Kd.C (Kd.int .i64) w A0_2 l0_2.length l0_2) (hc0_2 : l0_2.length ≤ c0_2) (h : z36_.f k a0_0 l0_1 l0_2 a0_3 a0_4 a0_5 a1 a2_0 a2_1 = some r) :
  Calls Tryz.prog 91 #[.agg #[.int .i64 a0_0, .slice A0_1 l0_1.length c0_1, .slice A0_2 l0_2.length c0_2, .int .i64 a0_3, .int .i64 a0_4, .int .i64 a0_5], .int .i64 a1, .agg #[.int .i64 a2_0, .int .i64 a2_1]] w fun e w' => e = .returned (.int .i64 r) ∧ Below w.heap.size w w' := by
 have hu92 := Tryz.underlying92
 have hu135 := Tryz.underlying135
 have HR0_1 := Aside0.mk hr0_1
 have HC0_1 := Aside0.mk hc0_1
 clear hr0_1 hc0_1
 have HR0_2 := Aside0.mk hr0_2
 have HC0_2 := Aside0.mk hc0_2
 clear hr0_2 hc0_2
 have HB := Aside0.mk (Below.refl w.heap.size w)
 have H : (z36_.l0 k a1 5000 l0_2 (l0_2.length : Int) 0 a0_0 l0_1 l0_2 a0_3 a0_4 a0_5 a2_0 a2_1) = some r := h
 clear h
 have H' := Aside0.mk H
 clear H
 go_enter Tryz.func91, Tryz.ntmps91
 go_wp2_with (first | ((with_reducible refine gate_dst (N := 3) rfl ?_); refine boxA (N := 3) (cs := #[.int .i64 a0_0, .slice A0_1 l0_1.length c0_1, .slice A0_2 l0_2.length c0_2, .int .i64 a0_3, .int .i64 a0_4, .int .i64 a0_5]) (t := 92) ?_; intro gb106 hg w4 hbox hb; have BK106 := Aside0.mk (hbox); have GE106 := bG HB hg; replace HB := bS HB hb; clear hb hbox hg) | ((with_reducible refine gate_dst (N := 5) rfl ?_); refine boxA (N := 5) (cs := #[.int .i64 a2_0, .int .i64 a2_1]) (t := 135) ?_; intro gb107 hg w5 hbox hb; have BK107 := Aside0.mk (hbox); have GE107 := bG HB hg; have NB106_107 := kN BK106 hg; have NB107_106 := kM BK106 hg; replace BK106 := kB BK106 hb; replace HB := bS HB hb; clear hb hbox hg; obtain ⟨hnb6, hnc6⟩ := nn NB106_107; obtain ⟨hcz7_0, hcz7_1, hcz7_2, hcz7_3, hcz7_4, hcz7_5, hfz7_0, hfz7_1, hfz7_2, hfz7_3, hfz7_4, hfz7_5⟩ := cc6 BK106))
 go_loopg [7, 15] k (fun kq v7 v15 w' => ∃ (x7_1 : Int) (x15_1 : Int), v7 = .int .i64 x7_1 ∧ v15 = .int .i64 x15_1 ∧ Aside0 (z36_.l0 kq a1 x7_1 l0_2 (l0_2.length : Int) x15_1 a0_0 l0_1 l0_2 a0_3 a0_4 a0_5 a2_0 a2_1 = some r) ∧ Aside0 (kq ≤ k) ∧ Aside0 (w'.heap[gb106]? = some (.cells #[.int .i64 a0_0, (.slice A0_1 l0_1.length c0_1), (.slice A0_2 l0_2.length c0_2), .int .i64 a0_3, .int .i64 a0_4, .int .i64 a0_5] 92 (0, 0))) ∧ Aside0 (w'.heap[gb107]? = some (.cells #[.int .i64 a2_0, .int .i64 a2_1] 135 (0, 0))) ∧ Aside0 (Below w.heap.size w w'))
 case atStart => exact ⟨(5000), (0), eR, eR, H', ⟨Nat.le_refl _⟩, ⟨kX BK106.out⟩, ⟨kX BK107.out⟩, ⟨bX HB⟩⟩
 case round =>
  clear H'
  try clear p2
  try clear hcz7_0 hcz7_1 hcz7_2 hcz7_3 hcz7_4 hcz7_5 hfz7_0 hfz7_1 hfz7_2 hfz7_3 hfz7_4 hfz7_5
  obtain ⟨x7_1, x15_1, rfl, rfl, HA, HK1, BK106, BK107, HB⟩ := hrel
  cases gk with
  | zero => exact absurd HA.out (by simp [z36_.l0])
  | succ k1 =>
   have H := HA.out
   clear HA
   simp only [z36_.l0] at H
   by_cases c8 : x15_1 < (l0_2.length : Int)
   ·rw [if_pos c8] at H
    have c8b0 : decide (x15_1 < (l0_2.length : Int)) = true := decide_eq_true c8
    clear c8
    by_cases c9 : 0 ≤ x15_1
    ·rw [if_pos c9] at H
     have c9b0 : decide (0 ≤ x15_1) = true := decide_eq_true c9
     clear c9
     by_cases c10 : x15_1 < (l0_2.length : Int)
     ·rw [if_pos c10] at H
      have c10b0 : decide (x15_1 < (l0_2.length : Int)) = true := decide_eq_true c10
      clear c10
      obtain ⟨ji11, hji11⟩ : ∃ j_ : Int, (mx (wrap64 (a2_0 - (wrap64 ((rd l0_2 x15_1) + a1)))) (wrap64 ((wrap64 ((rd l0_2 x15_1) + a1)) - a2_1))) = j_ := ⟨_, rfl⟩
      replace H : (z36_.l0 k1 a1 (mn x7_1 (wrap64 ((ji11) - a0_3))) l0_2 (l0_2.length : Int) (wrap64 (x15_1 + 1)) a0_0 l0_1 l0_2 a0_3 a0_4 a0_5 a2_0 a2_1) = some r := by first | (rw [hji11] at H; exact H) | (simp only [hji11] at H ⊢; exact H)
      have hji11_ : (if (wrap64 (a2_0 - (wrap64 ((rd l0_2 x15_1) + a1)))) < (wrap64 ((wrap64 ((rd l0_2 x15_1) + a1)) - a2_1)) then (wrap64 ((wrap64 ((rd l0_2 x15_1) + a1)) - a2_1)) else (wrap64 (a2_0 - (wrap64 ((rd l0_2 x15_1) + a1))))) = ji11 := hji11
      obtain ⟨ji12, hji12⟩ : ∃ j_ : Int, (mn x7_1 (wrap64 ((ji11) - a0_3))) = j_ := ⟨_, rfl⟩
      replace H : (z36_.l0 k1 a1 ji12 l0_2 (l0_2.length : Int) (wrap64 (x15_1 + 1)) a0_0 l0_1 l0_2 a0_3 a0_4 a0_5 a2_0 a2_1) = some r := by first | (rw [hji12] at H; exact H) | (simp only [hji12] at H ⊢; exact H)
      have hji12_ : (if (wrap64 ((ji11) - a0_3)) < x7_1 then (wrap64 ((ji11) - a0_3)) else x7_1) = ji12 := hji12
      have H' := Aside0.mk H
      clear H
      have p108 : 0 ≤ (x15_1 : Int) := of_decide_eq_true (by first | (with_reducible assumption) | assumption)
      have q108 : x15_1 < (l0_2.length : Int) := of_decide_eq_true (by first | (with_reducible assumption) | assumption)
      obtain ⟨ad108, e108, hx108_0⟩ := Kd.at_int HR0_2.out x15_1 p108 q108
      cases e108
      replace hx108_0 := (HB.out.cell (World.block_lt_of_cell? w _ hx108_0)).trans hx108_0
      replace p108 := eq_true p108
      replace q108 := eq_true q108
      obtain ⟨hnb13, hnc13⟩ := nn NB107_106
      obtain ⟨hcz14_0, hcz14_1, hfz14_0, hfz14_1⟩ := cc2 BK107
      obtain ⟨hcz15_0, hcz15_1, hcz15_2, hcz15_3, hcz15_4, hcz15_5, hfz15_0, hfz15_1, hfz15_2, hfz15_3, hfz15_4, hfz15_5⟩ := cc6 BK106
      go_wp2
      go_roundg k1
      case measure => have := HK1.out; omega
      case rel => exact ⟨(ji12), (wrap64 (x15_1 + 1)), (by first | rfl | (simp; done) | (simp only [← hji12] <;> (first | rfl | simp)) | (simp [*]; done)), eR, H', ⟨by have := HK1.out; omega⟩, ⟨kX BK106.out⟩, ⟨kX BK107.out⟩, ⟨bX HB⟩⟩
     ·rw [if_neg c10] at H
      exact absurd H (by simp)
    ·rw [if_neg c9] at H
     exact absurd H (by simp)
   ·rw [if_neg c8] at H
    have c8b0 : decide (x15_1 < (l0_2.length : Int)) = false := decide_eq_false c8
    clear c8
    obtain rfl := Option.some.inj H
    go_wp2
    go_ret
    exact ⟨eqA, bX HB⟩
def pleat_least.f (a0_0 : Int) (a0_1 : Int) (a0_2 : Int) (a0_3 : Int) : Option (Int × Int) := some (a0_1, a0_2)
set_option maxHeartbeats 8000000 in
set_option maxRecDepth 100000 in
theorem pleat_least.calls (a0_0 : Int) (a0_1 : Int) (a0_2 : Int) (a0_3 : Int) (r1 : Int) (r2 : Int) (w : World) (h : pleat_least.f a0_0 a0_1 a0_2 a0_3 = some (r1, r2)) :
  Calls Tryz.prog 39 #[.agg #[.int .i64 a0_0, .int .i64 a0_1, .int .i64 a0_2, .int .i64 a0_3]] w fun e w' => e = .returned (.agg #[.int .i64 r1, .int .i64 r2]) ∧ Below w.heap.size w w' := by
 have hu55 := Tryz.underlying55
 have hu135 := Tryz.underlying135
 have HB := Aside0.mk (Below.refl w.heap.size w)
 have H : (some (a0_1, a0_2)) = some (r1, r2) := h
 clear h
 simp only [Option.some.injEq, Prod.mk.injEq] at H
 obtain ⟨rfl, rfl⟩ := H
 go_enter Tryz.func39, Tryz.ntmps39
 go_wp2_with (first | ((with_reducible refine gate_dst (N := 1) rfl ?_); refine boxA (N := 1) (cs := #[.int .i64 a0_0, .int .i64 a0_1, .int .i64 a0_2, .int .i64 a0_3]) (t := 55) ?_; intro gb109 hg w2 hbox hb; have BK109 := Aside0.mk (hbox); have GE109 := bG HB hg; replace HB := bS HB hb; clear hb hbox hg) | ((with_reducible refine gate_dst (N := 2) rfl ?_); refine boxA (N := 2) (cs := #[.int .i64 0, .int .i64 0]) (t := 135) ?_; intro gb110 hg w3 hbox hb; have BK110 := Aside0.mk (hbox); have GE110 := bG HB hg; have NB109_110 := kN BK109 hg; have NB110_109 := kM BK109 hg; replace BK109 := kB BK109 hb; replace HB := bS HB hb; clear hb hbox hg; obtain ⟨hnb4, hnc4⟩ := nn NB109_110; obtain ⟨hcz5_0, hcz5_1, hcz5_2, hcz5_3, hfz5_0, hfz5_1, hfz5_2, hfz5_3⟩ := cc4 BK109; obtain ⟨hcz6_0, hcz6_1, hfz6_0, hfz6_1⟩ := cc2 BK110))
 refine bodyPost_ret (results_cell_row rfl _ _ gb110 135 #[.int .i64 a0_1, .int .i64 a0_2] (0, 0) _ rfl (kP BK110) Tryz.underlying135 rfl (by kernel_rfl)) rfl ?_
 exact ⟨eqA, bX HB⟩
def pleat_most.f (a0_0 : Int) (a0_1 : Int) (a0_2 : Int) (a0_3 : Int) : Option (Int × Int) := some (a0_0, a0_3)
set_option maxHeartbeats 8000000 in
set_option maxRecDepth 100000 in
theorem pleat_most.calls (a0_0 : Int) (a0_1 : Int) (a0_2 : Int) (a0_3 : Int) (r1 : Int) (r2 : Int) (w : World) (h : pleat_most.f a0_0 a0_1 a0_2 a0_3 = some (r1, r2)) :
  Calls Tryz.prog 40 #[.agg #[.int .i64 a0_0, .int .i64 a0_1, .int .i64 a0_2, .int .i64 a0_3]] w fun e w' => e = .returned (.agg #[.int .i64 r1, .int .i64 r2]) ∧ Below w.heap.size w w' := by
 have hu55 := Tryz.underlying55
 have hu135 := Tryz.underlying135
 have HB := Aside0.mk (Below.refl w.heap.size w)
 have H : (some (a0_0, a0_3)) = some (r1, r2) := h
 clear h
 simp only [Option.some.injEq, Prod.mk.injEq] at H
 obtain ⟨rfl, rfl⟩ := H
 go_enter Tryz.func40, Tryz.ntmps40
 go_wp2_with (first | ((with_reducible refine gate_dst (N := 1) rfl ?_); refine boxA (N := 1) (cs := #[.int .i64 a0_0, .int .i64 a0_1, .int .i64 a0_2, .int .i64 a0_3]) (t := 55) ?_; intro gb111 hg w2 hbox hb; have BK111 := Aside0.mk (hbox); have GE111 := bG HB hg; replace HB := bS HB hb; clear hb hbox hg) | ((with_reducible refine gate_dst (N := 2) rfl ?_); refine boxA (N := 2) (cs := #[.int .i64 0, .int .i64 0]) (t := 135) ?_; intro gb112 hg w3 hbox hb; have BK112 := Aside0.mk (hbox); have GE112 := bG HB hg; have NB111_112 := kN BK111 hg; have NB112_111 := kM BK111 hg; replace BK111 := kB BK111 hb; replace HB := bS HB hb; clear hb hbox hg; obtain ⟨hnb4, hnc4⟩ := nn NB111_112; obtain ⟨hcz5_0, hcz5_1, hcz5_2, hcz5_3, hfz5_0, hfz5_1, hfz5_2, hfz5_3⟩ := cc4 BK111; obtain ⟨hcz6_0, hcz6_1, hfz6_0, hfz6_1⟩ := cc2 BK112))
 refine bodyPost_ret (results_cell_row rfl _ _ gb112 135 #[.int .i64 a0_0, .int .i64 a0_3] (0, 0) _ rfl (kP BK112) Tryz.underlying135 rfl (by kernel_rfl)) rfl ?_
 exact ⟨eqA, bX HB⟩
end PPle
end Go.Proofs.YtgdkmadcegleiaaGreatDoor
namespace Go.Proofs.YtgdkmadcegleiaaGreatDoor
namespace PPle
open X
attribute [local go_sem] max2_int min2_int max_two min_two max_three min_three max_four min_four   -- for this text's walks alone
end PPle
end Go.Proofs.YtgdkmadcegleiaaGreatDoor
namespace Go.Proofs.YtgdkmadcegleiaaGreatDoor
namespace X
open PPle
def spanB (lo hi least most : Int) : Bool := (decide (least ≤ lo) && decide (lo ≤ most)) && (decide (least ≤ hi) && decide (hi ≤ most)) && decide (lo ≤ hi)
theorem isSpan_f (lo hi least most : Int) : z55_.f lo hi least most = some (spanB lo hi least most) := by
  unfold z55_.f z2_.f spanB
  simp only [Option.bind_some, List.all_cons, List.all_nil, Bool.and_true]
  cases ((decide (least ≤ lo) && decide (lo ≤ most)) && (decide (least ≤ hi) && decide (hi ≤ most))) <;> simp
def faceBad (long : Int) (x : S55) : Bool := !(spanB x.f0.f0 x.f0.f1 0 long) || (!(spanB x.f1.f0 x.f1.f1 0 long) || decide (x.f1.f0 ≤ x.f0.f1))
theorem enters_pcheck1 : ∀ args w, (callFunc 70 args).run Tryz.prog w = .ok (.enter 70 args) w := enters_of Tryz.func70 (by kernel_rfl) rfl
set_option maxHeartbeats 2000000 in
theorem pcheck1_pred {g : Nat} {long : Int} {xs : List S55} {w : World} (h1 : w.cell? ⟨g, 0, none⟩ = some (.int .i64 long)) :
    PredK 70 #[.pointer (some ⟨g, 0, none⟩)] k55 cellN xs (faceBad long) w := by
  intro x _ W cs hb hK
  have e := k55_open hK
  subst e
  simp only [cellN]
  show Calls Tryz.prog 70 #[.agg #[.int .i64 x.f0.f0, .int .i64 x.f0.f1, .int .i64 x.f1.f0, .int .i64 x.f1.f1], .pointer (some ⟨g, 0, none⟩)] W _
  have k0 : W.cell? ⟨g, 0, none⟩ = some (.int .i64 long) := pw_cell_below hb h1
  have k1 : ∀ o, (W.alloc o).cell? ⟨g, 0, none⟩ = some (.int .i64 long) := fun o => keep_cell o k0
  have HS0 := Aside0.mk (isSpan_f x.f0.f0 x.f0.f1 0 long)
  have HS1 := Aside0.mk (isSpan_f x.f1.f0 x.f1.f1 0 long)
  unfold faceBad
  clear hb h1 hK k0
  have step : ∀ {w1 : World}, Below (W.alloc (.cells #[.int .i64 x.f0.f0, .int .i64 x.f0.f1, .int .i64 x.f1.f0, .int .i64 x.f1.f1] 55 (0, 0))).heap.size (W.alloc (.cells #[.int .i64 x.f0.f0, .int .i64 x.f0.f1, .int .i64 x.f1.f0, .int .i64 x.f1.f1] 55 (0, 0))) w1 →
      w1.cell? ⟨g, 0, none⟩ = some (.int .i64 long) ∧ (w1.cell? ⟨W.heap.size, 1, none⟩ = some (.int .i64 x.f0.f1) ∧ w1.cell? ⟨W.heap.size, 2, none⟩ = some (.int .i64 x.f1.f0) ∧ w1.cell? ⟨W.heap.size, 3, none⟩ = some (.int .i64 x.f1.f1)) ∧ Aside0 (Below W.heap.size W w1) := fun hb =>
    ⟨pw_cell_below hb (k1 _), ⟨pw_cell_below hb ((blk_cell (blk_new W _) 1).trans rfl), pw_cell_below hb ((blk_cell (blk_new W _) 2).trans rfl), pw_cell_below hb ((blk_cell (blk_new W _) 3).trans rfl)⟩, ⟨below_then (below_alloc (Below.refl _ _) _) (by simp) hb⟩⟩
  have STEP := Aside0.mk @step
  clear step
  cases q0 : spanB x.f0.f0 x.f0.f1 0 long with
  | false =>
    rw [q0] at HS0
    clear q0
    go_enter Tryz.func70, Tryz.ntmps70
    go_wp2_with (go_at_call 71; with_reducible refine (z55_.calls x.f0.f0 x.f0.f1 0 long false _ HS0.out).mono ?_; rintro e w1 ⟨rfl, hb1⟩; obtain ⟨c0, ⟨c1, c2, c3⟩, HB⟩ := STEP.out hb1; clear hb1)
    go_ret
    exact ⟨rfl, HB.out⟩
  | true =>
    rw [q0] at HS0
    clear q0
    cases q1 : spanB x.f1.f0 x.f1.f1 0 long with
    | false =>
      rw [q1] at HS1
      clear q1
      go_enter Tryz.func70, Tryz.ntmps70
      go_wp2_with (first | (go_at_call 71; with_reducible refine (z55_.calls x.f0.f0 x.f0.f1 0 long true _ HS0.out).mono ?_; rintro e w1 ⟨rfl, hb1⟩; obtain ⟨c0, ⟨c1, c2, c3⟩, HB⟩ := STEP.out hb1; clear hb1) | (go_at_call 71; with_reducible refine (z55_.calls x.f1.f0 x.f1.f1 0 long false _ HS1.out).mono ?_; rintro e w2 ⟨rfl, hb2⟩; have HB2 := Aside0.mk (later_below HB.out hb2); clear hb2))
      go_ret
      exact ⟨rfl, HB2.out⟩
    | true =>
      rw [q1] at HS1
      clear q1
      obtain ⟨q, hq⟩ : ∃ q, decide (x.f1.f0 ≤ x.f0.f1) = q := ⟨_, rfl⟩
      have HQ := Aside0.mk hq
      go_enter Tryz.func70, Tryz.ntmps70
      go_wp2_with (first | (go_at_call 71; with_reducible refine (z55_.calls x.f0.f0 x.f0.f1 0 long true _ HS0.out).mono ?_; rintro e w1 ⟨rfl, hb1⟩; obtain ⟨c0, ⟨c1, c2, c3⟩, HB⟩ := STEP.out hb1; clear hb1) | (go_at_call 71; with_reducible refine (z55_.calls x.f1.f0 x.f1.f1 0 long true _ HS1.out).mono ?_; rintro e w2 ⟨rfl, hb2⟩; have HB2 := Aside0.mk (later_below HB.out hb2); have d1 := pw_cell_below hb2 c1; have d2 := pw_cell_below hb2 c2; clear hb2))
      go_ret
      exact ⟨by simp [hq], HB2.out⟩
def pcheckF (long : Int) (l : List S55) : Int := if (decide (1 ≤ long) && decide (long ≤ 5000)) = true then if 8 < l.length then 5 else if l.any (faceBad long) = true then 2 else 0 else 3
def z43_.f (a0_0 : Int) (l0_1 : List S55) : Option Int := some (pcheckF a0_0 l0_1)
set_option maxHeartbeats 2000000 in
theorem z43_.calls (a0_0 : Int) (A0_1 : Option Addr) (c0_1 : Nat) (l0_1 : List S55) (r : Int) (w : World) (hr0_1 : Kd.C k55 w A0_1 l0_1.length l0_1) (_hc0_1 : l0_1.length ≤ c0_1) (h : z43_.f a0_0 l0_1 = some r) :
    Calls Tryz.prog 41 #[.agg #[.int .i64 a0_0, .slice A0_1 l0_1.length c0_1]] w fun e w' => e = .returned (.int .i64 r) ∧ Below w.heap.size w w' := by
  obtain rfl := Option.some.inj h
  have HR := Aside0.mk hr0_1
  have hw : z2_.f 1 5000 [a0_0] = some (decide (1 ≤ a0_0) && decide (a0_0 ≤ 5000)) := by unfold z2_.f; simp
  unfold pcheckF
  clear hr0_1 h
  cases q0 : (decide (1 ≤ a0_0) && decide (a0_0 ≤ 5000)) with
  | false =>
    rw [q0] at hw
    have HW := Aside0.mk hw
    clear hw
    go_enter Tryz.func41, Tryz.ntmps41
    go_wp2_with (go_at_call 37; refine (z2_.calls 1 5000 _ _ [a0_0] false _ (C_lit1 _ .i64 _ a0_0 (by simp)) (Nat.le_refl 1) HW.out).mono ?_; rintro e w1 ⟨rfl, hb1⟩; have HB := Aside0.mk (below_then (below_alloc (below_alloc (Below.refl w.heap.size w) _) _) (by simp; omega) hb1); clear hb1)
    go_ret
    exact ⟨rfl, HB.out⟩
  | true =>
    rw [q0] at hw
    have HW := Aside0.mk hw
    clear hw
    have k0 : (w.alloc (.cells #[.int .i64 a0_0, .slice A0_1 l0_1.length c0_1] 58 (0, 0))).cell? ⟨w.heap.size, 0, none⟩ = some (.int .i64 a0_0) := (blk_cell (blk_new w _) 0).trans rfl
    have k1 : (w.alloc (.cells #[.int .i64 a0_0, .slice A0_1 l0_1.length c0_1] 58 (0, 0))).cell? ⟨w.heap.size, 1, none⟩ = some (.slice A0_1 l0_1.length c0_1) := (blk_cell (blk_new w _) 1).trans rfl
    have STEP : Aside0 (∀ {w1 : World} (o : Obj), Below ((w.alloc (.cells #[.int .i64 a0_0, .slice A0_1 l0_1.length c0_1] 58 (0, 0))).alloc o).heap.size ((w.alloc (.cells #[.int .i64 a0_0, .slice A0_1 l0_1.length c0_1] 58 (0, 0))).alloc o) w1 →
        w1.cell? ⟨w.heap.size, 0, none⟩ = some (.int .i64 a0_0) ∧ w1.cell? ⟨w.heap.size, 1, none⟩ = some (.slice A0_1 l0_1.length c0_1) ∧ Aside0 (Below w.heap.size w w1)) := ⟨fun o hb =>
      ⟨pw_cell_below hb (keep_cell o k0), pw_cell_below hb (keep_cell o k1), ⟨below_then (below_alloc (below_alloc (Below.refl _ _) _) _) (by simp; omega) hb⟩⟩⟩
    clear k0 k1
    by_cases c8 : 8 < l0_1.length
    · have d8 : decide ((8 : Int) < (l0_1.length : Int)) = true := decide_eq_true (by omega)
      have d8' : decide (8 < l0_1.length) = true := decide_eq_true c8
      rw [if_pos rfl, if_pos c8]
      clear c8
      go_enter Tryz.func41, Tryz.ntmps41
      go_wp2_with (go_at_call 37; refine (z2_.calls 1 5000 _ _ [a0_0] true _ (C_lit1 _ .i64 _ a0_0 (by simp)) (Nat.le_refl 1) HW.out).mono ?_; rintro e w1 ⟨rfl, hb1⟩; obtain ⟨c0, c1, HB⟩ := STEP.out _ hb1; clear hb1)
      go_ret
      exact ⟨rfl, HB.out⟩
    · have d8 : decide ((8 : Int) < (l0_1.length : Int)) = false := decide_eq_false (by omega)
      have d8' : decide (8 < l0_1.length) = false := decide_eq_false c8
      rw [if_pos rfl, if_neg c8]
      clear c8
      obtain ⟨q, hq⟩ : ∃ q, l0_1.any (faceBad a0_0) = q := ⟨_, rfl⟩
      rw [hq]
      have HQ := Aside0.mk hq
      clear hq
      cases q with
      | true =>
        go_enter Tryz.func41, Tryz.ntmps41
        go_wp2_with (first | (go_at_call 37; refine (z2_.calls 1 5000 _ _ [a0_0] true _ (C_lit1 _ .i64 _ a0_0 (by simp)) (Nat.le_refl 1) HW.out).mono ?_; rintro e w1 ⟨rfl, hb1⟩; have hR1 := Kd.C_below HR.out ((STEP.out _ hb1).2.2.out); have HR1 := Aside0.mk hR1; clear hR1; obtain ⟨c0, c1, HB⟩ := STEP.out _ hb1; clear hb1) | (go_at_call 72; refine (contains_face (p := faceBad a0_0) enters_pcheck1 HR1.out (pcheck1_pred c0)).mono ?_; rw [HQ.out]; rintro e w2 ⟨rfl, hb2⟩; have HB2 := Aside0.mk (later_below HB.out hb2); clear hb2))
        go_ret
        exact ⟨rfl, HB2.out⟩
      | false =>
        go_enter Tryz.func41, Tryz.ntmps41
        go_wp2_with (first | (go_at_call 37; refine (z2_.calls 1 5000 _ _ [a0_0] true _ (C_lit1 _ .i64 _ a0_0 (by simp)) (Nat.le_refl 1) HW.out).mono ?_; rintro e w1 ⟨rfl, hb1⟩; have hR1 := Kd.C_below HR.out ((STEP.out _ hb1).2.2.out); have HR1 := Aside0.mk hR1; clear hR1; obtain ⟨c0, c1, HB⟩ := STEP.out _ hb1; clear hb1) | (go_at_call 72; refine (contains_face (p := faceBad a0_0) enters_pcheck1 HR1.out (pcheck1_pred c0)).mono ?_; rw [HQ.out]; rintro e w2 ⟨rfl, hb2⟩; have HB2 := Aside0.mk (later_below HB.out hb2); clear hb2))
        go_ret
        exact ⟨rfl, HB2.out⟩
end X
end Go.Proofs.YtgdkmadcegleiaaGreatDoor
namespace Go.Proofs.YtgdkmadcegleiaaGreatDoor
namespace PPlM
open X
attribute [local go_sem] max2_int min2_int max_two min_two max_three min_three max_four min_four   -- for this text's walks alone
def errW : Option Int → Value
  | none => .nilIface
  | some c => .iface 0 (.int .i64 c)
theorem errW_none : errW none = .nilIface := rfl
theorem errW_some (c : Int) : errW (some c) = .iface 0 (.int .i64 c) := rfl
theorem info3 : (Tryz.prog.info? 3).map (fun i => (i.zero, i.size, i.bytes)) = some (some (.int .i64 0), 1, 8) := by kernel_rfl
end PPlM
end Go.Proofs.YtgdkmadcegleiaaGreatDoor
namespace Go.Proofs.YtgdkmadcegleiaaGreatDoor
namespace PPlM
open Sq X
attribute [local go_sem] max2_int min2_int max_two min_two max_three min_three max_four min_four   -- for this text's walks alone
mutual
def z7_.j0 : Nat → Bool → List Int → Int → Int → Int → Option (Int)
 | 0, _, _, _, _, _ => none
 | k + 1, x22, x102000, x102001, x102002, x102003 => if x22 = true then (some 2) else ((z2_.f 1 40 (([(x102000.length : Int)] : List Int))).bind fun t117 => (if t117 = true then ((z2_.f 0 5000 x102000).bind fun t118 => (z7_.j1 k (!t118) x102000 x102001 x102002 x102003)) else (z7_.j1 k true x102000 x102001 x102002 x102003)))
def z7_.j1 : Nat → Bool → List Int → Int → Int → Int → Option (Int)
 | 0, _, _, _, _, _ => none
 | k + 1, x34, x102000, x102001, x102002, x102003 => if x34 = true then (some 4) else (z7_.l0 k 1 x102000 x102001 x102002 x102003)
def z7_.l0 : Nat → Int → List Int → Int → Int → Int → Option (Int)
 | 0, _, _, _, _, _ => none
 | k + 1, x3, x102000, x102001, x102002, x102003 => if x3 < (x102000.length : Int) then (if 0 ≤ x3 then (if 0 ≤ (wrap64 (x3 - 1)) then (if (wrap64 (x3 - 1)) < (x102000.length : Int) then (if (wrap64 ((rd x102000 x3) - (rd x102000 (wrap64 (x3 - 1))))) < (mx 1 (wrap64 (x102002 + (wrap64 (2 * x102001))))) then (some 4) else (z7_.l0 k (wrap64 (x3 + 1)) x102000 x102001 x102002 x102003)) else (none)) else (none)) else (none)) else (some 0)
end
def z7_.f (k : Nat) (l0_0 : List Int) (a0_1 : Int) (a0_2 : Int) (a0_3 : Int) : Option (Int) := (z2_.f 0 50 (([a0_1] : List Int))).bind fun t105 => (if t105 = true then ((z2_.f 0 5000 (([a0_2] : List Int))).bind fun t109 => (if t109 = true then ((z2_.f 0 500 (([a0_3] : List Int))).bind fun t113 => (z7_.j0 k (!t113) l0_0 a0_1 a0_2 a0_3)) else (z7_.j0 k true l0_0 a0_1 a0_2 a0_3))) else (z7_.j0 k true l0_0 a0_1 a0_2 a0_3))
set_option maxHeartbeats 8000000 in
set_option maxRecDepth 100000 in
theorem z7_.calls (k : Nat) (A0_0 : Option Addr) (c0_0 : Nat) (l0_0 : List Int) (a0_1 : Int) (a0_2 : Int) (a0_3 : Int) (r : Int) (w : World) (hr0_0 : Kd.C (Kd.int .i64) w A0_0 l0_0.length l0_0) (hc0_0 : l0_0.length ≤ c0_0) (h : z7_.f k l0_0 a0_1 a0_2 a0_3 = some r) :
  Calls Tryz.prog 17 #[.agg #[.slice A0_0 l0_0.length c0_0, .int .i64 a0_1, .int .i64 a0_2, .int .i64 a0_3]] w fun e w' => e = .returned (.int .i64 r) ∧ Below w.heap.size w w' := by
 have hu53 := Tryz.underlying53
 have HR0_0 := Aside0.mk hr0_0
 have HC0_0 := Aside0.mk hc0_0
 clear hr0_0 hc0_0
 have HB := Aside0.mk (Below.refl w.heap.size w)
 have H : ((z2_.f 0 50 (([a0_1] : List Int))).bind fun t105 => (if t105 = true then ((z2_.f 0 5000 (([a0_2] : List Int))).bind fun t109 => (if t109 = true then ((z2_.f 0 500 (([a0_3] : List Int))).bind fun t113 => (z7_.j0 k (!t113) l0_0 a0_1 a0_2 a0_3)) else (z7_.j0 k true l0_0 a0_1 a0_2 a0_3))) else (z7_.j0 k true l0_0 a0_1 a0_2 a0_3))) = some r := h
 clear h
 have HC2 := Aside0.mk H
 clear H
 go_enter Tryz.func17, Tryz.ntmps17
 go_upto_region 1 with (first | ((with_reducible refine gate_dst (N := 1) rfl ?_); (try (refine gate_guard (by rfl) ?_; dsimp only)); refine boxA (N := 1) (cs := #[.slice A0_0 l0_0.length c0_0, .int .i64 a0_1, .int .i64 a0_2, .int .i64 a0_3]) (t := 53) ?_; intro gb101 hg w3 hbox hb; have BK101 := Aside0.mk (hbox); have GE101 := bG HB hg; replace HB := bS HB hb; clear hb hbox hg))
 repeat (go_quiet (first | ((with_reducible refine gate_dst (N := 1) rfl ?_); (try (refine gate_guard (by rfl) ?_; dsimp only)); refine boxA (N := 1) (cs := #[.slice A0_0 l0_0.length c0_0, .int .i64 a0_1, .int .i64 a0_2, .int .i64 a0_3]) (t := 53) ?_; intro gb101 hg w3 hbox hb; have BK101 := Aside0.mk (hbox); have GE101 := bG HB hg; replace HB := bS HB hb; clear hb hbox hg)); go_upto_region 1 with (first | ((with_reducible refine gate_dst (N := 1) rfl ?_); (try (refine gate_guard (by rfl) ?_; dsimp only)); refine boxA (N := 1) (cs := #[.slice A0_0 l0_0.length c0_0, .int .i64 a0_1, .int .i64 a0_2, .int .i64 a0_3]) (t := 53) ?_; intro gb101 hg w3 hbox hb; have BK101 := Aside0.mk (hbox); have GE101 := bG HB hg; replace HB := bS HB hb; clear hb hbox hg)))
 (try simp only [Act.put, List.setIfInBounds_toArray, List.set_cons_zero, List.set_cons_succ])
 go_cut [22] (fun v22 wc => ∃ (kq : Nat) (x22_1 : Bool), v22 = .bool x22_1 ∧ Aside0 (z7_.j0 kq x22_1 l0_0 a0_1 a0_2 a0_3 = some r) ∧ Aside0 (kq ≤ k) ∧ Aside0 (wc.heap[gb101]? = some (.cells #[(.slice A0_0 l0_0.length c0_0), .int .i64 a0_1, .int .i64 a0_2, .int .i64 a0_3] 53 (0, 0))) ∧ Aside0 (Below w.heap.size w wc))
 case first =>
  have H := HC2.out
  clear HC2
  obtain ⟨y102, hy102⟩ : ∃ y_ : List Int, y_ = (([a0_1] : List Int)) := ⟨_, rfl⟩
  replace H : ((z2_.f 0 50 y102).bind fun t105 => (if t105 = true then ((z2_.f 0 5000 (([a0_2] : List Int))).bind fun t109 => (if t109 = true then ((z2_.f 0 500 (([a0_3] : List Int))).bind fun t113 => (z7_.j0 k (!t113) l0_0 a0_1 a0_2 a0_3)) else (z7_.j0 k true l0_0 a0_1 a0_2 a0_3))) else (z7_.j0 k true l0_0 a0_1 a0_2 a0_3))) = some r := by first | (rw [hy102]; with_reducible exact H) | (have H2_ := (Option.bind_some _ _).symm.trans H; rw [hy102]; with_reducible exact H2_) | (have H2_ := (Option.bind_some _ _).symm.trans H; with_reducible exact H2_) | with_reducible exact H | (rw [hy102]; exact H) | exact H
  have Ny102 := Aside0.mk hy102
  clear hy102
  replace H := bindA H
  obtain ⟨t105, A4, H⟩ := H
  try dsimp only at H
  by_cases c5 : t105 = true
  ·subst c5
   have H1 : ((z2_.f 0 5000 (([a0_2] : List Int))).bind fun t109 => (if t109 = true then ((z2_.f 0 500 (([a0_3] : List Int))).bind fun t113 => (z7_.j0 k (!t113) l0_0 a0_1 a0_2 a0_3)) else (z7_.j0 k true l0_0 a0_1 a0_2 a0_3))) = some r := by rw [if_pos rfl] at H; exact H
   clear H
   have H := H1
   clear H1
   obtain ⟨y106, hy106⟩ : ∃ y_ : List Int, y_ = (([a0_2] : List Int)) := ⟨_, rfl⟩
   replace H : ((z2_.f 0 5000 y106).bind fun t109 => (if t109 = true then ((z2_.f 0 500 (([a0_3] : List Int))).bind fun t113 => (z7_.j0 k (!t113) l0_0 a0_1 a0_2 a0_3)) else (z7_.j0 k true l0_0 a0_1 a0_2 a0_3))) = some r := by first | (rw [hy106]; with_reducible exact H) | (have H2_ := (Option.bind_some _ _).symm.trans H; rw [hy106]; with_reducible exact H2_) | (have H2_ := (Option.bind_some _ _).symm.trans H; with_reducible exact H2_) | with_reducible exact H | (rw [hy106]; exact H) | exact H
   have Ny106 := Aside0.mk hy106
   clear hy106
   replace H := bindA H
   obtain ⟨t109, A6, H⟩ := H
   try dsimp only at H
   by_cases c7 : t109 = true
   ·subst c7
    have H1 : ((z2_.f 0 500 (([a0_3] : List Int))).bind fun t113 => (z7_.j0 k (!t113) l0_0 a0_1 a0_2 a0_3)) = some r := by rw [if_pos rfl] at H; exact H
    clear H
    have H := H1
    clear H1
    obtain ⟨y110, hy110⟩ : ∃ y_ : List Int, y_ = (([a0_3] : List Int)) := ⟨_, rfl⟩
    replace H : ((z2_.f 0 500 y110).bind fun t113 => (z7_.j0 k (!t113) l0_0 a0_1 a0_2 a0_3)) = some r := by first | (rw [hy110]; with_reducible exact H) | (have H2_ := (Option.bind_some _ _).symm.trans H; rw [hy110]; with_reducible exact H2_) | (have H2_ := (Option.bind_some _ _).symm.trans H; with_reducible exact H2_) | with_reducible exact H | (rw [hy110]; exact H) | exact H
    have Ny110 := Aside0.mk hy110
    clear hy110
    replace H := bindA H
    obtain ⟨t113, A8, H⟩ := H
    try dsimp only at H
    have H' := Aside0.mk H
    clear H
    obtain ⟨hcz9_0, hcz9_1, hcz9_2, hcz9_3, hfz9_0, hfz9_1, hfz9_2, hfz9_3⟩ := cc4 BK101
    go_wp2_with (first | ((with_reducible refine gate_dst (N := 6) rfl ?_); (try (refine gate_guard (by rfl) ?_; dsimp only)); refine Kd.R_lit (Kd.int .i64) _ 3 ?hg (N := 6) ?hd (xs := ([a0_1] : List Int)) (inner := [.int .i64 a0_1]) (ok := fun _ => True) (okp := fun _ => True) ?hr ?hp (fun _ hk => hk) trivial (Below.refl _ _) (Nat.le_refl _) (by simp) ?_; (case hd => rfl); (case hg => rfl); (case hr => first | (go_simp; done) | (go_simp; rfl)); (case hp => exact (Reps.one (show Kd.M (Kd.int .i64) _ _ _ a0_1 [.int .i64 a0_1] from rfl) (Reps.none _ _))); intro v103 w10 ho11 hb hg_ hnew_; clear hg_ hnew_; (first | rw [← Ny102.out] at ho11 | (simp only [Int.reduceToNat] at ho11; rw [← Ny102.out] at ho11)); have HO104 := Aside0.mk (Kd.R_lower ho11 (below_size (bX HB))); replace BK101 := kB BK101 hb; replace HB := bS HB hb; clear hb ho11; obtain ⟨Ao12, co12, eo12⟩ := Kd.R_slice HO104.out; subst eo12) | (go_at_call 37; (with_reducible refine (z2_.calls 0 50 _ _ y102 true _ ?side1 ?side2 A4.out).mono ?_); (case side1 => exact sX (Kd.R_reads' HO104.out).2.2); (case side2 => exact (Kd.R_reads' HO104.out).2.1); rintro e w13 ⟨rfl, hb⟩; replace HO104 := rB HO104 hb; replace BK101 := kB BK101 hb; replace HB := bS HB hb; obtain ⟨hcz14_0, hcz14_1, hcz14_2, hcz14_3, hfz14_0, hfz14_1, hfz14_2, hfz14_3⟩ := cc4 BK101) | ((with_reducible refine gate_dst (N := 12) rfl ?_); (try (refine gate_guard (by rfl) ?_; dsimp only)); refine Kd.R_lit (Kd.int .i64) _ 3 ?hg (N := 12) ?hd (xs := ([a0_2] : List Int)) (inner := [.int .i64 a0_2]) (ok := fun _ => True) (okp := fun _ => True) ?hr ?hp (fun _ hk => hk) trivial (Below.refl _ _) (Nat.le_refl _) (by simp) ?_; (case hd => rfl); (case hg => rfl); (case hr => first | (go_simp; done) | (go_simp; rfl)); (case hp => exact (Reps.one (show Kd.M (Kd.int .i64) _ _ _ a0_2 [.int .i64 a0_2] from rfl) (Reps.none _ _))); intro v107 w15 ho16 hb hg_ hnew_; clear hg_ hnew_; (first | rw [← Ny106.out] at ho16 | (simp only [Int.reduceToNat] at ho16; rw [← Ny106.out] at ho16)); have HO108 := Aside0.mk (Kd.R_lower (Kd.R_new' ho16 (Kd.R_lt (rX HO104.out))) (below_size (bX HB))); replace HO104 := Aside0.mk (Kd.R_elder' (rX HO104.out) (Kd.R_base ho16) hb); replace BK101 := kB BK101 hb; replace HB := bS HB hb; clear hb ho16; obtain ⟨Ao17, co17, eo17⟩ := Kd.R_slice HO108.out; subst eo17) | (go_at_call 37; (with_reducible refine (z2_.calls 0 5000 _ _ y106 true _ ?side1 ?side2 A6.out).mono ?_); (case side1 => exact sX (Kd.R_reads' HO108.out).2.2); (case side2 => exact (Kd.R_reads' HO108.out).2.1); rintro e w18 ⟨rfl, hb⟩; replace HO104 := rB HO104 hb; replace HO108 := rB HO108 hb; replace BK101 := kB BK101 hb; replace HB := bS HB hb; obtain ⟨hcz19_0, hcz19_1, hcz19_2, hcz19_3, hfz19_0, hfz19_1, hfz19_2, hfz19_3⟩ := cc4 BK101) | ((with_reducible refine gate_dst (N := 19) rfl ?_); (try (refine gate_guard (by rfl) ?_; dsimp only)); refine Kd.R_lit (Kd.int .i64) _ 3 ?hg (N := 19) ?hd (xs := ([a0_3] : List Int)) (inner := [.int .i64 a0_3]) (ok := fun _ => True) (okp := fun _ => True) ?hr ?hp (fun _ hk => hk) trivial (Below.refl _ _) (Nat.le_refl _) (by simp) ?_; (case hd => rfl); (case hg => rfl); (case hr => first | (go_simp; done) | (go_simp; rfl)); (case hp => exact (Reps.one (show Kd.M (Kd.int .i64) _ _ _ a0_3 [.int .i64 a0_3] from rfl) (Reps.none _ _))); intro v111 w20 ho21 hb hg_ hnew_; clear hg_ hnew_; (first | rw [← Ny110.out] at ho21 | (simp only [Int.reduceToNat] at ho21; rw [← Ny110.out] at ho21)); have HO112 := Aside0.mk (Kd.R_lower (Kd.R_new' (Kd.R_new' ho21 (Kd.R_lt (rX HO104.out))) (Kd.R_lt (rX HO108.out))) (below_size (bX HB))); replace HO104 := Aside0.mk (Kd.R_elder' (rX HO104.out) (Kd.R_base ho21) hb); replace HO108 := Aside0.mk (Kd.R_elder' (rX HO108.out) (Kd.R_base ho21) hb); replace BK101 := kB BK101 hb; replace HB := bS HB hb; clear hb ho21; obtain ⟨Ao22, co22, eo22⟩ := Kd.R_slice HO112.out; subst eo22) | (go_at_call 37; (with_reducible refine (z2_.calls 0 500 _ _ y110 t113 _ ?side1 ?side2 A8.out).mono ?_); (case side1 => exact sX (Kd.R_reads' HO112.out).2.2); (case side2 => exact (Kd.R_reads' HO112.out).2.1); rintro e w23 ⟨rfl, hb⟩; replace HO104 := rB HO104 hb; replace HO108 := rB HO108 hb; replace HO112 := rB HO112 hb; replace BK101 := kB BK101 hb; replace HB := bS HB hb))
    repeat (go_quiet (first | ((with_reducible refine gate_dst (N := 6) rfl ?_); (try (refine gate_guard (by rfl) ?_; dsimp only)); refine Kd.R_lit (Kd.int .i64) _ 3 ?hg (N := 6) ?hd (xs := ([a0_1] : List Int)) (inner := [.int .i64 a0_1]) (ok := fun _ => True) (okp := fun _ => True) ?hr ?hp (fun _ hk => hk) trivial (Below.refl _ _) (Nat.le_refl _) (by simp) ?_; (case hd => rfl); (case hg => rfl); (case hr => first | (go_simp; done) | (go_simp; rfl)); (case hp => exact (Reps.one (show Kd.M (Kd.int .i64) _ _ _ a0_1 [.int .i64 a0_1] from rfl) (Reps.none _ _))); intro v103 w10 ho11 hb hg_ hnew_; clear hg_ hnew_; (first | rw [← Ny102.out] at ho11 | (simp only [Int.reduceToNat] at ho11; rw [← Ny102.out] at ho11)); have HO104 := Aside0.mk (Kd.R_lower ho11 (below_size (bX HB))); replace BK101 := kB BK101 hb; replace HB := bS HB hb; clear hb ho11; obtain ⟨Ao12, co12, eo12⟩ := Kd.R_slice HO104.out; subst eo12) | (go_at_call 37; (with_reducible refine (z2_.calls 0 50 _ _ y102 true _ ?side1 ?side2 A4.out).mono ?_); (case side1 => exact sX (Kd.R_reads' HO104.out).2.2); (case side2 => exact (Kd.R_reads' HO104.out).2.1); rintro e w13 ⟨rfl, hb⟩; replace HO104 := rB HO104 hb; replace BK101 := kB BK101 hb; replace HB := bS HB hb; obtain ⟨hcz14_0, hcz14_1, hcz14_2, hcz14_3, hfz14_0, hfz14_1, hfz14_2, hfz14_3⟩ := cc4 BK101) | ((with_reducible refine gate_dst (N := 12) rfl ?_); (try (refine gate_guard (by rfl) ?_; dsimp only)); refine Kd.R_lit (Kd.int .i64) _ 3 ?hg (N := 12) ?hd (xs := ([a0_2] : List Int)) (inner := [.int .i64 a0_2]) (ok := fun _ => True) (okp := fun _ => True) ?hr ?hp (fun _ hk => hk) trivial (Below.refl _ _) (Nat.le_refl _) (by simp) ?_; (case hd => rfl); (case hg => rfl); (case hr => first | (go_simp; done) | (go_simp; rfl)); (case hp => exact (Reps.one (show Kd.M (Kd.int .i64) _ _ _ a0_2 [.int .i64 a0_2] from rfl) (Reps.none _ _))); intro v107 w15 ho16 hb hg_ hnew_; clear hg_ hnew_; (first | rw [← Ny106.out] at ho16 | (simp only [Int.reduceToNat] at ho16; rw [← Ny106.out] at ho16)); have HO108 := Aside0.mk (Kd.R_lower (Kd.R_new' ho16 (Kd.R_lt (rX HO104.out))) (below_size (bX HB))); replace HO104 := Aside0.mk (Kd.R_elder' (rX HO104.out) (Kd.R_base ho16) hb); replace BK101 := kB BK101 hb; replace HB := bS HB hb; clear hb ho16; obtain ⟨Ao17, co17, eo17⟩ := Kd.R_slice HO108.out; subst eo17) | (go_at_call 37; (with_reducible refine (z2_.calls 0 5000 _ _ y106 true _ ?side1 ?side2 A6.out).mono ?_); (case side1 => exact sX (Kd.R_reads' HO108.out).2.2); (case side2 => exact (Kd.R_reads' HO108.out).2.1); rintro e w18 ⟨rfl, hb⟩; replace HO104 := rB HO104 hb; replace HO108 := rB HO108 hb; replace BK101 := kB BK101 hb; replace HB := bS HB hb; obtain ⟨hcz19_0, hcz19_1, hcz19_2, hcz19_3, hfz19_0, hfz19_1, hfz19_2, hfz19_3⟩ := cc4 BK101) | ((with_reducible refine gate_dst (N := 19) rfl ?_); (try (refine gate_guard (by rfl) ?_; dsimp only)); refine Kd.R_lit (Kd.int .i64) _ 3 ?hg (N := 19) ?hd (xs := ([a0_3] : List Int)) (inner := [.int .i64 a0_3]) (ok := fun _ => True) (okp := fun _ => True) ?hr ?hp (fun _ hk => hk) trivial (Below.refl _ _) (Nat.le_refl _) (by simp) ?_; (case hd => rfl); (case hg => rfl); (case hr => first | (go_simp; done) | (go_simp; rfl)); (case hp => exact (Reps.one (show Kd.M (Kd.int .i64) _ _ _ a0_3 [.int .i64 a0_3] from rfl) (Reps.none _ _))); intro v111 w20 ho21 hb hg_ hnew_; clear hg_ hnew_; (first | rw [← Ny110.out] at ho21 | (simp only [Int.reduceToNat] at ho21; rw [← Ny110.out] at ho21)); have HO112 := Aside0.mk (Kd.R_lower (Kd.R_new' (Kd.R_new' ho21 (Kd.R_lt (rX HO104.out))) (Kd.R_lt (rX HO108.out))) (below_size (bX HB))); replace HO104 := Aside0.mk (Kd.R_elder' (rX HO104.out) (Kd.R_base ho21) hb); replace HO108 := Aside0.mk (Kd.R_elder' (rX HO108.out) (Kd.R_base ho21) hb); replace BK101 := kB BK101 hb; replace HB := bS HB hb; clear hb ho21; obtain ⟨Ao22, co22, eo22⟩ := Kd.R_slice HO112.out; subst eo22) | (go_at_call 37; (with_reducible refine (z2_.calls 0 500 _ _ y110 t113 _ ?side1 ?side2 A8.out).mono ?_); (case side1 => exact sX (Kd.R_reads' HO112.out).2.2); (case side2 => exact (Kd.R_reads' HO112.out).2.1); rintro e w23 ⟨rfl, hb⟩; replace HO104 := rB HO104 hb; replace HO108 := rB HO108 hb; replace HO112 := rB HO112 hb; replace BK101 := kB BK101 hb; replace HB := bS HB hb)); try go_wp2_with (first | ((with_reducible refine gate_dst (N := 6) rfl ?_); (try (refine gate_guard (by rfl) ?_; dsimp only)); refine Kd.R_lit (Kd.int .i64) _ 3 ?hg (N := 6) ?hd (xs := ([a0_1] : List Int)) (inner := [.int .i64 a0_1]) (ok := fun _ => True) (okp := fun _ => True) ?hr ?hp (fun _ hk => hk) trivial (Below.refl _ _) (Nat.le_refl _) (by simp) ?_; (case hd => rfl); (case hg => rfl); (case hr => first | (go_simp; done) | (go_simp; rfl)); (case hp => exact (Reps.one (show Kd.M (Kd.int .i64) _ _ _ a0_1 [.int .i64 a0_1] from rfl) (Reps.none _ _))); intro v103 w10 ho11 hb hg_ hnew_; clear hg_ hnew_; (first | rw [← Ny102.out] at ho11 | (simp only [Int.reduceToNat] at ho11; rw [← Ny102.out] at ho11)); have HO104 := Aside0.mk (Kd.R_lower ho11 (below_size (bX HB))); replace BK101 := kB BK101 hb; replace HB := bS HB hb; clear hb ho11; obtain ⟨Ao12, co12, eo12⟩ := Kd.R_slice HO104.out; subst eo12) | (go_at_call 37; (with_reducible refine (z2_.calls 0 50 _ _ y102 true _ ?side1 ?side2 A4.out).mono ?_); (case side1 => exact sX (Kd.R_reads' HO104.out).2.2); (case side2 => exact (Kd.R_reads' HO104.out).2.1); rintro e w13 ⟨rfl, hb⟩; replace HO104 := rB HO104 hb; replace BK101 := kB BK101 hb; replace HB := bS HB hb; obtain ⟨hcz14_0, hcz14_1, hcz14_2, hcz14_3, hfz14_0, hfz14_1, hfz14_2, hfz14_3⟩ := cc4 BK101) | ((with_reducible refine gate_dst (N := 12) rfl ?_); (try (refine gate_guard (by rfl) ?_; dsimp only)); refine Kd.R_lit (Kd.int .i64) _ 3 ?hg (N := 12) ?hd (xs := ([a0_2] : List Int)) (inner := [.int .i64 a0_2]) (ok := fun _ => True) (okp := fun _ => True) ?hr ?hp (fun _ hk => hk) trivial (Below.refl _ _) (Nat.le_refl _) (by simp) ?_; (case hd => rfl); (case hg => rfl); (case hr => first | (go_simp; done) | (go_simp; rfl)); (case hp => exact (Reps.one (show Kd.M (Kd.int .i64) _ _ _ a0_2 [.int .i64 a0_2] from rfl) (Reps.none _ _))); intro v107 w15 ho16 hb hg_ hnew_; clear hg_ hnew_; (first | rw [← Ny106.out] at ho16 | (simp only [Int.reduceToNat] at ho16; rw [← Ny106.out] at ho16)); have HO108 := Aside0.mk (Kd.R_lower (Kd.R_new' ho16 (Kd.R_lt (rX HO104.out))) (below_size (bX HB))); replace HO104 := Aside0.mk (Kd.R_elder' (rX HO104.out) (Kd.R_base ho16) hb); replace BK101 := kB BK101 hb; replace HB := bS HB hb; clear hb ho16; obtain ⟨Ao17, co17, eo17⟩ := Kd.R_slice HO108.out; subst eo17) | (go_at_call 37; (with_reducible refine (z2_.calls 0 5000 _ _ y106 true _ ?side1 ?side2 A6.out).mono ?_); (case side1 => exact sX (Kd.R_reads' HO108.out).2.2); (case side2 => exact (Kd.R_reads' HO108.out).2.1); rintro e w18 ⟨rfl, hb⟩; replace HO104 := rB HO104 hb; replace HO108 := rB HO108 hb; replace BK101 := kB BK101 hb; replace HB := bS HB hb; obtain ⟨hcz19_0, hcz19_1, hcz19_2, hcz19_3, hfz19_0, hfz19_1, hfz19_2, hfz19_3⟩ := cc4 BK101) | ((with_reducible refine gate_dst (N := 19) rfl ?_); (try (refine gate_guard (by rfl) ?_; dsimp only)); refine Kd.R_lit (Kd.int .i64) _ 3 ?hg (N := 19) ?hd (xs := ([a0_3] : List Int)) (inner := [.int .i64 a0_3]) (ok := fun _ => True) (okp := fun _ => True) ?hr ?hp (fun _ hk => hk) trivial (Below.refl _ _) (Nat.le_refl _) (by simp) ?_; (case hd => rfl); (case hg => rfl); (case hr => first | (go_simp; done) | (go_simp; rfl)); (case hp => exact (Reps.one (show Kd.M (Kd.int .i64) _ _ _ a0_3 [.int .i64 a0_3] from rfl) (Reps.none _ _))); intro v111 w20 ho21 hb hg_ hnew_; clear hg_ hnew_; (first | rw [← Ny110.out] at ho21 | (simp only [Int.reduceToNat] at ho21; rw [← Ny110.out] at ho21)); have HO112 := Aside0.mk (Kd.R_lower (Kd.R_new' (Kd.R_new' ho21 (Kd.R_lt (rX HO104.out))) (Kd.R_lt (rX HO108.out))) (below_size (bX HB))); replace HO104 := Aside0.mk (Kd.R_elder' (rX HO104.out) (Kd.R_base ho21) hb); replace HO108 := Aside0.mk (Kd.R_elder' (rX HO108.out) (Kd.R_base ho21) hb); replace BK101 := kB BK101 hb; replace HB := bS HB hb; clear hb ho21; obtain ⟨Ao22, co22, eo22⟩ := Kd.R_slice HO112.out; subst eo22) | (go_at_call 37; (with_reducible refine (z2_.calls 0 500 _ _ y110 t113 _ ?side1 ?side2 A8.out).mono ?_); (case side1 => exact sX (Kd.R_reads' HO112.out).2.2); (case side2 => exact (Kd.R_reads' HO112.out).2.1); rintro e w23 ⟨rfl, hb⟩; replace HO104 := rB HO104 hb; replace HO108 := rB HO108 hb; replace HO112 := rB HO112 hb; replace BK101 := kB BK101 hb; replace HB := bS HB hb)))
    go_meet
    case rel => exact ⟨_, (!t113), eR, H', ⟨by first | omega | exact Nat.le_refl _⟩, ⟨kX BK101.out⟩, ⟨bX HB⟩⟩
   ·replace c7 := Bool.eq_false_iff.mpr c7
    subst c7
    have H1 : (z7_.j0 k true l0_0 a0_1 a0_2 a0_3) = some r := by rw [if_neg (show ¬ (false = true) by decide)] at H; exact H
    clear H
    have H := H1
    clear H1
    have H' := Aside0.mk H
    clear H
    obtain ⟨hcz24_0, hcz24_1, hcz24_2, hcz24_3, hfz24_0, hfz24_1, hfz24_2, hfz24_3⟩ := cc4 BK101
    go_wp2_with (first | ((with_reducible refine gate_dst (N := 6) rfl ?_); (try (refine gate_guard (by rfl) ?_; dsimp only)); refine Kd.R_lit (Kd.int .i64) _ 3 ?hg (N := 6) ?hd (xs := ([a0_1] : List Int)) (inner := [.int .i64 a0_1]) (ok := fun _ => True) (okp := fun _ => True) ?hr ?hp (fun _ hk => hk) trivial (Below.refl _ _) (Nat.le_refl _) (by simp) ?_; (case hd => rfl); (case hg => rfl); (case hr => first | (go_simp; done) | (go_simp; rfl)); (case hp => exact (Reps.one (show Kd.M (Kd.int .i64) _ _ _ a0_1 [.int .i64 a0_1] from rfl) (Reps.none _ _))); intro v103 w25 ho26 hb hg_ hnew_; clear hg_ hnew_; (first | rw [← Ny102.out] at ho26 | (simp only [Int.reduceToNat] at ho26; rw [← Ny102.out] at ho26)); have HO104 := Aside0.mk (Kd.R_lower ho26 (below_size (bX HB))); replace BK101 := kB BK101 hb; replace HB := bS HB hb; clear hb ho26; obtain ⟨Ao27, co27, eo27⟩ := Kd.R_slice HO104.out; subst eo27) | (go_at_call 37; (with_reducible refine (z2_.calls 0 50 _ _ y102 true _ ?side1 ?side2 A4.out).mono ?_); (case side1 => exact sX (Kd.R_reads' HO104.out).2.2); (case side2 => exact (Kd.R_reads' HO104.out).2.1); rintro e w28 ⟨rfl, hb⟩; replace HO104 := rB HO104 hb; replace BK101 := kB BK101 hb; replace HB := bS HB hb; obtain ⟨hcz29_0, hcz29_1, hcz29_2, hcz29_3, hfz29_0, hfz29_1, hfz29_2, hfz29_3⟩ := cc4 BK101) | ((with_reducible refine gate_dst (N := 12) rfl ?_); (try (refine gate_guard (by rfl) ?_; dsimp only)); refine Kd.R_lit (Kd.int .i64) _ 3 ?hg (N := 12) ?hd (xs := ([a0_2] : List Int)) (inner := [.int .i64 a0_2]) (ok := fun _ => True) (okp := fun _ => True) ?hr ?hp (fun _ hk => hk) trivial (Below.refl _ _) (Nat.le_refl _) (by simp) ?_; (case hd => rfl); (case hg => rfl); (case hr => first | (go_simp; done) | (go_simp; rfl)); (case hp => exact (Reps.one (show Kd.M (Kd.int .i64) _ _ _ a0_2 [.int .i64 a0_2] from rfl) (Reps.none _ _))); intro v107 w30 ho31 hb hg_ hnew_; clear hg_ hnew_; (first | rw [← Ny106.out] at ho31 | (simp only [Int.reduceToNat] at ho31; rw [← Ny106.out] at ho31)); have HO108 := Aside0.mk (Kd.R_lower (Kd.R_new' ho31 (Kd.R_lt (rX HO104.out))) (below_size (bX HB))); replace HO104 := Aside0.mk (Kd.R_elder' (rX HO104.out) (Kd.R_base ho31) hb); replace BK101 := kB BK101 hb; replace HB := bS HB hb; clear hb ho31; obtain ⟨Ao32, co32, eo32⟩ := Kd.R_slice HO108.out; subst eo32) | (go_at_call 37; (with_reducible refine (z2_.calls 0 5000 _ _ y106 false _ ?side1 ?side2 A6.out).mono ?_); (case side1 => exact sX (Kd.R_reads' HO108.out).2.2); (case side2 => exact (Kd.R_reads' HO108.out).2.1); rintro e w33 ⟨rfl, hb⟩; replace HO104 := rB HO104 hb; replace HO108 := rB HO108 hb; replace BK101 := kB BK101 hb; replace HB := bS HB hb))
    repeat (go_quiet (first | ((with_reducible refine gate_dst (N := 6) rfl ?_); (try (refine gate_guard (by rfl) ?_; dsimp only)); refine Kd.R_lit (Kd.int .i64) _ 3 ?hg (N := 6) ?hd (xs := ([a0_1] : List Int)) (inner := [.int .i64 a0_1]) (ok := fun _ => True) (okp := fun _ => True) ?hr ?hp (fun _ hk => hk) trivial (Below.refl _ _) (Nat.le_refl _) (by simp) ?_; (case hd => rfl); (case hg => rfl); (case hr => first | (go_simp; done) | (go_simp; rfl)); (case hp => exact (Reps.one (show Kd.M (Kd.int .i64) _ _ _ a0_1 [.int .i64 a0_1] from rfl) (Reps.none _ _))); intro v103 w25 ho26 hb hg_ hnew_; clear hg_ hnew_; (first | rw [← Ny102.out] at ho26 | (simp only [Int.reduceToNat] at ho26; rw [← Ny102.out] at ho26)); have HO104 := Aside0.mk (Kd.R_lower ho26 (below_size (bX HB))); replace BK101 := kB BK101 hb; replace HB := bS HB hb; clear hb ho26; obtain ⟨Ao27, co27, eo27⟩ := Kd.R_slice HO104.out; subst eo27) | (go_at_call 37; (with_reducible refine (z2_.calls 0 50 _ _ y102 true _ ?side1 ?side2 A4.out).mono ?_); (case side1 => exact sX (Kd.R_reads' HO104.out).2.2); (case side2 => exact (Kd.R_reads' HO104.out).2.1); rintro e w28 ⟨rfl, hb⟩; replace HO104 := rB HO104 hb; replace BK101 := kB BK101 hb; replace HB := bS HB hb; obtain ⟨hcz29_0, hcz29_1, hcz29_2, hcz29_3, hfz29_0, hfz29_1, hfz29_2, hfz29_3⟩ := cc4 BK101) | ((with_reducible refine gate_dst (N := 12) rfl ?_); (try (refine gate_guard (by rfl) ?_; dsimp only)); refine Kd.R_lit (Kd.int .i64) _ 3 ?hg (N := 12) ?hd (xs := ([a0_2] : List Int)) (inner := [.int .i64 a0_2]) (ok := fun _ => True) (okp := fun _ => True) ?hr ?hp (fun _ hk => hk) trivial (Below.refl _ _) (Nat.le_refl _) (by simp) ?_; (case hd => rfl); (case hg => rfl); (case hr => first | (go_simp; done) | (go_simp; rfl)); (case hp => exact (Reps.one (show Kd.M (Kd.int .i64) _ _ _ a0_2 [.int .i64 a0_2] from rfl) (Reps.none _ _))); intro v107 w30 ho31 hb hg_ hnew_; clear hg_ hnew_; (first | rw [← Ny106.out] at ho31 | (simp only [Int.reduceToNat] at ho31; rw [← Ny106.out] at ho31)); have HO108 := Aside0.mk (Kd.R_lower (Kd.R_new' ho31 (Kd.R_lt (rX HO104.out))) (below_size (bX HB))); replace HO104 := Aside0.mk (Kd.R_elder' (rX HO104.out) (Kd.R_base ho31) hb); replace BK101 := kB BK101 hb; replace HB := bS HB hb; clear hb ho31; obtain ⟨Ao32, co32, eo32⟩ := Kd.R_slice HO108.out; subst eo32) | (go_at_call 37; (with_reducible refine (z2_.calls 0 5000 _ _ y106 false _ ?side1 ?side2 A6.out).mono ?_); (case side1 => exact sX (Kd.R_reads' HO108.out).2.2); (case side2 => exact (Kd.R_reads' HO108.out).2.1); rintro e w33 ⟨rfl, hb⟩; replace HO104 := rB HO104 hb; replace HO108 := rB HO108 hb; replace BK101 := kB BK101 hb; replace HB := bS HB hb)); try go_wp2_with (first | ((with_reducible refine gate_dst (N := 6) rfl ?_); (try (refine gate_guard (by rfl) ?_; dsimp only)); refine Kd.R_lit (Kd.int .i64) _ 3 ?hg (N := 6) ?hd (xs := ([a0_1] : List Int)) (inner := [.int .i64 a0_1]) (ok := fun _ => True) (okp := fun _ => True) ?hr ?hp (fun _ hk => hk) trivial (Below.refl _ _) (Nat.le_refl _) (by simp) ?_; (case hd => rfl); (case hg => rfl); (case hr => first | (go_simp; done) | (go_simp; rfl)); (case hp => exact (Reps.one (show Kd.M (Kd.int .i64) _ _ _ a0_1 [.int .i64 a0_1] from rfl) (Reps.none _ _))); intro v103 w25 ho26 hb hg_ hnew_; clear hg_ hnew_; (first | rw [← Ny102.out] at ho26 | (simp only [Int.reduceToNat] at ho26; rw [← Ny102.out] at ho26)); have HO104 := Aside0.mk (Kd.R_lower ho26 (below_size (bX HB))); replace BK101 := kB BK101 hb; replace HB := bS HB hb; clear hb ho26; obtain ⟨Ao27, co27, eo27⟩ := Kd.R_slice HO104.out; subst eo27) | (go_at_call 37; (with_reducible refine (z2_.calls 0 50 _ _ y102 true _ ?side1 ?side2 A4.out).mono ?_); (case side1 => exact sX (Kd.R_reads' HO104.out).2.2); (case side2 => exact (Kd.R_reads' HO104.out).2.1); rintro e w28 ⟨rfl, hb⟩; replace HO104 := rB HO104 hb; replace BK101 := kB BK101 hb; replace HB := bS HB hb; obtain ⟨hcz29_0, hcz29_1, hcz29_2, hcz29_3, hfz29_0, hfz29_1, hfz29_2, hfz29_3⟩ := cc4 BK101) | ((with_reducible refine gate_dst (N := 12) rfl ?_); (try (refine gate_guard (by rfl) ?_; dsimp only)); refine Kd.R_lit (Kd.int .i64) _ 3 ?hg (N := 12) ?hd (xs := ([a0_2] : List Int)) (inner := [.int .i64 a0_2]) (ok := fun _ => True) (okp := fun _ => True) ?hr ?hp (fun _ hk => hk) trivial (Below.refl _ _) (Nat.le_refl _) (by simp) ?_; (case hd => rfl); (case hg => rfl); (case hr => first | (go_simp; done) | (go_simp; rfl)); (case hp => exact (Reps.one (show Kd.M (Kd.int .i64) _ _ _ a0_2 [.int .i64 a0_2] from rfl) (Reps.none _ _))); intro v107 w30 ho31 hb hg_ hnew_; clear hg_ hnew_; (first | rw [← Ny106.out] at ho31 | (simp only [Int.reduceToNat] at ho31; rw [← Ny106.out] at ho31)); have HO108 := Aside0.mk (Kd.R_lower (Kd.R_new' ho31 (Kd.R_lt (rX HO104.out))) (below_size (bX HB))); replace HO104 := Aside0.mk (Kd.R_elder' (rX HO104.out) (Kd.R_base ho31) hb); replace BK101 := kB BK101 hb; replace HB := bS HB hb; clear hb ho31; obtain ⟨Ao32, co32, eo32⟩ := Kd.R_slice HO108.out; subst eo32) | (go_at_call 37; (with_reducible refine (z2_.calls 0 5000 _ _ y106 false _ ?side1 ?side2 A6.out).mono ?_); (case side1 => exact sX (Kd.R_reads' HO108.out).2.2); (case side2 => exact (Kd.R_reads' HO108.out).2.1); rintro e w33 ⟨rfl, hb⟩; replace HO104 := rB HO104 hb; replace HO108 := rB HO108 hb; replace BK101 := kB BK101 hb; replace HB := bS HB hb)))
    go_meet
    case rel => exact ⟨_, (true), eR, H', ⟨by first | omega | exact Nat.le_refl _⟩, ⟨kX BK101.out⟩, ⟨bX HB⟩⟩
  ·replace c5 := Bool.eq_false_iff.mpr c5
   subst c5
   have H1 : (z7_.j0 k true l0_0 a0_1 a0_2 a0_3) = some r := by rw [if_neg (show ¬ (false = true) by decide)] at H; exact H
   clear H
   have H := H1
   clear H1
   have H' := Aside0.mk H
   clear H
   obtain ⟨hcz34_0, hcz34_1, hcz34_2, hcz34_3, hfz34_0, hfz34_1, hfz34_2, hfz34_3⟩ := cc4 BK101
   go_wp2_with (first | ((with_reducible refine gate_dst (N := 6) rfl ?_); (try (refine gate_guard (by rfl) ?_; dsimp only)); refine Kd.R_lit (Kd.int .i64) _ 3 ?hg (N := 6) ?hd (xs := ([a0_1] : List Int)) (inner := [.int .i64 a0_1]) (ok := fun _ => True) (okp := fun _ => True) ?hr ?hp (fun _ hk => hk) trivial (Below.refl _ _) (Nat.le_refl _) (by simp) ?_; (case hd => rfl); (case hg => rfl); (case hr => first | (go_simp; done) | (go_simp; rfl)); (case hp => exact (Reps.one (show Kd.M (Kd.int .i64) _ _ _ a0_1 [.int .i64 a0_1] from rfl) (Reps.none _ _))); intro v103 w35 ho36 hb hg_ hnew_; clear hg_ hnew_; (first | rw [← Ny102.out] at ho36 | (simp only [Int.reduceToNat] at ho36; rw [← Ny102.out] at ho36)); have HO104 := Aside0.mk (Kd.R_lower ho36 (below_size (bX HB))); replace BK101 := kB BK101 hb; replace HB := bS HB hb; clear hb ho36; obtain ⟨Ao37, co37, eo37⟩ := Kd.R_slice HO104.out; subst eo37) | (go_at_call 37; (with_reducible refine (z2_.calls 0 50 _ _ y102 false _ ?side1 ?side2 A4.out).mono ?_); (case side1 => exact sX (Kd.R_reads' HO104.out).2.2); (case side2 => exact (Kd.R_reads' HO104.out).2.1); rintro e w38 ⟨rfl, hb⟩; replace HO104 := rB HO104 hb; replace BK101 := kB BK101 hb; replace HB := bS HB hb))
   repeat (go_quiet (first | ((with_reducible refine gate_dst (N := 6) rfl ?_); (try (refine gate_guard (by rfl) ?_; dsimp only)); refine Kd.R_lit (Kd.int .i64) _ 3 ?hg (N := 6) ?hd (xs := ([a0_1] : List Int)) (inner := [.int .i64 a0_1]) (ok := fun _ => True) (okp := fun _ => True) ?hr ?hp (fun _ hk => hk) trivial (Below.refl _ _) (Nat.le_refl _) (by simp) ?_; (case hd => rfl); (case hg => rfl); (case hr => first | (go_simp; done) | (go_simp; rfl)); (case hp => exact (Reps.one (show Kd.M (Kd.int .i64) _ _ _ a0_1 [.int .i64 a0_1] from rfl) (Reps.none _ _))); intro v103 w35 ho36 hb hg_ hnew_; clear hg_ hnew_; (first | rw [← Ny102.out] at ho36 | (simp only [Int.reduceToNat] at ho36; rw [← Ny102.out] at ho36)); have HO104 := Aside0.mk (Kd.R_lower ho36 (below_size (bX HB))); replace BK101 := kB BK101 hb; replace HB := bS HB hb; clear hb ho36; obtain ⟨Ao37, co37, eo37⟩ := Kd.R_slice HO104.out; subst eo37) | (go_at_call 37; (with_reducible refine (z2_.calls 0 50 _ _ y102 false _ ?side1 ?side2 A4.out).mono ?_); (case side1 => exact sX (Kd.R_reads' HO104.out).2.2); (case side2 => exact (Kd.R_reads' HO104.out).2.1); rintro e w38 ⟨rfl, hb⟩; replace HO104 := rB HO104 hb; replace BK101 := kB BK101 hb; replace HB := bS HB hb)); try go_wp2_with (first | ((with_reducible refine gate_dst (N := 6) rfl ?_); (try (refine gate_guard (by rfl) ?_; dsimp only)); refine Kd.R_lit (Kd.int .i64) _ 3 ?hg (N := 6) ?hd (xs := ([a0_1] : List Int)) (inner := [.int .i64 a0_1]) (ok := fun _ => True) (okp := fun _ => True) ?hr ?hp (fun _ hk => hk) trivial (Below.refl _ _) (Nat.le_refl _) (by simp) ?_; (case hd => rfl); (case hg => rfl); (case hr => first | (go_simp; done) | (go_simp; rfl)); (case hp => exact (Reps.one (show Kd.M (Kd.int .i64) _ _ _ a0_1 [.int .i64 a0_1] from rfl) (Reps.none _ _))); intro v103 w35 ho36 hb hg_ hnew_; clear hg_ hnew_; (first | rw [← Ny102.out] at ho36 | (simp only [Int.reduceToNat] at ho36; rw [← Ny102.out] at ho36)); have HO104 := Aside0.mk (Kd.R_lower ho36 (below_size (bX HB))); replace BK101 := kB BK101 hb; replace HB := bS HB hb; clear hb ho36; obtain ⟨Ao37, co37, eo37⟩ := Kd.R_slice HO104.out; subst eo37) | (go_at_call 37; (with_reducible refine (z2_.calls 0 50 _ _ y102 false _ ?side1 ?side2 A4.out).mono ?_); (case side1 => exact sX (Kd.R_reads' HO104.out).2.2); (case side2 => exact (Kd.R_reads' HO104.out).2.1); rintro e w38 ⟨rfl, hb⟩; replace HO104 := rB HO104 hb; replace BK101 := kB BK101 hb; replace HB := bS HB hb)))
   go_meet
   case rel => exact ⟨_, (true), eR, H', ⟨by first | omega | exact Nat.le_refl _⟩, ⟨kX BK101.out⟩, ⟨bX HB⟩⟩
 case rest =>
  clear HC2
  try clear p2
  try clear hcz14_0 hcz14_1 hcz14_2 hcz14_3 hfz14_0 hfz14_1 hfz14_2 hfz14_3
  try clear hcz19_0 hcz19_1 hcz19_2 hcz19_3 hfz19_0 hfz19_1 hfz19_2 hfz19_3
  try clear hcz24_0 hcz24_1 hcz24_2 hcz24_3 hfz24_0 hfz24_1 hfz24_2 hfz24_3
  try clear hcz29_0 hcz29_1 hcz29_2 hcz29_3 hfz29_0 hfz29_1 hfz29_2 hfz29_3
  try clear hcz34_0 hcz34_1 hcz34_2 hcz34_3 hfz34_0 hfz34_1 hfz34_2 hfz34_3
  try clear hcz9_0 hcz9_1 hcz9_2 hcz9_3 hfz9_0 hfz9_1 hfz9_2 hfz9_3
  obtain ⟨kq, x22_1, rfl, HA, HJ1, BK101, HB⟩ := hcut
  cases kq with
  | zero => exact absurd HA.out (by simp [z7_.j0])
  | succ kj1 =>
   have H := HA.out
   clear HA
   simp only [z7_.j0] at H
   by_cases c39 : x22_1 = true
   ·subst c39
    have H1 : (some 2) = some r := by rw [if_pos rfl] at H; exact H
    clear H
    have H := H1
    clear H1
    obtain rfl := Option.some.inj H
    go_wp2
    repeat (go_quiet (fail); try go_wp2)
    go_ret
    exact ⟨eqA, bX HB⟩
   ·replace c39 := Bool.eq_false_iff.mpr c39
    subst c39
    have H1 : ((z2_.f 1 40 (([(l0_0.length : Int)] : List Int))).bind fun t117 => (if t117 = true then ((z2_.f 0 5000 l0_0).bind fun t118 => (z7_.j1 kj1 (!t118) l0_0 a0_1 a0_2 a0_3)) else (z7_.j1 kj1 true l0_0 a0_1 a0_2 a0_3))) = some r := by rw [if_neg (show ¬ (false = true) by decide)] at H; exact H
    clear H
    have H := H1
    clear H1
    have HC40 := Aside0.mk H
    clear H
    go_upto_region 3 with (fail)
    repeat (go_quiet (fail); go_upto_region 3 with (fail))
    go_cut [34] (fun v34 wc => ∃ (kq : Nat) (x34_39 : Bool), v34 = .bool x34_39 ∧ Aside0 (z7_.j1 kq x34_39 l0_0 a0_1 a0_2 a0_3 = some r) ∧ Aside0 (kq ≤ kj1) ∧ Aside0 (wc.heap[gb101]? = some (.cells #[(.slice A0_0 l0_0.length c0_0), .int .i64 a0_1, .int .i64 a0_2, .int .i64 a0_3] 53 (0, 0))) ∧ Aside0 (Below w.heap.size w wc))
    case first =>
     have H := HC40.out
     clear HC40
     obtain ⟨y114, hy114⟩ : ∃ y_ : List Int, y_ = (([(l0_0.length : Int)] : List Int)) := ⟨_, rfl⟩
     replace H : ((z2_.f 1 40 y114).bind fun t117 => (if t117 = true then ((z2_.f 0 5000 l0_0).bind fun t118 => (z7_.j1 kj1 (!t118) l0_0 a0_1 a0_2 a0_3)) else (z7_.j1 kj1 true l0_0 a0_1 a0_2 a0_3))) = some r := by first | (rw [hy114]; with_reducible exact H) | (have H2_ := (Option.bind_some _ _).symm.trans H; rw [hy114]; with_reducible exact H2_) | (have H2_ := (Option.bind_some _ _).symm.trans H; with_reducible exact H2_) | with_reducible exact H | (rw [hy114]; exact H) | exact H
     have Ny114 := Aside0.mk hy114
     clear hy114
     replace H := bindA H
     obtain ⟨t117, A41, H⟩ := H
     try dsimp only at H
     by_cases c42 : t117 = true
     ·subst c42
      have H1 : ((z2_.f 0 5000 l0_0).bind fun t118 => (z7_.j1 kj1 (!t118) l0_0 a0_1 a0_2 a0_3)) = some r := by rw [if_pos rfl] at H; exact H
      clear H
      have H := H1
      clear H1
      replace H := bindA H
      obtain ⟨t118, A43, H⟩ := H
      try dsimp only at H
      have H' := Aside0.mk H
      clear H
      obtain ⟨hcz44_0, hcz44_1, hcz44_2, hcz44_3, hfz44_0, hfz44_1, hfz44_2, hfz44_3⟩ := cc4 BK101
      go_wp2_with (first | ((with_reducible refine gate_dst (N := 26) rfl ?_); (try (refine gate_guard (by rfl) ?_; dsimp only)); refine Kd.R_lit (Kd.int .i64) _ 3 ?hg (N := 26) ?hd (xs := ([(l0_0.length : Int)] : List Int)) (inner := [.int .i64 (l0_0.length : Int)]) (ok := fun _ => True) (okp := fun _ => True) ?hr ?hp (fun _ hk => hk) trivial (Below.refl _ _) (Nat.le_refl _) (by simp) ?_; (case hd => rfl); (case hg => rfl); (case hr => first | (go_simp; done) | (go_simp; rfl)); (case hp => exact (Reps.one (show Kd.M (Kd.int .i64) _ _ _ (l0_0.length : Int) [.int .i64 (l0_0.length : Int)] from rfl) (Reps.none _ _))); intro v115 w45 ho46 hb hg_ hnew_; clear hg_ hnew_; (first | rw [← Ny114.out] at ho46 | (simp only [Int.reduceToNat] at ho46; rw [← Ny114.out] at ho46)); have HO116 := Aside0.mk (Kd.R_lower ho46 (below_size (bX HB))); replace BK101 := kB BK101 hb; replace HB := bS HB hb; clear hb ho46; obtain ⟨Ao47, co47, eo47⟩ := Kd.R_slice HO116.out; subst eo47) | (go_at_call 37; (with_reducible refine (z2_.calls 1 40 _ _ y114 true _ ?side1 ?side2 A41.out).mono ?_); (case side1 => exact sX (Kd.R_reads' HO116.out).2.2); (case side2 => exact (Kd.R_reads' HO116.out).2.1); rintro e w48 ⟨rfl, hb⟩; replace HO116 := rB HO116 hb; replace BK101 := kB BK101 hb; replace HB := bS HB hb; obtain ⟨hcz49_0, hcz49_1, hcz49_2, hcz49_3, hfz49_0, hfz49_1, hfz49_2, hfz49_3⟩ := cc4 BK101) | (go_at_call 37; (with_reducible refine (z2_.calls 0 5000 _ _ l0_0 t118 _ ?side1 ?side2 A43.out).mono ?_); (case side1 => exact sX (Kd.C_below HR0_0.out HB.out)); (case side2 => exact HC0_0.out); rintro e w50 ⟨rfl, hb⟩; replace HO116 := rB HO116 hb; replace BK101 := kB BK101 hb; replace HB := bS HB hb))
      repeat (go_quiet (first | ((with_reducible refine gate_dst (N := 26) rfl ?_); (try (refine gate_guard (by rfl) ?_; dsimp only)); refine Kd.R_lit (Kd.int .i64) _ 3 ?hg (N := 26) ?hd (xs := ([(l0_0.length : Int)] : List Int)) (inner := [.int .i64 (l0_0.length : Int)]) (ok := fun _ => True) (okp := fun _ => True) ?hr ?hp (fun _ hk => hk) trivial (Below.refl _ _) (Nat.le_refl _) (by simp) ?_; (case hd => rfl); (case hg => rfl); (case hr => first | (go_simp; done) | (go_simp; rfl)); (case hp => exact (Reps.one (show Kd.M (Kd.int .i64) _ _ _ (l0_0.length : Int) [.int .i64 (l0_0.length : Int)] from rfl) (Reps.none _ _))); intro v115 w45 ho46 hb hg_ hnew_; clear hg_ hnew_; (first | rw [← Ny114.out] at ho46 | (simp only [Int.reduceToNat] at ho46; rw [← Ny114.out] at ho46)); have HO116 := Aside0.mk (Kd.R_lower ho46 (below_size (bX HB))); replace BK101 := kB BK101 hb; replace HB := bS HB hb; clear hb ho46; obtain ⟨Ao47, co47, eo47⟩ := Kd.R_slice HO116.out; subst eo47) | (go_at_call 37; (with_reducible refine (z2_.calls 1 40 _ _ y114 true _ ?side1 ?side2 A41.out).mono ?_); (case side1 => exact sX (Kd.R_reads' HO116.out).2.2); (case side2 => exact (Kd.R_reads' HO116.out).2.1); rintro e w48 ⟨rfl, hb⟩; replace HO116 := rB HO116 hb; replace BK101 := kB BK101 hb; replace HB := bS HB hb; obtain ⟨hcz49_0, hcz49_1, hcz49_2, hcz49_3, hfz49_0, hfz49_1, hfz49_2, hfz49_3⟩ := cc4 BK101) | (go_at_call 37; (with_reducible refine (z2_.calls 0 5000 _ _ l0_0 t118 _ ?side1 ?side2 A43.out).mono ?_); (case side1 => exact sX (Kd.C_below HR0_0.out HB.out)); (case side2 => exact HC0_0.out); rintro e w50 ⟨rfl, hb⟩; replace HO116 := rB HO116 hb; replace BK101 := kB BK101 hb; replace HB := bS HB hb)); try go_wp2_with (first | ((with_reducible refine gate_dst (N := 26) rfl ?_); (try (refine gate_guard (by rfl) ?_; dsimp only)); refine Kd.R_lit (Kd.int .i64) _ 3 ?hg (N := 26) ?hd (xs := ([(l0_0.length : Int)] : List Int)) (inner := [.int .i64 (l0_0.length : Int)]) (ok := fun _ => True) (okp := fun _ => True) ?hr ?hp (fun _ hk => hk) trivial (Below.refl _ _) (Nat.le_refl _) (by simp) ?_; (case hd => rfl); (case hg => rfl); (case hr => first | (go_simp; done) | (go_simp; rfl)); (case hp => exact (Reps.one (show Kd.M (Kd.int .i64) _ _ _ (l0_0.length : Int) [.int .i64 (l0_0.length : Int)] from rfl) (Reps.none _ _))); intro v115 w45 ho46 hb hg_ hnew_; clear hg_ hnew_; (first | rw [← Ny114.out] at ho46 | (simp only [Int.reduceToNat] at ho46; rw [← Ny114.out] at ho46)); have HO116 := Aside0.mk (Kd.R_lower ho46 (below_size (bX HB))); replace BK101 := kB BK101 hb; replace HB := bS HB hb; clear hb ho46; obtain ⟨Ao47, co47, eo47⟩ := Kd.R_slice HO116.out; subst eo47) | (go_at_call 37; (with_reducible refine (z2_.calls 1 40 _ _ y114 true _ ?side1 ?side2 A41.out).mono ?_); (case side1 => exact sX (Kd.R_reads' HO116.out).2.2); (case side2 => exact (Kd.R_reads' HO116.out).2.1); rintro e w48 ⟨rfl, hb⟩; replace HO116 := rB HO116 hb; replace BK101 := kB BK101 hb; replace HB := bS HB hb; obtain ⟨hcz49_0, hcz49_1, hcz49_2, hcz49_3, hfz49_0, hfz49_1, hfz49_2, hfz49_3⟩ := cc4 BK101) | (go_at_call 37; (with_reducible refine (z2_.calls 0 5000 _ _ l0_0 t118 _ ?side1 ?side2 A43.out).mono ?_); (case side1 => exact sX (Kd.C_below HR0_0.out HB.out)); (case side2 => exact HC0_0.out); rintro e w50 ⟨rfl, hb⟩; replace HO116 := rB HO116 hb; replace BK101 := kB BK101 hb; replace HB := bS HB hb)))
      go_meet
      case rel => exact ⟨_, (!t118), eR, H', ⟨by have := HJ1.out; first | omega | exact Nat.le_refl _⟩, ⟨kX BK101.out⟩, ⟨bX HB⟩⟩
     ·replace c42 := Bool.eq_false_iff.mpr c42
      subst c42
      have H1 : (z7_.j1 kj1 true l0_0 a0_1 a0_2 a0_3) = some r := by rw [if_neg (show ¬ (false = true) by decide)] at H; exact H
      clear H
      have H := H1
      clear H1
      have H' := Aside0.mk H
      clear H
      obtain ⟨hcz51_0, hcz51_1, hcz51_2, hcz51_3, hfz51_0, hfz51_1, hfz51_2, hfz51_3⟩ := cc4 BK101
      go_wp2_with (first | ((with_reducible refine gate_dst (N := 26) rfl ?_); (try (refine gate_guard (by rfl) ?_; dsimp only)); refine Kd.R_lit (Kd.int .i64) _ 3 ?hg (N := 26) ?hd (xs := ([(l0_0.length : Int)] : List Int)) (inner := [.int .i64 (l0_0.length : Int)]) (ok := fun _ => True) (okp := fun _ => True) ?hr ?hp (fun _ hk => hk) trivial (Below.refl _ _) (Nat.le_refl _) (by simp) ?_; (case hd => rfl); (case hg => rfl); (case hr => first | (go_simp; done) | (go_simp; rfl)); (case hp => exact (Reps.one (show Kd.M (Kd.int .i64) _ _ _ (l0_0.length : Int) [.int .i64 (l0_0.length : Int)] from rfl) (Reps.none _ _))); intro v115 w52 ho53 hb hg_ hnew_; clear hg_ hnew_; (first | rw [← Ny114.out] at ho53 | (simp only [Int.reduceToNat] at ho53; rw [← Ny114.out] at ho53)); have HO116 := Aside0.mk (Kd.R_lower ho53 (below_size (bX HB))); replace BK101 := kB BK101 hb; replace HB := bS HB hb; clear hb ho53; obtain ⟨Ao54, co54, eo54⟩ := Kd.R_slice HO116.out; subst eo54) | (go_at_call 37; (with_reducible refine (z2_.calls 1 40 _ _ y114 false _ ?side1 ?side2 A41.out).mono ?_); (case side1 => exact sX (Kd.R_reads' HO116.out).2.2); (case side2 => exact (Kd.R_reads' HO116.out).2.1); rintro e w55 ⟨rfl, hb⟩; replace HO116 := rB HO116 hb; replace BK101 := kB BK101 hb; replace HB := bS HB hb))
      repeat (go_quiet (first | ((with_reducible refine gate_dst (N := 26) rfl ?_); (try (refine gate_guard (by rfl) ?_; dsimp only)); refine Kd.R_lit (Kd.int .i64) _ 3 ?hg (N := 26) ?hd (xs := ([(l0_0.length : Int)] : List Int)) (inner := [.int .i64 (l0_0.length : Int)]) (ok := fun _ => True) (okp := fun _ => True) ?hr ?hp (fun _ hk => hk) trivial (Below.refl _ _) (Nat.le_refl _) (by simp) ?_; (case hd => rfl); (case hg => rfl); (case hr => first | (go_simp; done) | (go_simp; rfl)); (case hp => exact (Reps.one (show Kd.M (Kd.int .i64) _ _ _ (l0_0.length : Int) [.int .i64 (l0_0.length : Int)] from rfl) (Reps.none _ _))); intro v115 w52 ho53 hb hg_ hnew_; clear hg_ hnew_; (first | rw [← Ny114.out] at ho53 | (simp only [Int.reduceToNat] at ho53; rw [← Ny114.out] at ho53)); have HO116 := Aside0.mk (Kd.R_lower ho53 (below_size (bX HB))); replace BK101 := kB BK101 hb; replace HB := bS HB hb; clear hb ho53; obtain ⟨Ao54, co54, eo54⟩ := Kd.R_slice HO116.out; subst eo54) | (go_at_call 37; (with_reducible refine (z2_.calls 1 40 _ _ y114 false _ ?side1 ?side2 A41.out).mono ?_); (case side1 => exact sX (Kd.R_reads' HO116.out).2.2); (case side2 => exact (Kd.R_reads' HO116.out).2.1); rintro e w55 ⟨rfl, hb⟩; replace HO116 := rB HO116 hb; replace BK101 := kB BK101 hb; replace HB := bS HB hb)); try go_wp2_with (first | ((with_reducible refine gate_dst (N := 26) rfl ?_); (try (refine gate_guard (by rfl) ?_; dsimp only)); refine Kd.R_lit (Kd.int .i64) _ 3 ?hg (N := 26) ?hd (xs := ([(l0_0.length : Int)] : List Int)) (inner := [.int .i64 (l0_0.length : Int)]) (ok := fun _ => True) (okp := fun _ => True) ?hr ?hp (fun _ hk => hk) trivial (Below.refl _ _) (Nat.le_refl _) (by simp) ?_; (case hd => rfl); (case hg => rfl); (case hr => first | (go_simp; done) | (go_simp; rfl)); (case hp => exact (Reps.one (show Kd.M (Kd.int .i64) _ _ _ (l0_0.length : Int) [.int .i64 (l0_0.length : Int)] from rfl) (Reps.none _ _))); intro v115 w52 ho53 hb hg_ hnew_; clear hg_ hnew_; (first | rw [← Ny114.out] at ho53 | (simp only [Int.reduceToNat] at ho53; rw [← Ny114.out] at ho53)); have HO116 := Aside0.mk (Kd.R_lower ho53 (below_size (bX HB))); replace BK101 := kB BK101 hb; replace HB := bS HB hb; clear hb ho53; obtain ⟨Ao54, co54, eo54⟩ := Kd.R_slice HO116.out; subst eo54) | (go_at_call 37; (with_reducible refine (z2_.calls 1 40 _ _ y114 false _ ?side1 ?side2 A41.out).mono ?_); (case side1 => exact sX (Kd.R_reads' HO116.out).2.2); (case side2 => exact (Kd.R_reads' HO116.out).2.1); rintro e w55 ⟨rfl, hb⟩; replace HO116 := rB HO116 hb; replace BK101 := kB BK101 hb; replace HB := bS HB hb)))
      go_meet
      case rel => exact ⟨_, (true), eR, H', ⟨by have := HJ1.out; first | omega | exact Nat.le_refl _⟩, ⟨kX BK101.out⟩, ⟨bX HB⟩⟩
    case rest =>
     clear HC40
     try clear p2
     try clear hcz14_0 hcz14_1 hcz14_2 hcz14_3 hfz14_0 hfz14_1 hfz14_2 hfz14_3
     try clear hcz19_0 hcz19_1 hcz19_2 hcz19_3 hfz19_0 hfz19_1 hfz19_2 hfz19_3
     try clear hcz24_0 hcz24_1 hcz24_2 hcz24_3 hfz24_0 hfz24_1 hfz24_2 hfz24_3
     try clear hcz29_0 hcz29_1 hcz29_2 hcz29_3 hfz29_0 hfz29_1 hfz29_2 hfz29_3
     try clear hcz34_0 hcz34_1 hcz34_2 hcz34_3 hfz34_0 hfz34_1 hfz34_2 hfz34_3
     try clear hcz44_0 hcz44_1 hcz44_2 hcz44_3 hfz44_0 hfz44_1 hfz44_2 hfz44_3
     try clear hcz49_0 hcz49_1 hcz49_2 hcz49_3 hfz49_0 hfz49_1 hfz49_2 hfz49_3
     try clear hcz51_0 hcz51_1 hcz51_2 hcz51_3 hfz51_0 hfz51_1 hfz51_2 hfz51_3
     try clear hcz9_0 hcz9_1 hcz9_2 hcz9_3 hfz9_0 hfz9_1 hfz9_2 hfz9_3
     try clear p2
     obtain ⟨kq, x34_39, rfl, HA, HJ39, BK101, HB⟩ := hcut
     cases kq with
     | zero => exact absurd HA.out (by simp [z7_.j1])
     | succ kj39 =>
      have H := HA.out
      clear HA
      simp only [z7_.j1] at H
      by_cases c56 : x34_39 = true
      ·subst c56
       have H1 : (some 4) = some r := by rw [if_pos rfl] at H; exact H
       clear H
       have H := H1
       clear H1
       obtain rfl := Option.some.inj H
       go_wp2
       repeat (go_quiet (fail); try go_wp2)
       go_ret
       exact ⟨eqA, bX HB⟩
      ·replace c56 := Bool.eq_false_iff.mpr c56
       subst c56
       have H1 : (z7_.l0 kj39 1 l0_0 a0_1 a0_2 a0_3) = some r := by rw [if_neg (show ¬ (false = true) by decide)] at H; exact H
       clear H
       have H := H1
       clear H1
       have H' := Aside0.mk H
       clear H
       go_wp2
       repeat (go_quiet (fail); try go_wp2)
       go_loopg [3] kj39 (fun kq v3 w' => ∃ (x3_3 : Int), v3 = .int .i64 x3_3 ∧ Aside0 (z7_.l0 kq x3_3 l0_0 a0_1 a0_2 a0_3 = some r) ∧ Aside0 (kq ≤ kj39) ∧ Aside0 (w'.heap[gb101]? = some (.cells #[(.slice A0_0 l0_0.length c0_0), .int .i64 a0_1, .int .i64 a0_2, .int .i64 a0_3] 53 (0, 0))) ∧ Aside0 (Below w.heap.size w w'))
       case atStart => exact ⟨(1), eR, H', ⟨Nat.le_refl _⟩, ⟨kX BK101.out⟩, ⟨bX HB⟩⟩
       case round =>
        clear H'
        try clear p2
        try clear hcz14_0 hcz14_1 hcz14_2 hcz14_3 hfz14_0 hfz14_1 hfz14_2 hfz14_3
        try clear hcz19_0 hcz19_1 hcz19_2 hcz19_3 hfz19_0 hfz19_1 hfz19_2 hfz19_3
        try clear hcz24_0 hcz24_1 hcz24_2 hcz24_3 hfz24_0 hfz24_1 hfz24_2 hfz24_3
        try clear hcz29_0 hcz29_1 hcz29_2 hcz29_3 hfz29_0 hfz29_1 hfz29_2 hfz29_3
        try clear hcz34_0 hcz34_1 hcz34_2 hcz34_3 hfz34_0 hfz34_1 hfz34_2 hfz34_3
        try clear hcz44_0 hcz44_1 hcz44_2 hcz44_3 hfz44_0 hfz44_1 hfz44_2 hfz44_3
        try clear hcz49_0 hcz49_1 hcz49_2 hcz49_3 hfz49_0 hfz49_1 hfz49_2 hfz49_3
        try clear hcz51_0 hcz51_1 hcz51_2 hcz51_3 hfz51_0 hfz51_1 hfz51_2 hfz51_3
        try clear hcz9_0 hcz9_1 hcz9_2 hcz9_3 hfz9_0 hfz9_1 hfz9_2 hfz9_3
        try clear p2
        obtain ⟨x3_3, rfl, HA, HK3, BK101, HB⟩ := hrel
        cases gk with
        | zero => exact absurd HA.out (by simp [z7_.l0])
        | succ k3 =>
         have H := HA.out
         clear HA
         simp only [z7_.l0] at H
         by_cases c57 : x3_3 < (l0_0.length : Int)
         ·rw [if_pos c57] at H
          have c57b0 : decide (x3_3 < (l0_0.length : Int)) = true := decide_eq_true c57
          clear c57
          by_cases c58 : 0 ≤ x3_3
          ·rw [if_pos c58] at H
           have c58b0 : decide (0 ≤ x3_3) = true := decide_eq_true c58
           clear c58
           obtain ⟨ji59, hji59⟩ : ∃ j_ : Int, (wrap64 (x3_3 - 1)) = j_ := ⟨_, rfl⟩
           replace H : (if 0 ≤ (ji59) then (if (ji59) < (l0_0.length : Int) then (if (wrap64 ((rd l0_0 x3_3) - (rd l0_0 (ji59)))) < (mx 1 (wrap64 (a0_2 + (wrap64 (2 * a0_1))))) then (some 4) else (z7_.l0 k3 (wrap64 (x3_3 + 1)) l0_0 a0_1 a0_2 a0_3)) else (none)) else (none)) = some r := by first | (rw [hji59] at H; exact H) | (simp only [hji59] at H ⊢; exact H)
           have hji59w : (IntKind.i64.wrap (x3_3 - 1)) = ji59 := (i64_w _).trans hji59
           by_cases c60 : 0 ≤ (ji59)
           ·rw [if_pos c60] at H
            have c60b0 : decide (0 ≤ (ji59)) = true := decide_eq_true c60
            clear c60
            by_cases c61 : (ji59) < (l0_0.length : Int)
            ·rw [if_pos c61] at H
             have c61b0 : decide ((ji59) < (l0_0.length : Int)) = true := decide_eq_true c61
             clear c61
             obtain ⟨ji62, hji62⟩ : ∃ j_ : Int, (mx 1 (wrap64 (a0_2 + (wrap64 (2 * a0_1))))) = j_ := ⟨_, rfl⟩
             replace H : (if (wrap64 ((rd l0_0 x3_3) - (rd l0_0 (ji59)))) < (ji62) then (some 4) else (z7_.l0 k3 (wrap64 (x3_3 + 1)) l0_0 a0_1 a0_2 a0_3)) = some r := by first | (rw [hji62] at H; exact H) | (simp only [hji62] at H ⊢; exact H)
             have hji62_ : (if 1 < (wrap64 (a0_2 + (wrap64 (2 * a0_1)))) then (wrap64 (a0_2 + (wrap64 (2 * a0_1)))) else 1) = ji62 := hji62
             by_cases c63 : (wrap64 ((rd l0_0 x3_3) - (rd l0_0 (ji59)))) < (ji62)
             ·rw [if_pos c63] at H
              have c63b0 : decide ((wrap64 ((rd l0_0 x3_3) - (rd l0_0 (ji59)))) < (ji62)) = true := decide_eq_true c63
              clear c63
              obtain rfl := Option.some.inj H
              obtain ⟨hcz64_0, hcz64_1, hcz64_2, hcz64_3, hfz64_0, hfz64_1, hfz64_2, hfz64_3⟩ := cc4 BK101
              have p119 : 0 ≤ (x3_3 : Int) := of_decide_eq_true (by first | (with_reducible assumption) | assumption)
              have q119 : x3_3 < (l0_0.length : Int) := of_decide_eq_true (by first | (with_reducible assumption) | assumption)
              obtain ⟨ad119, e119, hx119_0⟩ := Kd.at_int HR0_0.out x3_3 p119 q119
              cases e119
              replace hx119_0 := (HB.out.cell (World.block_lt_of_cell? w _ hx119_0)).trans hx119_0
              replace p119 := eq_true p119
              replace q119 := eq_true q119
              have p120 : 0 ≤ ((ji59) : Int) := of_decide_eq_true (by first | (with_reducible assumption) | assumption)
              have q120 : (ji59) < (l0_0.length : Int) := of_decide_eq_true (by first | (with_reducible assumption) | assumption)
              obtain ⟨ad120, e120, hx120_0⟩ := Kd.at_int HR0_0.out (ji59) p120 q120
              obtain rfl : ad119 = ad120 := (by injection e120)
              replace hx120_0 := (HB.out.cell (World.block_lt_of_cell? w _ hx120_0)).trans hx120_0
              replace p120 := eq_true p120
              replace q120 := eq_true q120
              go_wp2
              repeat (go_quiet (fail); try go_wp2)
              go_ret
              exact ⟨by first | rfl | (simp [errW_none, errW_some] <;> rfl) | (simp only [← hji59, ← hji62]; first | rfl | (simp [errW_none, errW_some] <;> rfl)) | (simp [*, errW_none, errW_some] <;> rfl), bX HB⟩
             ·rw [if_neg c63] at H
              have c63b0 : decide ((wrap64 ((rd l0_0 x3_3) - (rd l0_0 (ji59)))) < (ji62)) = false := decide_eq_false c63
              clear c63
              have H' := Aside0.mk H
              clear H
              obtain ⟨hcz65_0, hcz65_1, hcz65_2, hcz65_3, hfz65_0, hfz65_1, hfz65_2, hfz65_3⟩ := cc4 BK101
              have p119 : 0 ≤ (x3_3 : Int) := of_decide_eq_true (by first | (with_reducible assumption) | assumption)
              have q119 : x3_3 < (l0_0.length : Int) := of_decide_eq_true (by first | (with_reducible assumption) | assumption)
              obtain ⟨ad119, e119, hx119_0⟩ := Kd.at_int HR0_0.out x3_3 p119 q119
              cases e119
              replace hx119_0 := (HB.out.cell (World.block_lt_of_cell? w _ hx119_0)).trans hx119_0
              replace p119 := eq_true p119
              replace q119 := eq_true q119
              have p120 : 0 ≤ ((ji59) : Int) := of_decide_eq_true (by first | (with_reducible assumption) | assumption)
              have q120 : (ji59) < (l0_0.length : Int) := of_decide_eq_true (by first | (with_reducible assumption) | assumption)
              obtain ⟨ad120, e120, hx120_0⟩ := Kd.at_int HR0_0.out (ji59) p120 q120
              obtain rfl : ad119 = ad120 := (by injection e120)
              replace hx120_0 := (HB.out.cell (World.block_lt_of_cell? w _ hx120_0)).trans hx120_0
              replace p120 := eq_true p120
              replace q120 := eq_true q120
              go_wp2
              repeat (go_quiet (fail); try go_wp2)
              go_roundg k3
              case measure => have := HJ1.out; have := HJ39.out; have := HK3.out; omega
              case rel => exact ⟨(wrap64 (x3_3 + 1)), eR, H', ⟨by have := HJ1.out; have := HJ39.out; have := HK3.out; omega⟩, ⟨kX BK101.out⟩, ⟨bX HB⟩⟩
            ·rw [if_neg c61] at H
             exact absurd H (by simp)
           ·rw [if_neg c60] at H
            exact absurd H (by simp)
          ·rw [if_neg c58] at H
           exact absurd H (by simp)
         ·rw [if_neg c57] at H
          have c57b0 : decide (x3_3 < (l0_0.length : Int)) = false := decide_eq_false c57
          clear c57
          obtain rfl := Option.some.inj H
          obtain ⟨hcz66_0, hcz66_1, hcz66_2, hcz66_3, hfz66_0, hfz66_1, hfz66_2, hfz66_3⟩ := cc4 BK101
          go_wp2
          repeat (go_quiet (fail); try go_wp2)
          go_ret
          exact ⟨eqA, bX HB⟩
def pleat_newBed.f (k : Nat) (a0_0 : Int) (l0_1 : List (S55)) (l1_0 : List Int) (a1_1 : Int) (a1_2 : Int) (a1_3 : Int) : Option (Int × (List (S55)) × List Int × Int × Int × Int × Int) := (z43_.f a0_0 l0_1).bind fun t124 => (if t124 = 0 then ((z7_.f k l1_0 a1_1 a1_2 a1_3).bind fun t125 => (some (a0_0, l0_1, l1_0, a1_1, a1_2, a1_3, t125))) else (some (a0_0, l0_1, l1_0, a1_1, a1_2, a1_3, t124)))
end PPlM
end Go.Proofs.YtgdkmadcegleiaaGreatDoor
namespace Go.Proofs.YtgdkmadcegleiaaGreatDoor
namespace PPlM
open X
attribute [local go_sem] max2_int min2_int max_two min_two max_three min_three max_four min_four   -- for this text's walks alone
end PPlM
end Go.Proofs.YtgdkmadcegleiaaGreatDoor
namespace Go.Proofs.YtgdkmadcegleiaaGreatDoor
namespace X
open PPle PPlM
def bedW (w : World) (v1 v2 : Array Value) : World := ((w.alloc (.cells v1 58 (0, 0))).alloc (.cells v2 53 (0, 0))).alloc (.cells #[.int .i64 0, .slice none 0 0, .slice none 0 0, .int .i64 0, .int .i64 0, .int .i64 0] 92 (0, 0))
theorem bedW_below (w : World) (v1 v2 : Array Value) : Below w.heap.size w (bedW w v1 v2) := below_alloc (below_alloc (below_alloc (Below.refl _ _) _) _) _
theorem bedW_facts {w w1 : World} {v1 v2 : Array Value} (hb : Below (bedW w v1 v2).heap.size (bedW w v1 v2) w1) :
    w1.heap[w.heap.size]? = some (.cells v1 58 (0, 0)) ∧ w1.heap[w.heap.size + 1]? = some (.cells v2 53 (0, 0)) ∧ w1.heap[w.heap.size + 1 + 1]? = some (.cells #[.int .i64 0, .slice none 0 0, .slice none 0 0, .int .i64 0, .int .i64 0, .int .i64 0] 92 (0, 0)) ∧ Below w.heap.size w w1 :=
  ⟨blk_below (blk_alloc (blk_alloc (blk_new _ _) _) _) hb, blk_below (blk_alloc (one_blk _ _ (by simp)) _) hb, blk_below (one_blk _ _ (by simp)) hb, below_then (bedW_below w v1 v2) (by unfold bedW; simp; omega) hb⟩
set_option maxHeartbeats 2000000 in
theorem newBed_calls {long half room play m : Int} {A B : Option Addr} {c d k : Nat} {l : List S55} {gr : List Int} {w : World} (hr : Kd.C k55 w A l.length l) (hc : l.length ≤ c) (hg : Kd.C (Kd.int .i64) w B gr.length gr) (hd : gr.length ≤ d) (hm : z7_.f k gr half room play = some m) :
    Calls Tryz.prog 36 #[.agg #[.int .i64 long, .slice A l.length c], .agg #[.slice B gr.length d, .int .i64 half, .int .i64 room, .int .i64 play]] w fun e w' =>
      e = .returned (.tuple #[.agg #[.int .i64 long, .slice A l.length c, .slice B gr.length d, .int .i64 half, .int .i64 room, .int .i64 play], .int .i64 (if pcheckF long l = 0 then m else pcheckF long l)]) ∧ Below w.heap.size w w' := by
  have HR := Aside0.mk hr
  have HG := Aside0.mk hg
  have HM := Aside0.mk hm
  have HF : Aside0 (∀ {w1 : World}, Below (bedW w #[.int .i64 long, .slice A l.length c] #[.slice B gr.length d, .int .i64 half, .int .i64 room, .int .i64 play]).heap.size (bedW w #[.int .i64 long, .slice A l.length c] #[.slice B gr.length d, .int .i64 half, .int .i64 room, .int .i64 play]) w1 → _) := ⟨fun hb => bedW_facts hb⟩
  obtain ⟨q, hq⟩ : ∃ q, pcheckF long l = q := ⟨_, rfl⟩
  have HC : Aside0 (z43_.f long l = some q) := ⟨by unfold z43_.f; rw [hq]⟩
  rw [hq]
  clear hr hg hm hq
  by_cases c0 : q = 0
  · subst c0
    rw [if_pos rfl]
    go_enter Tryz.func36, Tryz.ntmps36
    go_wp2_with (first | (go_at_call 41; refine (z43_.calls long A c l 0 _ (Kd.C_alloc (Kd.C_alloc (Kd.C_alloc HR.out _) _) _) hc HC.out).mono ?_; rintro e w1 ⟨rfl, hb1⟩; obtain ⟨b2, b3, b4, hb⟩ := HF.out hb1; have HB1 := Aside0.mk hb1; have HBB := Aside0.mk hb; have y30 := (blk_cell b3 0).trans rfl; have y31 := (blk_cell b3 1).trans rfl; have y32 := (blk_cell b3 2).trans rfl; have y33 := (blk_cell b3 3).trans rfl; clear hb1 hb b2 b3 b4) | (go_at_call 17; refine (z7_.calls k B d gr half room play m _ (Kd.C_below HG.out HBB.out) hd HM.out).mono ?_; rintro e w2 ⟨rfl, hb2⟩; obtain ⟨b2, b3, b4, hb⟩ := HF.out (later_below HB1.out hb2); have HB := Aside0.mk hb; clear hb2 hb y30 y31 y32 y33; have z20 := (blk_cell b2 0).trans rfl; have z21 := (blk_cell b2 1).trans rfl; have z30 := (blk_cell b3 0).trans rfl; have z31 := (blk_cell b3 1).trans rfl; have z32 := (blk_cell b3 2).trans rfl; have z33 := (blk_cell b3 3).trans rfl; have z40 := (blk_cell b4 0).trans rfl; have z41 := (blk_cell b4 1).trans rfl; have z42 := (blk_cell b4 2).trans rfl; have z43 := (blk_cell b4 3).trans rfl; have z44 := (blk_cell b4 4).trans rfl; have z45 := (blk_cell b4 5).trans rfl; have f0 := blk_frozen b4 0; have f1 := blk_frozen b4 1; have f2 := blk_frozen b4 2; have f3 := blk_frozen b4 3; have f4 := blk_frozen b4 4; have f5 := blk_frozen b4 5; have B4 := Aside0.mk b4; clear b2 b3 b4))
    refine bodyPost_ret (results_ct rfl _ _ _ 92 #[.int .i64 long, .slice A l.length c, .slice B gr.length d, .int .i64 half, .int .i64 room, .int .i64 play] (0, 0) _ rfl (blk_put (blk_put (blk_put (blk_put (blk_put (blk_put B4.out 0 _ rfl) 1 _ rfl) 2 _ rfl) 3 _ rfl) 4 _ rfl) 5 _ rfl) Tryz.underlying92 rfl (by kernel_rfl)) rfl ?_
    have ge : w.heap.size ≤ w.heap.size + 1 + 1 := by omega
    exact ⟨rfl, below_set (below_set (below_set (below_set (below_set (below_set HB.out ge) ge) ge) ge) ge) ge⟩
  · have d0 : (q == 0) = false := beq_eq_false_iff_ne.mpr c0
    rw [if_neg c0]
    go_enter Tryz.func36, Tryz.ntmps36
    go_wp2_with (go_at_call 41; refine (z43_.calls long A c l q _ (Kd.C_alloc (Kd.C_alloc (Kd.C_alloc HR.out _) _) _) hc HC.out).mono ?_; rintro e w1 ⟨rfl, hb1⟩; obtain ⟨b2, b3, b4, hb⟩ := HF.out hb1; have HB := Aside0.mk hb; clear hb1 hb; have z20 := (blk_cell b2 0).trans rfl; have z21 := (blk_cell b2 1).trans rfl; have z30 := (blk_cell b3 0).trans rfl; have z31 := (blk_cell b3 1).trans rfl; have z32 := (blk_cell b3 2).trans rfl; have z33 := (blk_cell b3 3).trans rfl; have z40 := (blk_cell b4 0).trans rfl; have z41 := (blk_cell b4 1).trans rfl; have z42 := (blk_cell b4 2).trans rfl; have z43 := (blk_cell b4 3).trans rfl; have z44 := (blk_cell b4 4).trans rfl; have z45 := (blk_cell b4 5).trans rfl; have f0 := blk_frozen b4 0; have f1 := blk_frozen b4 1; have f2 := blk_frozen b4 2; have f3 := blk_frozen b4 3; have f4 := blk_frozen b4 4; have f5 := blk_frozen b4 5; have B4 := Aside0.mk b4; clear b2 b3 b4)
    refine bodyPost_ret (results_ct rfl _ _ _ 92 #[.int .i64 long, .slice A l.length c, .slice B gr.length d, .int .i64 half, .int .i64 room, .int .i64 play] (0, 0) _ rfl (blk_put (blk_put (blk_put (blk_put (blk_put (blk_put B4.out 0 _ rfl) 1 _ rfl) 2 _ rfl) 3 _ rfl) 4 _ rfl) 5 _ rfl) Tryz.underlying92 rfl (by kernel_rfl)) rfl ?_
    have ge : w.heap.size ≤ w.heap.size + 1 + 1 := by omega
    exact ⟨rfl, below_set (below_set (below_set (below_set (below_set (below_set HB.out ge) ge) ge) ge) ge) ge⟩
end X
end Go.Proofs.YtgdkmadcegleiaaGreatDoor
namespace Go.Proofs.YtgdkmadcegleiaaGreatDoor
namespace X
open PPle PPlM
def sparedW (w : World) (bed : Array Value) (shift : Int) (fv : Value) : World := ((w.alloc (.cells bed 92 (0, 0))).alloc (.cells #[.int .i64 shift] 3 (0, 0))).alloc (.cells #[fv] 96 (0, 0))
theorem sparedW_below (w : World) (bed : Array Value) (shift : Int) (fv : Value) : Below w.heap.size w (sparedW w bed shift fv) := below_alloc (below_alloc (below_alloc (Below.refl _ _) _) _) _
theorem spared_calls {v1 v2 v3 v4 v5 v6 : Value} {shift : Int} {g : Nat} {w : World} :
    Calls Tryz.prog 69 #[.agg #[v1, v2, v3, v4, v5, v6], .int .i64 shift, .func (.func g) #[] #[]] w fun e w' =>
      e = .returned (.func (.func 90) #[] #[.pointer (some ⟨w.heap.size, 0, none⟩), .pointer (some ⟨w.heap.size + 1, 0, none⟩), .pointer (some ⟨w.heap.size + 1 + 1, 0, none⟩)]) ∧ w' = sparedW w #[v1, v2, v3, v4, v5, v6] shift (.func (.func g) #[] #[]) := by
  go_enter Tryz.func69, Tryz.ntmps69
  go_wp2
  go_ret
  exact ⟨rfl, rfl⟩
theorem enters_spared1 : ∀ args w, (callFunc 90 args).run Tryz.prog w = .ok (.enter 90 args) w := enters_of Tryz.func90 (by kernel_rfl) rfl
set_option maxHeartbeats 2000000 in
theorem spared1_calls {g1 g2 g3 g k : Nat} {long half room play shift ta tb r : Int} {A B : Option Addr} {c d : Nat} {l : List S55} {gr : List Int} {x : S55} {w : World}
    (eg : ∀ args w, (callFunc g args).run Tryz.prog w = .ok (.enter g args) w)
    (b1 : w.heap[g1]? = some (.cells #[.int .i64 long, .slice A l.length c, .slice B gr.length d, .int .i64 half, .int .i64 room, .int .i64 play] 92 (0, 0)))
    (b2 : w.heap[g2]? = some (.cells #[.int .i64 shift] 3 (0, 0))) (b3 : w.heap[g3]? = some (.cells #[.func (.func g) #[] #[]] 96 (0, 0)))
    (hr : Kd.C k55 w A l.length l) (hc : l.length ≤ c) (hg : Kd.C (Kd.int .i64) w B gr.length gr) (hd : gr.length ≤ d)
    (htr : ∀ W, Calls Tryz.prog g #[.agg #[.int .i64 x.f0.f0, .int .i64 x.f0.f1, .int .i64 x.f1.f0, .int .i64 x.f1.f1]] W fun e W' => e = .returned (.agg #[.int .i64 ta, .int .i64 tb]) ∧ Below W.heap.size W W')
    (ha : z36_.f k long l gr half room play shift ta tb = some r) :
    Calls Tryz.prog 90 #[.agg #[.int .i64 x.f0.f0, .int .i64 x.f0.f1, .int .i64 x.f1.f0, .int .i64 x.f1.f1], .pointer (some ⟨g1, 0, none⟩), .pointer (some ⟨g2, 0, none⟩), .pointer (some ⟨g3, 0, none⟩)] w fun e w' => e = .returned (.bool (decide (0 ≤ r))) ∧ Below w.heap.size w w' := by
  have HR := Aside0.mk hr
  have HG := Aside0.mk hg
  have HTR := Aside0.mk htr
  have HA := Aside0.mk ha
  have HX : Aside0 (∀ {w1 : World}, Below (w.alloc (.cells #[.int .i64 x.f0.f0, .int .i64 x.f0.f1, .int .i64 x.f1.f0, .int .i64 x.f1.f1] 55 (0, 0))).heap.size (w.alloc (.cells #[.int .i64 x.f0.f0, .int .i64 x.f0.f1, .int .i64 x.f1.f0, .int .i64 x.f1.f1] 55 (0, 0))) w1 →
      (w1.cell? ⟨g1, 0, none⟩ = some (.int .i64 long) ∧ w1.cell? ⟨g1, 1, none⟩ = some (.slice A l.length c) ∧ w1.cell? ⟨g1, 2, none⟩ = some (.slice B gr.length d) ∧ w1.cell? ⟨g1, 3, none⟩ = some (.int .i64 half) ∧ w1.cell? ⟨g1, 4, none⟩ = some (.int .i64 room) ∧ w1.cell? ⟨g1, 5, none⟩ = some (.int .i64 play)) ∧
      (w1.cell? ⟨g2, 0, none⟩ = some (.int .i64 shift) ∧ w1.cell? ⟨g3, 0, none⟩ = some (.func (.func g) #[] #[])) ∧
      (w1.cell? ⟨w.heap.size, 0, none⟩ = some (.int .i64 x.f0.f0) ∧ w1.cell? ⟨w.heap.size, 1, none⟩ = some (.int .i64 x.f0.f1) ∧ w1.cell? ⟨w.heap.size, 2, none⟩ = some (.int .i64 x.f1.f0) ∧ w1.cell? ⟨w.heap.size, 3, none⟩ = some (.int .i64 x.f1.f1)) ∧ Aside0 (Below w.heap.size w w1)) := ⟨fun {w1} hb => by
    have hb0 : Below w.heap.size w w1 := below_then (below_alloc (Below.refl _ _) _) (by simp) hb
    have k1 := blk_below b1 hb0
    have k2 := blk_below b2 hb0
    have k3 := blk_below b3 hb0
    have k4 := blk_below (blk_new w _) hb
    exact ⟨⟨(blk_cell k1 0).trans rfl, (blk_cell k1 1).trans rfl, (blk_cell k1 2).trans rfl, (blk_cell k1 3).trans rfl, (blk_cell k1 4).trans rfl, (blk_cell k1 5).trans rfl⟩, ⟨(blk_cell k2 0).trans rfl, (blk_cell k3 0).trans rfl⟩, ⟨(blk_cell k4 0).trans rfl, (blk_cell k4 1).trans rfl, (blk_cell k4 2).trans rfl, (blk_cell k4 3).trans rfl⟩, ⟨hb0⟩⟩⟩
  clear hr hg htr ha b1 b2 b3
  go_enter Tryz.func90, Tryz.ntmps90
  go_wp2
  generalize hw0 : w.alloc (.cells #[.int .i64 x.f0.f0, .int .i64 x.f0.f1, .int .i64 x.f1.f0, .int .i64 x.f1.f1] 55 (0, 0)) = W at HX ⊢
  have HW0 := Aside0.mk hw0
  clear hw0
  go_region_held3 (fun w' => Aside0 (Below W.heap.size W w') ∧ (w'.cell? ⟨g1, 0, none⟩ = some (.int .i64 long) ∧ w'.cell? ⟨g1, 1, none⟩ = some (.slice A l.length c) ∧ w'.cell? ⟨g1, 2, none⟩ = some (.slice B gr.length d) ∧ w'.cell? ⟨g1, 3, none⟩ = some (.int .i64 half) ∧ w'.cell? ⟨g1, 4, none⟩ = some (.int .i64 room) ∧ w'.cell? ⟨g1, 5, none⟩ = some (.int .i64 play)) ∧
      (w'.cell? ⟨g2, 0, none⟩ = some (.int .i64 shift) ∧ w'.cell? ⟨g3, 0, none⟩ = some (.func (.func g) #[] #[])) ∧
      (w'.cell? ⟨w.heap.size, 0, none⟩ = some (.int .i64 x.f0.f0) ∧ w'.cell? ⟨w.heap.size, 1, none⟩ = some (.int .i64 x.f0.f1) ∧ w'.cell? ⟨w.heap.size, 2, none⟩ = some (.int .i64 x.f1.f0) ∧ w'.cell? ⟨w.heap.size, 3, none⟩ = some (.int .i64 x.f1.f1)) ∧ Aside0 (Below w.heap.size w w'))
    (first | exact ⟨⟨below_drew (Below.refl _ _)⟩, HX.out (below_drew (Below.refl _ _))⟩ | (go_split_ands; exact ⟨⟨later_below (Aside0.out ‹Aside0 (Below W.heap.size W _)›) hb1⟩, HX.out (later_below (Aside0.out ‹Aside0 (Below W.heap.size W _)›) hb1)⟩))
    ((first
      | (go_at_fn g; refine (HTR.out _).mono ?_; rintro e w1 ⟨rfl, hb1⟩)
      | (go_at_call 91; refine (z36_.calls k long A c l B d gr half room play shift ta tb r _ (Kd.C_below HR.out (by go_split_ands; exact Aside0.out (by assumption))) hc (Kd.C_below HG.out (by go_split_ands; exact Aside0.out (by assumption))) hd HA.out).mono ?_; rintro e w1 ⟨rfl, hb1⟩)))
  rename_i hh
  obtain ⟨hh1, hh2, hh3, hh4, hh5⟩ := hh
  clear hb1
  go_wp2
  go_ret
  exact ⟨rfl, hh5.out⟩
end X
end Go.Proofs.YtgdkmadcegleiaaGreatDoor
