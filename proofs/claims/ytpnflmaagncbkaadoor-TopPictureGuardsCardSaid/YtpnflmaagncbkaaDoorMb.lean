/- Part 2 of this claim's texts, put together by a program of its author: LatKinds, LatGen, GuaA, GuaG, LatA, LatB, LatShelf, LatC, LatD, PLatx0, PLatx1, PLatx, LatE, LatF, LatG, LatH, GuaB, GuaC, GuaD, GuaE, LatI, LatJ, PGrpx0. -/
import Derived.Test.YtpnflmaagncbkaaDoorProg
import Derived.Below
import Derived.Deep.Draws
import Derived.Deep.AppendLies
import Derived.Maps.AppendAt
import Derived.OwnWalk
import Derived.Laws.BytesArg
import Derived.Laws.MakeOwn
import Derived.Laws.OwnMore
import Derived.Deep.OwnRows
import Derived.Tactics
import Derived.Lib.ConvBytes
import Derived.Laws.Slices
import Derived.WalkKit
import Derived.KernelRfl
import Derived.RowKit3
import Derived.Deep.LoopGhost
import Derived.Deep.QuietTactic
import Derived.BigQuiet
import Derived.WideLaws
import Derived.Deep.DeepCutAuto
import Derived.Deep.CutBlock
import Derived.Deep.RegionHeld3
import Derived.Laws.Rows
import Derived.Lib.AppendStr
import Derived.ArgAppend
import Derived.Laws.IdiomCopy
import Derived.OrdersHeld
import Derived.Laws.BitsLemmas
import Derived.RowKit
import Derived.Test.YtpnflmaagncbkaaDoorMa
import Derived.Shelf.Abstract
import Derived.Lib.OthersKept
import Derived.Lib.Strings
import Derived.Shelf.Strings.Builder1
import Derived.Shelf.Strings.Builder2
import Derived.Shelf.Strings.OnBuilder
import Derived.Shelf.Small.Utf8
import Derived.Shelf.Unicode.Decode
import Derived.Shelf.Unicode.DecodeSlow
import Derived.Shelf.Unicode.DecodeAny
import Derived.Shelf.Unicode.DecodeLast
import Derived.Maps.OwnSet
section
/- The kinds of values that package lattice's exported functions take and return (out of a program). -/
namespace Go.Proofs.YtpnflmaagncbkaaDoor.X
open Go.RowKit Go.Proofs.YtpnflmaagncbkaaDoorW.PrintWords Go.Proofs.YtpnflmaagncbkaaDoorW.PrintLast Go.Proofs.YtpnflmaagncbkaaDoorW.PrintMore
set_option linter.unusedVariables false
def rd_L4 (xs : List (List ByteArray)) (i : Int) : (List ByteArray) := xs.getD i.toNat ([] : List ByteArray)
theorem at_L4 {w : World} {A : Option Addr} {n : Nat} {xs : List (List ByteArray)} (h : Kd.C (Kd.slice 9 Kd.string) w A n xs) (i : Int) (h0 : 0 ≤ i) (h1 : i < n) : ∃ ad A0 c0, A = some ad ∧ w.cell? (ad.add i.toNat) = some (.slice A0 (rd_L4 xs i).length c0) ∧ (rd_L4 xs i).length ≤ c0 ∧ Kd.string.C w A0 (rd_L4 xs i).length (rd_L4 xs i) := by
  obtain ⟨ad, c, e, _, hK, hc0⟩ := Kd.C_get h ([] : List ByteArray) i h0 h1
  have hc : ∀ j u, c[j]? = some u → w.cell? (ad.add (i.toNat * 1 + j)) = some u := hc0
  obtain ⟨A0, c0, rfl, l0, g0⟩ := hK
  exact ⟨ad, A0, c0, e, by have hq := hc 0 _ rfl; rwa [Nat.mul_one, Nat.add_zero] at hq, l0, g0⟩

def rd_L5 (xs : List (List Int)) (i : Int) : (List Int) := xs.getD i.toNat ([] : List Int)
theorem at_L5 {w : World} {A : Option Addr} {n : Nat} {xs : List (List Int)} (h : Kd.C (Kd.slice 3 (Kd.int .i64)) w A n xs) (i : Int) (h0 : 0 ≤ i) (h1 : i < n) : ∃ ad A0 c0, A = some ad ∧ w.cell? (ad.add i.toNat) = some (.slice A0 (rd_L5 xs i).length c0) ∧ (rd_L5 xs i).length ≤ c0 ∧ (Kd.int .i64).C w A0 (rd_L5 xs i).length (rd_L5 xs i) := by
  obtain ⟨ad, c, e, _, hK, hc0⟩ := Kd.C_get h ([] : List Int) i h0 h1
  have hc : ∀ j u, c[j]? = some u → w.cell? (ad.add (i.toNat * 1 + j)) = some u := hc0
  obtain ⟨A0, c0, rfl, l0, g0⟩ := hK
  exact ⟨ad, A0, c0, e, by have hq := hc 0 _ rfl; rwa [Nat.mul_one, Nat.add_zero] at hq, l0, g0⟩

/-! #### struct type 26 -/
structure S26 where
  f0 : Int
  f1 : Int
def z26 : S26 := ⟨(0 : Int), (0 : Int)⟩
def k26 : Kd S26 := Kd.iso (Kd.pair (Kd.int .i64) (Kd.int .i64)) (fun x : S26 => (x.f0, x.f1))
theorem k26_open {w : World} {x : S26} {cs : List Value} (h : k26.K w x cs) : cs = [.int .i64 x.f0, .int .i64 x.f1] := by
  obtain ⟨_, _, rfl, rfl, rfl⟩ := h
  exact rfl
theorem k26_openM {w : World} {base : Nat} {ok : Nat → Prop} {x : S26} {cs : List Value} (h : k26.M w base ok x cs) : cs = [.int .i64 x.f0, .int .i64 x.f1] := by
  obtain ⟨_, _, rfl, rfl, rfl⟩ := h
  exact rfl
theorem k26_mk (w : World) (x : S26)  : k26.K w x [.int .i64 x.f0, .int .i64 x.f1] := ⟨[.int .i64 x.f0], [.int .i64 x.f1], rfl, rfl, rfl⟩
theorem k26_mkM (w : World) (base : Nat) (ok : Nat → Prop) (x : S26)  : k26.M w base ok x [.int .i64 x.f0, .int .i64 x.f1] := ⟨[.int .i64 x.f0], [.int .i64 x.f1], rfl, rfl, rfl⟩
def rd_T26 (xs : List S26) (i : Int) : S26 := xs.getD i.toNat z26
theorem at_T26 {w : World} {A : Option Addr} {n : Nat} {xs : List S26} (h : Kd.C k26 w A n xs) (i : Int) (h0 : 0 ≤ i) (h1 : i < n) : ∃ ad , A = some ad ∧ w.cell? (ad.add (i.toNat * 2)) = some (.int .i64 (rd_T26 xs i).f0) ∧ w.cell? ⟨(ad.add (i.toNat * 2)).block, (ad.add (i.toNat * 2)).off + 1, none⟩ = some (.int .i64 (rd_T26 xs i).f1) := by
  obtain ⟨ad, c, e, _, hK, hc0⟩ := Kd.C_get h z26 i h0 h1
  have hc : ∀ j u, c[j]? = some u → w.cell? (ad.add (i.toNat * 2 + j)) = some u := hc0
  obtain rfl := k26_open hK
  exact ⟨ad, e, hc 0 _ rfl, by rw [← add_field _ _ 1 (by omega)]; exact hc 1 _ rfl⟩

/-! #### struct type 38 -/
structure S38 where
  f0 : Int
  f1 : (List Int)
def z38 : S38 := ⟨(0 : Int), ([] : List Int)⟩
def k38 : Kd S38 := Kd.iso (Kd.pair (Kd.int .i64) (Kd.slice 3 (Kd.int .i64))) (fun x : S38 => (x.f0, x.f1))
theorem k38_open {w : World} {x : S38} {cs : List Value} (h : k38.K w x cs) : ∃ A1 c1, cs = [.int .i64 x.f0, .slice A1 x.f1.length c1] ∧ x.f1.length ≤ c1 ∧ (Kd.int .i64).C w A1 x.f1.length x.f1 := by
  obtain ⟨_, _, rfl, rfl, ⟨A1, c1, rfl, l1, g1⟩⟩ := h
  exact ⟨A1, c1, rfl, l1, g1⟩
theorem k38_openM {w : World} {base : Nat} {ok : Nat → Prop} {x : S38} {cs : List Value} (h : k38.M w base ok x cs) : ∃ v1, cs = [.int .i64 x.f0, v1] ∧ (Kd.int .i64).R 3 w base ok v1 x.f1 := by
  obtain ⟨_, _, rfl, rfl, ⟨v1, rfl, g1⟩⟩ := h
  exact ⟨v1, rfl, g1⟩
theorem k38_mk (w : World) (x : S38) {A1 : Option Addr} {c1 : Nat} (l1 : x.f1.length ≤ c1) (g1 : (Kd.int .i64).C w A1 x.f1.length x.f1) : k38.K w x [.int .i64 x.f0, .slice A1 x.f1.length c1] := ⟨[.int .i64 x.f0], [.slice A1 x.f1.length c1], rfl, rfl, ⟨A1, c1, rfl, l1, g1⟩⟩
theorem k38_mkM (w : World) (base : Nat) (ok : Nat → Prop) (x : S38) {v1 : Value} (g1 : (Kd.int .i64).R 3 w base ok v1 x.f1) : k38.M w base ok x [.int .i64 x.f0, v1] := ⟨[.int .i64 x.f0], [v1], rfl, rfl, ⟨v1, rfl, g1⟩⟩
def rd_T38 (xs : List S38) (i : Int) : S38 := xs.getD i.toNat z38
theorem at_T38 {w : World} {A : Option Addr} {n : Nat} {xs : List S38} (h : Kd.C k38 w A n xs) (i : Int) (h0 : 0 ≤ i) (h1 : i < n) : ∃ ad A1 c1, A = some ad ∧ w.cell? (ad.add (i.toNat * 2)) = some (.int .i64 (rd_T38 xs i).f0) ∧ w.cell? ⟨(ad.add (i.toNat * 2)).block, (ad.add (i.toNat * 2)).off + 1, none⟩ = some (.slice A1 (rd_T38 xs i).f1.length c1) ∧ (rd_T38 xs i).f1.length ≤ c1 ∧ (Kd.int .i64).C w A1 (rd_T38 xs i).f1.length (rd_T38 xs i).f1 := by
  obtain ⟨ad, c, e, _, hK, hc0⟩ := Kd.C_get h z38 i h0 h1
  have hc : ∀ j u, c[j]? = some u → w.cell? (ad.add (i.toNat * 2 + j)) = some u := hc0
  obtain ⟨A1, c1, rfl, l1, g1⟩ := k38_open hK
  exact ⟨ad, A1, c1, e, hc 0 _ rfl, by rw [← add_field _ _ 1 (by omega)]; exact hc 1 _ rfl, l1, g1⟩

def rd_L8 (xs : List (List S38)) (i : Int) : (List S38) := xs.getD i.toNat ([] : List S38)
theorem at_L8 {w : World} {A : Option Addr} {n : Nat} {xs : List (List S38)} (h : Kd.C (Kd.slice 38 k38) w A n xs) (i : Int) (h0 : 0 ≤ i) (h1 : i < n) : ∃ ad A0 c0, A = some ad ∧ w.cell? (ad.add i.toNat) = some (.slice A0 (rd_L8 xs i).length c0) ∧ (rd_L8 xs i).length ≤ c0 ∧ k38.C w A0 (rd_L8 xs i).length (rd_L8 xs i) := by
  obtain ⟨ad, c, e, _, hK, hc0⟩ := Kd.C_get h ([] : List S38) i h0 h1
  have hc : ∀ j u, c[j]? = some u → w.cell? (ad.add (i.toNat * 1 + j)) = some u := hc0
  obtain ⟨A0, c0, rfl, l0, g0⟩ := hK
  exact ⟨ad, A0, c0, e, by have hq := hc 0 _ rfl; rwa [Nat.mul_one, Nat.add_zero] at hq, l0, g0⟩

/-! #### struct type 43 -/
structure S43 where
  f0 : Int
  f1 : Int
  f2 : Int
  f3 : Int
def z43 : S43 := ⟨(0 : Int), (0 : Int), (0 : Int), (0 : Int)⟩
def k43 : Kd S43 := Kd.iso (Kd.pair (Kd.int .i64) (Kd.pair (Kd.int .i64) (Kd.pair (Kd.int .i64) (Kd.int .i64)))) (fun x : S43 => (x.f0, x.f1, x.f2, x.f3))
theorem k43_open {w : World} {x : S43} {cs : List Value} (h : k43.K w x cs) : cs = [.int .i64 x.f0, .int .i64 x.f1, .int .i64 x.f2, .int .i64 x.f3] := by
  obtain ⟨_, _, rfl, rfl, ⟨_, _, rfl, rfl, ⟨_, _, rfl, rfl, rfl⟩⟩⟩ := h
  exact rfl
theorem k43_openM {w : World} {base : Nat} {ok : Nat → Prop} {x : S43} {cs : List Value} (h : k43.M w base ok x cs) : cs = [.int .i64 x.f0, .int .i64 x.f1, .int .i64 x.f2, .int .i64 x.f3] := by
  obtain ⟨_, _, rfl, rfl, ⟨_, _, rfl, rfl, ⟨_, _, rfl, rfl, rfl⟩⟩⟩ := h
  exact rfl
theorem k43_mk (w : World) (x : S43)  : k43.K w x [.int .i64 x.f0, .int .i64 x.f1, .int .i64 x.f2, .int .i64 x.f3] := ⟨[.int .i64 x.f0], [.int .i64 x.f1, .int .i64 x.f2, .int .i64 x.f3], rfl, rfl, ⟨[.int .i64 x.f1], [.int .i64 x.f2, .int .i64 x.f3], rfl, rfl, ⟨[.int .i64 x.f2], [.int .i64 x.f3], rfl, rfl, rfl⟩⟩⟩
theorem k43_mkM (w : World) (base : Nat) (ok : Nat → Prop) (x : S43)  : k43.M w base ok x [.int .i64 x.f0, .int .i64 x.f1, .int .i64 x.f2, .int .i64 x.f3] := ⟨[.int .i64 x.f0], [.int .i64 x.f1, .int .i64 x.f2, .int .i64 x.f3], rfl, rfl, ⟨[.int .i64 x.f1], [.int .i64 x.f2, .int .i64 x.f3], rfl, rfl, ⟨[.int .i64 x.f2], [.int .i64 x.f3], rfl, rfl, rfl⟩⟩⟩
def rd_T43 (xs : List S43) (i : Int) : S43 := xs.getD i.toNat z43
theorem at_T43 {w : World} {A : Option Addr} {n : Nat} {xs : List S43} (h : Kd.C k43 w A n xs) (i : Int) (h0 : 0 ≤ i) (h1 : i < n) : ∃ ad , A = some ad ∧ w.cell? (ad.add (i.toNat * 4)) = some (.int .i64 (rd_T43 xs i).f0) ∧ w.cell? ⟨(ad.add (i.toNat * 4)).block, (ad.add (i.toNat * 4)).off + 1, none⟩ = some (.int .i64 (rd_T43 xs i).f1) ∧ w.cell? ⟨(ad.add (i.toNat * 4)).block, (ad.add (i.toNat * 4)).off + 2, none⟩ = some (.int .i64 (rd_T43 xs i).f2) ∧ w.cell? ⟨(ad.add (i.toNat * 4)).block, (ad.add (i.toNat * 4)).off + 3, none⟩ = some (.int .i64 (rd_T43 xs i).f3) := by
  obtain ⟨ad, c, e, _, hK, hc0⟩ := Kd.C_get h z43 i h0 h1
  have hc : ∀ j u, c[j]? = some u → w.cell? (ad.add (i.toNat * 4 + j)) = some u := hc0
  obtain rfl := k43_open hK
  exact ⟨ad, e, hc 0 _ rfl, by rw [← add_field _ _ 1 (by omega)]; exact hc 1 _ rfl, by rw [← add_field _ _ 2 (by omega)]; exact hc 2 _ rfl, by rw [← add_field _ _ 3 (by omega)]; exact hc 3 _ rfl⟩

def rd_L10 (xs : List (List (List ByteArray))) (i : Int) : (List (List ByteArray)) := xs.getD i.toNat ([] : List (List ByteArray))
theorem at_L10 {w : World} {A : Option Addr} {n : Nat} {xs : List (List (List ByteArray))} (h : Kd.C (Kd.slice 33 (Kd.slice 9 Kd.string)) w A n xs) (i : Int) (h0 : 0 ≤ i) (h1 : i < n) : ∃ ad A0 c0, A = some ad ∧ w.cell? (ad.add i.toNat) = some (.slice A0 (rd_L10 xs i).length c0) ∧ (rd_L10 xs i).length ≤ c0 ∧ (Kd.slice 9 Kd.string).C w A0 (rd_L10 xs i).length (rd_L10 xs i) := by
  obtain ⟨ad, c, e, _, hK, hc0⟩ := Kd.C_get h ([] : List (List ByteArray)) i h0 h1
  have hc : ∀ j u, c[j]? = some u → w.cell? (ad.add (i.toNat * 1 + j)) = some u := hc0
  obtain ⟨A0, c0, rfl, l0, g0⟩ := hK
  exact ⟨ad, A0, c0, e, by have hq := hc 0 _ rfl; rwa [Nat.mul_one, Nat.add_zero] at hq, l0, g0⟩

def rd_L11 (xs : List (List (List Int))) (i : Int) : (List (List Int)) := xs.getD i.toNat ([] : List (List Int))
theorem at_L11 {w : World} {A : Option Addr} {n : Nat} {xs : List (List (List Int))} (h : Kd.C (Kd.slice 36 (Kd.slice 3 (Kd.int .i64))) w A n xs) (i : Int) (h0 : 0 ≤ i) (h1 : i < n) : ∃ ad A0 c0, A = some ad ∧ w.cell? (ad.add i.toNat) = some (.slice A0 (rd_L11 xs i).length c0) ∧ (rd_L11 xs i).length ≤ c0 ∧ (Kd.slice 3 (Kd.int .i64)).C w A0 (rd_L11 xs i).length (rd_L11 xs i) := by
  obtain ⟨ad, c, e, _, hK, hc0⟩ := Kd.C_get h ([] : List (List Int)) i h0 h1
  have hc : ∀ j u, c[j]? = some u → w.cell? (ad.add (i.toNat * 1 + j)) = some u := hc0
  obtain ⟨A0, c0, rfl, l0, g0⟩ := hK
  exact ⟨ad, A0, c0, e, by have hq := hc 0 _ rfl; rwa [Nat.mul_one, Nat.add_zero] at hq, l0, g0⟩

end Go.Proofs.YtpnflmaagncbkaaDoor.X
end
section
/- The library's slices.IndexFunc and slices.ContainsFunc at the element types of package lattice, at whatever function value that answers a plain predicate. -/
namespace Go.Proofs.YtpnflmaagncbkaaDoor.X
open Go.RowKit Go.Proofs.YtpnflmaagncbkaaDoorW.PrintWords Go.Proofs.YtpnflmaagncbkaaDoorW.PrintLast Go.Proofs.YtpnflmaagncbkaaDoorW.PrintMore

/-- The first place at which p holds, or -1. -/
def idxI {α : Type} (p : α → Bool) (xs : List α) : Int := match xs.findIdx? p with
  | some i => (i : Int)
  | none => -1
theorem idxI_hit {α : Type} (p : α → Bool) (xs : List α) (k : Nat) (h : k < xs.length) (hp : p xs[k] = true) (hb : ∀ j, ∀ hj : j < k, p (xs[j]'(by omega)) = false) : idxI p xs = (k : Int) := by
  have e : xs.findIdx? p = some k := by
    rw [List.findIdx?_eq_some_iff_getElem]
    exact ⟨h, hp, fun j hj => by simpa using hb j hj⟩
  unfold idxI; rw [e]
theorem idxI_miss {α : Type} (p : α → Bool) (xs : List α) (hb : ∀ j, ∀ hj : j < xs.length, p xs[j] = false) : idxI p xs = -1 := by
  have e : xs.findIdx? p = none := by
    rw [List.findIdx?_eq_none_iff]
    intro x hx
    obtain ⟨j, hj, rfl⟩ := List.mem_iff_getElem.1 hx
    simpa using hb j hj
  unfold idxI; rw [e]
theorem idxI_hitD {α : Type} (p : α → Bool) (xs : List α) (z : α) (n k : Nat) (hn : xs.length = n) (h : k < n) (hp : p (xs.getD k z) = true) (hb : ∀ j, j < k → p (xs.getD j z) = false) : idxI p xs = (k : Int) := by
  have e : ∀ j, ∀ hj : j < xs.length, xs.getD j z = xs[j] := fun j hj => by simp [List.getD_eq_getElem?_getD, List.getElem?_eq_getElem hj]
  exact idxI_hit p xs k (by omega) (by rw [← e]; exact hp) (fun j hj => by rw [← e]; exact hb j hj)
theorem idxI_missD {α : Type} (p : α → Bool) (xs : List α) (z : α) (n : Nat) (hn : xs.length = n) (hb : ∀ j, j < n → p (xs.getD j z) = false) : idxI p xs = -1 := by
  have e : ∀ j, ∀ hj : j < xs.length, xs.getD j z = xs[j] := fun j hj => by simp [List.getD_eq_getElem?_getD, List.getElem?_eq_getElem hj]
  exact idxI_miss p xs (fun j hj => by rw [← e]; exact hb j (by omega))
theorem getD_mem {α : Type} {xs : List α} {z : α} {n k : Nat} (hn : xs.length = n) (h : k < n) : xs.getD k z ∈ xs := by
  rw [List.getD_eq_getElem?_getD, List.getElem?_eq_getElem (by omega)]
  exact List.getElem_mem _
theorem idxI_any {α : Type} (p : α → Bool) (xs : List α) : decide (0 ≤ idxI p xs) = xs.any p := by
  unfold idxI
  cases h : xs.findIdx? p with
  | none =>
    rw [List.findIdx?_eq_none_iff] at h
    simp only [show ¬ (0 : Int) ≤ -1 by decide, decide_false]
    symm
    rw [List.any_eq_false]
    intro x hx
    simpa using h x hx
  | some i =>
    rw [List.findIdx?_eq_some_iff_getElem] at h
    obtain ⟨hl, hp, _⟩ := h
    simp only [Int.natCast_nonneg, decide_true]
    symm
    rw [List.any_eq_true]
    exact ⟨_, List.getElem_mem hl, hp⟩

/-- What is asked of a function value: at each element of the list, in each later world, it answers p; it may make memory. -/
def PredK {α : Type} (g : Nat) (lb : Array Value) (d : Kd α) (mkv : List Value → Value) (xs : List α) (p : α → Bool) (w : World) : Prop :=
  ∀ x ∈ xs, ∀ (W : World) (cs : List Value), Below w.heap.size w W → d.K W x cs → Calls Tryd.prog g (#[mkv cs] ++ lb) W fun e W' => e = .returned (.bool (p x)) ∧ Below W.heap.size W W'
/-- A value of one cell. -/
def cell1 (cs : List Value) : Value := cs.getD 0 .nilIface
/-- A value of several cells. -/
def cellN (cs : List Value) : Value := .agg cs.toArray

theorem later_below {w W W' : World} (h : Below w.heap.size w W) (k : Below W.heap.size W W') : Below w.heap.size w W' := below_then h h.size k

theorem box_cell (w : World) (v : Value) (t : TypeId) {g : Nat} (h : g = w.heap.size) : (w.alloc (.cells #[v] t)).cell? ⟨g, 0, none⟩ = some v := by
  subst h; exact blk_cell (blk_new w _) 0
theorem keep_cell {w : World} {a : Addr} {v : Value} (o : Obj) (h : w.cell? a = some v) : (w.alloc o).cell? a = some v := pw_cell_below (below_alloc (Below.refl _ _) o) h
theorem one_blk (w : World) (o : Obj) {g : Nat} (h : g = w.heap.size) : (w.alloc o).heap[g]? = some o := by
  subst h; exact blk_new w o

theorem C_lit1 (W : World) (k : IntKind) (e : TypeId) (x : Int) {g : Nat} (h : g = W.heap.size) : Kd.C (Kd.int k) (W.alloc (.cells #[.int k x] e)) (some ⟨g, 0, none⟩) 1 [x] := by
  subst h
  exact Kd.C_of_reads (own_reads' (c := 1) (own_lit W 0 e k [x] (Nat.zero_le _) (by simp)))
theorem C_lit2 (W : World) (k : IntKind) (e : TypeId) (x y : Int) {g : Nat} (h : g = W.heap.size) : Kd.C (Kd.int k) (W.alloc (.cells #[.int k x, .int k y] e)) (some ⟨g, 0, none⟩) 2 [x, y] := by
  subst h
  exact Kd.C_of_reads (own_reads' (c := 2) (own_lit W 0 e k [x, y] (Nat.zero_le _) (by simp)))


set_option maxHeartbeats 2000000 in
theorem index_int' {g : Nat} {lb : Array Value} {xs : List (Int)} {p : Int → Bool} {w : World} {A : Option Addr} {n c : Nat} (eg : ∀ args w, (callFunc g args).run Tryd.prog w = .ok (.enter g args) w)
    (hn : xs.length = n) (hr : Kd.C (Kd.int .i64) w A n xs) (hp : PredK g lb (Kd.int .i64) cell1 xs p w) :
    Calls Tryd.prog 50 #[.slice A n c, .func (.func g) #[] lb] w fun e w' => e = .returned (.int .i64 (idxI p xs)) ∧ Below w.heap.size w w' := by
  have hm : n ≤ 9223372036854775807 := Kd.C_max hr
  have HN := Aside0.mk hn
  have HR := Aside0.mk hr
  have HP := Aside0.mk hp
  clear hr hp hn
  go_enter Tryd.func50, Tryd.ntmps50
  go_wp2
  go_loopg [5, 8] n (fun gg _ s8 wr => ∃ kk : Nat, kk ≤ n ∧ n - kk ≤ gg ∧ s8 = .int .i64 kk ∧ Aside0 (Below w.heap.size w wr) ∧ Aside0 (∀ j, j < kk → p (xs.getD j 0) = false))
  case atStart => exact ⟨0, Nat.zero_le _, by omega, rfl, ⟨Below.refl _ w⟩, ⟨fun j h0 => absurd h0 (Nat.not_lt_zero _)⟩⟩
  case round =>
    obtain ⟨kk, hkk, hg, rfl, BW, HA⟩ := hrel
    by_cases hlt : kk < n
    · have hltz : (kk : Int) < (n : Int) := by omega
      obtain ⟨ad, c1, rfl, hl1, hK, hcell⟩ := Kd.C_get (Kd.C_below HR.out BW.out) 0 (kk : Int) (by omega) hltz
      rw [Int.toNat_natCast] at hK hcell
      have hcall := HP.out _ (getD_mem HN.out hlt) wr _ BW.out hK
      have e1 : c1 = [Value.int .i64 (xs.getD kk 0)] := hK
      subst e1
      have hc0 : wr.cell? (ad.add kk) = some (Value.int .i64 (xs.getD kk 0)) := by
        have := hcell 0 _ rfl
        simpa [show (Kd.int .i64).sz = 1 from rfl] using this
      simp only [cell1, List.getD_cons_zero] at hcall
      clear hcell hl1
      have hxx : xs.getD kk 0 = xs.getD kk 0 := rfl
      generalize hy : xs.getD kk 0 = y at hcall hc0 hK
      have HY := Aside0.mk hy
      clear hy hxx hK
      cases hq : p y with
      | true =>
        rw [hq] at hcall
        have HQ := Aside0.mk hq
        have HC := Aside0.mk hcall
        clear hq hcall
        go_wp2_with (go_at_fn g; refine HC.out.mono ?_; rintro e w' ⟨rfl, hb'⟩)
        go_ret
        refine ⟨?_, later_below BW.out hb'⟩; rw [idxI_hitD p xs 0 n kk HN.out hlt (by rw [HY.out]; exact HQ.out) HA.out]; rfl
      | false =>
        rw [hq] at hcall
        have HQ := Aside0.mk hq
        have HC := Aside0.mk hcall
        clear hq hcall
        go_wp2_with (go_at_fn g; refine HC.out.mono ?_; rintro e w' ⟨rfl, hb'⟩)
        go_roundg (n - (kk + 1))
        case measure => omega
        case rel =>
          refine ⟨kk + 1, by omega, by omega, by go_num, ⟨later_below BW.out hb'⟩, ⟨fun j h1 => ?_⟩⟩
          by_cases e : j = kk
          · subst e; rw [HY.out]; exact HQ.out
          · exact HA.out j (by omega)
    · have hltz : ¬ (kk : Int) < (n : Int) := by omega
      have e : kk = n := by omega
      subst e
      go_wp2
      go_ret
      refine ⟨?_, BW.out⟩; rw [idxI_missD p xs 0 kk HN.out HA.out]; rfl
theorem index_int {g : Nat} {lb : Array Value} {xs : List (Int)} {p : Int → Bool} {w : World} {A : Option Addr} {c : Nat} (eg : ∀ args w, (callFunc g args).run Tryd.prog w = .ok (.enter g args) w)
    (hr : Kd.C (Kd.int .i64) w A xs.length xs) (hp : PredK g lb (Kd.int .i64) cell1 xs p w) :
    Calls Tryd.prog 50 #[.slice A xs.length c, .func (.func g) #[] lb] w fun e w' => e = .returned (.int .i64 (idxI p xs)) ∧ Below w.heap.size w w' := index_int' eg rfl hr hp
theorem contains_int {g : Nat} {lb : Array Value} {xs : List (Int)} {p : Int → Bool} {w : World} {A : Option Addr} {c : Nat} (eg : ∀ args w, (callFunc g args).run Tryd.prog w = .ok (.enter g args) w)
    (hr : Kd.C (Kd.int .i64) w A xs.length xs) (hp : PredK g lb (Kd.int .i64) cell1 xs p w) :
    Calls Tryd.prog 37 #[.slice A xs.length c, .func (.func g) #[] lb] w fun e w' => e = .returned (.bool (xs.any p)) ∧ Below w.heap.size w w' := by
  rw [← idxI_any p xs]
  have HR := Aside0.mk hr
  have HP := Aside0.mk hp
  have HE := Aside0.mk eg
  clear hr hp eg
  go_enter Tryd.func37, Tryd.ntmps37
  go_wp2_with (go_at_call 50; refine (index_int HE.out HR.out HP.out).mono ?_; rintro e w' ⟨rfl, hb'⟩)
  go_ret
  exact ⟨rfl, hb'⟩

set_option maxHeartbeats 2000000 in
theorem index_str' {g : Nat} {lb : Array Value} {xs : List (ByteArray)} {p : ByteArray → Bool} {w : World} {A : Option Addr} {n c : Nat} (eg : ∀ args w, (callFunc g args).run Tryd.prog w = .ok (.enter g args) w)
    (hn : xs.length = n) (hr : Kd.C (Kd.string) w A n xs) (hp : PredK g lb (Kd.string) cell1 xs p w) :
    Calls Tryd.prog 54 #[.slice A n c, .func (.func g) #[] lb] w fun e w' => e = .returned (.int .i64 (idxI p xs)) ∧ Below w.heap.size w w' := by
  have hm : n ≤ 9223372036854775807 := Kd.C_max hr
  have HN := Aside0.mk hn
  have HR := Aside0.mk hr
  have HP := Aside0.mk hp
  clear hr hp hn
  go_enter Tryd.func54, Tryd.ntmps54
  go_wp2
  go_loopg [5, 8] n (fun gg _ s8 wr => ∃ kk : Nat, kk ≤ n ∧ n - kk ≤ gg ∧ s8 = .int .i64 kk ∧ Aside0 (Below w.heap.size w wr) ∧ Aside0 (∀ j, j < kk → p (xs.getD j ByteArray.empty) = false))
  case atStart => exact ⟨0, Nat.zero_le _, by omega, rfl, ⟨Below.refl _ w⟩, ⟨fun j h0 => absurd h0 (Nat.not_lt_zero _)⟩⟩
  case round =>
    obtain ⟨kk, hkk, hg, rfl, BW, HA⟩ := hrel
    by_cases hlt : kk < n
    · have hltz : (kk : Int) < (n : Int) := by omega
      obtain ⟨ad, c1, rfl, hl1, hK, hcell⟩ := Kd.C_get (Kd.C_below HR.out BW.out) ByteArray.empty (kk : Int) (by omega) hltz
      rw [Int.toNat_natCast] at hK hcell
      have hcall := HP.out _ (getD_mem HN.out hlt) wr _ BW.out hK
      have e1 : c1 = [Value.string (xs.getD kk ByteArray.empty)] := hK
      subst e1
      have hc0 : wr.cell? (ad.add kk) = some (Value.string (xs.getD kk ByteArray.empty)) := by
        have := hcell 0 _ rfl
        simpa [show (Kd.string).sz = 1 from rfl] using this
      simp only [cell1, List.getD_cons_zero] at hcall
      clear hcell hl1
      have hxx : xs.getD kk ByteArray.empty = xs.getD kk ByteArray.empty := rfl
      generalize hy : xs.getD kk ByteArray.empty = y at hcall hc0 hK
      have HY := Aside0.mk hy
      clear hy hxx hK
      cases hq : p y with
      | true =>
        rw [hq] at hcall
        have HQ := Aside0.mk hq
        have HC := Aside0.mk hcall
        clear hq hcall
        go_wp2_with (go_at_fn g; refine HC.out.mono ?_; rintro e w' ⟨rfl, hb'⟩)
        go_ret
        refine ⟨?_, later_below BW.out hb'⟩; rw [idxI_hitD p xs ByteArray.empty n kk HN.out hlt (by rw [HY.out]; exact HQ.out) HA.out]; rfl
      | false =>
        rw [hq] at hcall
        have HQ := Aside0.mk hq
        have HC := Aside0.mk hcall
        clear hq hcall
        go_wp2_with (go_at_fn g; refine HC.out.mono ?_; rintro e w' ⟨rfl, hb'⟩)
        go_roundg (n - (kk + 1))
        case measure => omega
        case rel =>
          refine ⟨kk + 1, by omega, by omega, by go_num, ⟨later_below BW.out hb'⟩, ⟨fun j h1 => ?_⟩⟩
          by_cases e : j = kk
          · subst e; rw [HY.out]; exact HQ.out
          · exact HA.out j (by omega)
    · have hltz : ¬ (kk : Int) < (n : Int) := by omega
      have e : kk = n := by omega
      subst e
      go_wp2
      go_ret
      refine ⟨?_, BW.out⟩; rw [idxI_missD p xs ByteArray.empty kk HN.out HA.out]; rfl
theorem index_str {g : Nat} {lb : Array Value} {xs : List (ByteArray)} {p : ByteArray → Bool} {w : World} {A : Option Addr} {c : Nat} (eg : ∀ args w, (callFunc g args).run Tryd.prog w = .ok (.enter g args) w)
    (hr : Kd.C (Kd.string) w A xs.length xs) (hp : PredK g lb (Kd.string) cell1 xs p w) :
    Calls Tryd.prog 54 #[.slice A xs.length c, .func (.func g) #[] lb] w fun e w' => e = .returned (.int .i64 (idxI p xs)) ∧ Below w.heap.size w w' := index_str' eg rfl hr hp
theorem contains_str {g : Nat} {lb : Array Value} {xs : List (ByteArray)} {p : ByteArray → Bool} {w : World} {A : Option Addr} {c : Nat} (eg : ∀ args w, (callFunc g args).run Tryd.prog w = .ok (.enter g args) w)
    (hr : Kd.C (Kd.string) w A xs.length xs) (hp : PredK g lb (Kd.string) cell1 xs p w) :
    Calls Tryd.prog 49 #[.slice A xs.length c, .func (.func g) #[] lb] w fun e w' => e = .returned (.bool (xs.any p)) ∧ Below w.heap.size w w' := by
  rw [← idxI_any p xs]
  have HR := Aside0.mk hr
  have HP := Aside0.mk hp
  have HE := Aside0.mk eg
  clear hr hp eg
  go_enter Tryd.func49, Tryd.ntmps49
  go_wp2_with (go_at_call 54; refine (index_str HE.out HR.out HP.out).mono ?_; rintro e w' ⟨rfl, hb'⟩)
  go_ret
  exact ⟨rfl, hb'⟩

set_option maxHeartbeats 2000000 in
theorem index_strs' {g : Nat} {lb : Array Value} {xs : List (List ByteArray)} {p : List ByteArray → Bool} {w : World} {A : Option Addr} {n c : Nat} (eg : ∀ args w, (callFunc g args).run Tryd.prog w = .ok (.enter g args) w)
    (hn : xs.length = n) (hr : Kd.C (Kd.slice 9 Kd.string) w A n xs) (hp : PredK g lb (Kd.slice 9 Kd.string) cell1 xs p w) :
    Calls Tryd.prog 36 #[.slice A n c, .func (.func g) #[] lb] w fun e w' => e = .returned (.int .i64 (idxI p xs)) ∧ Below w.heap.size w w' := by
  have hm : n ≤ 9223372036854775807 := Kd.C_max hr
  have HN := Aside0.mk hn
  have HR := Aside0.mk hr
  have HP := Aside0.mk hp
  clear hr hp hn
  go_enter Tryd.func36, Tryd.ntmps36
  go_wp2
  go_loopg [5, 8] n (fun gg _ s8 wr => ∃ kk : Nat, kk ≤ n ∧ n - kk ≤ gg ∧ s8 = .int .i64 kk ∧ Aside0 (Below w.heap.size w wr) ∧ Aside0 (∀ j, j < kk → p (xs.getD j []) = false))
  case atStart => exact ⟨0, Nat.zero_le _, by omega, rfl, ⟨Below.refl _ w⟩, ⟨fun j h0 => absurd h0 (Nat.not_lt_zero _)⟩⟩
  case round =>
    obtain ⟨kk, hkk, hg, rfl, BW, HA⟩ := hrel
    by_cases hlt : kk < n
    · have hltz : (kk : Int) < (n : Int) := by omega
      obtain ⟨ad, c1, rfl, hl1, hK, hcell⟩ := Kd.C_get (Kd.C_below HR.out BW.out) [] (kk : Int) (by omega) hltz
      rw [Int.toNat_natCast] at hK hcell
      have hcall := HP.out _ (getD_mem HN.out hlt) wr _ BW.out hK
      obtain ⟨B1, cc1, e1, hcap, hC1⟩ := hK
      subst e1
      have hK : (Kd.slice 9 Kd.string).K wr (xs.getD kk []) [.slice B1 (xs.getD kk []).length cc1] := ⟨B1, cc1, rfl, hcap, hC1⟩
      have hc0 : wr.cell? (ad.add kk) = some (.slice B1 (xs.getD kk []).length cc1) := by
        have := hcell 0 _ rfl
        simpa [show (Kd.slice 9 Kd.string).sz = 1 from rfl] using this
      clear hcap hC1
      simp only [cell1, List.getD_cons_zero] at hcall
      clear hcell hl1
      have hxx : xs.getD kk [] = xs.getD kk [] := rfl
      generalize hy : xs.getD kk [] = y at hcall hc0 hK
      have HY := Aside0.mk hy
      clear hy hxx hK
      cases hq : p y with
      | true =>
        rw [hq] at hcall
        have HQ := Aside0.mk hq
        have HC := Aside0.mk hcall
        clear hq hcall
        go_wp2_with (go_at_fn g; refine HC.out.mono ?_; rintro e w' ⟨rfl, hb'⟩)
        go_ret
        refine ⟨?_, later_below BW.out hb'⟩; rw [idxI_hitD p xs [] n kk HN.out hlt (by rw [HY.out]; exact HQ.out) HA.out]; rfl
      | false =>
        rw [hq] at hcall
        have HQ := Aside0.mk hq
        have HC := Aside0.mk hcall
        clear hq hcall
        go_wp2_with (go_at_fn g; refine HC.out.mono ?_; rintro e w' ⟨rfl, hb'⟩)
        go_roundg (n - (kk + 1))
        case measure => omega
        case rel =>
          refine ⟨kk + 1, by omega, by omega, by go_num, ⟨later_below BW.out hb'⟩, ⟨fun j h1 => ?_⟩⟩
          by_cases e : j = kk
          · subst e; rw [HY.out]; exact HQ.out
          · exact HA.out j (by omega)
    · have hltz : ¬ (kk : Int) < (n : Int) := by omega
      have e : kk = n := by omega
      subst e
      go_wp2
      go_ret
      refine ⟨?_, BW.out⟩; rw [idxI_missD p xs [] kk HN.out HA.out]; rfl
theorem index_strs {g : Nat} {lb : Array Value} {xs : List (List ByteArray)} {p : List ByteArray → Bool} {w : World} {A : Option Addr} {c : Nat} (eg : ∀ args w, (callFunc g args).run Tryd.prog w = .ok (.enter g args) w)
    (hr : Kd.C (Kd.slice 9 Kd.string) w A xs.length xs) (hp : PredK g lb (Kd.slice 9 Kd.string) cell1 xs p w) :
    Calls Tryd.prog 36 #[.slice A xs.length c, .func (.func g) #[] lb] w fun e w' => e = .returned (.int .i64 (idxI p xs)) ∧ Below w.heap.size w w' := index_strs' eg rfl hr hp
theorem contains_strs {g : Nat} {lb : Array Value} {xs : List (List ByteArray)} {p : List ByteArray → Bool} {w : World} {A : Option Addr} {c : Nat} (eg : ∀ args w, (callFunc g args).run Tryd.prog w = .ok (.enter g args) w)
    (hr : Kd.C (Kd.slice 9 Kd.string) w A xs.length xs) (hp : PredK g lb (Kd.slice 9 Kd.string) cell1 xs p w) :
    Calls Tryd.prog 18 #[.slice A xs.length c, .func (.func g) #[] lb] w fun e w' => e = .returned (.bool (xs.any p)) ∧ Below w.heap.size w w' := by
  rw [← idxI_any p xs]
  have HR := Aside0.mk hr
  have HP := Aside0.mk hp
  have HE := Aside0.mk eg
  clear hr hp eg
  go_enter Tryd.func18, Tryd.ntmps18
  go_wp2_with (go_at_call 36; refine (index_strs HE.out HR.out HP.out).mono ?_; rintro e w' ⟨rfl, hb'⟩)
  go_ret
  exact ⟨rfl, hb'⟩

end Go.Proofs.YtpnflmaagncbkaaDoor.X
end
section
/- Package guard: within. -/
namespace Go.Proofs.YtpnflmaagncbkaaDoor.X
open Go.RowKit Go.Proofs.YtpnflmaagncbkaaDoorW.PrintWords Go.Proofs.YtpnflmaagncbkaaDoorW.PrintLast Go.Proofs.YtpnflmaagncbkaaDoorW.PrintMore

theorem enters_guwithin1 : ∀ args w, (callFunc 43 args).run Tryd.prog w = .ok (.enter 43 args) w := enters_of Tryd.func43 (by kernel_rfl) rfl

def guOutside (least most n : Int) : Bool := decide (n < least) || decide (most < n)

theorem guwithin1_pred {g1 g2 : Nat} {least most : Int} {xs : List Int} {w : World} (h1 : w.cell? ⟨g1, 0, none⟩ = some (.int .i64 least)) (h2 : w.cell? ⟨g2, 0, none⟩ = some (.int .i64 most)) :
    PredK 43 #[.pointer (some ⟨g1, 0, none⟩), .pointer (some ⟨g2, 0, none⟩)] (Kd.int .i64) cell1 xs (guOutside least most) w := by
  intro x _ W cs hb hK
  have e : cs = [.int .i64 x] := hK
  subst e
  have k1 : W.cell? ⟨g1, 0, none⟩ = some (.int .i64 least) := pw_cell_below hb h1
  have k2 : W.cell? ⟨g2, 0, none⟩ = some (.int .i64 most) := pw_cell_below hb h2
  simp only [cell1, List.getD_cons_zero]
  show Calls Tryd.prog 43 #[.int .i64 x, .pointer (some ⟨g1, 0, none⟩), .pointer (some ⟨g2, 0, none⟩)] W _
  clear hb h1 h2 hK
  by_cases c1 : x < least
  · have d1 : decide (x < least) = true := decide_eq_true c1
    have e1 : guOutside least most x = true := by simp [guOutside, d1]
    rw [e1]
    clear c1 e1
    go_enter Tryd.func43, Tryd.ntmps43
    go_wp2
    go_ret
    exact ⟨rfl, by first | exact Below.refl _ _ | exact pw_below_drewN (Below.refl _ _) _⟩
  · have d1 : decide (x < least) = false := decide_eq_false c1
    clear c1
    by_cases c2 : most < x
    · have d2 : decide (most < x) = true := decide_eq_true c2
      have e1 : guOutside least most x = true := by simp [guOutside, d2]
      rw [e1]
      clear c2 e1
      go_enter Tryd.func43, Tryd.ntmps43
      go_wp2
      go_ret
      exact ⟨rfl, by first | exact Below.refl _ _ | exact pw_below_drewN (Below.refl _ _) _⟩
    · have d2 : decide (most < x) = false := decide_eq_false c2
      have e1 : guOutside least most x = false := by simp [guOutside, d1, d2]
      rw [e1]
      clear c2 e1
      go_enter Tryd.func43, Tryd.ntmps43
      go_wp2
      go_ret
      exact ⟨rfl, by first | exact Below.refl _ _ | exact pw_below_drewN (Below.refl _ _) _⟩

/-- within: all integers lie between two others. -/
def guard_within.f (a0 a1 : Int) (l2 : List Int) : Option Bool := some (l2.all fun n => decide (a0 ≤ n) && decide (n ≤ a1))
theorem any_guOutside (a0 a1 : Int) (l : List Int) : (!(l.any (guOutside a0 a1))) = l.all fun n => decide (a0 ≤ n) && decide (n ≤ a1) := by
  induction l with
  | nil => rfl
  | cons x l ih =>
    simp only [List.any_cons, List.all_cons, Bool.not_or, ih]
    congr 1
    simp only [guOutside, Bool.not_or]
    by_cases h1 : a0 ≤ x <;> by_cases h2 : x ≤ a1 <;> simp [h1, h2] <;> omega
set_option maxHeartbeats 1000000 in
theorem guard_within.calls (a0 : Int) (a1 : Int) (A2 : Option Addr) (c2 : Nat) (l2 : List Int) (r : Bool) (w : World) (hr2 : Kd.C (Kd.int .i64) w A2 l2.length l2) (_hc2 : l2.length ≤ c2) (h : guard_within.f a0 a1 l2 = some r) :
    Calls Tryd.prog 31 #[.int .i64 a0, .int .i64 a1, .slice A2 l2.length c2] w fun e w' => e = .returned (.bool r) ∧ Below w.heap.size w w' := by
  obtain rfl := Option.some.inj h
  rw [← any_guOutside]
  have HR := Aside0.mk hr2
  clear hr2 h
  go_enter Tryd.func31, Tryd.ntmps31
  go_wp2_with fail
  refine (contains_int (p := guOutside a0 a1) enters_guwithin1 (Kd.C_alloc (Kd.C_alloc HR.out _) _) (guwithin1_pred (by simp) (by simp))).mono ?_
  rintro e w' ⟨rfl, hb⟩
  have HB := Aside0.mk (below_then (below_alloc (below_alloc (Below.refl _ _) _) _) (by simp; omega) hb)
  clear hb
  go_wp2
  go_ret
  exact ⟨rfl, HB.out⟩
/-- within of one integer. -/
theorem guard_within_lit (a0 a1 x : Int) (q : Bool) (W : World) (e : TypeId) {g : Nat} (h : guard_within.f a0 a1 [x] = some q) (hg : g = W.heap.size) :
    Calls Tryd.prog 31 #[.int .i64 a0, .int .i64 a1, .slice (some ⟨g, 0, none⟩) 1 1] (W.alloc (.cells #[.int .i64 x] e)) fun e w' => e = .returned (.bool q) ∧ Below W.heap.size W w' := by
  refine (guard_within.calls a0 a1 _ 1 [x] q _ (C_lit1 W .i64 e x hg) (Nat.le_refl 1) h).mono ?_
  rintro e w' ⟨rfl, hb⟩
  exact ⟨rfl, below_then (below_alloc (Below.refl _ _) _) (by simp) hb⟩
end Go.Proofs.YtpnflmaagncbkaaDoor.X
end
section
/- slices.ContainsFunc at guards. -/
namespace Go.Proofs.YtpnflmaagncbkaaDoor.X
open Go.RowKit Go.Proofs.YtpnflmaagncbkaaDoorW.PrintWords Go.Proofs.YtpnflmaagncbkaaDoorW.PrintLast Go.Proofs.YtpnflmaagncbkaaDoorW.PrintMore

set_option maxHeartbeats 2000000 in
theorem index_guard' {g : Nat} {lb : Array Value} {xs : List (S38)} {p : S38 → Bool} {w : World} {A : Option Addr} {n c : Nat} (eg : ∀ args w, (callFunc g args).run Tryd.prog w = .ok (.enter g args) w)
    (hn : xs.length = n) (hr : Kd.C (k38) w A n xs) (hp : PredK g lb (k38) cellN xs p w) :
    Calls Tryd.prog 44 #[.slice A n c, .func (.func g) #[] lb] w fun e w' => e = .returned (.int .i64 (idxI p xs)) ∧ Below w.heap.size w w' := by
  have hm : n ≤ 9223372036854775807 := Kd.C_max hr
  have HN := Aside0.mk hn
  have HR := Aside0.mk hr
  have HP := Aside0.mk hp
  clear hr hp hn
  go_enter Tryd.func44, Tryd.ntmps44
  go_wp2
  go_loopg [5, 8] n (fun gg _ s8 wr => ∃ kk : Nat, kk ≤ n ∧ n - kk ≤ gg ∧ s8 = .int .i64 kk ∧ Aside0 (Below w.heap.size w wr) ∧ Aside0 (∀ j, j < kk → p (xs.getD j z38) = false))
  case atStart => exact ⟨0, Nat.zero_le _, by omega, rfl, ⟨Below.refl _ w⟩, ⟨fun j h0 => absurd h0 (Nat.not_lt_zero _)⟩⟩
  case round =>
    obtain ⟨kk, hkk, hg, rfl, BW, HA⟩ := hrel
    by_cases hlt : kk < n
    · have hltz : (kk : Int) < (n : Int) := by omega
      obtain ⟨ad, c1, rfl, hl1, hK, hcell⟩ := Kd.C_get (Kd.C_below HR.out BW.out) z38 (kk : Int) (by omega) hltz
      rw [Int.toNat_natCast] at hK hcell
      have hcall := HP.out _ (getD_mem HN.out hlt) wr _ BW.out hK
      obtain ⟨Ac, cc, rfl, hlc, hCc⟩ := k38_open hK
      have hc : ∀ j u, [Value.int .i64 (xs.getD kk z38).f0, Value.slice Ac (xs.getD kk z38).f1.length cc][j]? = some u → wr.cell? (ad.add (kk * 2 + j)) = some u := fun j u hu => hcell j u hu
      have hc0 : wr.cell? (ad.add (kk * 2)) = some (.int .i64 (xs.getD kk z38).f0) := hc 0 _ rfl
      have hc1 : wr.cell? ⟨(ad.add (kk * 2)).block, (ad.add (kk * 2)).off + 1, none⟩ = some (.slice Ac (xs.getD kk z38).f1.length cc) := by rw [← add_field _ _ 1 (by omega)]; exact hc 1 _ rfl
      clear hlc hCc
      clear hc
      simp only [cellN] at hcall
      clear hcell hl1
      have hxx : xs.getD kk z38 = xs.getD kk z38 := rfl
      generalize hy : xs.getD kk z38 = y at hcall hc0 hc1 hK
      have HY := Aside0.mk hy
      clear hy hxx hK
      cases hq : p y with
      | true =>
        rw [hq] at hcall
        have HQ := Aside0.mk hq
        have HC := Aside0.mk hcall
        clear hq hcall
        go_wp2_with (go_at_fn g; refine HC.out.mono ?_; rintro e w' ⟨rfl, hb'⟩)
        go_ret
        refine ⟨?_, later_below BW.out hb'⟩; rw [idxI_hitD p xs z38 n kk HN.out hlt (by rw [HY.out]; exact HQ.out) HA.out]; rfl
      | false =>
        rw [hq] at hcall
        have HQ := Aside0.mk hq
        have HC := Aside0.mk hcall
        clear hq hcall
        go_wp2_with (go_at_fn g; refine HC.out.mono ?_; rintro e w' ⟨rfl, hb'⟩)
        go_roundg (n - (kk + 1))
        case measure => omega
        case rel =>
          refine ⟨kk + 1, by omega, by omega, by go_num, ⟨later_below BW.out hb'⟩, ⟨fun j h1 => ?_⟩⟩
          by_cases e : j = kk
          · subst e; rw [HY.out]; exact HQ.out
          · exact HA.out j (by omega)
    · have hltz : ¬ (kk : Int) < (n : Int) := by omega
      have e : kk = n := by omega
      subst e
      go_wp2
      go_ret
      refine ⟨?_, BW.out⟩; rw [idxI_missD p xs z38 kk HN.out HA.out]; rfl
theorem index_guard {g : Nat} {lb : Array Value} {xs : List (S38)} {p : S38 → Bool} {w : World} {A : Option Addr} {c : Nat} (eg : ∀ args w, (callFunc g args).run Tryd.prog w = .ok (.enter g args) w)
    (hr : Kd.C (k38) w A xs.length xs) (hp : PredK g lb (k38) cellN xs p w) :
    Calls Tryd.prog 44 #[.slice A xs.length c, .func (.func g) #[] lb] w fun e w' => e = .returned (.int .i64 (idxI p xs)) ∧ Below w.heap.size w w' := index_guard' eg rfl hr hp
theorem contains_guard {g : Nat} {lb : Array Value} {xs : List (S38)} {p : S38 → Bool} {w : World} {A : Option Addr} {c : Nat} (eg : ∀ args w, (callFunc g args).run Tryd.prog w = .ok (.enter g args) w)
    (hr : Kd.C (k38) w A xs.length xs) (hp : PredK g lb (k38) cellN xs p w) :
    Calls Tryd.prog 33 #[.slice A xs.length c, .func (.func g) #[] lb] w fun e w' => e = .returned (.bool (xs.any p)) ∧ Below w.heap.size w w' := by
  rw [← idxI_any p xs]
  have HR := Aside0.mk hr
  have HP := Aside0.mk hp
  have HE := Aside0.mk eg
  clear hr hp eg
  go_enter Tryd.func33, Tryd.ntmps33
  go_wp2_with (go_at_call 44; refine (index_guard HE.out HR.out HP.out).mono ?_; rintro e w' ⟨rfl, hb'⟩)
  go_ret
  exact ⟨rfl, hb'⟩

end Go.Proofs.YtpnflmaagncbkaaDoor.X
end
section
/- Package lattice: within, cutLeft, cutRight, checked, and what follows from them: Check, Bars, checkSeen, isShift, isRoom, isSize. -/
namespace Go.Proofs.YtpnflmaagncbkaaDoor.X
open Go.RowKit Go.Proofs.YtpnflmaagncbkaaDoorW.PrintWords Go.Proofs.YtpnflmaagncbkaaDoorW.PrintLast Go.Proofs.YtpnflmaagncbkaaDoorW.PrintMore

theorem enters_within1 : ∀ args w, (callFunc 38 args).run Tryd.prog w = .ok (.enter 38 args) w := enters_of Tryd.func38 (by kernel_rfl) rfl

def outside (least most n : Int) : Bool := decide (n < least) || decide (most < n)

theorem within1_pred {g1 g2 : Nat} {least most : Int} {xs : List Int} {w : World} (h1 : w.cell? ⟨g1, 0, none⟩ = some (.int .i64 least)) (h2 : w.cell? ⟨g2, 0, none⟩ = some (.int .i64 most)) :
    PredK 38 #[.pointer (some ⟨g1, 0, none⟩), .pointer (some ⟨g2, 0, none⟩)] (Kd.int .i64) cell1 xs (outside least most) w := by
  intro x _ W cs hb hK
  have e : cs = [.int .i64 x] := hK
  subst e
  have k1 : W.cell? ⟨g1, 0, none⟩ = some (.int .i64 least) := pw_cell_below hb h1
  have k2 : W.cell? ⟨g2, 0, none⟩ = some (.int .i64 most) := pw_cell_below hb h2
  simp only [cell1, List.getD_cons_zero]
  show Calls Tryd.prog 38 #[.int .i64 x, .pointer (some ⟨g1, 0, none⟩), .pointer (some ⟨g2, 0, none⟩)] W _
  clear hb h1 h2 hK
  by_cases c1 : x < least
  · have d1 : decide (x < least) = true := decide_eq_true c1
    have e1 : outside least most x = true := by simp [outside, d1]
    rw [e1]
    clear c1 e1
    go_enter Tryd.func38, Tryd.ntmps38
    go_wp2
    go_ret
    exact ⟨rfl, by first | exact Below.refl _ _ | exact pw_below_drewN (Below.refl _ _) _⟩
  · have d1 : decide (x < least) = false := decide_eq_false c1
    clear c1
    by_cases c2 : most < x
    · have d2 : decide (most < x) = true := decide_eq_true c2
      have e1 : outside least most x = true := by simp [outside, d2]
      rw [e1]
      clear c2 e1
      go_enter Tryd.func38, Tryd.ntmps38
      go_wp2
      go_ret
      exact ⟨rfl, by first | exact Below.refl _ _ | exact pw_below_drewN (Below.refl _ _) _⟩
    · have d2 : decide (most < x) = false := decide_eq_false c2
      have e1 : outside least most x = false := by simp [outside, d1, d2]
      rw [e1]
      clear c2 e1
      go_enter Tryd.func38, Tryd.ntmps38
      go_wp2
      go_ret
      exact ⟨rfl, by first | exact Below.refl _ _ | exact pw_below_drewN (Below.refl _ _) _⟩

/-- within: all integers lie between two others. -/
def lattice_within.f (a0 a1 : Int) (l2 : List Int) : Option Bool := some (l2.all fun n => decide (a0 ≤ n) && decide (n ≤ a1))
theorem any_outside (a0 a1 : Int) (l : List Int) : (!(l.any (outside a0 a1))) = l.all fun n => decide (a0 ≤ n) && decide (n ≤ a1) := by
  induction l with
  | nil => rfl
  | cons x l ih =>
    simp only [List.any_cons, List.all_cons, Bool.not_or, ih]
    congr 1
    simp only [outside, Bool.not_or]
    by_cases h1 : a0 ≤ x <;> by_cases h2 : x ≤ a1 <;> simp [h1, h2] <;> omega
set_option maxHeartbeats 1000000 in
theorem lattice_within.calls (a0 : Int) (a1 : Int) (A2 : Option Addr) (c2 : Nat) (l2 : List Int) (r : Bool) (w : World) (hr2 : Kd.C (Kd.int .i64) w A2 l2.length l2) (_hc2 : l2.length ≤ c2) (h : lattice_within.f a0 a1 l2 = some r) :
    Calls Tryd.prog 22 #[.int .i64 a0, .int .i64 a1, .slice A2 l2.length c2] w fun e w' => e = .returned (.bool r) ∧ Below w.heap.size w w' := by
  obtain rfl := Option.some.inj h
  rw [← any_outside]
  have HR := Aside0.mk hr2
  clear hr2 h
  go_enter Tryd.func22, Tryd.ntmps22
  go_wp2_with fail
  refine (contains_int (p := outside a0 a1) enters_within1 (Kd.C_alloc (Kd.C_alloc HR.out _) _) (within1_pred (by simp) (by simp))).mono ?_
  rintro e w' ⟨rfl, hb⟩
  have HB := Aside0.mk (below_then (below_alloc (below_alloc (Below.refl _ _) _) _) (by simp; omega) hb)
  clear hb
  go_wp2
  go_ret
  exact ⟨rfl, HB.out⟩
/-- within of one integer. -/
theorem lattice_within_lit (a0 a1 x : Int) (q : Bool) (W : World) (e : TypeId) {g : Nat} (h : lattice_within.f a0 a1 [x] = some q) (hg : g = W.heap.size) :
    Calls Tryd.prog 22 #[.int .i64 a0, .int .i64 a1, .slice (some ⟨g, 0, none⟩) 1 1] (W.alloc (.cells #[.int .i64 x] e)) fun e w' => e = .returned (.bool q) ∧ Below W.heap.size W w' := by
  refine (lattice_within.calls a0 a1 _ 1 [x] q _ (C_lit1 W .i64 e x hg) (Nat.le_refl 1) h).mono ?_
  rintro e w' ⟨rfl, hb⟩
  exact ⟨rfl, below_then (below_alloc (Below.refl _ _) _) (by simp) hb⟩
end Go.Proofs.YtpnflmaagncbkaaDoor.X
end
section
/- Package lattice: cutLeft and cutRight at a set of ASCII bytes. -/
namespace Go.Proofs.YtpnflmaagncbkaaDoor.X
open Go.RowKit Go.Proofs.YtpnflmaagncbkaaDoorW.PrintWords Go.Proofs.YtpnflmaagncbkaaDoorW.PrintLast Go.Proofs.YtpnflmaagncbkaaDoorW.PrintMore
open Go.Lib (run_next_any_at run_next_ascii_at run_next_end_at iterAt_heap iterAt_size below_iterAt)

/-- Is a number (a byte, or a rune) among the bytes of a text? -/
def inSet (set : ByteArray) (c : Nat) : Bool := set.data.toList.any fun d => d.toNat == c
def ascii (set : ByteArray) : Prop := ∀ d ∈ set.data.toList, d.toNat < 128
def inTake (set : ByteArray) (c m : Nat) : Bool := (set.data.toList.take m).any fun d => d.toNat == c
theorem inTake_zero (set : ByteArray) (c : Nat) : inTake set c 0 = false := rfl
theorem inTake_all (set : ByteArray) (c : Nat) : inTake set c set.size = inSet set c := by
  unfold inTake inSet
  rw [List.take_of_length_le (by rw [Array.length_toList]; exact Nat.le_refl _)]
theorem inTake_succ (set : ByteArray) (c m : Nat) (h : m < set.size) : inTake set c (m + 1) = (inTake set c m || ((set[m]'h).toNat == c)) := by
  unfold inTake
  have h' : m < set.data.toList.length := by rw [Array.length_toList]; exact h
  rw [List.take_succ_eq_append_getElem h', List.any_append]
  simp
  rfl
theorem ascii_at {set : ByteArray} (h : ascii set) (m : Nat) (hm : m < set.size) : (set[m]'hm).toNat < 128 := by
  refine h _ ?_
  rw [show (set[m]'hm) = set.data.toList[m]'(by rw [Array.length_toList]; exact hm) from by simp; rfl]
  exact List.getElem_mem _

/-- A text without the bytes of a set at its begin. -/
def cutL (set s : ByteArray) : ByteArray := ⟨(s.data.toList.dropWhile fun b => inSet set b.toNat).toArray⟩
theorem dropWhile_drop {α : Type} (p : α → Bool) (l : List α) (k : Nat) (hk : k ≤ l.length) (h : ∀ j, ∀ hj : j < l.length, j < k → p l[j] = true) (he : ∀ hk : k < l.length, p l[k] = false) : l.dropWhile p = l.drop k := by
  induction l generalizing k with
  | nil => simp
  | cons x l ih =>
    cases k with
    | zero =>
      have := he (by simp)
      simp only [List.getElem_cons_zero] at this
      simp [this]
    | succ k =>
      have hx := h 0 (by simp) (by omega)
      simp only [List.getElem_cons_zero] at hx
      rw [List.dropWhile_cons, if_pos hx, List.drop_succ_cons]
      exact ih k (by simpa using hk) (fun j hj hjk => by have := h (j + 1) (by simpa using hj) (by omega); simpa using this) (fun hk2 => by have := he (by simpa using hk2); simpa using this)
theorem cutL_at (set s : ByteArray) (k : Nat) (hk : k < s.size) (h : ∀ j, ∀ hj : j < s.size, j < k → inSet set (s[j]'hj).toNat = true) (he : inSet set (s[k]'hk).toNat = false) : cutL set s = s.extract k s.size := by
  have hl : s.data.toList.length = s.size := by rw [Array.length_toList]; rfl
  have e := dropWhile_drop (fun b => inSet set b.toNat) s.data.toList k (by omega) (fun j hj hjk => h j (by omega) hjk) (fun _ => he)
  unfold cutL
  rw [e, Lib.extract_eq, List.take_of_length_le (by simp [hl])]
theorem cutL_none (set s : ByteArray) (h : ∀ j, ∀ hj : j < s.size, inSet set (s[j]'hj).toNat = true) : cutL set s = ⟨#[]⟩ := by
  have hl : s.data.toList.length = s.size := by rw [Array.length_toList]; rfl
  have e := dropWhile_drop (fun b => inSet set b.toNat) s.data.toList s.size (by omega) (fun j hj _ => h j (by omega)) (fun hk => by omega)
  unfold cutL
  rw [e, List.drop_of_length_le (by omega)]

theorem high_not_in {set : ByteArray} (h : ascii set) {c : Nat} (hc : 128 ≤ c) : inSet set c = false := by
  unfold inSet
  rw [List.any_eq_false]
  intro d hd
  have := h d hd
  simp only [beq_iff_eq]
  omega

set_option maxHeartbeats 2000000 in
theorem cutLeft_calls (s set : ByteArray) (hset : ascii set) (w : World) (hs : s.size ≤ 9223372036854775807) :
    Calls Tryd.prog 48 #[.string s, .string set] w fun e w' => e = .returned (.string (cutL set s)) ∧ Below w.heap.size w w' := by
  have HS := Aside0.mk hset
  clear hset
  go_enter Tryd.func48, Tryd.ntmps48
  go_wp2
  go_loopg [7] s.size (fun gg _ wr => ∃ kk : Nat, kk ≤ s.size ∧ s.size - kk ≤ gg ∧ Aside0 (wr.heap[w.heap.size]? = some (.stringIter s kk)) ∧ Aside0 (Below w.heap.size w wr) ∧ Aside0 (∀ j, ∀ hj : j < s.size, j < kk → inSet set (s[j]'hj).toNat = true))
  case atStart => exact ⟨0, Nat.zero_le _, by omega, ⟨World.iter_heap w s 0⟩, ⟨below_alloc (Below.refl _ _) _⟩, ⟨fun j hj h0 => absurd h0 (Nat.not_lt_zero _)⟩⟩
  case round =>
    obtain ⟨kk, hkk, hg, HI, HB, HA⟩ := hrel
    by_cases hp : kk < s.size
    · obtain ⟨c, hc⟩ : ∃ c, (Utf8.decode s kk).1 = c := ⟨_, rfl⟩
      obtain ⟨wd, hwd⟩ : ∃ d, (Utf8.decode s kk).2 = d := ⟨_, rfl⟩
      have hnx : ∀ ty, (Instr.next (.pointer (some ⟨w.heap.size, 0, none⟩)) true ty).run Tryd.prog wr = _ := fun ty => run_next_any_at wr w.heap.size s kk ty HI.out hp
      rw [hc, hwd] at hnx
      obtain ⟨W1, hW1⟩ : ∃ W1, wr.iterAt w.heap.size s (kk + wd) = W1 := ⟨_, rfl⟩
      rw [hW1] at hnx
      have HI1 : Aside0 (W1.heap[w.heap.size]? = some (.stringIter s (kk + wd))) := ⟨by rw [← hW1]; exact iterAt_heap _ _ _ _ _ HI.out⟩
      have HB1 : Aside0 (Below w.heap.size w W1) := ⟨by rw [← hW1]; exact below_iterAt HB.out (Nat.le_refl _) _ _⟩
      have HQ : Aside0 (inSet set c = inSet set (s[kk]'hp).toNat ∧ (inSet set c = true → wd = 1)) := by
        refine ⟨?_⟩
        by_cases ha : (s[kk]'hp).toNat < 128
        · rw [decode_ascii s kk hp ha] at hc hwd
          exact ⟨by rw [← hc], fun _ => hwd.symm⟩
        · have hh := (decode_high s kk hp (by omega)).1
          rw [hc] at hh
          have e1 := high_not_in HS.out hh
          exact ⟨by rw [e1, high_not_in HS.out (by omega)], fun h => by rw [e1] at h; cases h⟩
      clear HI HB hW1 hc hwd
      go_wp2
      go_loopg [7] set.size (fun gg v7 wr2 => ∃ m : Nat, m ≤ set.size ∧ set.size - m ≤ gg ∧ v7 = .bool (inTake set c m) ∧ wr2 = W1.iter set m)
      case atStart => exact ⟨0, Nat.zero_le _, by omega, rfl, rfl⟩
      case round =>
        obtain ⟨m, hm, hg2, rfl, rfl⟩ := hrel
        by_cases hm2 : m < set.size
        · have hnx2 : ∀ ty, (Instr.next (.pointer (some ⟨W1.heap.size, 0, none⟩)) true ty).run Tryd.prog (W1.iter set m) = _ := fun ty => run_next_ascii W1 set m ty hm2 (ascii_at HS.out m hm2)
          have HSU := Aside0.mk (inTake_succ set c m hm2)
          obtain ⟨d, hd⟩ : ∃ d, (set[m]'hm2).toNat = d := ⟨_, rfl⟩
          rw [hd] at hnx2 HSU
          clear hd
          obtain ⟨q, hq⟩ : ∃ q, inTake set c m = q := ⟨_, rfl⟩
          rw [hq] at HSU ⊢
          clear hq
          cases q with
          | true =>
            go_wp2
            go_roundg (set.size - (m + 1))
            case measure => omega
            case rel => exact ⟨m + 1, by omega, by omega, by rw [HSU.out]; rfl, rfl⟩
          | false =>
            by_cases hcd : c = d
            · have h1 : (c == d) = true := beq_iff_eq.2 hcd
              have h2 : ((c : Int) == (d : Int)) = true := beq_iff_eq.2 (by omega)
              have hsu : inTake set c (m + 1) = true := by rw [HSU.out, hcd]; simp
              have HSV := Aside0.mk hsu
              clear hcd hsu
              go_wp2
              go_roundg (set.size - (m + 1))
              case measure => omega
              case rel => exact ⟨m + 1, by omega, by omega, by rw [HSV.out], rfl⟩
            · have h1 : (c == d) = false := beq_eq_false_iff_ne.2 hcd
              have h2 : ((c : Int) == (d : Int)) = false := beq_eq_false_iff_ne.2 (by omega)
              have hsu : inTake set c (m + 1) = false := by rw [HSU.out, Bool.false_or]; exact beq_eq_false_iff_ne.2 (fun h => hcd h.symm)
              have HSV := Aside0.mk hsu
              clear hcd hsu
              go_wp2
              go_roundg (set.size - (m + 1))
              case measure => omega
              case rel => exact ⟨m + 1, by omega, by omega, by rw [HSV.out], rfl⟩
        · have hnx2 : ∀ ty, (Instr.next (.pointer (some ⟨W1.heap.size, 0, none⟩)) true ty).run Tryd.prog (W1.iter set m) = _ := fun ty => run_next_end W1 set m ty hm2
          obtain rfl : m = set.size := by omega
          rw [inTake_all]
          have HE := Aside0.mk (rfl : inSet set c = inSet set c)
          obtain ⟨q, hq⟩ : ∃ q, inSet set c = q := ⟨_, rfl⟩
          rw [hq]
          have HV := Aside0.mk hq
          clear hq HE
          cases q with
          | true =>
            go_wp2
            go_roundg (s.size - (kk + 1))
            case measure => omega
            case rel =>
              have hw := HQ.out.2 HV.out
              refine ⟨kk + 1, by omega, by omega, ⟨by have := HI1.out; rw [hw] at this; exact Below.heap_alloc _ _ _ (by have := (Array.getElem?_eq_some_iff.1 HI1.out).1; exact this) |>.trans this⟩, ⟨below_alloc HB1.out _⟩, ⟨fun j hj h1 => ?_⟩⟩
              by_cases e : j = kk
              · subst e; rw [← HQ.out.1]; exact HV.out
              · exact HA.out j hj (by omega)
          | false =>
            go_wp2
            go_ret
            refine ⟨?_, below_alloc HB1.out _⟩
            rw [cutL_at set s kk hp HA.out (by rw [← HQ.out.1]; exact HV.out)]
            rfl
    · have hnx : ∀ ty, (Instr.next (.pointer (some ⟨w.heap.size, 0, none⟩)) true ty).run Tryd.prog wr = _ := fun ty => run_next_end_at wr w.heap.size s kk ty HI.out hp
      have HE : Aside0 (cutL set s = ⟨#[]⟩) := ⟨cutL_none set s (fun j hj => HA.out j hj (by omega))⟩
      go_wp2
      go_ret
      refine ⟨?_, HB.out⟩
      rw [HE.out]
      rfl
end Go.Proofs.YtpnflmaagncbkaaDoor.X
end
section
/-
  DERIVED: THE SHELF's CONTRACTS AT THIS DUMP, IN PLAIN WORDS (tools/lay-plain.mjs out of 'TrydShelf.lean', which tools/lay-shelf.mjs wrote): THE SAME DECLARATIONS UNDER THE SAME NAMES: 'import', 'namespace', 'open', 'def', 'theorem' AND NOTHING ELSE: no command of the shelf's: FOR A HAND-IN. Each laying: the table of numbers ('.._ren') and one theorem, a field a fact of the dump's own or the kernel's comparison; each contract: ONE APPLICATION.
-/
namespace Go.Proofs
open Go.Shelf
def Tryd.lays169_ren : Go.Shelf.Ren := ⟨fun | 169 => 41 | n => n, fun | 70 => 77 | 9 => 9 | 0 => 0 | 72 => 79 | 37 => 28 | 127 => 93 | 3 => 3 | 5 => 5 | n => n, fun | n => n⟩
theorem Tryd.lays169 : Go.Proofs.Lays.n169 Tryd.prog Tryd.lays169_ren := {
  mixed := by kernel_rfl
  f169 := Tryd.func41.trans (congrArg some (by kernel_rfl))
  t0 := Tryd.underlying0
  a0 := Tryd.isAgg0
  z0 := Tryd.sizeOf0
  v0 := Tryd.zeroValue0
  t3 := Tryd.underlying3
  a3 := Tryd.isAgg3
  z3 := Tryd.sizeOf3
  v3 := Tryd.zeroValue3
  t9 := Tryd.underlying9
  a9 := Tryd.isAgg9
  z9 := Tryd.sizeOf9
  v9 := Tryd.zeroValue9
  t37 := Tryd.underlying28
  a37 := Tryd.isAgg28
  z37 := Tryd.sizeOf28
  v37 := Tryd.zeroValue28
  t70 := Tryd.underlying77
  a70 := Tryd.isAgg77
  z70 := Tryd.sizeOf77
  v70 := Tryd.zeroValue77
  t72 := Tryd.underlying79
  a72 := Tryd.isAgg79
  z72 := Tryd.sizeOf79
  v72 := Tryd.zeroValue79
  t127 := Tryd.underlying93
  a127 := Tryd.isAgg93
  z127 := Tryd.sizeOf93
  v127 := Tryd.zeroValue93 }
theorem Tryd.Builder_Extra_169 : Builder.Extra Tryd.prog Tryd.lays169_ren := {
  sizeBuilder := by kernel_rfl
  liesBuilder := by kernel_rfl
  t5 := Tryd.underlying5
  a5 := Tryd.isAgg5
  z5 := Tryd.sizeOf5
  v5 := Tryd.zeroValue5
  infoByte := by kernel_rfl
  cellsByte := by kernel_rfl
  sizeByte := by kernel_rfl
  neB5 := by decide }
open Go.RowKit in
/-- (*strings.Builder).String: "String returns the accumulated string.": OF A BUILDER THAT HOLDS AT LEAST ONE BYTE. ✋ THE MODEL FREEZES THOSE BYTES IN THE BUFFER (unsafe.String): a later write INTO them ends the model's run without an answer; a later append BEHIND them goes on. The statement's order of evaluation is drawn: one draw. (LAID: no walk: one application.) -/
theorem Tryd.Builder_String (B b : Nat) (l : List UInt8) (w : World) (h : Lib.IsBuilder 79 5 B b (Lib.byteCells l) w) (h0 : l ≠ []) :
    Calls Tryd.prog 41 #[.pointer (some ⟨b, 0, none⟩)] w fun e w' => e = .returned (.string ⟨l.toArray⟩) ∧ Below B w w' := Any.Builder_String Tryd.lays169 Tryd.Builder_Extra_169 B b l w h h0
open Go.RowKit in
/-- (*strings.Builder).String OF A BUILDER THAT HOLDS NO BYTE: the empty string. (Its buffer is nil, or a row of which it has taken nothing yet; where that row has NO capacity the model lays one new block for unsafe.SliceData's 'some address'.) One draw. (LAID: no walk: one application.) -/
theorem Tryd.Builder_String_empty (B b : Nat) (w : World) (h : Lib.IsBuilder 79 5 B b [] w) (hBw : B ≤ w.heap.size) :
    Calls Tryd.prog 41 #[.pointer (some ⟨b, 0, none⟩)] w fun e w' => e = .returned (.string ⟨#[]⟩) ∧ Below B w w' := Any.Builder_String_empty Tryd.lays169 Tryd.Builder_Extra_169 B b w h hBw
open Go.RowKit in
/-- (*strings.Builder).String: "String returns the accumulated string.": WHATEVER THE BUILDER HOLDS. (LAID: no walk: one application.) -/
theorem Tryd.Builder_String_any (B b : Nat) (l : List UInt8) (w : World) (h : Lib.IsBuilder 79 5 B b (Lib.byteCells l) w) (hBw : B ≤ w.heap.size) :
    Calls Tryd.prog 41 #[.pointer (some ⟨b, 0, none⟩)] w fun e w' => e = .returned (.string ⟨l.toArray⟩) ∧ Below B w w' := Any.Builder_String_any Tryd.lays169 Tryd.Builder_Extra_169 B b l w h hBw
def Tryd.lays241_ren : Go.Shelf.Ren := ⟨fun | 241 => 52 | 277 => 56 | n => n, fun | 70 => 77 | 3 => 3 | 0 => 0 | 72 => 79 | 37 => 28 | 5 => 5 | n => n, fun | n => n⟩
theorem Tryd.lays241 : Go.Proofs.Lays.n241 Tryd.prog Tryd.lays241_ren := {
  mixed := by kernel_rfl
  f241 := Tryd.func52.trans (congrArg some (by kernel_rfl))
  f277 := Tryd.func56.trans (congrArg some (by kernel_rfl))
  t0 := Tryd.underlying0
  a0 := Tryd.isAgg0
  z0 := Tryd.sizeOf0
  v0 := Tryd.zeroValue0
  t3 := Tryd.underlying3
  a3 := Tryd.isAgg3
  z3 := Tryd.sizeOf3
  v3 := Tryd.zeroValue3
  t37 := Tryd.underlying28
  a37 := Tryd.isAgg28
  z37 := Tryd.sizeOf28
  v37 := Tryd.zeroValue28
  t70 := Tryd.underlying77
  a70 := Tryd.isAgg77
  z70 := Tryd.sizeOf77
  v70 := Tryd.zeroValue77
  t72 := Tryd.underlying79
  a72 := Tryd.isAgg79
  z72 := Tryd.sizeOf79
  v72 := Tryd.zeroValue79 }
theorem Tryd.Builder_Extra_241 : Builder.Extra Tryd.prog Tryd.lays241_ren := {
  sizeBuilder := by kernel_rfl
  liesBuilder := by kernel_rfl
  t5 := Tryd.underlying5
  a5 := Tryd.isAgg5
  z5 := Tryd.sizeOf5
  v5 := Tryd.zeroValue5
  infoByte := by kernel_rfl
  cellsByte := by kernel_rfl
  sizeByte := by kernel_rfl
  neB5 := by decide }
open Go.RowKit in
/-- (*strings.Builder).grow (no doc but "grow copies the buffer to a new, larger buffer so that there are at least n bytes of capacity beyond len(b.buf)."): AT A BUILDER WITHOUT A BUFFER: a new row of whatever bytes for its buffer, none of them its own yet. Three draws. (LAID: no walk: one application.) -/
theorem Tryd.Builder_grow_fresh (B b n : Nat) (w : World) (hB : B ≤ b) (hbk : w.heap[b]? = some (.cells #[.pointer (some ⟨b, 0, none⟩), .slice none 0 0] 79 (0, 0))) (hBw : B ≤ w.heap.size) (hn : n ≤ 281474976710656) :
    Calls Tryd.prog 52 #[.pointer (some ⟨b, 0, none⟩), .int .i64 n] w fun e w' => e = .returned (.tuple #[]) ∧ (Lib.BuilderAt 79 5 B b (.pointer (some ⟨b, 0, none⟩)) [] w' ∧ Below B w w') := Any.Builder_grow_fresh Tryd.lays241 Tryd.Builder_Extra_241 B b n w hB hbk hBw hn
def Tryd.lays165_ren : Go.Shelf.Ren := ⟨fun | 165 => 39 | 240 => 51 | 241 => 52 | 276 => 55 | 277 => 56 | n => n, fun | 70 => 77 | 3 => 3 | 0 => 0 | 4 => 4 | 9 => 9 | 20 => 20 | 72 => 79 | 37 => 28 | 164 => 97 | 5 => 5 | n => n, fun | n => n⟩
theorem Tryd.lays165 : Go.Proofs.Lays.n165 Tryd.prog Tryd.lays165_ren := {
  mixed := by kernel_rfl
  f165 := Tryd.func39.trans (congrArg some (by kernel_rfl))
  f240 := Tryd.func51.trans (congrArg some (by kernel_rfl))
  f241 := Tryd.func52.trans (congrArg some (by kernel_rfl))
  f276 := Tryd.func55.trans (congrArg some (by kernel_rfl))
  f277 := Tryd.func56.trans (congrArg some (by kernel_rfl))
  t0 := Tryd.underlying0
  a0 := Tryd.isAgg0
  z0 := Tryd.sizeOf0
  v0 := Tryd.zeroValue0
  t3 := Tryd.underlying3
  a3 := Tryd.isAgg3
  z3 := Tryd.sizeOf3
  v3 := Tryd.zeroValue3
  t4 := Tryd.underlying4
  a4 := Tryd.isAgg4
  z4 := Tryd.sizeOf4
  v4 := Tryd.zeroValue4
  t9 := Tryd.underlying9
  a9 := Tryd.isAgg9
  z9 := Tryd.sizeOf9
  v9 := Tryd.zeroValue9
  t20 := Tryd.underlying20
  a20 := Tryd.isAgg20
  z20 := Tryd.sizeOf20
  v20 := Tryd.zeroValue20
  t37 := Tryd.underlying28
  a37 := Tryd.isAgg28
  z37 := Tryd.sizeOf28
  v37 := Tryd.zeroValue28
  t70 := Tryd.underlying77
  a70 := Tryd.isAgg77
  z70 := Tryd.sizeOf77
  v70 := Tryd.zeroValue77
  t72 := Tryd.underlying79
  a72 := Tryd.isAgg79
  z72 := Tryd.sizeOf79
  v72 := Tryd.zeroValue79
  t164 := Tryd.underlying97
  a164 := Tryd.isAgg97
  z164 := Tryd.sizeOf97
  v164 := Tryd.zeroValue97 }
theorem Tryd.Builder_Extra_165 : Builder.Extra Tryd.prog Tryd.lays165_ren := {
  sizeBuilder := by kernel_rfl
  liesBuilder := by kernel_rfl
  t5 := Tryd.underlying5
  a5 := Tryd.isAgg5
  z5 := Tryd.sizeOf5
  v5 := Tryd.zeroValue5
  infoByte := by kernel_rfl
  cellsByte := by kernel_rfl
  sizeByte := by kernel_rfl
  neB5 := by decide }
open Go.RowKit in
/-- (*strings.Builder).Grow AT A BUILDER THAT HAS NOT BEEN WRITTEN ('var b strings.Builder; b.Grow(n)'): "Grow grows b's capacity, if necessary, to guarantee space for another n bytes.": it holds no byte behind it as before it. (LAID: no walk: one application.) -/
theorem Tryd.Builder_Grow_fresh (B b n : Nat) (w : World) (hB : B ≤ b) (hbk : w.heap[b]? = some (.cells #[.pointer none, .slice none 0 0] 79 (0, 0))) (hBw : B ≤ w.heap.size) (hn : n ≤ 281474976710656) :
    Calls Tryd.prog 39 #[.pointer (some ⟨b, 0, none⟩), .int .i64 n] w fun e w' => e = .returned (.tuple #[]) ∧ (Lib.BuilderAt 79 5 B b (.pointer (some ⟨b, 0, none⟩)) [] w' ∧ Below B w w') := Any.Builder_Grow_fresh Tryd.lays165 Tryd.Builder_Extra_165 B b n w hB hbk hBw hn
def Tryd.lays156_ren : Go.Shelf.Ren := ⟨fun | 156 => 23 | 165 => 39 | 166 => 40 | 169 => 41 | 240 => 51 | 241 => 52 | 276 => 55 | 277 => 56 | n => n, fun | 31 => 33 | 9 => 9 | 3 => 3 | 4 => 4 | 0 => 0 | 20 => 20 | 72 => 79 | 76 => 83 | 70 => 77 | 37 => 28 | 75 => 82 | 127 => 93 | 164 => 97 | 5 => 5 | 80 => 85 | n => n, fun | n => n⟩
theorem Tryd.lays156 : Go.Proofs.Lays.n156 Tryd.prog Tryd.lays156_ren := {
  mixed := by kernel_rfl
  f156 := Tryd.func23.trans (congrArg some (by kernel_rfl))
  f165 := Tryd.func39.trans (congrArg some (by kernel_rfl))
  f166 := Tryd.func40.trans (congrArg some (by kernel_rfl))
  f169 := Tryd.func41.trans (congrArg some (by kernel_rfl))
  f240 := Tryd.func51.trans (congrArg some (by kernel_rfl))
  f241 := Tryd.func52.trans (congrArg some (by kernel_rfl))
  f276 := Tryd.func55.trans (congrArg some (by kernel_rfl))
  f277 := Tryd.func56.trans (congrArg some (by kernel_rfl))
  t0 := Tryd.underlying0
  a0 := Tryd.isAgg0
  z0 := Tryd.sizeOf0
  v0 := Tryd.zeroValue0
  t3 := Tryd.underlying3
  a3 := Tryd.isAgg3
  z3 := Tryd.sizeOf3
  v3 := Tryd.zeroValue3
  t4 := Tryd.underlying4
  a4 := Tryd.isAgg4
  z4 := Tryd.sizeOf4
  v4 := Tryd.zeroValue4
  t9 := Tryd.underlying9
  a9 := Tryd.isAgg9
  z9 := Tryd.sizeOf9
  v9 := Tryd.zeroValue9
  t20 := Tryd.underlying20
  a20 := Tryd.isAgg20
  z20 := Tryd.sizeOf20
  v20 := Tryd.zeroValue20
  t31 := Tryd.underlying33
  a31 := Tryd.isAgg33
  z31 := Tryd.sizeOf33
  v31 := Tryd.zeroValue33
  t37 := Tryd.underlying28
  a37 := Tryd.isAgg28
  z37 := Tryd.sizeOf28
  v37 := Tryd.zeroValue28
  t70 := Tryd.underlying77
  a70 := Tryd.isAgg77
  z70 := Tryd.sizeOf77
  v70 := Tryd.zeroValue77
  t72 := Tryd.underlying79
  a72 := Tryd.isAgg79
  z72 := Tryd.sizeOf79
  v72 := Tryd.zeroValue79
  t75 := Tryd.underlying82
  a75 := Tryd.isAgg82
  z75 := Tryd.sizeOf82
  v75 := Tryd.zeroValue82
  t76 := Tryd.underlying83
  a76 := Tryd.isAgg83
  z76 := Tryd.sizeOf83
  v76 := Tryd.zeroValue83
  t127 := Tryd.underlying93
  a127 := Tryd.isAgg93
  z127 := Tryd.sizeOf93
  v127 := Tryd.zeroValue93
  t164 := Tryd.underlying97
  a164 := Tryd.isAgg97
  z164 := Tryd.sizeOf97
  v164 := Tryd.zeroValue97 }
theorem Tryd.Builder_Extra_156 : Builder.Extra Tryd.prog Tryd.lays156_ren := {
  sizeBuilder := by kernel_rfl
  liesBuilder := by kernel_rfl
  t5 := Tryd.underlying5
  a5 := Tryd.isAgg5
  z5 := Tryd.sizeOf5
  v5 := Tryd.zeroValue5
  infoByte := by kernel_rfl
  cellsByte := by kernel_rfl
  sizeByte := by kernel_rfl
  neB5 := by decide }
open Go.RowKit in
/-- No element: the empty string; the world is as it was. (Whatever the slice's address and capacity: a nil slice too.) (LAID: no walk: one application.) -/
theorem Tryd.strings_Join_none (a : Option Addr) (c : Nat) (sep : ByteArray) (w : World) :
    Calls Tryd.prog 23 #[.slice a 0 c, .string sep] w fun e w' => e = .returned (.string ⟨#[]⟩) ∧ w' = w := Any.strings_Join_none Tryd.lays156 Tryd.Builder_Extra_156 a c sep w
open Go.RowKit in
/-- strings.Join: "Join concatenates the elements of its first argument to create a single string. The separator string sep is placed between elements in the resulting string.": HOWEVER MANY ELEMENTS. Below the heap's end the world is as it was. (LAID: no walk: one application.) -/
theorem Tryd.strings_Join (bk o c : Nat) (xs : List ByteArray) (sep : ByteArray) (w : World) (hcells : ∀ (j : Nat) x, xs[j]? = some x → w.cell? ⟨bk, o + j, none⟩ = some (.string x)) (hbk : bk < w.heap.size) (hN : xs.length ≤ 140737488355328) (hcap : xs.length ≤ c) (hlen : (Lib.join (xs.map (·.data.toList)) sep.data.toList).length ≤ 140737488355328) :
    Calls Tryd.prog 23 #[.slice (some ⟨bk, o, none⟩) xs.length c, .string sep] w fun e w' => e = .returned (.string ⟨(Lib.join (xs.map (·.data.toList)) sep.data.toList).toArray⟩) ∧ Below w.heap.size w w' := Any.strings_Join Tryd.lays156 Tryd.Builder_Extra_156 bk o c xs sep w hcells hbk hN hcap hlen
def Tryd.lays120_ren : Go.Shelf.Ren := ⟨fun | 120 => 57 | n => n, fun | 5 => 5 | 4 => 4 | n => n, fun | n => n⟩
theorem Tryd.lays120 : Go.Proofs.Lays.n120 Tryd.prog Tryd.lays120_ren := {
  mixed := by kernel_rfl
  f120 := Tryd.func57.trans (congrArg some (by kernel_rfl))
  t4 := Tryd.underlying4
  a4 := Tryd.isAgg4
  z4 := Tryd.sizeOf4
  v4 := Tryd.zeroValue4
  t5 := Tryd.underlying5
  a5 := Tryd.isAgg5
  z5 := Tryd.sizeOf5
  v5 := Tryd.zeroValue5 }
/-- utf8.RuneStart: "RuneStart reports whether the byte could be the first byte of an encoded, possibly invalid rune. Second and subsequent bytes always have the top two bits set to 10.": IT RETURNS 'Lib.runeStart b'; the world is as it was. ('h0', 'h1': b is a byte: a caller has it of every byte that it was handed.) (LAID: no walk: one application.) -/
theorem Tryd.utf8_RuneStart (b : Int) (w : World) (h0 : 0 ≤ b) (h1 : b < 256) :
    Calls Tryd.prog 57 #[.int .u8 b] w fun e w' => e = .returned (.bool (Lib.runeStart b)) ∧ w' = w := Any.utf8_RuneStart Tryd.lays120 b w h0 h1
def Tryd.lays197_ren : Go.Shelf.Ren := ⟨fun | 197 => 58 | 260 => 59 | n => n, fun | 9 => 9 | 21 => 21 | 3 => 3 | 4 => 4 | 5 => 5 | 105 => 94 | 119 => 101 | 0 => 0 | 46 => 46 | 139 => 104 | 138 => 103 | n => n, fun | 3 => 1 | 4 => 2 | n => n⟩
theorem Tryd.lays197 : Go.Proofs.Lays.n197 Tryd.prog Tryd.lays197_ren := {
  mixed := by kernel_rfl
  f197 := Tryd.func58.trans (congrArg some (by kernel_rfl))
  f260 := Tryd.func59.trans (congrArg some (by kernel_rfl))
  t0 := Tryd.underlying0
  a0 := Tryd.isAgg0
  z0 := Tryd.sizeOf0
  v0 := Tryd.zeroValue0
  t3 := Tryd.underlying3
  a3 := Tryd.isAgg3
  z3 := Tryd.sizeOf3
  v3 := Tryd.zeroValue3
  t4 := Tryd.underlying4
  a4 := Tryd.isAgg4
  z4 := Tryd.sizeOf4
  v4 := Tryd.zeroValue4
  t5 := Tryd.underlying5
  a5 := Tryd.isAgg5
  z5 := Tryd.sizeOf5
  v5 := Tryd.zeroValue5
  t9 := Tryd.underlying9
  a9 := Tryd.isAgg9
  z9 := Tryd.sizeOf9
  v9 := Tryd.zeroValue9
  t21 := Tryd.underlying21
  a21 := Tryd.isAgg21
  z21 := Tryd.sizeOf21
  v21 := Tryd.zeroValue21
  t46 := Tryd.underlying46
  a46 := Tryd.isAgg46
  z46 := Tryd.sizeOf46
  v46 := Tryd.zeroValue46
  t105 := Tryd.underlying94
  a105 := Tryd.isAgg94
  z105 := Tryd.sizeOf94
  v105 := Tryd.zeroValue94
  t119 := Tryd.underlying101
  a119 := Tryd.isAgg101
  z119 := Tryd.sizeOf101
  t138 := Tryd.underlying103
  a138 := Tryd.isAgg103
  z138 := Tryd.sizeOf103
  v138 := Tryd.zeroValue103
  t139 := Tryd.underlying104
  a139 := Tryd.isAgg104
  z139 := Tryd.sizeOf104
  v139 := Tryd.zeroValue104
  g3 := by kernel_rfl
  g4 := by kernel_rfl }
open Go.RowKit Go.Lib in
/-- unicode/utf8.DecodeRuneInString: "DecodeRuneInString is like DecodeRune but its input is a string.": ("DecodeRune unpacks the first UTF-8 encoding in p and returns the rune and its width in bytes."): WHERE s BEGINS WITH AN ASCII BYTE x: (x, 1). (LAID: no walk: one application.) -/
theorem Tryd.utf8_DecodeRuneInString_ascii (s : ByteArray) (x : UInt8) (w : World) (h0 : s.data.toList[0]? = some x) (hx : x.toNat < 128) :
    Calls Tryd.prog 58 #[.string s] w fun e w' => e = .returned (.tuple #[.int .i32 x.toNat, .int .i64 1]) ∧ w' = w := Any.utf8_DecodeRuneInString_ascii Tryd.lays197 s x w h0 hx
def Tryd.lays260_ren : Go.Shelf.Ren := ⟨fun | 260 => 59 | n => n, fun | 9 => 9 | 21 => 21 | 3 => 3 | 4 => 4 | 5 => 5 | 119 => 101 | 0 => 0 | 46 => 46 | 139 => 104 | 138 => 103 | n => n, fun | 3 => 1 | 4 => 2 | n => n⟩
theorem Tryd.lays260 : Go.Proofs.Lays.n260 Tryd.prog Tryd.lays260_ren := {
  mixed := by kernel_rfl
  f260 := Tryd.func59.trans (congrArg some (by kernel_rfl))
  t0 := Tryd.underlying0
  a0 := Tryd.isAgg0
  z0 := Tryd.sizeOf0
  v0 := Tryd.zeroValue0
  t3 := Tryd.underlying3
  a3 := Tryd.isAgg3
  z3 := Tryd.sizeOf3
  v3 := Tryd.zeroValue3
  t4 := Tryd.underlying4
  a4 := Tryd.isAgg4
  z4 := Tryd.sizeOf4
  v4 := Tryd.zeroValue4
  t5 := Tryd.underlying5
  a5 := Tryd.isAgg5
  z5 := Tryd.sizeOf5
  v5 := Tryd.zeroValue5
  t9 := Tryd.underlying9
  a9 := Tryd.isAgg9
  z9 := Tryd.sizeOf9
  v9 := Tryd.zeroValue9
  t21 := Tryd.underlying21
  a21 := Tryd.isAgg21
  z21 := Tryd.sizeOf21
  v21 := Tryd.zeroValue21
  t46 := Tryd.underlying46
  a46 := Tryd.isAgg46
  z46 := Tryd.sizeOf46
  v46 := Tryd.zeroValue46
  t119 := Tryd.underlying101
  a119 := Tryd.isAgg101
  z119 := Tryd.sizeOf101
  t138 := Tryd.underlying103
  a138 := Tryd.isAgg103
  z138 := Tryd.sizeOf103
  v138 := Tryd.zeroValue103
  t139 := Tryd.underlying104
  a139 := Tryd.isAgg104
  z139 := Tryd.sizeOf104
  v139 := Tryd.zeroValue104
  g3 := by kernel_rfl
  g4 := by kernel_rfl }
open Go.RowKit Go.Lib in
theorem Tryd.utf8_decodeRuneInStringSlow (s : ByteArray) (w : World) (hT : Lib.Utf8Tabs 1 2 w) :
    Calls Tryd.prog 59 #[.string s] w fun e w' => e = .returned (.tuple #[.int .i32 (Lib.decodeGo s).1, .int .i64 (Lib.decodeGo s).2]) ∧ Below w.heap.size w w' := Any.utf8_decodeRuneInStringSlow Tryd.lays260 s w hT
open Go.RowKit Go.Lib in
/-- **unicode/utf8.DecodeRuneInString AT EVERY STRING.** (LAID: no walk: one application.) -/
theorem Tryd.utf8_DecodeRuneInString (s : ByteArray) (w : World) (hT : Lib.Utf8Tabs 1 2 w) :
    Calls Tryd.prog 58 #[.string s] w fun e w' => e = .returned (.tuple #[.int .i32 (Lib.decodeGo s).1, .int .i64 (Lib.decodeGo s).2]) ∧ Below w.heap.size w w' := Any.utf8_DecodeRuneInString Tryd.lays197 s w hT
def Tryd.lays271_ren : Go.Shelf.Ren := ⟨fun | 271 => 53 | 120 => 57 | 197 => 58 | 260 => 59 | n => n, fun | 9 => 9 | 21 => 21 | 3 => 3 | 4 => 4 | 5 => 5 | 105 => 94 | 119 => 101 | 0 => 0 | 46 => 46 | 139 => 104 | 138 => 103 | n => n, fun | 3 => 1 | 4 => 2 | n => n⟩
theorem Tryd.lays271 : Go.Proofs.Lays.n271 Tryd.prog Tryd.lays271_ren := {
  mixed := by kernel_rfl
  f120 := Tryd.func57.trans (congrArg some (by kernel_rfl))
  f197 := Tryd.func58.trans (congrArg some (by kernel_rfl))
  f260 := Tryd.func59.trans (congrArg some (by kernel_rfl))
  f271 := Tryd.func53.trans (congrArg some (by kernel_rfl))
  t0 := Tryd.underlying0
  a0 := Tryd.isAgg0
  z0 := Tryd.sizeOf0
  v0 := Tryd.zeroValue0
  t3 := Tryd.underlying3
  a3 := Tryd.isAgg3
  z3 := Tryd.sizeOf3
  v3 := Tryd.zeroValue3
  t4 := Tryd.underlying4
  a4 := Tryd.isAgg4
  z4 := Tryd.sizeOf4
  v4 := Tryd.zeroValue4
  t5 := Tryd.underlying5
  a5 := Tryd.isAgg5
  z5 := Tryd.sizeOf5
  v5 := Tryd.zeroValue5
  t9 := Tryd.underlying9
  a9 := Tryd.isAgg9
  z9 := Tryd.sizeOf9
  v9 := Tryd.zeroValue9
  t21 := Tryd.underlying21
  a21 := Tryd.isAgg21
  z21 := Tryd.sizeOf21
  v21 := Tryd.zeroValue21
  t46 := Tryd.underlying46
  a46 := Tryd.isAgg46
  z46 := Tryd.sizeOf46
  v46 := Tryd.zeroValue46
  t105 := Tryd.underlying94
  a105 := Tryd.isAgg94
  z105 := Tryd.sizeOf94
  v105 := Tryd.zeroValue94
  t119 := Tryd.underlying101
  a119 := Tryd.isAgg101
  z119 := Tryd.sizeOf101
  t138 := Tryd.underlying103
  a138 := Tryd.isAgg103
  z138 := Tryd.sizeOf103
  v138 := Tryd.zeroValue103
  t139 := Tryd.underlying104
  a139 := Tryd.isAgg104
  z139 := Tryd.sizeOf104
  v139 := Tryd.zeroValue104
  g3 := by kernel_rfl
  g4 := by kernel_rfl }
open Go.RowKit Go.Lib in
/-- **unicode/utf8.DecodeLastRuneInString AT EVERY STRING.** (LAID: no walk: one application.) -/
theorem Tryd.utf8_DecodeLastRuneInString (s : ByteArray) (w : World) (hs : s.size ≤ 9223372036854775807) (hT : Lib.Utf8Tabs 1 2 w) :
    Calls Tryd.prog 53 #[.string s] w fun e w' => e = .returned (.tuple #[.int .i32 (Lib.decodeLastL s.data.toList).1, .int .i64 (Lib.decodeLastL s.data.toList).2]) ∧ Below w.heap.size w w' := Any.utf8_DecodeLastRuneInString Tryd.lays271 s w hs hT
end Go.Proofs
end
section
/- Package lattice: cutRight at a set of ASCII bytes; what checked's second test asks. -/
namespace Go.Proofs.YtpnflmaagncbkaaDoor.X
open Go.RowKit Go.Proofs.YtpnflmaagncbkaaDoorW.PrintWords Go.Proofs.YtpnflmaagncbkaaDoorW.PrintLast Go.Proofs.YtpnflmaagncbkaaDoorW.PrintMore
open Go.Lib (run_next_any_at run_next_ascii_at run_next_end_at iterAt_heap iterAt_size below_iterAt)

/-- The tables of package unicode/utf8 are as its text lays them. -/
def Tabs (w : World) : Prop := Lib.Utf8Tabs 1 2 w
theorem Tabs.below {w w1 : World} (h : Tabs w) (hb : Below w.heap.size w w1) : Tabs w1 :=
  ⟨fun c hc => pw_cell_below hb (h.1 c hc), fun i hi => ⟨pw_cell_below hb (h.2 i hi).1, pw_cell_below hb (h.2 i hi).2⟩⟩

theorem lastRune_low (l : List UInt8) (h : l ≠ []) (ha : (l.getLast h).toNat < 128) : Lib.decodeLastL l = ((l.getLast h).toNat, 1) := by
  have e : l.getD (l.length - 1) 0 = l.getLast h := by
    rw [List.getLast_eq_getElem, List.getD_eq_getElem?_getD, List.getElem?_eq_getElem (by have := List.length_pos_iff.2 h; omega)]
    rfl
  unfold Lib.decodeLastL
  rw [if_neg h, e, if_pos ha]
theorem lastRune_high (l : List UInt8) (h : l ≠ []) (ha : ¬ (l.getLast h).toNat < 128) : 128 ≤ (Lib.decodeLastL l).1 := by
  have hpos := List.length_pos_iff.2 h
  have e : l.getD (l.length - 1) 0 = l.getLast h := by
    rw [List.getLast_eq_getElem, List.getD_eq_getElem?_getD, List.getElem?_eq_getElem (by omega)]
    rfl
  have hlt := Lib.lastStart_lt l h
  generalize hst : Lib.lastStart l = st at hlt
  unfold Lib.decodeLastL
  rw [if_neg h, e, if_neg ha, hst]
  simp only
  split
  · rename_i hd
    have hsz : 0 < (⟨(l.drop st).toArray⟩ : ByteArray).size := by
      show 0 < (l.drop st).toArray.size
      rw [List.size_toArray, List.length_drop]; omega
    have hget : ((⟨(l.drop st).toArray⟩ : ByteArray)[0]'hsz) = l[st]'hlt := by
      show (l.drop st).toArray[0]'(by rw [List.size_toArray, List.length_drop]; omega) = _
      simp
    by_cases hb : (l[st]'hlt).toNat < 128
    · exfalso
      have hdec : Lib.decodeL (l.drop st) = ((l[st]'hlt).toNat, 1) := by
        unfold Lib.decodeL
        rw [decode_ascii _ 0 hsz (by rw [hget]; exact hb), hget]
      rw [hdec] at hd
      simp only at hd
      apply ha
      rw [List.getLast_eq_getElem]
      have : l.length - 1 = st := by omega
      simp only [this]
      exact hb
    · unfold Lib.decodeL
      exact (decode_high _ 0 hsz (by rw [hget]; omega)).1
  · decide

/-- A text without the bytes of a set at its end. -/
def cutR (set s : ByteArray) : ByteArray := ⟨((s.data.toList.reverse.dropWhile fun b => inSet set b.toNat).reverse).toArray⟩
theorem cutR_empty (set s : ByteArray) (h : ¬ 0 < s.size) : cutR set s = s := by
  have hl : s.data.toList = [] := by
    apply List.eq_nil_of_length_eq_zero
    rw [Array.length_toList]
    show s.size = 0
    omega
  unfold cutR
  rw [hl]
  cases s with
  | mk d =>
    have : d = #[] := by apply Array.ext'; simpa using hl
    subst this
    rfl
theorem toList_ne {s : ByteArray} (h : 0 < s.size) : s.data.toList ≠ [] := by
  intro e
  have : s.data.toList.length = s.size := by rw [Array.length_toList]; rfl
  rw [e] at this
  simp at this
  omega
theorem cutR_stop (set s : ByteArray) (h : 0 < s.size) (hl : inSet set (s.data.toList.getLast (toList_ne h)).toNat = false) : cutR set s = s := by
  have hne := toList_ne h
  have e : s.data.toList.reverse = s.data.toList.getLast hne :: s.data.toList.dropLast.reverse := by
    conv => lhs; rw [← List.dropLast_concat_getLast hne]
    rw [List.reverse_append]
    rfl
  unfold cutR
  rw [e, List.dropWhile_cons, if_neg (by rw [hl]; decide), ← e, List.reverse_reverse]
theorem cutR_step (set s : ByteArray) (h : 0 < s.size) (hl : inSet set (s.data.toList.getLast (toList_ne h)).toNat = true) : cutR set (s.extract 0 (s.size - 1)) = cutR set s := by
  have hne := toList_ne h
  have e : s.data.toList.reverse = s.data.toList.getLast hne :: s.data.toList.dropLast.reverse := by
    conv => lhs; rw [← List.dropLast_concat_getLast hne]
    rw [List.reverse_append]
    rfl
  have e2 : (s.extract 0 (s.size - 1)).data.toList = s.data.toList.dropLast := by
    rw [Lib.extract_data, List.drop_zero, List.dropLast_eq_take, Array.length_toList]
    rfl
  unfold cutR
  rw [e, e2, List.dropWhile_cons, if_pos hl]
/-- A rune at the end: in the set just if the last byte is; then it is one byte. -/
theorem lastRune_in {set s : ByteArray} (hset : ascii set) (h : 0 < s.size) :
    inSet set (Lib.decodeLastL s.data.toList).1 = inSet set (s.data.toList.getLast (toList_ne h)).toNat ∧ (inSet set (Lib.decodeLastL s.data.toList).1 = true → (Lib.decodeLastL s.data.toList).2 = 1) := by
  by_cases ha : (s.data.toList.getLast (toList_ne h)).toNat < 128
  · rw [lastRune_low _ (toList_ne h) ha]
    exact ⟨rfl, fun _ => rfl⟩
  · have hh := lastRune_high _ (toList_ne h) ha
    have e := high_not_in hset hh
    exact ⟨by rw [e, high_not_in hset (by omega)], fun h => by rw [e] at h; cases h⟩

set_option maxHeartbeats 2000000 in
theorem cutRight_calls (s set : ByteArray) (hset : ascii set) (w : World) (hs : s.size ≤ 9223372036854775807) (hT : Tabs w) :
    Calls Tryd.prog 47 #[.string s, .string set] w fun e w' => e = .returned (.string (cutR set s)) ∧ Below w.heap.size w w' := by
  have HS := Aside0.mk hset
  have HT := Aside0.mk hT
  clear hset hT
  go_enter Tryd.func47, Tryd.ntmps47
  go_wp2
  go_loopg [0, 7] s.size (fun gg v0 _ wr => ∃ cur : ByteArray, v0 = .string cur ∧ cur.size ≤ gg ∧ cur.size ≤ 9223372036854775807 ∧ Aside0 (cutR set cur = cutR set s) ∧ Aside0 (Below w.heap.size w wr))
  case atStart => exact ⟨s, rfl, Nat.le_refl _, hs, ⟨rfl⟩, ⟨Below.refl _ _⟩⟩
  case round =>
    obtain ⟨cur, rfl, hg, hsz, HR, HB⟩ := hrel
    by_cases hp : 0 < cur.size
    · have hpi : (0 : Int) < (cur.size : Int) := by omega
      have HL := Aside0.mk (lastRune_in HS.out hp)
      have hcall := Tryd.utf8_DecodeLastRuneInString cur wr hsz (HT.out.below HB.out)
      obtain ⟨c, hc⟩ : ∃ c, (Lib.decodeLastL cur.data.toList).1 = c := ⟨_, rfl⟩
      obtain ⟨wd, hwd⟩ : ∃ c, (Lib.decodeLastL cur.data.toList).2 = c := ⟨_, rfl⟩
      rw [hc, hwd] at hcall HL
      clear hc hwd
      have HC := Aside0.mk hcall
      clear hcall
      go_wp2_with (go_at_call 53; refine HC.out.mono ?_; rintro e w1 ⟨rfl, hb1⟩; have HB1 := Aside0.mk (later_below HB.out hb1); clear hb1 HC)
      go_loopg [7] set.size (fun gg v7 wr2 => ∃ m : Nat, m ≤ set.size ∧ set.size - m ≤ gg ∧ v7 = .bool (inTake set c m) ∧ wr2 = w1.iter set m)
      case atStart => exact ⟨0, Nat.zero_le _, by omega, rfl, rfl⟩
      case round =>
        obtain ⟨m, hm, hg2, rfl, rfl⟩ := hrel
        by_cases hm2 : m < set.size
        · have hnx2 : ∀ ty, (Instr.next (.pointer (some ⟨w1.heap.size, 0, none⟩)) true ty).run Tryd.prog (w1.iter set m) = _ := fun ty => run_next_ascii w1 set m ty hm2 (ascii_at HS.out m hm2)
          have HSU := Aside0.mk (inTake_succ set c m hm2)
          obtain ⟨d, hd⟩ : ∃ d, (set[m]'hm2).toNat = d := ⟨_, rfl⟩
          rw [hd] at hnx2 HSU
          clear hd
          obtain ⟨q, hq⟩ : ∃ q, inTake set c m = q := ⟨_, rfl⟩
          rw [hq] at HSU ⊢
          clear hq
          cases q with
          | true =>
            go_wp2
            go_roundg (set.size - (m + 1))
            case measure => omega
            case rel => exact ⟨m + 1, by omega, by omega, by rw [HSU.out]; rfl, rfl⟩
          | false =>
            by_cases hcd : c = d
            · have h1 : (c == d) = true := beq_iff_eq.2 hcd
              have h2 : ((c : Int) == (d : Int)) = true := beq_iff_eq.2 (by omega)
              have hsu : inTake set c (m + 1) = true := by rw [HSU.out, hcd]; simp
              have HSV := Aside0.mk hsu
              clear hcd hsu
              go_wp2
              go_roundg (set.size - (m + 1))
              case measure => omega
              case rel => exact ⟨m + 1, by omega, by omega, by rw [HSV.out], rfl⟩
            · have h1 : (c == d) = false := beq_eq_false_iff_ne.2 hcd
              have h2 : ((c : Int) == (d : Int)) = false := beq_eq_false_iff_ne.2 (by omega)
              have hsu : inTake set c (m + 1) = false := by rw [HSU.out, Bool.false_or]; exact beq_eq_false_iff_ne.2 (fun h => hcd h.symm)
              have HSV := Aside0.mk hsu
              clear hcd hsu
              go_wp2
              go_roundg (set.size - (m + 1))
              case measure => omega
              case rel => exact ⟨m + 1, by omega, by omega, by rw [HSV.out], rfl⟩
        · have hnx2 : ∀ ty, (Instr.next (.pointer (some ⟨w1.heap.size, 0, none⟩)) true ty).run Tryd.prog (w1.iter set m) = _ := fun ty => run_next_end w1 set m ty hm2
          obtain rfl : m = set.size := by omega
          rw [inTake_all]
          obtain ⟨q, hq⟩ : ∃ q, inSet set c = q := ⟨_, rfl⟩
          rw [hq]
          have HV := Aside0.mk hq
          clear hq
          cases q with
          | true =>
            have hw1 := HL.out.2 HV.out
            subst hw1
            have HX := Aside0.mk (cutR_step set cur hp (by rw [← HL.out.1]; exact HV.out))
            go_wp2
            go_roundg (cur.size - 1)
            case measure => omega
            case rel => exact ⟨_, rfl, by simp, by simp; omega, ⟨HX.out.trans HR.out⟩, ⟨below_alloc HB1.out _⟩⟩
          | false =>
            have HX := Aside0.mk (cutR_stop set cur hp (by rw [← HL.out.1]; exact HV.out))
            go_wp2
            go_ret
            refine ⟨?_, below_alloc HB1.out _⟩
            rw [← HR.out, HX.out]
            rfl
    · have hpi : ¬ (0 : Int) < (cur.size : Int) := by omega
      have hz : cur.size = 0 := by omega
      have HX := Aside0.mk (cutR_empty set cur hp)
      have hpi2 : decide ((0 : Int) < (cur.size : Int)) = false := decide_eq_false hpi
      have hpi3 : decide (0 < cur.size) = false := decide_eq_false hp
      clear hz
      go_wp2
      go_ret
      refine ⟨?_, HB.out⟩
      rw [← HR.out, HX.out]
      rfl
end Go.Proofs.YtpnflmaagncbkaaDoor.X
end
section
/- Package lattice: checked; Check, Bars, checkSeen. -/
namespace Go.Proofs.YtpnflmaagncbkaaDoor.X
open Go.RowKit Go.Proofs.YtpnflmaagncbkaaDoorW.PrintWords Go.Proofs.YtpnflmaagncbkaaDoorW.PrintLast Go.Proofs.YtpnflmaagncbkaaDoorW.PrintMore

/-- A row that has not its form. -/
def isShort (wide : Int) (n0 : Nat) (row : ByteArray) : Bool := !(decide (1 ≤ (row.size : Int)) && decide ((row.size : Int) ≤ wide)) || !(row.size == n0)

theorem enters_checked1 : ∀ args w, (callFunc 45 args).run Tryd.prog w = .ok (.enter 45 args) w := enters_of Tryd.func45 (by kernel_rfl) rfl
theorem enters_checked2 : ∀ args w, (callFunc 46 args).run Tryd.prog w = .ok (.enter 46 args) w := enters_of Tryd.func46 (by kernel_rfl) rfl

set_option maxHeartbeats 1000000 in
theorem checked1_pred {g1 g2 : Nat} {wide : Int} {A : Option Addr} {c : Nat} {rows : List ByteArray} {w : World} (h1 : w.cell? ⟨g1, 0, none⟩ = some (.int .i64 wide)) (h2 : w.cell? ⟨g2, 0, none⟩ = some (.slice A rows.length c)) (hr : Kd.C Kd.string w A rows.length rows) :
    PredK 45 #[.pointer (some ⟨g1, 0, none⟩), .pointer (some ⟨g2, 0, none⟩)] Kd.string cell1 rows (isShort wide (rows.getD 0 ByteArray.empty).size) w := by
  intro x hx W cs hb hK
  have e : cs = [.string x] := hK
  subst e
  have hn : 0 < rows.length := List.length_pos_of_mem hx
  have HR := Aside0.mk (Kd.C_below hr hb)
  have k1 : W.cell? ⟨g1, 0, none⟩ = some (.int .i64 wide) := pw_cell_below hb h1
  have k2 : W.cell? ⟨g2, 0, none⟩ = some (.slice A rows.length c) := pw_cell_below hb h2
  simp only [cell1, List.getD_cons_zero]
  show Calls Tryd.prog 45 #[.string x, .pointer (some ⟨g1, 0, none⟩), .pointer (some ⟨g2, 0, none⟩)] W _
  obtain ⟨n, hn2⟩ : ∃ n, rows.length = n := ⟨_, rfl⟩
  rw [hn2] at k2 hn HR
  have HN := Aside0.mk hn
  clear hb h1 h2 hK hr hx hn2
  obtain ⟨ad, rfl, hcell⟩ := Kd.at_string HR.out 0 (Int.le_refl 0) (by omega)
  have hc0 : W.cell? ad = some (.string (rdOf ByteArray.empty rows 0)) := by rw [← hcell]; simp [Addr.add]
  have e0 : rdOf ByteArray.empty rows 0 = rows.getD 0 ByteArray.empty := rfl
  rw [e0] at hc0
  generalize hr0 : rows.getD 0 ByteArray.empty = r0 at hc0
  clear hcell e0 hr0
  have hni : (0 : Int) < (n : Int) := by omega
  cases hq : (decide (1 ≤ (x.size : Int)) && decide ((x.size : Int) ≤ wide)) with
  | false =>
    have hs : isShort wide r0.size x = true := by unfold isShort; rw [hq]; rfl
    rw [hs]
    have HQ := Aside0.mk hq
    clear hq hs
    go_enter Tryd.func45, Tryd.ntmps45
    go_wp2_with (go_at_call 22; refine (lattice_within.calls 1 wide _ 1 [(x.size : Int)] false _ (C_lit1 _ _ _ _ (by simp)) (Nat.le_refl 1) (by unfold lattice_within.f; rw [List.all_cons, HQ.out]; rfl)).mono ?_; rintro e w' ⟨rfl, hb1⟩; have HB1 := Aside0.mk (below_then (below_alloc (Below.refl _ _) _) (by simp) hb1); clear hb1)
    go_ret
    exact ⟨rfl, HB1.out⟩
  | true =>
    have HQ := Aside0.mk hq
    clear hq
    by_cases hxe : x.size = r0.size
    · have hs : isShort wide r0.size x = false := by unfold isShort; rw [HQ.out, hxe]; simp
      rw [hs]
      have hb1 : (x.size == r0.size) = true := beq_iff_eq.2 hxe
      have hb2 : ((x.size : Int) == (r0.size : Int)) = true := beq_iff_eq.2 (by omega)
      have hb3 : ((x.size : Int) != (r0.size : Int)) = false := bne_eq_false_iff_eq.2 (by omega)
      clear hs hxe
      go_enter Tryd.func45, Tryd.ntmps45
      go_wp2_with (go_at_call 22; refine (lattice_within.calls 1 wide _ 1 [(x.size : Int)] true _ (C_lit1 _ _ _ _ (by simp)) (Nat.le_refl 1) (by unfold lattice_within.f; rw [List.all_cons, HQ.out]; rfl)).mono ?_; rintro e w' ⟨rfl, hb1⟩; have HB1 := Aside0.mk (below_then (below_alloc (Below.refl _ _) _) (by simp) hb1); clear hb1; have k2' := pw_cell_below HB1.out k2; have hc0' := pw_cell_below HB1.out hc0)
      go_ret
      exact ⟨rfl, HB1.out⟩
    · have hs : isShort wide r0.size x = true := by unfold isShort; rw [beq_eq_false_iff_ne.2 hxe]; simp
      rw [hs]
      have hb1 : (x.size == r0.size) = false := beq_eq_false_iff_ne.2 hxe
      have hb2 : ((x.size : Int) == (r0.size : Int)) = false := beq_eq_false_iff_ne.2 (by omega)
      have hb3 : ((x.size : Int) != (r0.size : Int)) = true := bne_iff_ne.2 (by omega)
      clear hs hxe
      go_enter Tryd.func45, Tryd.ntmps45
      go_wp2_with (go_at_call 22; refine (lattice_within.calls 1 wide _ 1 [(x.size : Int)] true _ (C_lit1 _ _ _ _ (by simp)) (Nat.le_refl 1) (by unfold lattice_within.f; rw [List.all_cons, HQ.out]; rfl)).mono ?_; rintro e w' ⟨rfl, hb1⟩; have HB1 := Aside0.mk (below_then (below_alloc (Below.refl _ _) _) (by simp) hb1); clear hb1; have k2' := pw_cell_below HB1.out k2; have hc0' := pw_cell_below HB1.out hc0)
      go_ret
      exact ⟨rfl, HB1.out⟩

/-- Is a byte of the row not among some? -/
def isOther (among row : ByteArray) : Bool := !(row.data.toList.all fun b => inSet among b.toNat)

theorem cut_other (among row : ByteArray) : ((cutR among (cutL among row)).data.toList = []) ↔ isOther among row = false := by
  unfold cutR cutL isOther
  simp only [Bool.not_eq_false', List.reverse_eq_nil_iff]
  generalize row.data.toList = l
  constructor
  · intro h
    rw [List.all_eq_true]
    intro b hb
    induction l with
    | nil => cases hb
    | cons x l ih =>
      rw [List.dropWhile_cons] at h
      split at h
      · rename_i hx
        rcases List.mem_cons.1 hb with rfl | hb
        · exact hx
        · exact ih h hb
      · rename_i hx
        exfalso
        have hz : ∀ z ∈ (x :: l).reverse, inSet among z.toNat = true := by
          generalize (x :: l).reverse = m at h
          intro z hz
          induction m with
          | nil => cases hz
          | cons y m ih2 =>
            rw [List.dropWhile_cons] at h
            split at h
            · rename_i hy
              rcases List.mem_cons.1 hz with rfl | hz
              · exact hy
              · exact ih2 h hz
            · cases h
        exact hx (hz x (by simp))
  · intro h
    rw [List.all_eq_true] at h
    have : l.dropWhile (fun b => inSet among b.toNat) = [] := by
      induction l with
      | nil => rfl
      | cons x l ih =>
        rw [List.dropWhile_cons, if_pos (h x (by simp))]
        exact ih (fun y hy => h y (by simp [hy]))
    rw [this]
    rfl

theorem cutL_size (among row : ByteArray) : (cutL among row).size ≤ row.size := by
  unfold cutL
  show (List.toArray _).size ≤ _
  rw [List.size_toArray]
  refine Nat.le_trans (List.dropWhile_sublist _).length_le ?_
  rw [Array.length_toList]
  exact Nat.le_refl _

set_option maxHeartbeats 1000000 in
theorem checked2_pred {g1 : Nat} {among : ByteArray} (ha : ascii among) {rows : List ByteArray} {w : World} (h1 : w.cell? ⟨g1, 0, none⟩ = some (.string among)) (hT : Tabs w) (hsz : ∀ r ∈ rows, r.size ≤ 9223372036854775807) :
    PredK 46 #[.pointer (some ⟨g1, 0, none⟩)] Kd.string cell1 rows (isOther among) w := by
  intro x hx W cs hb hK
  have e : cs = [.string x] := hK
  subst e
  have HS := Aside0.mk (hsz x hx)
  have HT := Aside0.mk (hT.below hb)
  have HA := Aside0.mk ha
  have k1 : W.cell? ⟨g1, 0, none⟩ = some (.string among) := pw_cell_below hb h1
  simp only [cell1, List.getD_cons_zero]
  show Calls Tryd.prog 46 #[.string x, .pointer (some ⟨g1, 0, none⟩)] W _
  clear hb h1 hK hx hsz hT ha
  have HO := Aside0.mk (cut_other among x)
  have hbb : (cutR among (cutL among x)).toList.isEmpty = !(isOther among x) := by
    rw [Lib.toList_data]
    cases hq : isOther among x with
    | false => rw [HO.out.2 hq]; rfl
    | true =>
      have : (cutR among (cutL among x)).data.toList ≠ [] := fun e => by rw [HO.out.1 e] at hq; cases hq
      simpa using this
  go_enter Tryd.func46, Tryd.ntmps46
  go_wp2
  go_region_held3 (fun w' => w'.cell? ⟨g1, 0, none⟩ = some (.string among) ∧ Aside0 (Below W.heap.size W w'))
    (first | exact ⟨k1, ⟨below_drew (Below.refl _ _)⟩⟩ | (go_split_ands; exact ⟨pw_cell_below hb1 (by assumption), ⟨later_below (Aside0.out ‹_›) hb1⟩⟩))
    ((first
      | (go_at_call 48; refine (cutLeft_calls x among HA.out _ HS.out).mono ?_; rintro e w1 ⟨rfl, hb1⟩)
      | (go_at_call 47; refine (cutRight_calls (cutL among x) among HA.out _ (Nat.le_trans (cutL_size _ _) HS.out) (HT.out.below ((‹_ ∧ Aside0 (Below W.heap.size W _)› : _ ∧ _).2.out))).mono ?_; rintro e w1 ⟨rfl, hb1⟩)))
  rename_i hh
  obtain ⟨hh1, hh2⟩ := hh
  clear hb1
  go_wp2
  go_ret
  exact ⟨by simp, hh2.out⟩

/-- The error of rows. -/
def checkedF (rows : List ByteArray) (high wide : Int) (among : ByteArray) : Int :=
  if (decide (1 ≤ (rows.length : Int)) && decide ((rows.length : Int) ≤ high)) = false then 4
  else if rows.any (isShort wide (rows.getD 0 ByteArray.empty).size) = true then 4
  else if rows.any (isOther among) = true then 2 else 0

set_option maxHeartbeats 1000000 in
set_option maxRecDepth 100000 in
theorem checked_calls (A : Option Addr) (c : Nat) (rows : List ByteArray) (high wide : Int) (among : ByteArray) (ha : ascii among) (hw : wide ≤ 9223372036854775807) (w : World) (hr : Kd.C Kd.string w A rows.length rows) (hT : Tabs w) :
    Calls Tryd.prog 35 #[.slice A rows.length c, .int .i64 high, .int .i64 wide, .string among] w fun e w' => e = .returned (.int .i64 (checkedF rows high wide among)) ∧ Below w.heap.size w w' := by
  have HR := Aside0.mk hr
  have HT := Aside0.mk hT
  have HA := Aside0.mk ha
  have HW := Aside0.mk hw
  obtain ⟨r, hres⟩ : ∃ r, checkedF rows high wide among = r := ⟨_, rfl⟩
  rw [hres]
  have HRES := Aside0.mk hres
  clear hr hT ha hw hres
  cases hq : (decide (1 ≤ (rows.length : Int)) && decide ((rows.length : Int) ≤ high)) with
  | false =>
    have HQ := Aside0.mk hq
    obtain rfl : r = 4 := by rw [← HRES.out]; unfold checkedF; rw [if_pos hq]
    clear hq
    go_enter Tryd.func35, Tryd.ntmps35
    go_wp2_with (go_at_call 22; refine (lattice_within.calls 1 high _ 1 [(rows.length : Int)] false _ (C_lit1 _ _ _ _ (by simp)) (Nat.le_refl 1) (by unfold lattice_within.f; rw [List.all_cons, HQ.out]; rfl)).mono ?_; rintro e w' ⟨rfl, hb1⟩; have HB1 := Aside0.mk (below_then (below_alloc (below_alloc (below_alloc (below_alloc (Below.refl _ _) _) _) _) _) (by simp; omega) hb1); clear hb1)
    go_ret
    exact ⟨rfl, HB1.out⟩
  | true =>
    have HQ := Aside0.mk hq
    clear hq
    cases hs : rows.any (isShort wide (rows.getD 0 ByteArray.empty).size) with
    | true =>
      have HS := Aside0.mk hs
      obtain rfl : r = 4 := by rw [← HRES.out]; unfold checkedF; rw [if_neg (by rw [HQ.out]; decide), if_pos hs]
      clear hs
      go_enter Tryd.func35, Tryd.ntmps35
      go_wp2_with fail
      refine (lattice_within.calls 1 high _ 1 [(rows.length : Int)] true _ (C_lit1 _ _ _ _ (by simp)) (Nat.le_refl 1) (by unfold lattice_within.f; rw [List.all_cons, HQ.out]; rfl)).mono ?_
      rintro e w1 ⟨rfl, hb1⟩
      have k1 : w1.cell? ⟨w.heap.size, 0, none⟩ = some (.slice A rows.length c) := pw_cell_below hb1 (keep_cell _ (keep_cell _ (keep_cell _ (box_cell _ _ _ rfl))))
      have k2 : w1.cell? ⟨w.heap.size + 1, 0, none⟩ = some (.int .i64 wide) := pw_cell_below hb1 (keep_cell _ (keep_cell _ (box_cell _ _ _ (by simp))))
      have k3 : w1.cell? ⟨w.heap.size + 1 + 1, 0, none⟩ = some (.string among) := pw_cell_below hb1 (keep_cell _ (box_cell _ _ _ (by simp)))
      have HB1 := Aside0.mk (below_then (below_alloc (below_alloc (below_alloc (below_alloc (Below.refl _ _) _) _) _) _) (by simp; omega) hb1)
      clear hb1
      go_wp2_with fail
      refine (contains_str enters_checked1 (Kd.C_below HR.out HB1.out) (checked1_pred k2 k1 (Kd.C_below HR.out HB1.out))).mono ?_
      rintro e w2 ⟨rfl, hb2⟩
      rw [HS.out]
      have HB2 := Aside0.mk (later_below HB1.out hb2)
      clear hb2
      go_wp2
      go_ret
      exact ⟨rfl, HB2.out⟩
    | false =>
      have HS := Aside0.mk hs
      have HZ : Aside0 (∀ x ∈ rows, x.size ≤ 9223372036854775807) := ⟨fun x hx => by
        rw [List.any_eq_false] at hs
        have h1 := hs x hx
        unfold isShort at h1
        simp at h1
        have := HW.out
        omega⟩
      clear hs
      have hr3 : r = if rows.any (isOther among) = true then 2 else 0 := by rw [← HRES.out]; unfold checkedF; rw [if_neg (by rw [HQ.out]; decide), if_neg (by rw [HS.out]; decide)]
      cases ho : rows.any (isOther among) with
      | true =>
        have HO := Aside0.mk ho
        obtain rfl : r = 2 := by rw [hr3, if_pos ho]
        clear ho hr3
        go_enter Tryd.func35, Tryd.ntmps35
        go_wp2_with fail
        refine (lattice_within.calls 1 high _ 1 [(rows.length : Int)] true _ (C_lit1 _ _ _ _ (by simp)) (Nat.le_refl 1) (by unfold lattice_within.f; rw [List.all_cons, HQ.out]; rfl)).mono ?_
        rintro e w1 ⟨rfl, hb1⟩
        have k1 : w1.cell? ⟨w.heap.size, 0, none⟩ = some (.slice A rows.length c) := pw_cell_below hb1 (keep_cell _ (keep_cell _ (keep_cell _ (box_cell _ _ _ rfl))))
        have k2 : w1.cell? ⟨w.heap.size + 1, 0, none⟩ = some (.int .i64 wide) := pw_cell_below hb1 (keep_cell _ (keep_cell _ (box_cell _ _ _ (by simp))))
        have k3 : w1.cell? ⟨w.heap.size + 1 + 1, 0, none⟩ = some (.string among) := pw_cell_below hb1 (keep_cell _ (box_cell _ _ _ (by simp)))
        have HB1 := Aside0.mk (below_then (below_alloc (below_alloc (below_alloc (below_alloc (Below.refl _ _) _) _) _) _) (by simp; omega) hb1)
        clear hb1
        go_wp2_with fail
        refine (contains_str enters_checked1 (Kd.C_below HR.out HB1.out) (checked1_pred k2 k1 (Kd.C_below HR.out HB1.out))).mono ?_
        rintro e w2 ⟨rfl, hb2⟩
        rw [HS.out]
        have HB2 := Aside0.mk (later_below HB1.out hb2)
        have k1' := pw_cell_below hb2 k1
        have k3' := pw_cell_below hb2 k3
        clear hb2 k1 k2 k3
        go_wp2_with fail
        refine (contains_str enters_checked2 (Kd.C_below HR.out HB2.out) (checked2_pred HA.out k3' (HT.out.below HB2.out) HZ.out)).mono ?_
        rintro e w3 ⟨rfl, hb3⟩
        rw [HO.out]
        have HB3 := Aside0.mk (later_below HB2.out hb3)
        clear hb3
        go_wp2
        go_ret
        exact ⟨rfl, HB3.out⟩
      | false =>
        have HO := Aside0.mk ho
        obtain rfl : r = 0 := by rw [hr3, if_neg (by rw [ho]; decide)]
        clear ho hr3
        go_enter Tryd.func35, Tryd.ntmps35
        go_wp2_with fail
        refine (lattice_within.calls 1 high _ 1 [(rows.length : Int)] true _ (C_lit1 _ _ _ _ (by simp)) (Nat.le_refl 1) (by unfold lattice_within.f; rw [List.all_cons, HQ.out]; rfl)).mono ?_
        rintro e w1 ⟨rfl, hb1⟩
        have k1 : w1.cell? ⟨w.heap.size, 0, none⟩ = some (.slice A rows.length c) := pw_cell_below hb1 (keep_cell _ (keep_cell _ (keep_cell _ (box_cell _ _ _ rfl))))
        have k2 : w1.cell? ⟨w.heap.size + 1, 0, none⟩ = some (.int .i64 wide) := pw_cell_below hb1 (keep_cell _ (keep_cell _ (box_cell _ _ _ (by simp))))
        have k3 : w1.cell? ⟨w.heap.size + 1 + 1, 0, none⟩ = some (.string among) := pw_cell_below hb1 (keep_cell _ (box_cell _ _ _ (by simp)))
        have HB1 := Aside0.mk (below_then (below_alloc (below_alloc (below_alloc (below_alloc (Below.refl _ _) _) _) _) _) (by simp; omega) hb1)
        clear hb1
        go_wp2_with fail
        refine (contains_str enters_checked1 (Kd.C_below HR.out HB1.out) (checked1_pred k2 k1 (Kd.C_below HR.out HB1.out))).mono ?_
        rintro e w2 ⟨rfl, hb2⟩
        rw [HS.out]
        have HB2 := Aside0.mk (later_below HB1.out hb2)
        have k1' := pw_cell_below hb2 k1
        have k3' := pw_cell_below hb2 k3
        clear hb2 k1 k2 k3
        go_wp2_with fail
        refine (contains_str enters_checked2 (Kd.C_below HR.out HB2.out) (checked2_pred HA.out k3' (HT.out.below HB2.out) HZ.out)).mono ?_
        rintro e w3 ⟨rfl, hb3⟩
        rw [HO.out]
        have HB3 := Aside0.mk (later_below HB2.out hb3)
        clear hb3
        go_wp2
        go_ret
        exact ⟨rfl, HB3.out⟩

theorem ascii_colours : ascii ⟨#[48, 49, 50, 51]⟩ := by intro d hd; simp at hd; rcases hd with rfl | rfl | rfl | rfl <;> decide
theorem ascii_signs : ascii ⟨#[46, 35]⟩ := by intro d hd; simp at hd; rcases hd with rfl | rfl <;> decide
theorem ascii_seen : ascii ⟨#[48, 49, 50, 51, 63]⟩ := by intro d hd; simp at hd; rcases hd with rfl | rfl | rfl | rfl | rfl <;> decide

/-- Check. -/
def lattice_Check.f (l0 : List ByteArray) : Option Int := some (checkedF l0 8 8 ⟨#[48, 49, 50, 51]⟩)
theorem lattice_Check.calls (A0 : Option Addr) (c0 : Nat) (l0 : List ByteArray) (r : Int) (w : World) (hr0 : Kd.C Kd.string w A0 l0.length l0) (_hc0 : l0.length ≤ c0) (h : lattice_Check.f l0 = some r) (hT : Tabs w) :
    Calls Tryd.prog 17 #[.slice A0 l0.length c0] w fun e w' => e = .returned (.int .i64 r) ∧ Below w.heap.size w w' := by
  obtain rfl := Option.some.inj h
  have HR := Aside0.mk hr0
  have HT := Aside0.mk hT
  clear hr0 hT h
  go_enter Tryd.func17, Tryd.ntmps17
  go_wp2_with (go_at_call 35; refine (checked_calls A0 c0 l0 8 8 _ ascii_colours (by decide) _ HR.out HT.out).mono ?_; rintro e w' ⟨rfl, hb⟩)
  go_ret
  exact ⟨rfl, hb⟩
/-- Bars. -/
def lattice_Bars.f (l0 : List ByteArray) : Option Int := some (checkedF l0 4 4 ⟨#[46, 35]⟩)
theorem lattice_Bars.calls (A0 : Option Addr) (c0 : Nat) (l0 : List ByteArray) (r : Int) (w : World) (hr0 : Kd.C Kd.string w A0 l0.length l0) (_hc0 : l0.length ≤ c0) (h : lattice_Bars.f l0 = some r) (hT : Tabs w) :
    Calls Tryd.prog 21 #[.slice A0 l0.length c0] w fun e w' => e = .returned (.int .i64 r) ∧ Below w.heap.size w w' := by
  obtain rfl := Option.some.inj h
  have HR := Aside0.mk hr0
  have HT := Aside0.mk hT
  clear hr0 hT h
  go_enter Tryd.func21, Tryd.ntmps21
  go_wp2_with (go_at_call 35; refine (checked_calls A0 c0 l0 4 4 _ ascii_signs (by decide) _ HR.out HT.out).mono ?_; rintro e w' ⟨rfl, hb⟩)
  go_ret
  exact ⟨rfl, hb⟩
end Go.Proofs.YtpnflmaagncbkaaDoor.X
end
section
-- Written by a program of this claim's author out of the translation (the kit's print, with some functions taken as given). Not trusted: Lean checks it.
namespace Go.Proofs.YtpnflmaagncbkaaDoor.PLat
open Go.RowKit Go.Proofs.YtpnflmaagncbkaaDoorW.PrintWords Go.Proofs.YtpnflmaagncbkaaDoorW.PrintLast Go.Proofs.YtpnflmaagncbkaaDoorW.PrintMore Go.Proofs.YtpnflmaagncbkaaDoor.X
attribute [local go_sem] max2_int min2_int max_two min_two max_three min_three max_four min_four   -- for this text's walks alone
set_option linter.unusedVariables false
set_option linter.unusedSimpArgs false



def errW : Option Int → Value
  | none => .nilIface
  | some c => .iface 0 (.int .i64 c)
theorem errW_none : errW none = .nilIface := rfl
theorem errW_some (c : Int) : errW (some c) = .iface 0 (.int .i64 c) := rfl

theorem info3 : (Tryd.prog.info? 3).map (fun i => (i.zero, i.size, i.bytes)) = some (some (.int .i64 0), 1, 8) := by kernel_rfl
-- the values' own types

end Go.Proofs.YtpnflmaagncbkaaDoor.PLat
end
section
-- Written by a program of this claim's author out of the translation (the kit's print, with some functions taken as given). Not trusted: Lean checks it.
namespace Go.Proofs.YtpnflmaagncbkaaDoor.PLat
open Go.RowKit Go.Proofs.YtpnflmaagncbkaaDoorW.PrintWords Go.Proofs.YtpnflmaagncbkaaDoorW.PrintLast Go.Proofs.YtpnflmaagncbkaaDoorW.PrintMore Go.Proofs.YtpnflmaagncbkaaDoor.X
attribute [local go_sem] max2_int min2_int max_two min_two max_three min_three max_four min_four   -- for this text's walks alone
set_option linter.unusedVariables false
set_option linter.unusedSimpArgs false

/-! ### lattice_grid_isShift: function 12 -/
def lattice_grid_isShift.f (l0 : List ByteArray) (a1_0 : Int) (a1_1 : Int) : Option (Bool) := if 0 < (l0.length : Int) then ((lattice_within.f 0 (wrap64 (((rdOf ByteArray.empty l0 0).size : Int) - 1)) (([a1_0] : List Int))).bind fun t106 => (if t106 = true then ((lattice_within.f 0 (wrap64 ((l0.length : Int) - 1)) (([a1_1] : List Int))).bind fun t110 => (some t110)) else (some false))) else (none)
def lattice_grid_isShift.T1 : Bool × List (List Nat × List Nat) := (true, [([], []), ([0], [0]), ([1], [1]), ([2], [2]), ([3], [3]), ([], []), ([5], [5]), ([6], [6]), ([4, 7], [4, 7]), ([8, 8], [8]), ([9], [9]), ([10, 9], [9, 10]), ([11, 9], [9, 11]), ([9], [9]), ([13, 9], [9, 13]), ([14, 9], [9, 14]), ([12, 15, 9, 9], [9, 12, 15]), ([9, 16], [9, 16]), ([17, 16, 0, 1, 2, 3, 4, 5, 6, 7, 8, 9, 10, 11, 12, 13, 14, 15, 16, 17], [17])])
def lattice_grid_isShift.B1 : List Nat := [0, 1, 3, 7, 15, 0, 32, 96, 255, 511, 1023, 2047, 4095, 1023, 9215, 25599, 65535, 131071, 262143]
theorem lattice_grid_isShift.tab1 : rtab .any (opsOf Tryd.f12 1) = lattice_grid_isShift.T1 := by kernel_rfl
theorem lattice_grid_isShift.bits1 : waitsOk lattice_grid_isShift.T1.2 lattice_grid_isShift.B1 = true := by kernel_rfl
set_option maxHeartbeats 8000000 in
set_option maxRecDepth 100000 in
theorem lattice_grid_isShift.calls (A0 : Option Addr) (c0 : Nat) (l0 : List ByteArray) (a1_0 : Int) (a1_1 : Int) (r : Bool) (w : World) (hr0 : Kd.C Kd.string w A0 l0.length l0) (hc0 : l0.length ≤ c0) (h : lattice_grid_isShift.f l0 a1_0 a1_1 = some r) :
    Calls Tryd.prog 12 #[.slice A0 l0.length c0, .agg #[.int .i64 a1_0, .int .i64 a1_1]] w fun e w' => e = .returned (.bool r) ∧ Below w.heap.size w w' := by
  have hu26 := Tryd.underlying26
  have HR0 := Aside0.mk hr0
  have HC0 := Aside0.mk hc0
  clear hr0 hc0
  have HB := Aside0.mk (Below.refl w.heap.size w)
  have H : (if 0 < (l0.length : Int) then ((lattice_within.f 0 (wrap64 (((rdOf ByteArray.empty l0 0).size : Int) - 1)) (([a1_0] : List Int))).bind fun t106 => (if t106 = true then ((lattice_within.f 0 (wrap64 ((l0.length : Int) - 1)) (([a1_1] : List Int))).bind fun t110 => (some t110)) else (some false))) else (none)) = some r := h
  clear h
  by_cases c3 : 0 < (l0.length : Int)
  · rw [if_pos c3] at H
    have c3b0 : decide (0 < (l0.length : Int)) = true := decide_eq_true c3
    have c3b1 : decide (0 < l0.length) = true := decide_eq_true (by omega)
    clear c3
    obtain ⟨y103, hy103⟩ : ∃ y_ : List Int, y_ = (([a1_0] : List Int)) := ⟨_, rfl⟩
    replace H : ((lattice_within.f 0 (wrap64 (((rdOf ByteArray.empty l0 0).size : Int) - 1)) y103).bind fun t106 => (if t106 = true then ((lattice_within.f 0 (wrap64 ((l0.length : Int) - 1)) (([a1_1] : List Int))).bind fun t110 => (some t110)) else (some false))) = some r := by first | (rw [hy103]; with_reducible exact H) | (have H2_ := (Option.bind_some _ _).symm.trans H; rw [hy103]; with_reducible exact H2_) | (have H2_ := (Option.bind_some _ _).symm.trans H; with_reducible exact H2_) | with_reducible exact H | (rw [hy103]; exact H) | exact H
    have Ny103 := Aside0.mk hy103
    clear hy103
    replace H := Option.bind_eq_some_iff.mp H
    obtain ⟨t106, A40, H⟩ := H
    replace H : (if t106 = true then ((lattice_within.f 0 (wrap64 ((l0.length : Int) - 1)) (([a1_1] : List Int))).bind fun t110 => (some t110)) else (some false)) = some r := H
    have A4 := Aside0.mk A40
    clear A40
    by_cases c5 : t106 = true
    · subst c5
      have H1 : ((lattice_within.f 0 (wrap64 ((l0.length : Int) - 1)) (([a1_1] : List Int))).bind fun t110 => (some t110)) = some r := by rw [if_pos rfl] at H; exact H
      clear H
      have H := H1
      clear H1
      obtain ⟨y107, hy107⟩ : ∃ y_ : List Int, y_ = (([a1_1] : List Int)) := ⟨_, rfl⟩
      replace H : ((lattice_within.f 0 (wrap64 ((l0.length : Int) - 1)) y107).bind fun t110 => (some t110)) = some r := by first | (rw [hy107]; with_reducible exact H) | (have H2_ := (Option.bind_some _ _).symm.trans H; rw [hy107]; with_reducible exact H2_) | (have H2_ := (Option.bind_some _ _).symm.trans H; with_reducible exact H2_) | with_reducible exact H | (rw [hy107]; exact H) | exact H
      have Ny107 := Aside0.mk hy107
      clear hy107
      replace H := Option.bind_eq_some_iff.mp H
      obtain ⟨t110, A60, H⟩ := H
      replace H : (some t110) = some r := H
      have A6 := Aside0.mk A60
      clear A60
      obtain rfl := Option.some.inj H
      go_enter Tryd.func12, Tryd.ntmps12
      try go_wp2_with (first | ((with_reducible refine gate_dst (N := 3) rfl ?_); (try (refine gate_guard (by rfl) ?_; dsimp only)); refine box_event ?hg (N := 3) ?hd (cs := #[.int .i64 a1_0, .int .i64 a1_1]) (t := 26) ?hr ?_; (case hd => rfl); (case hg => rfl); (case hr => first | (go_simp; done) | (go_simp; rfl)); intro gb101 hg w7 hbox hb; have n0_ := Aside0.mk (below_step (by repeat (first | (with_reducible first | exact HB.out | apply below_alloc | apply pw_below_drewN | apply below_drew1) | exact HB.out)) hb); have n1_ := Aside0.mk (hbox); have n2_ := Aside0.mk ((by rw [hg]; exact (below_size (by repeat (first | (with_reducible first | exact HB.out | apply below_alloc | apply pw_below_drewN | apply below_drew1) | exact HB.out))) : w.heap.size ≤ gb101)); have n3_ := Aside0.mk ((by rw [hg]; exact (below_size (by repeat (first | (with_reducible first | exact HB.out | apply below_alloc | apply pw_below_drewN | apply below_drew1) | exact HB.out))) : w.heap.size ≤ gb101)); clear HB; have HB := n0_; have BK101 := n1_; have GW101 := n2_; have GE101 := n3_; clear n0_ n1_ n2_ n3_; clear hb hbox hg))
      have n0_ := Aside0.mk (blk_drew BK101.out)
      have n1_ := Aside0.mk (below_drew1 HB.out)
      clear BK101
      clear HB
      have BK101 := n0_
      have HB := n1_
      clear n0_ n1_
      have p102 : 0 ≤ (0 : Int) := (by omega)
      have q102 : 0 < (l0.length : Int) := of_decide_eq_true (by first | (with_reducible assumption) | assumption)
      obtain ⟨ad102, e102, hx102_0⟩ := Kd.at_string HR0.out 0 p102 q102
      have hw102_0 := hx102_0
      (try rw [show ((0 : Int)).toNat = 0 from rfl] at hw102_0)
      (try rw [show 0 * 1 = 0 from rfl] at hw102_0)
      (try rw [Addr.add_zero'] at hw102_0)
      cases e102
      have qi102 : (0 < l0.length) = True := eq_true (by omega)
      (try rw [show ((0 : Int)).toNat = 0 from rfl] at hx102_0)
      (try rw [Addr.add_zero'] at hx102_0)
      replace hx102_0 := (HB.out.cell (World.block_lt_of_cell? w _ hx102_0)).trans hx102_0
      replace p102 := eq_true p102
      replace q102 := eq_true q102
      refine start_ (n := 19) (S := fun w' => w'.cell? ⟨gb101, 0, none⟩ = some (.int .i64 a1_0) ∧ w'.cell? ⟨gb101, 1, none⟩ = some (.int .i64 a1_1) ∧ w'.cell? ad102 = some (.string (rdOf ByteArray.empty l0 0))) (ds := []) #[false, false, false, false, false, false, false, false, false, false, false, false, false, false, false, false, false, false, false] (by kernel_rfl) rfl rfl ⟨(blk_cell BK101.out 0).trans rfl, (blk_cell BK101.out 1).trans rfl, ((HB.out.cell (World.block_lt_of_cell? w _ hw102_0)).trans hw102_0)⟩ (fun hHeld => ?_); refine with_tabW lattice_grid_isShift.tab1 lattice_grid_isShift.bits1 (fun HT_ HW_ => ?_)
      generalize w7.drew = w8 at BK101 HB hx102_0 hHeld ⊢
      refine pure_ (i := 0) (N := some 5) (v := ?_) (a' := ?_) #[true, false, false, false, false, false, false, false, false, false, false, false, false, false, false, false, false, false, false] rfl rfl (any_of HT_.out (by kernel_rfl)) (fun _ _ _ h => h) (Or.inl ⟨by rfl, ?_⟩) ?_ ?_
      rotate_left
      · intro w'
        go_simp
        with_reducible rfl
      rotate_left
      · simp only [Act.put, List.setIfInBounds_toArray, List.set_cons_zero, List.set_cons_succ, i64_w, i32_w]
        rfl
      refine pure_ (i := 1) (N := some 6) (v := ?_) (a' := ?_) #[true, true, false, false, false, false, false, false, false, false, false, false, false, false, false, false, false, false, false] rfl rfl (any_of HT_.out (by kernel_rfl)) (fun _ _ _ h => h) (Or.inl ⟨by rfl, ?_⟩) ?_ ?_
      rotate_left
      · intro w'
        go_simp
        with_reducible rfl
      rotate_left
      · simp only [Act.put, List.setIfInBounds_toArray, List.set_cons_zero, List.set_cons_succ, i64_w, i32_w]
        rfl
      refine pure_ (i := 5) (N := some 10) (v := ?_) (a' := ?_) #[true, true, false, false, false, true, false, false, false, false, false, false, false, false, false, false, false, false, false] rfl rfl (any_of HT_.out (by kernel_rfl)) (fun _ _ _ h => h) (Or.inl ⟨by rfl, ?_⟩) ?_ ?_
      rotate_left
      · intro w'
        go_simp
        with_reducible rfl
      rotate_left
      · simp only [Act.put, List.setIfInBounds_toArray, List.set_cons_zero, List.set_cons_succ, i64_w, i32_w]
        rfl
      refine take_ (i := 2) (N := some 7) (v := ?_) (a' := ?_) #[true, true, true, false, false, true, false, false, false, false, false, false, false, false, false, false, false, false, false] rfl rfl (take_ofW HT_.out HW_.out (by kernel_rfl)) (fun _ _ _ h => h) (Or.inl ⟨by rfl, ?_⟩) hHeld ?_ ?_
      rotate_left
      · rintro w' ⟨s0, s1, s2⟩
        go_simp
        with_reducible rfl
      rotate_left
      · simp only [Act.put, List.setIfInBounds_toArray, List.set_cons_zero, List.set_cons_succ, i64_w, i32_w]
        rfl
      refine pure_ (i := 3) (N := some 8) (v := ?_) (a' := ?_) #[true, true, true, true, false, true, false, false, false, false, false, false, false, false, false, false, false, false, false] rfl rfl (any_of HT_.out (by kernel_rfl)) (fun _ _ _ h => h) (Or.inl ⟨by rfl, ?_⟩) ?_ ?_
      rotate_left
      · intro w'
        go_simp
        with_reducible rfl
      rotate_left
      · simp only [Act.put, List.setIfInBounds_toArray, List.set_cons_zero, List.set_cons_succ, i64_w, i32_w]
        rfl
      refine pure_ (i := 4) (N := some 9) (v := ?_) (a' := ?_) #[true, true, true, true, true, true, false, false, false, false, false, false, false, false, false, false, false, false, false] rfl rfl (any_of HT_.out (by kernel_rfl)) (fun _ _ _ h => h) (Or.inl ⟨by rfl, ?_⟩) ?_ ?_
      rotate_left
      · intro w'
        go_simp
        with_reducible rfl
      rotate_left
      · simp only [Act.put, List.setIfInBounds_toArray, List.set_cons_zero, List.set_cons_succ, i64_w, i32_w]
        rfl
      refine take_ (i := 6) (N := some 11) (v := ?_) (a' := ?_) #[true, true, true, true, true, true, true, false, false, false, false, false, false, false, false, false, false, false, false] rfl rfl (take_ofW HT_.out HW_.out (by kernel_rfl)) (fun _ _ _ h => h) (Or.inl ⟨by rfl, ?_⟩) hHeld ?_ ?_
      rotate_left
      · rintro w' ⟨s0, s1, s2⟩
        go_simp
        with_reducible rfl
      rotate_left
      · simp only [Act.put, List.setIfInBounds_toArray, List.set_cons_zero, List.set_cons_succ, i64_w, i32_w]
        rfl
      refine one_ (i := 7) (N := some 12) #[true, true, true, true, true, true, true, true, false, false, false, false, false, false, false, false, false, false, false] rfl rfl (one_of HT_.out (by kernel_rfl)) (by decide) (fun K hK => ?_)
      refine Kd.R_lit_step (Kd.int .i64) _ 3 ?hg (N := 12) ?hd (xs := ([a1_0] : List Int)) (inner := [.int .i64 a1_0]) (ok := fun _ => True) (okp := fun _ => True) ?hr ?hp (fun _ hk => hk) trivial (Below.refl _ _) (Nat.le_refl _) (by simp) ?_; (case hd => rfl); (case hg => rfl); (case hr => first | (go_simp; done) | (go_simp; rfl)); (case hp => exact (Reps.one (show Kd.M (Kd.int .i64) _ _ _ a1_0 [.int .i64 a1_0] from rfl) (Reps.none _ _)))
      intro v104 w9 ho10 hb hg_ hnew_
      clear hg_ hnew_
      (first | rw [← Ny103.out] at ho10 | (simp only [Int.reduceToNat] at ho10; rw [← Ny103.out] at ho10))
      have n0_ := Aside0.mk (Kd.R_lower ho10 (below_size (by repeat (first | (with_reducible first | exact HB.out | apply below_alloc | apply pw_below_drewN | apply below_drew1 | refine below_set ?_ GE101.out) | exact HB.out))))
      have n1_ := Aside0.mk (blk_below (g := gb101) (o := .cells #[.int .i64 a1_0, .int .i64 a1_1] 26 (0, 0)) (by (with_reducible repeat (first | refine blk_drewN ?_ _ | refine blk_drew ?_ | refine blk_alloc ?_ _)); exact BK101.out) hb)
      have n2_ := Aside0.mk (below_step (by repeat (first | (with_reducible first | exact HB.out | apply below_alloc | apply pw_below_drewN | apply below_drew1 | refine below_set ?_ GE101.out) | exact HB.out)) hb)
      clear BK101
      clear HB
      have HO105 := n0_
      have BK101 := n1_
      have HB := n2_
      clear n0_ n1_ n2_
      clear hb ho10
      obtain ⟨Ao11, co11, eo11⟩ := Kd.R_slice HO105.out
      (first | subst eo11 | (injection eo11 with f1_ f2_ f3_; have f4_ := f1_.symm; have f5_ := f3_.symm; clear f1_ f2_ f3_; subst f4_; subst f5_))
      refine hK.out _ _ ⟨(blk_cell BK101.out 0).trans rfl, (blk_cell BK101.out 1).trans rfl, ((HB.out.cell (World.block_lt_of_cell? w _ hw102_0)).trans hw102_0)⟩ (fun hHeld => ?_)
      clear hK K
      refine norm_ (a' := ?_) ?_ ?_
      rotate_left
      · show Act.put _ (some 12) _ = _
        simp only [Act.put, List.setIfInBounds_toArray, List.set_cons_zero, List.set_cons_succ, i64_w, i32_w]
        rfl
      refine one_ (i := 8) (N := some 13) #[true, true, true, true, true, true, true, true, true, false, false, false, false, false, false, false, false, false, false] rfl rfl (one_of HT_.out (by kernel_rfl)) (by decide) (fun K hK => ?_)
      refine goes_ Tryd.func22 (by kernel_rfl) rfl #[.int .i64 0, .int .i64 (wrap64 (((rdOf ByteArray.empty l0 0).size : Int) - 1)), .slice Ao11 y103.length co11] (by rfl) rfl rfl (by (try simp only [List.map_toArray, List.map_cons, List.map_nil]); first | done | rfl | (simp only [List.length_drop, List.length_take]; rfl)) ?_
      with_reducible refine (lattice_within.calls 0 (wrap64 (((rdOf ByteArray.empty l0 0).size : Int) - 1)) _ _ y103 true _ ?side1 ?side2 A4.out).mono ?_
      (case side1 => repeat (first | exact (Kd.R_reads' HO105.out).2.2 | (with_reducible refine Kd.C_alloc ?_ _) | (with_reducible refine Kd.C_drewN ?_ _) | (with_reducible refine Kd.C_drew ?_)))
      (case side2 => exact (Kd.R_reads' HO105.out).2.1)
      rintro e w12 ⟨rfl, hb⟩
      refine ⟨_, rfl, ?_⟩
      have n0_ := Aside0.mk (Kd.R_below (by (with_reducible repeat (first | apply Kd.R_alloc | apply Kd.R_drewN | apply Kd.R_drew)); exact HO105.out) hb)
      have n1_ := Aside0.mk (blk_below (g := gb101) (o := .cells #[.int .i64 a1_0, .int .i64 a1_1] 26 (0, 0)) (by (with_reducible repeat (first | refine blk_drewN ?_ _ | refine blk_drew ?_ | refine blk_alloc ?_ _)); exact BK101.out) hb)
      have n2_ := Aside0.mk (below_step (by repeat (first | (with_reducible first | exact HB.out | apply below_alloc | apply pw_below_drewN | apply below_drew1 | refine below_set ?_ GE101.out) | exact HB.out)) hb)
      clear HO105
      clear BK101
      clear HB
      have HO105 := n0_
      have BK101 := n1_
      have HB := n2_
      clear n0_ n1_ n2_
      (try clear hb)
      (try clear hb2)
      (try clear hk)
      (try clear hi)
      refine hK.out _ _ ⟨(blk_cell BK101.out 0).trans rfl, (blk_cell BK101.out 1).trans rfl, ((HB.out.cell (World.block_lt_of_cell? w _ hw102_0)).trans hw102_0)⟩ (fun hHeld => ?_)
      clear hK K
      refine norm_ (a' := ?_) ?_ ?_
      rotate_left
      · show Act.put _ (some 13) _ = _
        simp only [Act.put, List.setIfInBounds_toArray, List.set_cons_zero, List.set_cons_succ, i64_w, i32_w]
        rfl
      refine pure_ (i := 9) (N := some 14) (v := ?_) (a' := ?_) #[true, true, true, true, true, true, true, true, true, true, false, false, false, false, false, false, false, false, false] rfl rfl (any_of HT_.out (by kernel_rfl)) (fun _ _ _ h => h) (Or.inl ⟨by rfl, ?_⟩) ?_ ?_
      rotate_left
      · intro w'
        go_simp
        with_reducible rfl
      rotate_left
      · simp only [Act.put, List.setIfInBounds_toArray, List.set_cons_zero, List.set_cons_succ, i64_w, i32_w]
        rfl
      refine pure_ (i := 10) (N := some 15) (v := ?_) (a' := ?_) #[true, true, true, true, true, true, true, true, true, true, true, false, false, false, false, false, false, false, false] rfl rfl (any_of HT_.out (by kernel_rfl)) (fun _ _ _ h => h) (Or.inl ⟨by rfl, ?_⟩) ?_ ?_
      rotate_left
      · intro w'
        go_simp
        with_reducible rfl
      rotate_left
      · simp only [Act.put, List.setIfInBounds_toArray, List.set_cons_zero, List.set_cons_succ, i64_w, i32_w]
        rfl
      refine pure_ (i := 11) (N := some 16) (v := ?_) (a' := ?_) #[true, true, true, true, true, true, true, true, true, true, true, true, false, false, false, false, false, false, false] rfl rfl (any_of HT_.out (by kernel_rfl)) (fun _ _ _ h => h) (Or.inl ⟨by rfl, ?_⟩) ?_ ?_
      rotate_left
      · intro w'
        go_simp
        with_reducible rfl
      rotate_left
      · simp only [Act.put, List.setIfInBounds_toArray, List.set_cons_zero, List.set_cons_succ, i64_w, i32_w]
        rfl
      refine pure_ (i := 12) (N := some 17) (v := ?_) (a' := ?_) #[true, true, true, true, true, true, true, true, true, true, true, true, true, false, false, false, false, false, false] rfl rfl (any_of HT_.out (by kernel_rfl)) (fun _ _ _ h => h) (Or.inl ⟨by rfl, ?_⟩) ?_ ?_
      rotate_left
      · intro w'
        go_simp
        with_reducible rfl
      rotate_left
      · simp only [Act.put, List.setIfInBounds_toArray, List.set_cons_zero, List.set_cons_succ, i64_w, i32_w]
        rfl
      refine pure_ (i := 13) (N := some 18) (v := ?_) (a' := ?_) #[true, true, true, true, true, true, true, true, true, true, true, true, true, true, false, false, false, false, false] rfl rfl (any_of HT_.out (by kernel_rfl)) (fun _ _ _ h => h) (Or.inl ⟨by rfl, ?_⟩) ?_ ?_
      rotate_left
      · intro w'
        go_simp
        with_reducible rfl
      rotate_left
      · simp only [Act.put, List.setIfInBounds_toArray, List.set_cons_zero, List.set_cons_succ, i64_w, i32_w]
        rfl
      refine take_ (i := 14) (N := some 19) (v := ?_) (a' := ?_) #[true, true, true, true, true, true, true, true, true, true, true, true, true, true, true, false, false, false, false] rfl rfl (take_ofW HT_.out HW_.out (by kernel_rfl)) (fun _ _ _ h => h) (Or.inl ⟨by rfl, ?_⟩) hHeld ?_ ?_
      rotate_left
      · rintro w' ⟨s0, s1, s2⟩
        go_simp
        with_reducible rfl
      rotate_left
      · simp only [Act.put, List.setIfInBounds_toArray, List.set_cons_zero, List.set_cons_succ, i64_w, i32_w]
        rfl
      refine one_ (i := 15) (N := some 20) #[true, true, true, true, true, true, true, true, true, true, true, true, true, true, true, true, false, false, false] rfl rfl (one_of HT_.out (by kernel_rfl)) (by decide) (fun K hK => ?_)
      refine Kd.R_lit_step (Kd.int .i64) _ 3 ?hg (N := 20) ?hd (xs := ([a1_1] : List Int)) (inner := [.int .i64 a1_1]) (ok := fun _ => True) (okp := fun _ => True) ?hr ?hp (fun _ hk => hk) trivial (Below.refl _ _) (Nat.le_refl _) (by simp) ?_; (case hd => rfl); (case hg => rfl); (case hr => first | (go_simp; done) | (go_simp; rfl)); (case hp => exact (Reps.one (show Kd.M (Kd.int .i64) _ _ _ a1_1 [.int .i64 a1_1] from rfl) (Reps.none _ _)))
      intro v108 w13 ho14 hb hg_ hnew_
      clear hg_ hnew_
      (first | rw [← Ny107.out] at ho14 | (simp only [Int.reduceToNat] at ho14; rw [← Ny107.out] at ho14))
      have n0_ := Aside0.mk (Kd.R_elder' (by (with_reducible repeat (first | apply Kd.R_alloc | apply Kd.R_drewN | apply Kd.R_drew)); exact HO105.out) (Kd.R_base ho14) hb)
      have n1_ := Aside0.mk (Kd.R_lower (Kd.R_new' ho14 (Kd.R_lt (by (with_reducible repeat (first | apply Kd.R_alloc | apply Kd.R_drewN | apply Kd.R_drew)); exact HO105.out))) (below_size (by repeat (first | (with_reducible first | exact HB.out | apply below_alloc | apply pw_below_drewN | apply below_drew1 | refine below_set ?_ GE101.out) | exact HB.out))))
      have n2_ := Aside0.mk (blk_below (g := gb101) (o := .cells #[.int .i64 a1_0, .int .i64 a1_1] 26 (0, 0)) (by (with_reducible repeat (first | refine blk_drewN ?_ _ | refine blk_drew ?_ | refine blk_alloc ?_ _)); exact BK101.out) hb)
      have n3_ := Aside0.mk (below_step (by repeat (first | (with_reducible first | exact HB.out | apply below_alloc | apply pw_below_drewN | apply below_drew1 | refine below_set ?_ GE101.out) | exact HB.out)) hb)
      clear HO105
      clear BK101
      clear HB
      have HO105 := n0_
      have HO109 := n1_
      have BK101 := n2_
      have HB := n3_
      clear n0_ n1_ n2_ n3_
      clear hb ho14
      obtain ⟨Ao15, co15, eo15⟩ := Kd.R_slice HO109.out
      (first | subst eo15 | (injection eo15 with f1_ f2_ f3_; have f4_ := f1_.symm; have f5_ := f3_.symm; clear f1_ f2_ f3_; subst f4_; subst f5_))
      refine hK.out _ _ ⟨(blk_cell BK101.out 0).trans rfl, (blk_cell BK101.out 1).trans rfl, ((HB.out.cell (World.block_lt_of_cell? w _ hw102_0)).trans hw102_0)⟩ (fun hHeld => ?_)
      clear hK K
      refine norm_ (a' := ?_) ?_ ?_
      rotate_left
      · show Act.put _ (some 20) _ = _
        simp only [Act.put, List.setIfInBounds_toArray, List.set_cons_zero, List.set_cons_succ, i64_w, i32_w]
        rfl
      refine one_ (i := 16) (N := some 21) #[true, true, true, true, true, true, true, true, true, true, true, true, true, true, true, true, true, false, false] rfl rfl (one_of HT_.out (by kernel_rfl)) (by decide) (fun K hK => ?_)
      refine goes_ Tryd.func22 (by kernel_rfl) rfl #[.int .i64 0, .int .i64 (wrap64 ((l0.length : Int) - 1)), .slice Ao15 y107.length co15] (by rfl) rfl rfl (by (try simp only [List.map_toArray, List.map_cons, List.map_nil]); first | done | rfl | (simp only [List.length_drop, List.length_take]; rfl)) ?_
      with_reducible refine (lattice_within.calls 0 (wrap64 ((l0.length : Int) - 1)) _ _ y107 t110 _ ?side1 ?side2 A6.out).mono ?_
      (case side1 => repeat (first | exact (Kd.R_reads' HO109.out).2.2 | (with_reducible refine Kd.C_alloc ?_ _) | (with_reducible refine Kd.C_drewN ?_ _) | (with_reducible refine Kd.C_drew ?_)))
      (case side2 => exact (Kd.R_reads' HO109.out).2.1)
      rintro e w16 ⟨rfl, hb⟩
      refine ⟨_, rfl, ?_⟩
      have n0_ := Aside0.mk (Kd.R_below (by (with_reducible repeat (first | apply Kd.R_alloc | apply Kd.R_drewN | apply Kd.R_drew)); exact HO105.out) hb)
      have n1_ := Aside0.mk (Kd.R_below (by (with_reducible repeat (first | apply Kd.R_alloc | apply Kd.R_drewN | apply Kd.R_drew)); exact HO109.out) hb)
      have n2_ := Aside0.mk (blk_below (g := gb101) (o := .cells #[.int .i64 a1_0, .int .i64 a1_1] 26 (0, 0)) (by (with_reducible repeat (first | refine blk_drewN ?_ _ | refine blk_drew ?_ | refine blk_alloc ?_ _)); exact BK101.out) hb)
      have n3_ := Aside0.mk (below_step (by repeat (first | (with_reducible first | exact HB.out | apply below_alloc | apply pw_below_drewN | apply below_drew1 | refine below_set ?_ GE101.out) | exact HB.out)) hb)
      clear HO105
      clear HO109
      clear BK101
      clear HB
      have HO105 := n0_
      have HO109 := n1_
      have BK101 := n2_
      have HB := n3_
      clear n0_ n1_ n2_ n3_
      (try clear hb)
      (try clear hb2)
      (try clear hk)
      (try clear hi)
      refine hK.out _ _ ⟨(blk_cell BK101.out 0).trans rfl, (blk_cell BK101.out 1).trans rfl, ((HB.out.cell (World.block_lt_of_cell? w _ hw102_0)).trans hw102_0)⟩ (fun hHeld => ?_)
      clear hK K
      refine norm_ (a' := ?_) ?_ ?_
      rotate_left
      · show Act.put _ (some 21) _ = _
        simp only [Act.put, List.setIfInBounds_toArray, List.set_cons_zero, List.set_cons_succ, i64_w, i32_w]
        rfl
      refine pure_ (i := 17) (N := some 22) (v := ?_) (a' := ?_) #[true, true, true, true, true, true, true, true, true, true, true, true, true, true, true, true, true, true, false] rfl rfl (any_of HT_.out (by kernel_rfl)) (fun _ _ _ h => h) (Or.inl ⟨by rfl, ?_⟩) ?_ ?_
      rotate_left
      · intro w'
        go_simp
        with_reducible rfl
      rotate_left
      · simp only [Act.put, List.setIfInBounds_toArray, List.set_cons_zero, List.set_cons_succ, i64_w, i32_w]
        rfl
      refine pure_ (i := 18) (N := some 4) (v := ?_) (a' := ?_) #[true, true, true, true, true, true, true, true, true, true, true, true, true, true, true, true, true, true, true] rfl rfl (any_of HT_.out (by kernel_rfl)) (fun _ _ _ h => h) (Or.inl ⟨by rfl, ?_⟩) ?_ ?_
      rotate_left
      · intro w'
        go_simp
        with_reducible rfl
      rotate_left
      · simp only [Act.put, List.setIfInBounds_toArray, List.set_cons_zero, List.set_cons_succ, i64_w, i32_w]
        rfl
      refine done_ (done_of HT_.out (by kernel_rfl)) ?_
      try go_wp2
      go_ret
      exact ⟨by first | rfl | (simp [errW_none, errW_some] <;> rfl) | (simp [*, errW_none, errW_some] <;> rfl), by repeat (first | (with_reducible first | exact HB.out | apply below_alloc | apply pw_below_drewN | apply below_drew1 | refine below_set ?_ GE101.out) | exact HB.out)⟩
    · replace c5 := Bool.eq_false_iff.mpr c5
      subst c5
      have H1 : (some false) = some r := by rw [if_neg (show ¬ (false = true) by decide)] at H; exact H
      clear H
      have H := H1
      clear H1
      obtain rfl := Option.some.inj H
      go_enter Tryd.func12, Tryd.ntmps12
      try go_wp2_with (first | ((with_reducible refine gate_dst (N := 3) rfl ?_); (try (refine gate_guard (by rfl) ?_; dsimp only)); refine box_event ?hg (N := 3) ?hd (cs := #[.int .i64 a1_0, .int .i64 a1_1]) (t := 26) ?hr ?_; (case hd => rfl); (case hg => rfl); (case hr => first | (go_simp; done) | (go_simp; rfl)); intro gb101 hg w17 hbox hb; have n0_ := Aside0.mk (below_step (by repeat (first | (with_reducible first | exact HB.out | apply below_alloc | apply pw_below_drewN | apply below_drew1) | exact HB.out)) hb); have n1_ := Aside0.mk (hbox); have n2_ := Aside0.mk ((by rw [hg]; exact (below_size (by repeat (first | (with_reducible first | exact HB.out | apply below_alloc | apply pw_below_drewN | apply below_drew1) | exact HB.out))) : w.heap.size ≤ gb101)); have n3_ := Aside0.mk ((by rw [hg]; exact (below_size (by repeat (first | (with_reducible first | exact HB.out | apply below_alloc | apply pw_below_drewN | apply below_drew1) | exact HB.out))) : w.heap.size ≤ gb101)); clear HB; have HB := n0_; have BK101 := n1_; have GW101 := n2_; have GE101 := n3_; clear n0_ n1_ n2_ n3_; clear hb hbox hg))
      have n0_ := Aside0.mk (blk_drew BK101.out)
      have n1_ := Aside0.mk (below_drew1 HB.out)
      clear BK101
      clear HB
      have BK101 := n0_
      have HB := n1_
      clear n0_ n1_
      have p102 : 0 ≤ (0 : Int) := (by omega)
      have q102 : 0 < (l0.length : Int) := of_decide_eq_true (by first | (with_reducible assumption) | assumption)
      obtain ⟨ad102, e102, hx102_0⟩ := Kd.at_string HR0.out 0 p102 q102
      have hw102_0 := hx102_0
      (try rw [show ((0 : Int)).toNat = 0 from rfl] at hw102_0)
      (try rw [show 0 * 1 = 0 from rfl] at hw102_0)
      (try rw [Addr.add_zero'] at hw102_0)
      cases e102
      have qi102 : (0 < l0.length) = True := eq_true (by omega)
      (try rw [show ((0 : Int)).toNat = 0 from rfl] at hx102_0)
      (try rw [Addr.add_zero'] at hx102_0)
      replace hx102_0 := (HB.out.cell (World.block_lt_of_cell? w _ hx102_0)).trans hx102_0
      replace p102 := eq_true p102
      replace q102 := eq_true q102
      refine start_ (n := 19) (S := fun w' => w'.cell? ⟨gb101, 0, none⟩ = some (.int .i64 a1_0) ∧ w'.cell? ⟨gb101, 1, none⟩ = some (.int .i64 a1_1) ∧ w'.cell? ad102 = some (.string (rdOf ByteArray.empty l0 0))) (ds := []) #[false, false, false, false, false, false, false, false, false, false, false, false, false, false, false, false, false, false, false] (by kernel_rfl) rfl rfl ⟨(blk_cell BK101.out 0).trans rfl, (blk_cell BK101.out 1).trans rfl, ((HB.out.cell (World.block_lt_of_cell? w _ hw102_0)).trans hw102_0)⟩ (fun hHeld => ?_); refine with_tabW lattice_grid_isShift.tab1 lattice_grid_isShift.bits1 (fun HT_ HW_ => ?_)
      generalize w17.drew = w18 at BK101 HB hx102_0 hHeld ⊢
      refine pure_ (i := 0) (N := some 5) (v := ?_) (a' := ?_) #[true, false, false, false, false, false, false, false, false, false, false, false, false, false, false, false, false, false, false] rfl rfl (any_of HT_.out (by kernel_rfl)) (fun _ _ _ h => h) (Or.inl ⟨by rfl, ?_⟩) ?_ ?_
      rotate_left
      · intro w'
        go_simp
        with_reducible rfl
      rotate_left
      · simp only [Act.put, List.setIfInBounds_toArray, List.set_cons_zero, List.set_cons_succ, i64_w, i32_w]
        rfl
      refine pure_ (i := 1) (N := some 6) (v := ?_) (a' := ?_) #[true, true, false, false, false, false, false, false, false, false, false, false, false, false, false, false, false, false, false] rfl rfl (any_of HT_.out (by kernel_rfl)) (fun _ _ _ h => h) (Or.inl ⟨by rfl, ?_⟩) ?_ ?_
      rotate_left
      · intro w'
        go_simp
        with_reducible rfl
      rotate_left
      · simp only [Act.put, List.setIfInBounds_toArray, List.set_cons_zero, List.set_cons_succ, i64_w, i32_w]
        rfl
      refine pure_ (i := 5) (N := some 10) (v := ?_) (a' := ?_) #[true, true, false, false, false, true, false, false, false, false, false, false, false, false, false, false, false, false, false] rfl rfl (any_of HT_.out (by kernel_rfl)) (fun _ _ _ h => h) (Or.inl ⟨by rfl, ?_⟩) ?_ ?_
      rotate_left
      · intro w'
        go_simp
        with_reducible rfl
      rotate_left
      · simp only [Act.put, List.setIfInBounds_toArray, List.set_cons_zero, List.set_cons_succ, i64_w, i32_w]
        rfl
      refine take_ (i := 2) (N := some 7) (v := ?_) (a' := ?_) #[true, true, true, false, false, true, false, false, false, false, false, false, false, false, false, false, false, false, false] rfl rfl (take_ofW HT_.out HW_.out (by kernel_rfl)) (fun _ _ _ h => h) (Or.inl ⟨by rfl, ?_⟩) hHeld ?_ ?_
      rotate_left
      · rintro w' ⟨s0, s1, s2⟩
        go_simp
        with_reducible rfl
      rotate_left
      · simp only [Act.put, List.setIfInBounds_toArray, List.set_cons_zero, List.set_cons_succ, i64_w, i32_w]
        rfl
      refine pure_ (i := 3) (N := some 8) (v := ?_) (a' := ?_) #[true, true, true, true, false, true, false, false, false, false, false, false, false, false, false, false, false, false, false] rfl rfl (any_of HT_.out (by kernel_rfl)) (fun _ _ _ h => h) (Or.inl ⟨by rfl, ?_⟩) ?_ ?_
      rotate_left
      · intro w'
        go_simp
        with_reducible rfl
      rotate_left
      · simp only [Act.put, List.setIfInBounds_toArray, List.set_cons_zero, List.set_cons_succ, i64_w, i32_w]
        rfl
      refine pure_ (i := 4) (N := some 9) (v := ?_) (a' := ?_) #[true, true, true, true, true, true, false, false, false, false, false, false, false, false, false, false, false, false, false] rfl rfl (any_of HT_.out (by kernel_rfl)) (fun _ _ _ h => h) (Or.inl ⟨by rfl, ?_⟩) ?_ ?_
      rotate_left
      · intro w'
        go_simp
        with_reducible rfl
      rotate_left
      · simp only [Act.put, List.setIfInBounds_toArray, List.set_cons_zero, List.set_cons_succ, i64_w, i32_w]
        rfl
      refine take_ (i := 6) (N := some 11) (v := ?_) (a' := ?_) #[true, true, true, true, true, true, true, false, false, false, false, false, false, false, false, false, false, false, false] rfl rfl (take_ofW HT_.out HW_.out (by kernel_rfl)) (fun _ _ _ h => h) (Or.inl ⟨by rfl, ?_⟩) hHeld ?_ ?_
      rotate_left
      · rintro w' ⟨s0, s1, s2⟩
        go_simp
        with_reducible rfl
      rotate_left
      · simp only [Act.put, List.setIfInBounds_toArray, List.set_cons_zero, List.set_cons_succ, i64_w, i32_w]
        rfl
      refine one_ (i := 7) (N := some 12) #[true, true, true, true, true, true, true, true, false, false, false, false, false, false, false, false, false, false, false] rfl rfl (one_of HT_.out (by kernel_rfl)) (by decide) (fun K hK => ?_)
      refine Kd.R_lit_step (Kd.int .i64) _ 3 ?hg (N := 12) ?hd (xs := ([a1_0] : List Int)) (inner := [.int .i64 a1_0]) (ok := fun _ => True) (okp := fun _ => True) ?hr ?hp (fun _ hk => hk) trivial (Below.refl _ _) (Nat.le_refl _) (by simp) ?_; (case hd => rfl); (case hg => rfl); (case hr => first | (go_simp; done) | (go_simp; rfl)); (case hp => exact (Reps.one (show Kd.M (Kd.int .i64) _ _ _ a1_0 [.int .i64 a1_0] from rfl) (Reps.none _ _)))
      intro v104 w19 ho20 hb hg_ hnew_
      clear hg_ hnew_
      (first | rw [← Ny103.out] at ho20 | (simp only [Int.reduceToNat] at ho20; rw [← Ny103.out] at ho20))
      have n0_ := Aside0.mk (Kd.R_lower ho20 (below_size (by repeat (first | (with_reducible first | exact HB.out | apply below_alloc | apply pw_below_drewN | apply below_drew1 | refine below_set ?_ GE101.out) | exact HB.out))))
      have n1_ := Aside0.mk (blk_below (g := gb101) (o := .cells #[.int .i64 a1_0, .int .i64 a1_1] 26 (0, 0)) (by (with_reducible repeat (first | refine blk_drewN ?_ _ | refine blk_drew ?_ | refine blk_alloc ?_ _)); exact BK101.out) hb)
      have n2_ := Aside0.mk (below_step (by repeat (first | (with_reducible first | exact HB.out | apply below_alloc | apply pw_below_drewN | apply below_drew1 | refine below_set ?_ GE101.out) | exact HB.out)) hb)
      clear BK101
      clear HB
      have HO105 := n0_
      have BK101 := n1_
      have HB := n2_
      clear n0_ n1_ n2_
      clear hb ho20
      obtain ⟨Ao21, co21, eo21⟩ := Kd.R_slice HO105.out
      (first | subst eo21 | (injection eo21 with f1_ f2_ f3_; have f4_ := f1_.symm; have f5_ := f3_.symm; clear f1_ f2_ f3_; subst f4_; subst f5_))
      refine hK.out _ _ ⟨(blk_cell BK101.out 0).trans rfl, (blk_cell BK101.out 1).trans rfl, ((HB.out.cell (World.block_lt_of_cell? w _ hw102_0)).trans hw102_0)⟩ (fun hHeld => ?_)
      clear hK K
      refine norm_ (a' := ?_) ?_ ?_
      rotate_left
      · show Act.put _ (some 12) _ = _
        simp only [Act.put, List.setIfInBounds_toArray, List.set_cons_zero, List.set_cons_succ, i64_w, i32_w]
        rfl
      refine one_ (i := 8) (N := some 13) #[true, true, true, true, true, true, true, true, true, false, false, false, false, false, false, false, false, false, false] rfl rfl (one_of HT_.out (by kernel_rfl)) (by decide) (fun K hK => ?_)
      refine goes_ Tryd.func22 (by kernel_rfl) rfl #[.int .i64 0, .int .i64 (wrap64 (((rdOf ByteArray.empty l0 0).size : Int) - 1)), .slice Ao21 y103.length co21] (by rfl) rfl rfl (by (try simp only [List.map_toArray, List.map_cons, List.map_nil]); first | done | rfl | (simp only [List.length_drop, List.length_take]; rfl)) ?_
      with_reducible refine (lattice_within.calls 0 (wrap64 (((rdOf ByteArray.empty l0 0).size : Int) - 1)) _ _ y103 false _ ?side1 ?side2 A4.out).mono ?_
      (case side1 => repeat (first | exact (Kd.R_reads' HO105.out).2.2 | (with_reducible refine Kd.C_alloc ?_ _) | (with_reducible refine Kd.C_drewN ?_ _) | (with_reducible refine Kd.C_drew ?_)))
      (case side2 => exact (Kd.R_reads' HO105.out).2.1)
      rintro e w22 ⟨rfl, hb⟩
      refine ⟨_, rfl, ?_⟩
      have n0_ := Aside0.mk (Kd.R_below (by (with_reducible repeat (first | apply Kd.R_alloc | apply Kd.R_drewN | apply Kd.R_drew)); exact HO105.out) hb)
      have n1_ := Aside0.mk (blk_below (g := gb101) (o := .cells #[.int .i64 a1_0, .int .i64 a1_1] 26 (0, 0)) (by (with_reducible repeat (first | refine blk_drewN ?_ _ | refine blk_drew ?_ | refine blk_alloc ?_ _)); exact BK101.out) hb)
      have n2_ := Aside0.mk (below_step (by repeat (first | (with_reducible first | exact HB.out | apply below_alloc | apply pw_below_drewN | apply below_drew1 | refine below_set ?_ GE101.out) | exact HB.out)) hb)
      clear HO105
      clear BK101
      clear HB
      have HO105 := n0_
      have BK101 := n1_
      have HB := n2_
      clear n0_ n1_ n2_
      (try clear hb)
      (try clear hb2)
      (try clear hk)
      (try clear hi)
      refine hK.out _ _ ⟨(blk_cell BK101.out 0).trans rfl, (blk_cell BK101.out 1).trans rfl, ((HB.out.cell (World.block_lt_of_cell? w _ hw102_0)).trans hw102_0)⟩ (fun hHeld => ?_)
      clear hK K
      refine norm_ (a' := ?_) ?_ ?_
      rotate_left
      · show Act.put _ (some 13) _ = _
        simp only [Act.put, List.setIfInBounds_toArray, List.set_cons_zero, List.set_cons_succ, i64_w, i32_w]
        rfl
      refine pure_ (i := 9) (N := some 14) (v := ?_) (a' := ?_) #[true, true, true, true, true, true, true, true, true, true, false, false, false, false, false, false, false, false, false] rfl rfl (any_of HT_.out (by kernel_rfl)) (fun _ _ _ h => h) (Or.inl ⟨by rfl, ?_⟩) ?_ ?_
      rotate_left
      · intro w'
        go_simp
        with_reducible rfl
      rotate_left
      · simp only [Act.put, List.setIfInBounds_toArray, List.set_cons_zero, List.set_cons_succ, i64_w, i32_w]
        rfl
      refine pure_ (i := 10) (N := some 15) (v := undef) (a' := ?_) #[true, true, true, true, true, true, true, true, true, true, true, false, false, false, false, false, false, false, false] rfl rfl (any_of HT_.out (by kernel_rfl)) (fun _ _ _ h => h) (Or.inr ⟨by rfl, rfl⟩) ?_ ?_
      rotate_left
      · simp only [Act.put, List.setIfInBounds_toArray, List.set_cons_zero, List.set_cons_succ, i64_w, i32_w]
        rfl
      refine pure_ (i := 11) (N := some 16) (v := undef) (a' := ?_) #[true, true, true, true, true, true, true, true, true, true, true, true, false, false, false, false, false, false, false] rfl rfl (any_of HT_.out (by kernel_rfl)) (fun _ _ _ h => h) (Or.inr ⟨by rfl, rfl⟩) ?_ ?_
      rotate_left
      · simp only [Act.put, List.setIfInBounds_toArray, List.set_cons_zero, List.set_cons_succ, i64_w, i32_w]
        rfl
      refine pure_ (i := 12) (N := some 17) (v := undef) (a' := ?_) #[true, true, true, true, true, true, true, true, true, true, true, true, true, false, false, false, false, false, false] rfl rfl (any_of HT_.out (by kernel_rfl)) (fun _ _ _ h => h) (Or.inr ⟨by rfl, rfl⟩) ?_ ?_
      rotate_left
      · simp only [Act.put, List.setIfInBounds_toArray, List.set_cons_zero, List.set_cons_succ, i64_w, i32_w]
        rfl
      refine pure_ (i := 13) (N := some 18) (v := undef) (a' := ?_) #[true, true, true, true, true, true, true, true, true, true, true, true, true, true, false, false, false, false, false] rfl rfl (any_of HT_.out (by kernel_rfl)) (fun _ _ _ h => h) (Or.inr ⟨by rfl, rfl⟩) ?_ ?_
      rotate_left
      · simp only [Act.put, List.setIfInBounds_toArray, List.set_cons_zero, List.set_cons_succ, i64_w, i32_w]
        rfl
      refine pure_ (i := 14) (N := some 19) (v := undef) (a' := ?_) #[true, true, true, true, true, true, true, true, true, true, true, true, true, true, true, false, false, false, false] rfl rfl (any_of HT_.out (by kernel_rfl)) (fun _ _ _ h => h) (Or.inr ⟨by rfl, rfl⟩) ?_ ?_
      rotate_left
      · simp only [Act.put, List.setIfInBounds_toArray, List.set_cons_zero, List.set_cons_succ, i64_w, i32_w]
        rfl
      refine pure_ (i := 15) (N := some 20) (v := undef) (a' := ?_) #[true, true, true, true, true, true, true, true, true, true, true, true, true, true, true, true, false, false, false] rfl rfl (any_of HT_.out (by kernel_rfl)) (fun _ _ _ h => h) (Or.inr ⟨by rfl, rfl⟩) ?_ ?_
      rotate_left
      · simp only [Act.put, List.setIfInBounds_toArray, List.set_cons_zero, List.set_cons_succ, i64_w, i32_w]
        rfl
      refine pure_ (i := 16) (N := some 21) (v := undef) (a' := ?_) #[true, true, true, true, true, true, true, true, true, true, true, true, true, true, true, true, true, false, false] rfl rfl (any_of HT_.out (by kernel_rfl)) (fun _ _ _ h => h) (Or.inr ⟨by rfl, rfl⟩) ?_ ?_
      rotate_left
      · simp only [Act.put, List.setIfInBounds_toArray, List.set_cons_zero, List.set_cons_succ, i64_w, i32_w]
        rfl
      refine pure_ (i := 17) (N := some 22) (v := ?_) (a' := ?_) #[true, true, true, true, true, true, true, true, true, true, true, true, true, true, true, true, true, true, false] rfl rfl (any_of HT_.out (by kernel_rfl)) (fun _ _ _ h => h) (Or.inl ⟨by rfl, ?_⟩) ?_ ?_
      rotate_left
      · intro w'
        go_simp
        with_reducible rfl
      rotate_left
      · simp only [Act.put, List.setIfInBounds_toArray, List.set_cons_zero, List.set_cons_succ, i64_w, i32_w]
        rfl
      refine pure_ (i := 18) (N := some 4) (v := ?_) (a' := ?_) #[true, true, true, true, true, true, true, true, true, true, true, true, true, true, true, true, true, true, true] rfl rfl (any_of HT_.out (by kernel_rfl)) (fun _ _ _ h => h) (Or.inl ⟨by rfl, ?_⟩) ?_ ?_
      rotate_left
      · intro w'
        go_simp
        with_reducible rfl
      rotate_left
      · simp only [Act.put, List.setIfInBounds_toArray, List.set_cons_zero, List.set_cons_succ, i64_w, i32_w]
        rfl
      refine done_ (done_of HT_.out (by kernel_rfl)) ?_
      try go_wp2
      go_ret
      exact ⟨by first | rfl | (simp [errW_none, errW_some] <;> rfl) | (simp [*, errW_none, errW_some] <;> rfl), by repeat (first | (with_reducible first | exact HB.out | apply below_alloc | apply pw_below_drewN | apply below_drew1 | refine below_set ?_ GE101.out) | exact HB.out)⟩
  · rw [if_neg c3] at H
    exact absurd H (by simp)

/-! ### lattice_grid_open: function 42 -/
def lattice_grid_open.f (l0 : List ByteArray) (a1_0 : Int) (a1_1 : Int) (a2 : Int) (a3 : Int) : Option (Bool) := if (l0.length : Int) = 0 then (none) else (if 0 ≤ (Int.tmod (wrap64 ((wrap64 (a3 + (l0.length : Int))) - a1_1)) (l0.length : Int)) then (if (Int.tmod (wrap64 ((wrap64 (a3 + (l0.length : Int))) - a1_1)) (l0.length : Int)) < (l0.length : Int) then (if ((rdOf ByteArray.empty l0 (Int.tmod (wrap64 ((wrap64 (a3 + (l0.length : Int))) - a1_1)) (l0.length : Int))).size : Int) = 0 then (none) else (if 0 ≤ (Int.tmod (wrap64 ((wrap64 (a2 + ((rdOf ByteArray.empty l0 (Int.tmod (wrap64 ((wrap64 (a3 + (l0.length : Int))) - a1_1)) (l0.length : Int))).size : Int))) - a1_0)) ((rdOf ByteArray.empty l0 (Int.tmod (wrap64 ((wrap64 (a3 + (l0.length : Int))) - a1_1)) (l0.length : Int))).size : Int)) then (if (Int.tmod (wrap64 ((wrap64 (a2 + ((rdOf ByteArray.empty l0 (Int.tmod (wrap64 ((wrap64 (a3 + (l0.length : Int))) - a1_1)) (l0.length : Int))).size : Int))) - a1_0)) ((rdOf ByteArray.empty l0 (Int.tmod (wrap64 ((wrap64 (a3 + (l0.length : Int))) - a1_1)) (l0.length : Int))).size : Int)) < ((rdOf ByteArray.empty l0 (Int.tmod (wrap64 ((wrap64 (a3 + (l0.length : Int))) - a1_1)) (l0.length : Int))).size : Int) then (some ((bt (rdOf ByteArray.empty l0 (Int.tmod (wrap64 ((wrap64 (a3 + (l0.length : Int))) - a1_1)) (l0.length : Int))) (Int.tmod (wrap64 ((wrap64 (a2 + ((rdOf ByteArray.empty l0 (Int.tmod (wrap64 ((wrap64 (a3 + (l0.length : Int))) - a1_1)) (l0.length : Int))).size : Int))) - a1_0)) ((rdOf ByteArray.empty l0 (Int.tmod (wrap64 ((wrap64 (a3 + (l0.length : Int))) - a1_1)) (l0.length : Int))).size : Int))) == 46)) else (none)) else (none))) else (none)) else (none))
set_option maxHeartbeats 8000000 in
set_option maxRecDepth 100000 in
theorem lattice_grid_open.calls (A0 : Option Addr) (c0 : Nat) (l0 : List ByteArray) (a1_0 : Int) (a1_1 : Int) (a2 : Int) (a3 : Int) (r : Bool) (w : World) (hr0 : Kd.C Kd.string w A0 l0.length l0) (hc0 : l0.length ≤ c0) (h : lattice_grid_open.f l0 a1_0 a1_1 a2 a3 = some r) :
    Calls Tryd.prog 42 #[.slice A0 l0.length c0, .agg #[.int .i64 a1_0, .int .i64 a1_1], .int .i64 a2, .int .i64 a3] w fun e w' => e = .returned (.bool r) ∧ Below w.heap.size w w' := by
  have hu26 := Tryd.underlying26
  have HR0 := Aside0.mk hr0
  have HC0 := Aside0.mk hc0
  clear hr0 hc0
  have HB := Aside0.mk (Below.refl w.heap.size w)
  have H : (if (l0.length : Int) = 0 then (none) else (if 0 ≤ (Int.tmod (wrap64 ((wrap64 (a3 + (l0.length : Int))) - a1_1)) (l0.length : Int)) then (if (Int.tmod (wrap64 ((wrap64 (a3 + (l0.length : Int))) - a1_1)) (l0.length : Int)) < (l0.length : Int) then (if ((rdOf ByteArray.empty l0 (Int.tmod (wrap64 ((wrap64 (a3 + (l0.length : Int))) - a1_1)) (l0.length : Int))).size : Int) = 0 then (none) else (if 0 ≤ (Int.tmod (wrap64 ((wrap64 (a2 + ((rdOf ByteArray.empty l0 (Int.tmod (wrap64 ((wrap64 (a3 + (l0.length : Int))) - a1_1)) (l0.length : Int))).size : Int))) - a1_0)) ((rdOf ByteArray.empty l0 (Int.tmod (wrap64 ((wrap64 (a3 + (l0.length : Int))) - a1_1)) (l0.length : Int))).size : Int)) then (if (Int.tmod (wrap64 ((wrap64 (a2 + ((rdOf ByteArray.empty l0 (Int.tmod (wrap64 ((wrap64 (a3 + (l0.length : Int))) - a1_1)) (l0.length : Int))).size : Int))) - a1_0)) ((rdOf ByteArray.empty l0 (Int.tmod (wrap64 ((wrap64 (a3 + (l0.length : Int))) - a1_1)) (l0.length : Int))).size : Int)) < ((rdOf ByteArray.empty l0 (Int.tmod (wrap64 ((wrap64 (a3 + (l0.length : Int))) - a1_1)) (l0.length : Int))).size : Int) then (some ((bt (rdOf ByteArray.empty l0 (Int.tmod (wrap64 ((wrap64 (a3 + (l0.length : Int))) - a1_1)) (l0.length : Int))) (Int.tmod (wrap64 ((wrap64 (a2 + ((rdOf ByteArray.empty l0 (Int.tmod (wrap64 ((wrap64 (a3 + (l0.length : Int))) - a1_1)) (l0.length : Int))).size : Int))) - a1_0)) ((rdOf ByteArray.empty l0 (Int.tmod (wrap64 ((wrap64 (a3 + (l0.length : Int))) - a1_1)) (l0.length : Int))).size : Int))) == 46)) else (none)) else (none))) else (none)) else (none))) = some r := h
  clear h
  by_cases c5 : (l0.length : Int) = 0
  · rw [if_pos c5] at H
    exact absurd H (by simp)
  · rw [if_neg c5] at H
    have c5b0 : ((l0.length : Int) == 0) = false := beq_eq_false_iff_ne.mpr c5
    have c5b1 : ((l0.length : Int) != 0) = true := bne_iff_ne.mpr c5
    have c5b2 : ¬ (l0 = []) := fun h_ => c5 (by rw [h_]; rfl)
    obtain ⟨ji6, hji6⟩ : ∃ j_ : Int, (Int.tmod (wrap64 ((wrap64 (a3 + (l0.length : Int))) - a1_1)) (l0.length : Int)) = j_ := ⟨_, rfl⟩
    replace H : (if 0 ≤ (ji6) then (if (ji6) < (l0.length : Int) then (if ((rdOf ByteArray.empty l0 (ji6)).size : Int) = 0 then (none) else (if 0 ≤ (Int.tmod (wrap64 ((wrap64 (a2 + ((rdOf ByteArray.empty l0 (ji6)).size : Int))) - a1_0)) ((rdOf ByteArray.empty l0 (ji6)).size : Int)) then (if (Int.tmod (wrap64 ((wrap64 (a2 + ((rdOf ByteArray.empty l0 (ji6)).size : Int))) - a1_0)) ((rdOf ByteArray.empty l0 (ji6)).size : Int)) < ((rdOf ByteArray.empty l0 (ji6)).size : Int) then (some ((bt (rdOf ByteArray.empty l0 (ji6)) (Int.tmod (wrap64 ((wrap64 (a2 + ((rdOf ByteArray.empty l0 (ji6)).size : Int))) - a1_0)) ((rdOf ByteArray.empty l0 (ji6)).size : Int))) == 46)) else (none)) else (none))) else (none)) else (none)) = some r := by first | (rw [hji6] at H; exact H) | (simp only [hji6] at H ⊢; exact H)
    by_cases c7 : 0 ≤ (ji6)
    · rw [if_pos c7] at H
      have c7b0 : decide (0 ≤ (ji6)) = true := decide_eq_true c7
      clear c7
      by_cases c8 : (ji6) < (l0.length : Int)
      · rw [if_pos c8] at H
        have c8b0 : decide ((ji6) < (l0.length : Int)) = true := decide_eq_true c8
        clear c8
        by_cases c9 : ((rdOf ByteArray.empty l0 (ji6)).size : Int) = 0
        · rw [if_pos c9] at H
          exact absurd H (by simp)
        · rw [if_neg c9] at H
          have c9b0 : (((rdOf ByteArray.empty l0 (ji6)).size : Int) == 0) = false := beq_eq_false_iff_ne.mpr c9
          have c9b1 : (((rdOf ByteArray.empty l0 (ji6)).size : Int) != 0) = true := bne_iff_ne.mpr c9
          obtain ⟨ji10, hji10⟩ : ∃ j_ : Int, (Int.tmod (wrap64 ((wrap64 (a2 + ((rdOf ByteArray.empty l0 (ji6)).size : Int))) - a1_0)) ((rdOf ByteArray.empty l0 (ji6)).size : Int)) = j_ := ⟨_, rfl⟩
          replace H : (if 0 ≤ (ji10) then (if (ji10) < ((rdOf ByteArray.empty l0 (ji6)).size : Int) then (some ((bt (rdOf ByteArray.empty l0 (ji6)) (ji10)) == 46)) else (none)) else (none)) = some r := by first | (rw [hji10] at H; exact H) | (simp only [hji10] at H ⊢; exact H)
          by_cases c11 : 0 ≤ (ji10)
          · rw [if_pos c11] at H
            have c11b0 : decide (0 ≤ (ji10)) = true := decide_eq_true c11
            clear c11
            by_cases c12 : (ji10) < ((rdOf ByteArray.empty l0 (ji6)).size : Int)
            · rw [if_pos c12] at H
              have c12b0 : decide ((ji10) < ((rdOf ByteArray.empty l0 (ji6)).size : Int)) = true := decide_eq_true c12
              clear c12
              obtain rfl := Option.some.inj H
              go_enter Tryd.func42, Tryd.ntmps42
              go_wp2_with (first | ((with_reducible refine gate_dst (N := 5) rfl ?_); refine box_event ?hg (N := 5) ?hd (cs := #[.int .i64 a1_0, .int .i64 a1_1]) (t := 26) ?hr ?_; (case hd => rfl); (case hg => rfl); (case hr => first | (go_simp; done) | (go_simp; rfl)); intro gb111 hg w14 hbox hb; have n0_ := Aside0.mk (below_step (by repeat (first | (with_reducible first | exact HB.out | apply below_alloc | apply pw_below_drewN | apply below_drew1) | exact HB.out)) hb); have n1_ := Aside0.mk (hbox); have n2_ := Aside0.mk ((by rw [hg]; exact (below_size (by repeat (first | (with_reducible first | exact HB.out | apply below_alloc | apply pw_below_drewN | apply below_drew1) | exact HB.out))) : w.heap.size ≤ gb111)); have n3_ := Aside0.mk ((by rw [hg]; exact (below_size (by repeat (first | (with_reducible first | exact HB.out | apply below_alloc | apply pw_below_drewN | apply below_drew1) | exact HB.out))) : w.heap.size ≤ gb111)); clear HB; have HB := n0_; have BK111 := n1_; have GW111 := n2_; have GE111 := n3_; clear n0_ n1_ n2_ n3_; clear hb hbox hg; have hcz15_0 : w14.cell? ⟨gb111, 0, none⟩ = some (.int .i64 a1_0) := (blk_cell BK111.out 0).trans rfl; have hcz15_1 : w14.cell? ⟨gb111, 1, none⟩ = some (.int .i64 a1_1) := (blk_cell BK111.out 1).trans rfl; have hfz15_0 := blk_frozen BK111.out 0; have hfz15_1 := blk_frozen BK111.out 1; have p112 : 0 ≤ ((ji6) : Int) := of_decide_eq_true (by first | (with_reducible assumption) | assumption); have q112 : (ji6) < (l0.length : Int) := of_decide_eq_true (by first | (with_reducible assumption) | assumption); obtain ⟨ad112, e112, hx112_0⟩ := Kd.at_string HR0.out (ji6) p112 q112; cases e112; replace hx112_0 := (HB.out.cell (World.block_lt_of_cell? w _ hx112_0)).trans hx112_0; replace p112 := eq_true p112; replace q112 := eq_true q112; have p13 : 0 ≤ ((ji10) : Int) := of_decide_eq_true (by first | (with_reducible assumption) | assumption); have q13 : (ji10) < ((rdOf ByteArray.empty l0 (ji6)).size : Int) := of_decide_eq_true (by first | (with_reducible assumption) | assumption); have hx13 := bt_at (rdOf ByteArray.empty l0 (ji6)) (ji10); replace p13 := eq_true p13; replace q13 := eq_true q13))
              go_ret
              exact ⟨by first | rfl | (simp [errW_none, errW_some] <;> rfl) | (simp only [← hji6, ← hji10]; first | rfl | (simp [errW_none, errW_some] <;> rfl)) | (simp [*, errW_none, errW_some] <;> rfl), by repeat (first | (with_reducible first | exact HB.out | apply below_alloc | apply pw_below_drewN | apply below_drew1 | refine below_set ?_ GE111.out) | exact HB.out)⟩
            · rw [if_neg c12] at H
              exact absurd H (by simp)
          · rw [if_neg c11] at H
            exact absurd H (by simp)
      · rw [if_neg c8] at H
        exact absurd H (by simp)
    · rw [if_neg c7] at H
      exact absurd H (by simp)

/-! ### lattice_unless: function 29 -/
def lattice_unless.f (a0 : Bool) (a1 : Int) : Option (Int) := if a0 = true then (some 0) else (some a1)
set_option maxHeartbeats 8000000 in
set_option maxRecDepth 100000 in
theorem lattice_unless.calls (a0 : Bool) (a1 : Int) (r : Int) (w : World) (h : lattice_unless.f a0 a1 = some r) :
    Calls Tryd.prog 29 #[.bool a0, .int .i64 a1] w fun e w' => e = .returned (.int .i64 r) ∧ Drawn0 w w' := by
  have H : (if a0 = true then (some 0) else (some a1)) = some r := h
  clear h
  by_cases c3 : a0 = true
  · subst c3
    have H1 : (some 0) = some r := by rw [if_pos rfl] at H; exact H
    clear H
    have H := H1
    clear H1
    obtain rfl := Option.some.inj H
    go_enter Tryd.func29, Tryd.ntmps29
    go_wp2
    go_ret
    exact ⟨by first | rfl | (simp; done) | (simp [*]; done), by repeat (first | exact Drawn0.refl _ | apply Drawn0.step)⟩
  · replace c3 := Bool.eq_false_iff.mpr c3
    subst c3
    have H1 : (some a1) = some r := by rw [if_neg (show ¬ (false = true) by decide)] at H; exact H
    clear H
    have H := H1
    clear H1
    obtain rfl := Option.some.inj H
    go_enter Tryd.func29, Tryd.ntmps29
    go_wp2
    go_ret
    exact ⟨by first | rfl | (simp; done) | (simp [*]; done), by repeat (first | exact Drawn0.refl _ | apply Drawn0.step)⟩

/-! ### lattice_areAlike: function 20 -/
def lattice_areAlike.f (l0 : List ByteArray) (l1 : List ByteArray) : Option (Bool) := if (l0.length : Int) = (l1.length : Int) then (if 0 < (l0.length : Int) then (if 0 < (l1.length : Int) then (some (((rdOf ByteArray.empty l0 0).size : Int) == ((rdOf ByteArray.empty l1 0).size : Int))) else (none)) else (none)) else (some false)
set_option maxHeartbeats 8000000 in
set_option maxRecDepth 100000 in
theorem lattice_areAlike.calls (A0 : Option Addr) (c0 : Nat) (l0 : List ByteArray) (A1 : Option Addr) (c1 : Nat) (l1 : List ByteArray) (r : Bool) (w : World) (hr0 : Kd.C Kd.string w A0 l0.length l0) (hc0 : l0.length ≤ c0) (hr1 : Kd.C Kd.string w A1 l1.length l1) (hc1 : l1.length ≤ c1) (h : lattice_areAlike.f l0 l1 = some r) :
    Calls Tryd.prog 20 #[.slice A0 l0.length c0, .slice A1 l1.length c1] w fun e w' => e = .returned (.bool r) ∧ Drawn0 w w' := by
  have HR0 := Aside0.mk hr0
  have HC0 := Aside0.mk hc0
  clear hr0 hc0
  have HR1 := Aside0.mk hr1
  have HC1 := Aside0.mk hc1
  clear hr1 hc1
  have H : (if (l0.length : Int) = (l1.length : Int) then (if 0 < (l0.length : Int) then (if 0 < (l1.length : Int) then (some (((rdOf ByteArray.empty l0 0).size : Int) == ((rdOf ByteArray.empty l1 0).size : Int))) else (none)) else (none)) else (some false)) = some r := h
  clear h
  by_cases c3 : (l0.length : Int) = (l1.length : Int)
  · rw [if_pos c3] at H
    have c3b0 : ((l0.length : Int) == (l1.length : Int)) = true := beq_iff_eq.mpr c3
    have c3b1 : ((l0.length : Int) != (l1.length : Int)) = false := bne_eq_false_iff_eq.mpr c3
    have c3b2 : (l0.length == l1.length) = true := by first | simpa using c3 | (simp at c3 ⊢; omega)
    clear c3
    by_cases c4 : 0 < (l0.length : Int)
    · rw [if_pos c4] at H
      have c4b0 : decide (0 < (l0.length : Int)) = true := decide_eq_true c4
      have c4b1 : decide (0 < l0.length) = true := decide_eq_true (by omega)
      clear c4
      by_cases c5 : 0 < (l1.length : Int)
      · rw [if_pos c5] at H
        have c5b0 : decide (0 < (l1.length : Int)) = true := decide_eq_true c5
        have c5b1 : decide (0 < l1.length) = true := decide_eq_true (by omega)
        clear c5
        obtain rfl := Option.some.inj H
        have p113 : 0 ≤ (0 : Int) := (by omega)
        have q113 : 0 < (l0.length : Int) := of_decide_eq_true (by first | (with_reducible assumption) | assumption)
        obtain ⟨ad113, e113, hx113_0⟩ := Kd.at_string HR0.out 0 p113 q113
        cases e113
        have qi113 : (0 < l0.length) = True := eq_true (by omega)
        (try rw [show ((0 : Int)).toNat = 0 from rfl] at hx113_0)
        (try rw [Addr.add_zero'] at hx113_0)
        replace p113 := eq_true p113
        replace q113 := eq_true q113
        have p114 : 0 ≤ (0 : Int) := (by omega)
        have q114 : 0 < (l1.length : Int) := of_decide_eq_true (by first | (with_reducible assumption) | assumption)
        obtain ⟨ad114, e114, hx114_0⟩ := Kd.at_string HR1.out 0 p114 q114
        cases e114
        have qi114 : (0 < l1.length) = True := eq_true (by omega)
        (try rw [show ((0 : Int)).toNat = 0 from rfl] at hx114_0)
        (try rw [Addr.add_zero'] at hx114_0)
        replace p114 := eq_true p114
        replace q114 := eq_true q114
        go_enter Tryd.func20, Tryd.ntmps20
        go_wp2
        repeat (go_quiet (fail); try go_wp2)
        go_ret
        exact ⟨by first | rfl | (simp; done) | (simp [*]; done), by repeat (first | exact Drawn0.refl _ | apply Drawn0.step)⟩
      · rw [if_neg c5] at H
        exact absurd H (by simp)
    · rw [if_neg c4] at H
      exact absurd H (by simp)
  · rw [if_neg c3] at H
    have c3b0 : ((l0.length : Int) == (l1.length : Int)) = false := beq_eq_false_iff_ne.mpr c3
    have c3b1 : ((l0.length : Int) != (l1.length : Int)) = true := bne_iff_ne.mpr c3
    have c3b2 : (l0.length == l1.length) = false := by first | simpa using c3 | (simp at c3 ⊢; omega)
    obtain rfl := Option.some.inj H
    go_enter Tryd.func20, Tryd.ntmps20
    go_wp2
    repeat (go_quiet (fail); try go_wp2)
    go_ret
    exact ⟨by first | rfl | (simp; done) | (simp [*]; done), by repeat (first | exact Drawn0.refl _ | apply Drawn0.step)⟩

end Go.Proofs.YtpnflmaagncbkaaDoor.PLat
end
section
-- Written by a program of this claim's author out of the translation (the kit's print, with some functions taken as given). Not trusted: Lean checks it.
namespace Go.Proofs.YtpnflmaagncbkaaDoor.PLat
open Go.RowKit Go.Proofs.YtpnflmaagncbkaaDoorW.PrintWords Go.Proofs.YtpnflmaagncbkaaDoorW.PrintLast Go.Proofs.YtpnflmaagncbkaaDoorW.PrintMore Go.Proofs.YtpnflmaagncbkaaDoor.X
attribute [local go_sem] max2_int min2_int max_two min_two max_three min_three max_four min_four   -- for this text's walks alone
set_option linter.unusedVariables false
set_option linter.unusedSimpArgs false

end Go.Proofs.YtpnflmaagncbkaaDoor.PLat
end
section
/- Package lattice: what is seen of a picture (grid.show). -/
namespace Go.Proofs.YtpnflmaagncbkaaDoor.X
open Go.RowKit Go.Proofs.YtpnflmaagncbkaaDoorW.PrintWords Go.Proofs.YtpnflmaagncbkaaDoorW.PrintLast Go.Proofs.YtpnflmaagncbkaaDoorW.PrintMore Go.Proofs.YtpnflmaagncbkaaDoor.PLat

/-! ### A block of bytes that a conversion made -/
def BB (w : World) (g : Nat) (l : List UInt8) : Prop :=
  ∃ cells fr, w.heap[g]? = some (.cells cells 5 fr) ∧ (∀ j, j < l.length → cells[j]? = some (.int .u8 (l.getD j 0).toNat)) ∧ l.length ≤ fr.1
theorem BB.cell {w : World} {g : Nat} {l : List UInt8} (h : BB w g l) {j : Nat} (hj : j < l.length) : w.cell? ⟨g, j, none⟩ = some (.int .u8 (l.getD j 0).toNat) := by
  obtain ⟨cells, fr, hb, hc, _⟩ := h
  have := cell_of_row w g j cells _ fr hb
  rw [this, hc j hj]
theorem BB.free {w : World} {g : Nat} {l : List UInt8} (h : BB w g l) {j : Nat} (hj : j < l.length) : w.frozen? ⟨g, j, none⟩ = false := by
  obtain ⟨cells, fr, hb, _, hf⟩ := h
  simp only [World.frozen?, hb]
  simp
  omega
theorem BB.below {w w1 : World} {g : Nat} {l : List UInt8} (h : BB w g l) (hb : Below w.heap.size w w1) : BB w1 g l := by
  obtain ⟨cells, fr, hb0, hc, hf⟩ := h
  exact ⟨cells, fr, (hb.block g (Array.getElem?_eq_some_iff.1 hb0).1).trans hb0, hc, hf⟩
theorem BB.lt {w : World} {g : Nat} {l : List UInt8} (h : BB w g l) : g < w.heap.size := by
  obtain ⟨cells, fr, hb0, _⟩ := h
  exact (Array.getElem?_eq_some_iff.1 hb0).1
theorem BB.new (W : World) (s : ByteArray) : BB (Lib.bytesWorld W 5 s) W.heap.size s.data.toList := by
  have hl : s.data.toList.length = s.size := by rw [Array.length_toList]; rfl
  refine ⟨_, _, Lib.bytesWorld_at_new W 5 s, fun j hj => ?_, ?_⟩
  · have h1 := Lib.bytesWorld_cell W 5 s j (by omega)
    rw [cell_of_row _ _ _ _ _ _ (Lib.bytesWorld_at_new W 5 s)] at h1
    exact h1
  · show s.data.toList.length ≤ (Lib.bytesCells W 5 s).size
    have h1 : ∀ j, j < s.data.toList.length → j < (Lib.bytesCells W 5 s).size := fun j hj => by
      have h1 := Lib.bytesWorld_cell W 5 s j (by omega)
      rw [cell_of_row _ _ _ _ _ _ (Lib.bytesWorld_at_new W 5 s)] at h1
      exact (Array.getElem?_eq_some_iff.1 h1).1
    rcases Nat.eq_zero_or_pos s.data.toList.length with h0 | h0
    · omega
    · have := h1 (s.data.toList.length - 1) (by omega)
      omega
theorem BB.set {w : World} {g : Nat} {l : List UInt8} (h : BB w g l) (j : Nat) (x : UInt8) : BB (w.setCell ⟨g, j, none⟩ (.int .u8 x.toNat)) g (l.set j x) := by
  obtain ⟨cells, fr, hb, hc, hf⟩ := h
  refine ⟨cells.setIfInBounds j (.int .u8 x.toNat), fr, ?_, fun i hi => ?_, by rw [List.length_set]; exact hf⟩
  · have hlt := (Array.getElem?_eq_some_iff.1 hb).1
    simp [World.setCell, Array.getElem?_modify, hb]
  · rw [List.length_set] at hi
    have h1 := hc i hi
    have hlt := (Array.getElem?_eq_some_iff.1 h1).1
    by_cases e : i = j
    · subst e
      simp [hlt, List.getD_eq_getElem?_getD, hi]
    · rw [Array.getElem?_setIfInBounds_ne (Ne.symm e), h1]
      simp [List.getD_eq_getElem?_getD, List.getElem?_set_ne (Ne.symm e)]
theorem BB.string {w : World} {g c : Nat} {l : List UInt8} {src dst : TypeId} (hs : Tryd.prog.underlying src = some (.slice 5)) (hd : Tryd.prog.underlying dst = some .string) (h : BB w g l) :
    (convert src dst (.slice (some ⟨g, 0, none⟩) l.length c)).run Tryd.prog w = .ok (.string ⟨l.toArray⟩) w := by
  have hx : (l.map fun b => (b.toNat : Int)).length = l.length := List.length_map _
  have h1 := run_convert_bytes_arg (P := Tryd.prog) w src 5 hs Tryd.underlying5 g 0 l.length c (l.map fun b => (b.toNat : Int)) hx (fun i hi => by
    rw [Nat.zero_add, h.cell hi]
    simp [List.getD_eq_getElem?_getD, List.getElem?_eq_getElem hi]) dst hd
  have h2 : strOfNums (l.map fun b => (b.toNat : Int)) = ⟨l.toArray⟩ := by
    unfold strOfNums
    have : (l.map fun b => (b.toNat : Int)).map (fun n => UInt8.ofNat n.toNat) = l := by
      rw [List.map_map]
      conv => rhs; rw [← List.map_id l]
      apply List.map_congr_left
      intro b _
      simp
    rw [this]
  rw [h2] at h1
  exact h1

/-! ### What is seen -/
def showL (op : Nat → Bool) (l : List UInt8) : List UInt8 := l.mapIdx fun x b => if op x then b else 63
def partL (op : Nat → Bool) (l : List UInt8) (k : Nat) : List UInt8 := l.mapIdx fun x b => if x < k ∧ op x = false then 63 else b
theorem partL_zero (op : Nat → Bool) (l : List UInt8) : partL op l 0 = l := by
  unfold partL
  apply List.ext_getElem (by simp)
  intro i h1 h2
  simp
theorem partL_length (op : Nat → Bool) (l : List UInt8) (k : Nat) : (partL op l k).length = l.length := by unfold partL; simp
theorem partL_end (op : Nat → Bool) (l : List UInt8) : partL op l l.length = showL op l := by
  unfold partL showL
  apply List.ext_getElem (by simp)
  intro i h1 h2
  simp at h1
  simp only [List.getElem_mapIdx]
  cases op i <;> simp [h1]
theorem partL_open (op : Nat → Bool) (l : List UInt8) (k : Nat) (h : op k = true) : partL op l (k + 1) = partL op l k := by
  unfold partL
  apply List.ext_getElem (by simp)
  intro i h1 h2
  simp only [List.getElem_mapIdx]
  by_cases e : i = k
  · subst e; simp [h]
  · simp only [show (i < k + 1) = (i < k) from propext (by omega)]
theorem partL_shut (op : Nat → Bool) (l : List UInt8) (k : Nat) (hk : k < l.length) (h : op k = false) : partL op l (k + 1) = (partL op l k).set k 63 := by
  unfold partL
  apply List.ext_getElem (by simp)
  intro i h1 h2
  simp only [List.getElem_mapIdx, List.getElem_set]
  by_cases e : i = k
  · subst e; simp [h]
  · rw [if_neg (Ne.symm e)]
    simp only [show (i < k + 1) = (i < k) from propext (by omega)]
/-- The rows as they are seen, op telling which cells are open (column, row). -/
def showRows (op : Nat → Nat → Bool) (p : List ByteArray) : List ByteArray := p.mapIdx fun y row => ⟨(showL (fun x => op x y) row.data.toList).toArray⟩
theorem showRows_length (op : Nat → Nat → Bool) (p : List ByteArray) : (showRows op p).length = p.length := by unfold showRows; simp
theorem showRows_take (op : Nat → Nat → Bool) (p : List ByteArray) (k : Nat) (h : k < p.length) : (showRows op p).take (k + 1) = (showRows op p).take k ++ [⟨(showL (fun x => op x k) (p.getD k ByteArray.empty).data.toList).toArray⟩] := by
  have h2 : k < (showRows op p).length := by rw [showRows_length]; exact h
  have e : (showRows op p)[k]'h2 = ⟨(showL (fun x => op x k) (p.getD k ByteArray.empty).data.toList).toArray⟩ := by
    have : p.getD k ByteArray.empty = p[k] := by simp [List.getD_eq_getElem?_getD, List.getElem?_eq_getElem h]
    rw [this]
    simp only [showRows, List.getElem_mapIdx]
  rw [List.take_succ_eq_append_getElem h2, e]

theorem info9' : (Tryd.prog.info? 9).map (fun i => (i.zero, i.size, i.bytes)) = some (some (.string ⟨#[]⟩), 1, 16) := by kernel_rfl

set_option maxHeartbeats 4000000 in
set_option maxRecDepth 100000 in
theorem show_calls (A0 : Option Addr) (c0 : Nat) (l0 : List ByteArray) (A1 : Option Addr) (c1 : Nat) (p : List ByteArray) (sx sy : Int) (op : Nat → Nat → Bool) (w : World)
    (hr0 : Kd.C Kd.string w A0 l0.length l0) (hc0 : l0.length ≤ c0) (hr1 : Kd.C Kd.string w A1 p.length p) (hc1 : p.length ≤ c1) (hn : p.length ≤ 1000000) (hsz : ∀ y, y < p.length → (p.getD y ByteArray.empty).size ≤ 1000000)
    (hop : ∀ y, y < p.length → ∀ x, x < (p.getD y ByteArray.empty).size → lattice_grid_open.f l0 sx sy (x : Int) (y : Int) = some (op x y)) :
    Calls Tryd.prog 24 #[.slice A0 l0.length c0, .slice A1 p.length c1, .agg #[.int .i64 sx, .int .i64 sy]] w fun e w' => ∃ v, e = .returned v ∧ Kd.R Kd.string 9 w' w.heap.size (fun _ => True) v (showRows op p) ∧ Below w.heap.size w w' := by
  have HR0 := Aside0.mk hr0
  have HC0 := Aside0.mk hc0
  have HR1 := Aside0.mk hr1
  have HSZ := Aside0.mk hsz
  have HOP := Aside0.mk hop
  have HN := Aside0.mk hn
  obtain ⟨n, hnl⟩ : ∃ n, p.length = n := ⟨_, rfl⟩
  have HNL := Aside0.mk hnl
  rw [hnl] at hn HR1 hc1 ⊢
  clear hr0 hr1 hsz hop hnl hc0
  go_enter Tryd.func24, Tryd.ntmps24
  go_wp2
  go_loopg [6, 13] n (fun gg v6 v13 wr => ∃ k : Nat, k ≤ n ∧ n - k ≤ gg ∧ v13 = .int .i64 k ∧ Aside0 (Kd.R Kd.string 9 wr w.heap.size (fun _ => True) v6 ((showRows op p).take k)) ∧ Aside0 (Below w.heap.size w wr) ∧ Aside0 (wr.heap[w.heap.size]? = some (.cells #[.int .i64 sx, .int .i64 sy] 26 (0, 0))))
  case atStart => exact ⟨0, Nat.zero_le _, by omega, rfl, ⟨by rw [List.take_zero]; exact Kd.R_nil _ _ _ _ _⟩, ⟨below_alloc (Below.refl _ _) _⟩, ⟨blk_new w _⟩⟩
  case round =>
    obtain ⟨k, hk, hg, rfl, HO, HB, HK⟩ := hrel
    by_cases hlt : k < n
    · have hlti : (k : Int) < (n : Int) := by omega
      obtain ⟨ad, rfl, hcell⟩ := Kd.at_string (Kd.C_below HR1.out HB.out) (k : Int) (by omega) hlti
      rw [Int.toNat_natCast] at hcell
      have e0 : rdOf ByteArray.empty p (k : Int) = p.getD k ByteArray.empty := by unfold rdOf; rw [Int.toNat_natCast]
      rw [e0] at hcell
      have HSK := Aside0.mk (HSZ.out k (by rw [HNL.out]; exact hlt))
      have HOK := Aside0.mk (HOP.out k (by rw [HNL.out]; exact hlt))
      have HTK := Aside0.mk (showRows_take op p k (by rw [HNL.out]; exact hlt))
      generalize hrow : p.getD k ByteArray.empty = row at hcell HSK HOK HTK
      clear hrow e0
      have kb := fun W => print_bytes (P := Tryd.prog) 9 28 5 Tryd.underlying9 Tryd.underlying28 Tryd.underlying5 row W
      have hdl : row.data.toList.length = row.size := by rw [Array.length_toList]; rfl
      have HDL := Aside0.mk hdl
      clear hdl
      have hszk : row.size ≤ 1000000 := HSK.out
      obtain ⟨wo, rfl⟩ : ∃ wo : World, wo = wr := ⟨_, rfl⟩
      go_wp2
      go_loopg [22] row.size (fun gg2 v22 wr2 => ∃ x : Nat, x ≤ row.size ∧ row.size - x ≤ gg2 ∧ v22 = .int .i64 x ∧ Aside0 (BB wr2 wo.heap.size (partL (fun x => op x k) row.data.toList x)) ∧ Aside0 (Below wo.heap.size wo wr2))
      case atStart => exact ⟨0, Nat.zero_le _, by omega, rfl, ⟨by rw [partL_zero]; exact BB.new wo row⟩, ⟨bytes_below (Below.refl _ _) (Nat.le_refl _) _ row⟩⟩
      case round =>
        obtain ⟨x, hx, hg2, rfl, HBB, HB2⟩ := hrel
        clear kb hcell
        by_cases hxl : x < row.size
        · have hxi : (x : Int) < (row.size : Int) := by omega
          have HK2 := blk_below HK.out HB2.out
          have hz0 : _ = some (Value.int .i64 sx) := (blk_cell HK2 0).trans rfl
          have hz1 : _ = some (Value.int .i64 sy) := (blk_cell HK2 1).trans rfl
          have HRW := Aside0.mk (Kd.C_below HR0.out (later_below HB.out HB2.out))
          have HOX := Aside0.mk (HOK.out x hxl)
          have HXL : Aside0 (x < (partL (fun x => op x k) row.data.toList x).length) := ⟨by rw [partL_length, HDL.out]; exact hxl⟩
          clear HK2
          obtain ⟨q, hq⟩ : ∃ q, op x k = q := ⟨_, rfl⟩
          rw [hq] at HOX
          have HQ := Aside0.mk hq
          clear hq
          cases q with
          | true =>
            go_wp2_with (go_at_call 42; refine (lattice_grid_open.calls _ _ l0 sx sy (x : Int) (k : Int) true _ HRW.out HC0.out HOX.out).mono ?_; rintro e w3 ⟨rfl, hb3⟩; have HB3 := Aside0.mk hb3; clear hb3)
            go_roundg (row.size - (x + 1))
            case measure => omega
            case rel => exact ⟨x + 1, by omega, by omega, by go_num, ⟨by rw [partL_open (fun x => op x k) _ _ HQ.out]; exact HBB.out.below HB3.out⟩, ⟨later_below HB2.out HB3.out⟩⟩
          | false =>
            go_wp2_with (go_at_call 42; refine (lattice_grid_open.calls _ _ l0 sx sy (x : Int) (k : Int) false _ HRW.out HC0.out HOX.out).mono ?_; rintro e w3 ⟨rfl, hb3⟩; have HB3 := Aside0.mk hb3; have hc3 := (HBB.out.below hb3).cell HXL.out; have hf3 := (HBB.out.below hb3).free HXL.out; clear hb3)
            go_roundg (row.size - (x + 1))
            case measure => omega
            case rel => exact ⟨x + 1, by omega, by omega, by go_num, ⟨by rw [partL_shut (fun x => op x k) _ _ (by rw [HDL.out]; exact hxl) HQ.out]; exact (HBB.out.below HB3.out).set x 63⟩, ⟨(later_below HB2.out HB3.out).setCell (Nat.le_refl _) _⟩⟩
        · have hxi : ¬ (x : Int) < (row.size : Int) := by omega
          have hxd : decide (x < row.size) = false := decide_eq_false hxl
          obtain rfl : x = row.size := by omega
          have HEND : Aside0 (BB wr wo.heap.size (showL (fun x => op x k) row.data.toList)) := ⟨by have := HBB.out; rw [← HDL.out, partL_end] at this; exact this⟩
          have ks : ∀ c, (convert 28 9 (.slice (some ⟨wo.heap.size, 0, none⟩) row.size c)).run Tryd.prog wr = .ok (.string ⟨(showL (fun x => op x k) row.data.toList).toArray⟩) wr := fun c => by
            have := BB.string (c := c) Tryd.underlying28 Tryd.underlying9 HEND.out
            rwa [show (showL (fun x => op x k) row.data.toList).length = row.size from by unfold showL; rw [List.length_mapIdx, HDL.out]] at this
          have HOB := Aside0.mk (Kd.R_below HO.out HB2.out)
          have HBB' := Aside0.mk (later_below HB.out HB2.out)
          have HKB := Aside0.mk (blk_below HK.out HB2.out)
          have HLEN : Aside0 (((showRows op p).take k).length = k) := ⟨by rw [List.length_take, showRows_length, HNL.out]; omega⟩
          generalize hnew : (⟨(showL (fun x => op x k) row.data.toList).toArray⟩ : ByteArray) = nrow at ks HTK
          clear hnew hxi hxd hxl hx hg2 HBB HB2 HEND
          go_wp2_with (at_builtin; refine Kd.R_append Kd.string (w0 := w) w.heap.size rfl (.tmp 35) (.tmp 38) 33 9 (.string ⟨#[]⟩) 16 rfl Tryd.underlying33 info9' rfl (by decide) (by omega) _ _ nrow [.string nrow] (fun _ => True) (fun _ => False) rfl rfl rfl (fun _ hk => hk.elim) (fun _ _ => trivial) HOB.out HBB'.out (below_size HBB'.out) (by rw [HLEN.out]; omega) ?_; intro v1 w5 ho hb hg5 hat; have HO5 := Aside0.mk ho; have HB5 := Aside0.mk hb; have HK5 := Aside0.mk (blk_grown HKB.out hg5 (Kd.R_ne HOB.out HKB.out (by decide))); clear ho hb hg5 hat)
          go_roundg (n - (k + 1))
          case measure => omega
          case rel => exact ⟨k + 1, by omega, by omega, by go_num, ⟨by rw [HTK.out]; exact HO5.out⟩, ⟨HB5.out⟩, ⟨HK5.out⟩⟩
    · have hlti : ¬ (k : Int) < (n : Int) := by omega
      obtain rfl : k = n := by omega
      have HE : Aside0 ((showRows op p).take k = showRows op p) := ⟨List.take_of_length_le (by rw [showRows_length, HNL.out]; exact Nat.le_refl _)⟩
      go_wp2
      go_ret
      exact ⟨_, rfl, by rw [← HE.out]; exact HO.out, HB.out⟩
end Go.Proofs.YtpnflmaagncbkaaDoor.X
end
section
/- Package lattice: first; Show. -/
namespace Go.Proofs.YtpnflmaagncbkaaDoor.X
open Go.RowKit Go.Proofs.YtpnflmaagncbkaaDoorW.PrintWords Go.Proofs.YtpnflmaagncbkaaDoorW.PrintLast Go.Proofs.YtpnflmaagncbkaaDoorW.PrintMore Go.Proofs.YtpnflmaagncbkaaDoor.PLat

/-- The first number of some that is not 0. -/
def firstErr (es : Nat → Int) : Nat → Int
  | 0 => 0
  | n + 1 => if firstErr es n = 0 then es n else firstErr es n
theorem firstErr_zero (es : Nat → Int) (n : Nat) (h : ∀ j, j < n → es j = 0) : firstErr es n = 0 := by
  induction n with
  | zero => rfl
  | succ n ih =>
    unfold firstErr
    rw [if_pos (ih fun j hj => h j (by omega))]
    exact h n (by omega)
theorem firstErr_hit (es : Nat → Int) (n k : Nat) (hk : k < n) (h : ∀ j, j < k → es j = 0) (hne : es k ≠ 0) : firstErr es n = es k := by
  induction n with
  | zero => omega
  | succ n ih =>
    unfold firstErr
    by_cases e : k = n
    · subst e
      rw [if_pos (firstErr_zero es k h)]
    · rw [ih (by omega), if_neg hne]

set_option maxHeartbeats 2000000 in
theorem first_calls (n c : Nat) (fs : Nat → FuncId) (caps : Nat → Array Value) (es : Nat → Int) (ad : Addr) (w : World) (hn : n ≤ 1000)
    (hcell : ∀ i, i < n → w.cell? (ad.add i) = some (.func (.func (fs i)) #[] (caps i)))
    (hent : ∀ i, i < n → ∀ args w, (callFunc (fs i) args).run Tryd.prog w = .ok (.enter (fs i) args) w)
    (hth : ∀ i, i < n → (∀ j, j < i → es j = 0) → ∀ W, Below w.heap.size w W → Calls Tryd.prog (fs i) (caps i) W fun e W' => e = .returned (.int .i64 (es i)) ∧ Below W.heap.size W W') :
    Calls Tryd.prog 25 #[.slice (some ad) n c] w fun e w' => e = .returned (.int .i64 (firstErr es n)) ∧ Below w.heap.size w w' := by
  have HC := Aside0.mk hcell
  have HE := Aside0.mk hent
  have HT := Aside0.mk hth
  clear hcell hent hth
  go_enter Tryd.func25, Tryd.ntmps25
  go_wp2
  go_loopg [8] n (fun gg v8 wr => ∃ k : Nat, k ≤ n ∧ n - k ≤ gg ∧ v8 = .int .i64 k ∧ Aside0 (Below w.heap.size w wr) ∧ Aside0 (∀ j, j < k → es j = 0))
  case atStart => exact ⟨0, Nat.zero_le _, by omega, rfl, ⟨Below.refl _ _⟩, ⟨fun j h => absurd h (Nat.not_lt_zero _)⟩⟩
  case round =>
    obtain ⟨k, hk, hg, rfl, HB, HZ⟩ := hrel
    by_cases hlt : k < n
    · have hlti : (k : Int) < (n : Int) := by omega
      have hc0 := pw_cell_below HB.out (HC.out k hlt)
      have heg := HE.out k hlt
      have hcall := HT.out k hlt HZ.out wr HB.out
      have HF : Aside0 (es k = es k) := ⟨rfl⟩
      obtain ⟨g, hgg⟩ : ∃ g, fs k = g := ⟨_, rfl⟩
      obtain ⟨cp, hcp⟩ : ∃ cp, caps k = cp := ⟨_, rfl⟩
      obtain ⟨ev, hev⟩ : ∃ ev, es k = ev := ⟨_, rfl⟩
      rw [hgg, hcp] at hc0 hcall
      rw [hgg] at heg
      rw [hev] at hcall
      have HEV := Aside0.mk hev
      have HCC := Aside0.mk hcall
      clear hgg hcp hev hcall HF
      by_cases hz : ev = 0
      · subst hz
        go_wp2_with (go_at_fn g; refine HCC.out.mono ?_; rintro e w1 ⟨rfl, hb1⟩)
        go_roundg (n - (k + 1))
        case measure => omega
        case rel =>
          refine ⟨k + 1, by omega, by omega, by go_num, ⟨later_below HB.out hb1⟩, ⟨fun j hj => ?_⟩⟩
          by_cases e : j = k
          · subst e; exact HEV.out
          · exact HZ.out j (by omega)
      · have hz1 : (ev == 0) = false := beq_eq_false_iff_ne.2 hz
        have hz2 : (ev != 0) = true := bne_iff_ne.2 hz
        have HH := Aside0.mk (firstErr_hit es n k hlt HZ.out (by rw [HEV.out]; exact hz))
        clear hz
        go_wp2_with (go_at_fn g; refine HCC.out.mono ?_; rintro e w1 ⟨rfl, hb1⟩)
        go_ret
        refine ⟨?_, later_below HB.out hb1⟩
        rw [HH.out, HEV.out]
        rfl
    · have hlti : ¬ (k : Int) < (n : Int) := by omega
      obtain rfl : k = n := by omega
      have HH := Aside0.mk (firstErr_zero es k HZ.out)
      go_wp2
      go_ret
      refine ⟨?_, HB.out⟩
      rw [HH.out]
      rfl

/-! ### Lattices, pictures -/
/-- What checked asks of rows, met. -/
structure Rows (rows : List ByteArray) (high wide : Nat) (among : ByteArray) (n0 : Nat) : Prop where
  len1 : 1 ≤ rows.length
  len2 : rows.length ≤ high
  w1 : 1 ≤ n0
  w2 : n0 ≤ wide
  size : ∀ y, y < rows.length → (rows.getD y ByteArray.empty).size = n0
  among : ∀ r ∈ rows, ∀ b ∈ r.data.toList, inSet among b.toNat = true
theorem rows_of {rows : List ByteArray} {high wide : Nat} {among : ByteArray} (h : checkedF rows high wide among = 0) : Rows rows high wide among (rows.getD 0 ByteArray.empty).size := by
  unfold checkedF at h
  split at h
  · omega
  · rename_i h1
    split at h
    · omega
    · rename_i h2
      split at h
      · omega
      · rename_i h3
        simp only [Bool.not_eq_false, Bool.and_eq_true, decide_eq_true_eq] at h1
        have hs : ∀ y, y < rows.length → isShort wide (rows.getD 0 ByteArray.empty).size (rows.getD y ByteArray.empty) = false := by
          intro y hy
          cases hq : isShort (wide : Int) (rows.getD 0 ByteArray.empty).size (rows.getD y ByteArray.empty) with
          | false => rfl
          | true => exact absurd (List.any_eq_true.2 ⟨_, getD_mem rfl hy, hq⟩) h2
        have hs2 : ∀ y, y < rows.length → 1 ≤ (rows.getD y ByteArray.empty).size ∧ (rows.getD y ByteArray.empty).size ≤ wide ∧ (rows.getD y ByteArray.empty).size = (rows.getD 0 ByteArray.empty).size := by
          intro y hy
          have := hs y hy
          unfold isShort at this
          simp only [Bool.or_eq_false_iff, Bool.not_eq_false', Bool.and_eq_true, decide_eq_true_eq, beq_iff_eq] at this
          omega
        refine ⟨by omega, by omega, (hs2 0 (by omega)).1, (hs2 0 (by omega)).2.1, fun y hy => (hs2 y hy).2.2, fun r hr b hb => ?_⟩
        cases hq : isOther among r with
        | true => exact absurd (List.any_eq_true.2 ⟨r, hr, hq⟩) h3
        | false =>
          unfold isOther at hq
          simp only [Bool.not_eq_false', List.all_eq_true] at hq
          exact hq b hb
theorem of_rows {rows : List ByteArray} {high wide : Nat} {among : ByteArray} {n0 : Nat} (h : Rows rows high wide among n0) : checkedF rows high wide among = 0 := by
  have h0 : (rows.getD 0 ByteArray.empty).size = n0 := h.size 0 (by have := h.len1; omega)
  unfold checkedF
  rw [if_neg, if_neg, if_neg]
  · rw [List.any_eq_true]
    rintro ⟨r, hr, hq⟩
    unfold isOther at hq
    simp only [Bool.not_eq_true', List.all_eq_false] at hq
    obtain ⟨b, hb, hq⟩ := hq
    exact hq (h.among r hr b hb)
  · rw [List.any_eq_true]
    rintro ⟨r, hr, hq⟩
    obtain ⟨y, hy, rfl⟩ := List.mem_iff_getElem.1 hr
    have hz := h.size y hy
    rw [List.getD_eq_getElem?_getD, List.getElem?_eq_getElem hy] at hz
    simp only [Option.getD_some] at hz
    unfold isShort at hq
    rw [h0, hz] at hq
    have := h.w1
    have := h.w2
    simp at hq
    omega
  · have := h.len1
    have := h.len2
    simp
    omega

theorem wrap_id {a : Int} (h1 : -1000000000000 ≤ a) (h2 : a ≤ 1000000000000) : wrap64 a = a := by unfold wrap64; omega
/-- A cell is open: the lattice has a gap there. -/
def openB (l : List ByteArray) (sx sy : Int) (x y : Nat) : Bool :=
  let row := l.getD ((((y : Int) + l.length - sy) % l.length).toNat) ByteArray.empty
  bt row (((x : Int) + row.size - sx) % row.size) == 46
theorem mod_part {x n s : Int} (hn : 0 < n) (hn2 : n ≤ 1000) (h0 : 0 ≤ s) (h1 : s < n) (hx : 0 ≤ x) (hx2 : x ≤ 1000) :
    ∃ i, (x + n - s) % n = i ∧ Int.tmod (wrap64 (wrap64 (x + n) - s)) n = i ∧ 0 ≤ i ∧ i < n := by
  refine ⟨_, rfl, ?_, Int.emod_nonneg _ (by omega), Int.emod_lt_of_pos _ hn⟩
  rw [wrap_id (a := x + n) (by omega) (by omega), wrap_id (a := x + n - s) (by omega) (by omega)]
  exact Int.tmod_eq_emod_of_nonneg (by omega)
theorem open_f {l : List ByteArray} {among : ByteArray} {n0 : Nat} (h : Rows l 4 4 among n0) {sx sy : Int} (hx0 : 0 ≤ sx) (hx1 : sx < n0) (hy0 : 0 ≤ sy) (hy1 : sy < l.length) {x y : Nat} (hx : x ≤ 1000) (hy : y ≤ 1000) :
    lattice_grid_open.f l sx sy (x : Int) (y : Int) = some (openB l sx sy x y) := by
  have h1 := h.len1
  have h2 := h.len2
  have h3 := h.w1
  have h4 := h.w2
  obtain ⟨iy, e1, e2, e3, e4⟩ := mod_part (x := (y : Int)) (n := (l.length : Int)) (s := sy) (by omega) (by omega) hy0 hy1 (by omega) (by omega)
  have hsz := h.size iy.toNat (by omega)
  obtain ⟨ix, g1, g2, g3, g4⟩ := mod_part (x := (x : Int)) (n := ((l.getD iy.toNat ByteArray.empty).size : Int)) (s := sx) (by omega) (by omega) hx0 (by omega) (by omega) (by omega)
  have hl0 : ¬ (l.length : Int) = 0 := by omega
  have hr0 : ¬ ((l.getD iy.toNat ByteArray.empty).size : Int) = 0 := by omega
  have er : rdOf ByteArray.empty l iy = l.getD iy.toNat ByteArray.empty := rfl
  unfold lattice_grid_open.f openB
  rw [if_neg hl0, e2, if_pos e3, if_pos e4, er, if_neg hr0, g2, if_pos g3, if_pos g4]
  simp only [e1, g1]

/-- A shift of a lattice. -/
def shiftB (l : List ByteArray) (sx sy : Int) : Bool := (decide (0 ≤ sx) && decide (sx < (l.getD 0 ByteArray.empty).size)) && (decide (0 ≤ sy) && decide (sy < l.length))
theorem isShift_f {l : List ByteArray} {among : ByteArray} {n0 : Nat} (h : Rows l 4 4 among n0) (sx sy : Int) : lattice_grid_isShift.f l sx sy = some (shiftB l sx sy) := by
  have h1 := h.len1
  have h2 := h.len2
  have h4 := h.w2
  have h0 : (l.getD 0 ByteArray.empty).size = n0 := h.size 0 (by omega)
  have er : rdOf ByteArray.empty l 0 = l.getD 0 ByteArray.empty := rfl
  have e1 : wrap64 ((n0 : Int) - 1) = (n0 : Int) - 1 := by unfold wrap64; omega
  have e2 : wrap64 ((l.length : Int) - 1) = (l.length : Int) - 1 := by unfold wrap64; omega
  unfold lattice_grid_isShift.f lattice_within.f shiftB
  rw [er, h0, e1, e2]
  rw [if_pos (by omega)]
  simp only [Option.bind_some, List.all_cons, List.all_nil, Bool.and_true]
  have a1 : decide (sx ≤ (n0 : Int) - 1) = decide (sx < (n0 : Int)) := by rw [decide_eq_decide]; omega
  have a2 : decide (sy ≤ (l.length : Int) - 1) = decide (sy < (l.length : Int)) := by rw [decide_eq_decide]; omega
  rw [a1, a2]
  cases (decide (0 ≤ sx) && decide (sx < (n0 : Int))) <;> simp
end Go.Proofs.YtpnflmaagncbkaaDoor.X
end
section
/- Package lattice: Show. -/
namespace Go.Proofs.YtpnflmaagncbkaaDoor.X
open Go.RowKit Go.Proofs.YtpnflmaagncbkaaDoorW.PrintWords Go.Proofs.YtpnflmaagncbkaaDoorW.PrintLast Go.Proofs.YtpnflmaagncbkaaDoorW.PrintMore Go.Proofs.YtpnflmaagncbkaaDoor.PLat

def checkE (p : List ByteArray) : Int := checkedF p 8 8 ⟨#[48, 49, 50, 51]⟩
def barsE (l : List ByteArray) : Int := checkedF l 4 4 ⟨#[46, 35]⟩
def seenE (p : List ByteArray) : Int := checkedF p 8 8 ⟨#[48, 49, 50, 51, 63]⟩

theorem enters_show1 : ∀ args w, (callFunc 26 args).run Tryd.prog w = .ok (.enter 26 args) w := enters_of Tryd.func26 (by kernel_rfl) rfl
theorem enters_show2 : ∀ args w, (callFunc 27 args).run Tryd.prog w = .ok (.enter 27 args) w := enters_of Tryd.func27 (by kernel_rfl) rfl
theorem enters_show3 : ∀ args w, (callFunc 28 args).run Tryd.prog w = .ok (.enter 28 args) w := enters_of Tryd.func28 (by kernel_rfl) rfl

theorem show1_calls {g : Nat} {A : Option Addr} {c : Nat} {p : List ByteArray} {w : World} (hc : w.cell? ⟨g, 0, none⟩ = some (.slice A p.length c)) (hr : Kd.C Kd.string w A p.length p) (hl : p.length ≤ c) (hT : Tabs w) :
    Calls Tryd.prog 26 #[.pointer (some ⟨g, 0, none⟩)] w fun e w' => e = .returned (.int .i64 (checkE p)) ∧ Below w.heap.size w w' := by
  have HR := Aside0.mk hr
  have HT := Aside0.mk hT
  clear hr hT
  go_enter Tryd.func26, Tryd.ntmps26
  go_wp2_with (go_at_call 17; refine (lattice_Check.calls A c p _ _ HR.out hl rfl HT.out).mono ?_; rintro e w' ⟨rfl, hb⟩)
  go_ret
  exact ⟨rfl, hb⟩
theorem show2_calls {g : Nat} {A : Option Addr} {c : Nat} {p : List ByteArray} {w : World} (hc : w.cell? ⟨g, 0, none⟩ = some (.slice A p.length c)) (hr : Kd.C Kd.string w A p.length p) (hl : p.length ≤ c) (hT : Tabs w) :
    Calls Tryd.prog 27 #[.pointer (some ⟨g, 0, none⟩)] w fun e w' => e = .returned (.int .i64 (barsE p)) ∧ Below w.heap.size w w' := by
  have HR := Aside0.mk hr
  have HT := Aside0.mk hT
  clear hr hT
  go_enter Tryd.func27, Tryd.ntmps27
  go_wp2_with (go_at_call 21; refine (lattice_Bars.calls A c p _ _ HR.out hl rfl HT.out).mono ?_; rintro e w' ⟨rfl, hb⟩)
  go_ret
  exact ⟨rfl, hb⟩
theorem show3_calls {g1 g2 : Nat} {A : Option Addr} {c : Nat} {l : List ByteArray} {sx sy : Int} {w : World} (hc : w.cell? ⟨g1, 0, none⟩ = some (.slice A l.length c)) (h2 : w.heap[g2]? = some (.cells #[.int .i64 sx, .int .i64 sy] 26 (0, 0))) (hr : Kd.C Kd.string w A l.length l) (hl : l.length ≤ c) (hb : barsE l = 0) :
    Calls Tryd.prog 28 #[.pointer (some ⟨g1, 0, none⟩), .pointer (some ⟨g2, 0, none⟩)] w fun e w' => e = .returned (.int .i64 (if shiftB l sx sy = true then 0 else 3)) ∧ Below w.heap.size w w' := by
  have HR := Aside0.mk hr
  have HS := Aside0.mk (isShift_f (rows_of (high := 4) (wide := 4) hb) sx sy)
  have hz0 : _ = some (Value.int .i64 sx) := (blk_cell h2 0).trans rfl
  have hz1 : _ = some (Value.int .i64 sy) := (blk_cell h2 1).trans rfl
  clear hr hb h2
  obtain ⟨q, hq⟩ : ∃ q, shiftB l sx sy = q := ⟨_, rfl⟩
  rw [hq] at HS ⊢
  clear hq
  cases q with
  | true =>
    go_enter Tryd.func28, Tryd.ntmps28
    go_wp2_with (first | (go_at_call 12; refine (lattice_grid_isShift.calls A c l sx sy true _ HR.out hl HS.out).mono ?_; rintro e w1 ⟨rfl, hb1⟩; have HB1 := Aside0.mk hb1; clear hb1) | (go_at_call 29; refine (lattice_unless.calls true 3 0 _ rfl).mono ?_; rintro e w2 ⟨rfl, hd⟩; have HB2 := Aside0.mk (later_below HB1.out hd.below); clear hd))
    go_ret
    exact ⟨rfl, HB2.out⟩
  | false =>
    go_enter Tryd.func28, Tryd.ntmps28
    go_wp2_with (first | (go_at_call 12; refine (lattice_grid_isShift.calls A c l sx sy false _ HR.out hl HS.out).mono ?_; rintro e w1 ⟨rfl, hb1⟩; have HB1 := Aside0.mk hb1; clear hb1) | (go_at_call 29; refine (lattice_unless.calls false 3 3 _ rfl).mono ?_; rintro e w2 ⟨rfl, hd⟩; have HB2 := Aside0.mk (later_below HB1.out hd.below); clear hd))
    go_ret
    exact ⟨rfl, HB2.out⟩

/-- Show. -/
def showE (p l : List ByteArray) (sx sy : Int) : Int := if checkE p = 0 then if barsE l = 0 then if shiftB l sx sy = true then 0 else 3 else barsE l else checkE p
def lattice_Show.f (l0 : List ByteArray) (l1 : List ByteArray) (a2_0 : Int) (a2_1 : Int) : Option (List ByteArray × Int) :=
  some (if showE l0 l1 a2_0 a2_1 = 0 then showRows (openB l1 a2_0 a2_1) l0 else [], showE l0 l1 a2_0 a2_1)

def show_fs : Nat → FuncId
  | 0 => 26
  | 1 => 27
  | _ => 28
def show_caps (g : Nat) : Nat → Array Value
  | 0 => #[.pointer (some ⟨g, 0, none⟩)]
  | 1 => #[.pointer (some ⟨g + 1, 0, none⟩)]
  | _ => #[.pointer (some ⟨g + 1, 0, none⟩), .pointer (some ⟨g + 1 + 1, 0, none⟩)]
def show_es (p l : List ByteArray) (sx sy : Int) : Nat → Int
  | 0 => checkE p
  | 1 => barsE l
  | _ => if shiftB l sx sy = true then 0 else 3
theorem show_first (p l : List ByteArray) (sx sy : Int) : firstErr (show_es p l sx sy) 3 = showE p l sx sy := by
  unfold showE
  simp only [firstErr, show_es, if_true]
  by_cases h1 : checkE p = 0
  · by_cases h2 : barsE l = 0 <;> simp [h1, h2]
  · simp [h1]
theorem rows_big {rows : List ByteArray} {high wide : Nat} {among : ByteArray} {n0 : Nat} (h : Rows rows high wide among n0) (hh : high ≤ 8) (hw : wide ≤ 8) : rows.length ≤ 1000000 ∧ ∀ y, y < rows.length → (rows.getD y ByteArray.empty).size ≤ 1000000 :=
  ⟨by have := h.len2; omega, fun y hy => by have := h.size y hy; have := h.w2; omega⟩
theorem open_all {p l : List ByteArray} {a1 a2 : ByteArray} {n0 n1 : Nat} {sx sy : Int} (hp : Rows p 8 8 a1 n0) (hl : Rows l 4 4 a2 n1) (hs : shiftB l sx sy = true) :
    ∀ y, y < p.length → ∀ x, x < (p.getD y ByteArray.empty).size → lattice_grid_open.f l sx sy (x : Int) (y : Int) = some (openB l sx sy x y) := by
  intro y hy x hx
  have h1 := hp.size y hy
  have h2 := hp.len2
  have h3 := hp.w2
  unfold shiftB at hs
  simp only [Bool.and_eq_true, decide_eq_true_eq] at hs
  have h0 := hl.size 0 (by have := hl.len1; omega)
  exact open_f hl hs.1.1 (by omega) hs.2.1 hs.2.2 (by omega) (by omega)

/-- The world behind Show's first two statements. -/
def showW (w : World) (A0 : Option Addr) (n0 c0 : Nat) (A1 : Option Addr) (n1 c1 : Nat) (sx sy : Int) : World :=
  (((w.alloc (.cells #[.slice A0 n0 c0] 33)).alloc (.cells #[.slice A1 n1 c1] 33)).alloc (.cells #[.int .i64 sx, .int .i64 sy] 26)).alloc
    (.cells #[.func (.func 26) #[] #[.pointer (some ⟨w.heap.size, 0, none⟩)], .func (.func 27) #[] #[.pointer (some ⟨w.heap.size + 1, 0, none⟩)],
      .func (.func 28) #[] #[.pointer (some ⟨w.heap.size + 1, 0, none⟩), .pointer (some ⟨w.heap.size + 1 + 1, 0, none⟩)]] 67)
section
variable (w : World) (A0 : Option Addr) (n0 c0 : Nat) (A1 : Option Addr) (n1 c1 : Nat) (sx sy : Int)
theorem showW_c0 : (showW w A0 n0 c0 A1 n1 c1 sx sy).cell? ⟨w.heap.size, 0, none⟩ = some (.slice A0 n0 c0) := keep_cell _ (keep_cell _ (keep_cell _ (box_cell _ _ _ rfl)))
theorem showW_c1 : (showW w A0 n0 c0 A1 n1 c1 sx sy).cell? ⟨w.heap.size + 1, 0, none⟩ = some (.slice A1 n1 c1) := keep_cell _ (keep_cell _ (box_cell _ _ _ (by simp)))
theorem showW_b2 : (showW w A0 n0 c0 A1 n1 c1 sx sy).heap[w.heap.size + 1 + 1]? = some (.cells #[.int .i64 sx, .int .i64 sy] 26 (0, 0)) := blk_alloc (one_blk _ _ (by simp)) _
theorem showW_below : Below w.heap.size w (showW w A0 n0 c0 A1 n1 c1 sx sy) := below_alloc (below_alloc (below_alloc (below_alloc (Below.refl _ _) _) _) _) _
theorem showW_f (i : Nat) (hi : i < 3) : (showW w A0 n0 c0 A1 n1 c1 sx sy).cell? ((⟨w.heap.size + 1 + 1 + 1, 0, none⟩ : Addr).add i) = some (.func (.func (show_fs i)) #[] (show_caps w.heap.size i)) := by
  rw [add_plain]
  have hb : (showW w A0 n0 c0 A1 n1 c1 sx sy).heap[w.heap.size + 1 + 1 + 1]? = _ := one_blk _ _ (by simp)
  rw [blk_cell hb i]
  match i, hi with
  | 0, _ => rfl
  | 1, _ => rfl
  | 2, _ => rfl
end

set_option maxHeartbeats 4000000 in
set_option maxRecDepth 100000 in
theorem lattice_Show.calls (A0 : Option Addr) (c0 : Nat) (l0 : List ByteArray) (A1 : Option Addr) (c1 : Nat) (l1 : List ByteArray) (a2_0 : Int) (a2_1 : Int) (r1 : List ByteArray) (r2 : Int) (w : World) (hr0 : Kd.C Kd.string w A0 l0.length l0) (hc0 : l0.length ≤ c0) (hr1 : Kd.C Kd.string w A1 l1.length l1) (hc1 : l1.length ≤ c1) (h : lattice_Show.f l0 l1 a2_0 a2_1 = some (r1, r2)) (hT : Tabs w) :
    Calls Tryd.prog 14 #[.slice A0 l0.length c0, .slice A1 l1.length c1, .agg #[.int .i64 a2_0, .int .i64 a2_1]] w fun e w' => ∃ v0_ : Value, e = .returned (.tuple #[v0_, .int .i64 r2]) ∧ Kd.R Kd.string 9 w' w.heap.size (fun _ => True) v0_ r1 ∧ Below w.heap.size w w' := by
  have h' := Option.some.inj h
  have e2 : showE l0 l1 a2_0 a2_1 = r2 := congrArg Prod.snd h'
  have e1 : (if showE l0 l1 a2_0 a2_1 = 0 then showRows (openB l1 a2_0 a2_1) l0 else []) = r1 := congrArg Prod.fst h'
  rw [e2] at e1
  have HR0 := Aside0.mk hr0
  have HR1 := Aside0.mk hr1
  have HT := Aside0.mk hT
  have HC0 := Aside0.mk hc0
  have HC1 := Aside0.mk hc1
  have HE1 := Aside0.mk e1
  have HE2 := Aside0.mk e2
  have HF := Aside0.mk ((show_first l0 l1 a2_0 a2_1).trans e2)
  clear hr0 hr1 hT h h' e1 e2 hc0 hc1
  go_enter Tryd.func14, Tryd.ntmps14
  go_wp2_with fail
  refine (first_calls 3 3 show_fs (show_caps w.heap.size) (show_es l0 l1 a2_0 a2_1) ⟨w.heap.size + 1 + 1 + 1, 0, none⟩ (showW w A0 l0.length c0 A1 l1.length c1 a2_0 a2_1) (by decide) (showW_f w A0 l0.length c0 A1 l1.length c1 a2_0 a2_1) ?_ ?_).mono ?_
  · intro i hi
    match i, hi with
    | 0, _ => exact enters_show1
    | 1, _ => exact enters_show2
    | 2, _ => exact enters_show3
  · intro i hi hz W hW
    have hW0 := later_below (showW_below w A0 l0.length c0 A1 l1.length c1 a2_0 a2_1) hW
    have k0 := pw_cell_below hW (showW_c0 w A0 l0.length c0 A1 l1.length c1 a2_0 a2_1)
    have k1 := pw_cell_below hW (showW_c1 w A0 l0.length c0 A1 l1.length c1 a2_0 a2_1)
    match i, hi, hz with
    | 0, _, _ => exact show1_calls k0 (Kd.C_below HR0.out hW0) HC0.out (HT.out.below hW0)
    | 1, _, _ => exact show2_calls k1 (Kd.C_below HR1.out hW0) HC1.out (HT.out.below hW0)
    | 2, _, hz => exact show3_calls k1 (blk_below (showW_b2 w A0 l0.length c0 A1 l1.length c1 a2_0 a2_1) hW) (Kd.C_below HR1.out hW0) HC1.out (hz 1 (by omega))
  rintro e w1 ⟨rfl, hb1⟩
  rw [HF.out]
  have HB1 := Aside0.mk (later_below (showW_below w A0 l0.length c0 A1 l1.length c1 a2_0 a2_1) hb1)
  have k0 := pw_cell_below hb1 (showW_c0 w A0 l0.length c0 A1 l1.length c1 a2_0 a2_1)
  have k1 := pw_cell_below hb1 (showW_c1 w A0 l0.length c0 A1 l1.length c1 a2_0 a2_1)
  have kb := blk_below (showW_b2 w A0 l0.length c0 A1 l1.length c1 a2_0 a2_1) hb1
  have k2 : _ = some (Value.int .i64 a2_0) := (blk_cell kb 0).trans rfl
  have k3 : _ = some (Value.int .i64 a2_1) := (blk_cell kb 1).trans rfl
  clear hb1 kb
  by_cases hz : r2 = 0
  · subst hz
    have HE : Aside0 (checkE l0 = 0 ∧ barsE l1 = 0 ∧ shiftB l1 a2_0 a2_1 = true) := ⟨by
      have := HE2.out
      unfold showE at this
      split at this
      · split at this
        · split at this
          · exact ⟨by assumption, by assumption, by assumption⟩
          · omega
        · omega
      · omega⟩
    have HG := Aside0.mk (show_calls A1 c1 l1 A0 c0 l0 a2_0 a2_1 (openB l1 a2_0 a2_1) w1 (Kd.C_below HR1.out HB1.out) HC1.out (Kd.C_below HR0.out HB1.out) HC0.out (rows_big (rows_of (high := 8) (wide := 8) HE.out.1) (by decide) (by decide)).1 (rows_big (rows_of (high := 8) (wide := 8) HE.out.1) (by decide) (by decide)).2
      (open_all (rows_of (high := 8) (wide := 8) HE.out.1) (rows_of (high := 4) (wide := 4) HE.out.2.1) HE.out.2.2))
    go_wp2_with (go_at_call 24; refine HG.out.mono ?_; rintro e w2 ⟨v, rfl, hv, hb2⟩; have HV := Aside0.mk hv; have HB2 := Aside0.mk (later_below HB1.out hb2); clear hv hb2)
    go_ret2
    exact ⟨_, rfl, by rw [← HE1.out]; exact Kd.R_lower HV.out HB1.out.size, HB2.out⟩
  · have hz1 : (r2 == 0) = false := beq_eq_false_iff_ne.2 hz
    have hz2 : (r2 != 0) = true := bne_iff_ne.2 hz
    have HN : Aside0 (r1 = []) := ⟨by rw [← HE1.out, if_neg hz]⟩
    clear hz
    go_wp2
    go_ret2
    exact ⟨_, rfl, by rw [HN.out]; exact Kd.R_nil _ _ _ _ _, HB1.out⟩
end Go.Proofs.YtpnflmaagncbkaaDoor.X
end
section
/- Package lattice: openPictures: the error of pictures, and of a lattice. -/
namespace Go.Proofs.YtpnflmaagncbkaaDoor.X
open Go.RowKit Go.Proofs.YtpnflmaagncbkaaDoorW.PrintWords Go.Proofs.YtpnflmaagncbkaaDoorW.PrintLast Go.Proofs.YtpnflmaagncbkaaDoorW.PrintMore Go.Proofs.YtpnflmaagncbkaaDoor.PLat

def alikeB (a b : List ByteArray) : Bool := decide (a.length = b.length) && ((a.getD 0 ByteArray.empty).size == (b.getD 0 ByteArray.empty).size)
theorem alike_f {a b : List ByteArray} (ha : 0 < a.length) (_hb : 0 < b.length) : lattice_areAlike.f a b = some (alikeB a b) := by
  unfold lattice_areAlike.f alikeB
  by_cases h : a.length = b.length
  · rw [if_pos (by omega), if_pos (by omega), if_pos (by omega), decide_eq_true h, Bool.true_and]
    congr 1
    rw [Bool.eq_iff_iff, beq_iff_eq, beq_iff_eq]
    show ((a.getD (0 : Int).toNat ByteArray.empty).size : Int) = ((b.getD (0 : Int).toNat ByteArray.empty).size : Int) ↔ _
    exact Int.ofNat_inj
  · rw [if_neg (by omega), decide_eq_false h, Bool.false_and]
theorem enters_open1 : ∀ args w, (callFunc 19 args).run Tryd.prog w = .ok (.enter 19 args) w := enters_of Tryd.func19 (by kernel_rfl) rfl
set_option maxHeartbeats 4000000 in
theorem open1_pred {g1 c : Nat} {A : Option Addr} {l : List (List ByteArray)} {w : World} (h1 : w.cell? ⟨g1, 0, none⟩ = some (.slice A l.length c)) (hr : Kd.C (Kd.slice 9 Kd.string) w A l.length l) (hl : 0 < l.length) (hne : ∀ p ∈ l, 0 < p.length) :
    PredK 19 #[.pointer (some ⟨g1, 0, none⟩)] (Kd.slice 9 Kd.string) cell1 l (fun p => !alikeB p (l.getD 0 [])) w := by
  intro x hx W cs hb hK
  obtain ⟨Ax, cx, rfl, hlx, hCx⟩ := hK
  have k1 : W.cell? ⟨g1, 0, none⟩ = some (.slice A l.length c) := pw_cell_below hb h1
  have hlz : (0 : Int) < (l.length : Int) := by omega
  obtain ⟨ad, cs2, rfl, _, hK2, hcell⟩ := Kd.C_get (Kd.C_below hr hb) ([] : List ByteArray) 0 (by omega) hlz
  obtain ⟨A2, c2, rfl, hl2, hC2⟩ := hK2
  have s0 : W.cell? ad = some (.slice A2 (l.getD 0 []).length c2) := by
    have h := hcell 0 _ rfl
    rw [show ((0 : Int).toNat * (Kd.slice 9 Kd.string).sz + 0) = 0 from rfl, show ad.add 0 = ad from by simp [Addr.add]] at h
    exact h
  have h0 : 0 < (l.getD 0 []).length := hne _ (by
    rw [List.getD_eq_getElem?_getD, List.getElem?_eq_getElem hl]
    exact List.getElem_mem hl)
  have HC2 : Aside0 (Kd.C Kd.string W A2 (l.getD 0 []).length (l.getD 0 [])) := ⟨hC2⟩
  have HL2 : Aside0 ((l.getD 0 []).length ≤ c2) := ⟨hl2⟩
  have HCX := Aside0.mk hCx
  have HLX := Aside0.mk hlx
  have HF := Aside0.mk (alike_f (hne x hx) h0)
  simp only [cell1, List.getD_cons_zero]
  show Calls Tryd.prog 19 #[.slice Ax x.length cx, .pointer (some ⟨g1, 0, none⟩)] W _
  clear hb h1 hcell hC2 hl2 hCx hlx h0 hne hr hx
  generalize l.getD 0 [] = y at s0 HC2 HL2 HF ⊢
  obtain ⟨q, hq⟩ : ∃ q, alikeB x y = q := ⟨_, rfl⟩
  rw [hq] at HF ⊢
  clear hq
  go_enter Tryd.func19, Tryd.ntmps19
  go_wp2_with (go_at_call 20; refine (lattice_areAlike.calls Ax cx x A2 c2 y q _ HCX.out HLX.out HC2.out HL2.out HF.out).mono ?_; rintro e w1 ⟨rfl, ⟨nd, rfl⟩⟩)
  go_ret
  exact ⟨rfl, pw_below_drewN (Below.refl _ _) nd⟩
theorem after_alloc1 {w w1 : World} {o : Obj} (h : Below (w.alloc o).heap.size (w.alloc o) w1) : w1.heap[w.heap.size]? = some o ∧ Below w.heap.size w w1 :=
  ⟨blk_below (blk_new _ _) h, below_then (below_alloc (Below.refl _ _) _) (by simp) h⟩
def openE (l : List (List ByteArray)) (bars : List ByteArray) : Int :=
  if 12 < l.length then 5 else if firstErr (fun j => checkE (l.getD j [])) l.length = 0 then (if l.any (fun p => !alikeB p (l.getD 0 [])) = true then 4 else barsE bars) else firstErr (fun j => checkE (l.getD j [])) l.length
theorem check_len {p : List ByteArray} (h : checkE p = 0) : 0 < p.length := (rows_of h).len1
set_option maxHeartbeats 4000000 in
theorem openPictures_calls {A B : Option Addr} {c d : Nat} {l : List (List ByteArray)} {bars : List ByteArray} {w : World} (hr : Kd.C (Kd.slice 9 Kd.string) w A l.length l) (hb : Kd.C Kd.string w B bars.length bars) (hd : bars.length ≤ d) (hT : Tabs w) :
    Calls Tryd.prog 11 #[.slice A l.length c, .slice B bars.length d] w fun e w' => e = .returned (.int .i64 (openE l bars)) ∧ Below w.heap.size w w' := by
  have HR := Aside0.mk hr
  have HBR := Aside0.mk hb
  have HD := Aside0.mk hd
  have HT := Aside0.mk hT
  have hmx : l.length ≤ 9223372036854775807 := Kd.C_max hr
  obtain ⟨n, hn⟩ : ∃ n, l.length = n := ⟨_, rfl⟩
  have HN := Aside0.mk hn
  obtain ⟨rv, hrv⟩ : ∃ r, openE l bars = r := ⟨_, rfl⟩
  have HRV := Aside0.mk hrv
  rw [hrv]
  have HF : Aside0 (∀ {w1 : World}, Below (w.alloc (.cells #[.slice A n c] 34 (0, 0))).heap.size (w.alloc (.cells #[.slice A n c] 34 (0, 0))) w1 → _) := ⟨fun h => after_alloc1 h⟩
  clear hr hb hd hT hrv
  rw [hn] at hmx ⊢
  by_cases c12 : 12 < n
  · have c12z : (12 : Int) < (n : Int) := by omega
    have e5 : rv = 5 := by rw [← HRV.out]; unfold openE; rw [if_pos (by rw [hn]; exact c12)]
    subst e5
    clear hn
    go_enter Tryd.func11, Tryd.ntmps11
    go_wp2
    go_ret
    exact ⟨rfl, below_alloc (Below.refl _ _) _⟩
  · have c12z : ¬ (12 : Int) < (n : Int) := by omega
    clear hn
    go_enter Tryd.func11, Tryd.ntmps11
    go_wp2
    have H0 := Aside0.mk (Below.refl (w.alloc (.cells #[.slice A n c] 34 (0, 0))).heap.size (w.alloc (.cells #[.slice A n c] 34 (0, 0))))
    generalize w.alloc (.cells #[.slice A n c] 34 (0, 0)) = wz at HF H0 ⊢
    go_loopg [13] n (fun gg v13 wr => ∃ k : Nat, k ≤ n ∧ n - k ≤ gg ∧ v13 = .int .i64 (k : Int) ∧ Aside0 (Below wz.heap.size wz wr) ∧ Aside0 (∀ j, j < k → checkE (l.getD j []) = 0))
    case atStart => exact ⟨0, Nat.zero_le _, Nat.le_refl _, rfl, H0, ⟨fun j h => absurd h (Nat.not_lt_zero _)⟩⟩
    case round =>
      obtain ⟨k, hk, hg, rfl, HB, HZ⟩ := hrel
      clear H0
      obtain ⟨b2, hbw⟩ := HF.out HB.out
      have HW := Aside0.mk hbw
      have s2 : wr.cell? ⟨w.heap.size, 0, none⟩ = some (.slice A n c) := (blk_cell b2 0).trans rfl
      clear b2 hbw
      by_cases hlt : k < n
      · have hltz : (k : Int) < (n : Int) := by omega
        have hlt2 : (k : Int) < (l.length : Int) := by rw [HN.out]; exact hltz
        obtain ⟨ad, cs, hA, _, hK, hcell⟩ := Kd.C_get (Kd.C_below HR.out HW.out) ([] : List ByteArray) (k : Int) (by omega) hlt2
        subst hA
        rw [Int.toNat_natCast] at hK hcell
        obtain ⟨A2, c2, rfl, hl2, hC2⟩ := hK
        have s0 : wr.cell? (ad.add k) = some (.slice A2 (l.getD k []).length c2) := by
          have h := hcell 0 _ rfl
          rw [show k * (Kd.slice 9 Kd.string).sz + 0 = k from by show k * 1 + 0 = k; omega] at h
          exact h
        have HC2 : Aside0 (Kd.C Kd.string wr A2 (l.getD k []).length (l.getD k [])) := ⟨hC2⟩
        have HL2 : Aside0 ((l.getD k []).length ≤ c2) := ⟨hl2⟩
        obtain ⟨y, hy⟩ : ∃ y, l.getD k [] = y := ⟨_, rfl⟩
        have HY := Aside0.mk hy
        rw [hy] at HC2 HL2 s0
        obtain ⟨q, hq⟩ : ∃ q, checkE y = q := ⟨_, rfl⟩
        have HQ := Aside0.mk hq
        have HCH : Aside0 (lattice_Check.f y = some q) := ⟨by unfold lattice_Check.f; rw [← hq]; rfl⟩
        clear hcell hC2 hl2 hy hq hlt2
        by_cases hz : q = 0
        · subst hz
          go_wp2_with (go_at_call 17; refine (lattice_Check.calls A2 c2 y 0 _ HC2.out HL2.out HCH.out (HT.out.below HW.out)).mono ?_; rintro e w1 ⟨rfl, hb1⟩; have HB1 := Aside0.mk (later_below HB.out hb1); clear hb1 s0 s2)
          go_roundg (n - (k + 1))
          case measure => omega
          case rel =>
            refine ⟨k + 1, by omega, by omega, by go_num, HB1, ⟨fun j hj => ?_⟩⟩
            by_cases e : j = k
            · subst e; rw [HY.out]; exact HQ.out
            · exact HZ.out j (by omega)
        · have hz1 : (q == 0) = false := beq_eq_false_iff_ne.2 hz
          have hz2 : (q != 0) = true := bne_iff_ne.2 hz
          have e5 : rv = q := by
            have h1 : firstErr (fun j => checkE (l.getD j [])) l.length = q := by
              rw [firstErr_hit (fun j => checkE (l.getD j [])) l.length k (by rw [HN.out]; exact hlt) HZ.out (by show checkE (l.getD k []) ≠ 0; rw [HY.out, HQ.out]; exact hz)]
              show checkE (l.getD k []) = q
              rw [HY.out, HQ.out]
            rw [← HRV.out]
            unfold openE
            rw [if_neg (by rw [HN.out]; exact c12), h1, if_neg hz]
          subst e5
          clear hz
          go_wp2_with (go_at_call 17; refine (lattice_Check.calls A2 c2 y rv _ HC2.out HL2.out HCH.out (HT.out.below HW.out)).mono ?_; rintro e w1 ⟨rfl, hb1⟩; have HB1 := Aside0.mk (later_below HW.out hb1); clear hb1 s0 s2)
          go_ret
          exact ⟨rfl, HB1.out⟩
      · have hltz : ¬ (k : Int) < (n : Int) := by omega
        obtain rfl : k = n := by omega
        have HA0 : Aside0 (∀ p ∈ l, checkE p = 0) := ⟨fun p hp => by
          obtain ⟨j, hj, e⟩ := List.mem_iff_getElem.1 hp
          have h := HZ.out j (by rw [← HN.out]; exact hj)
          rw [List.getD_eq_getElem?_getD, List.getElem?_eq_getElem hj] at h
          rw [← e]
          exact h⟩
        have HE : Aside0 (rv = if l.any (fun p => !alikeB p (l.getD 0 [])) = true then 4 else barsE bars) := ⟨by
          rw [← HRV.out]
          unfold openE
          rw [if_neg (by rw [HN.out]; exact c12), if_pos (firstErr_zero _ _ (fun j hj => HZ.out j (by rw [← HN.out]; exact hj)))]⟩
        have HP : Aside0 (∀ W : World, Below wr.heap.size wr W → PredK 19 #[.pointer (some ⟨w.heap.size, 0, none⟩)] (Kd.slice 9 Kd.string) cell1 l (fun p => !alikeB p (l.getD 0 [])) W) := ⟨fun W hW => by
          by_cases h0 : 0 < l.length
          · exact open1_pred (A := A) (c := c) (by rw [HN.out]; exact pw_cell_below hW s2) (Kd.C_below (Kd.C_below HR.out HW.out) hW) h0 (fun p hp => check_len (HA0.out p hp))
          · intro x hx
            have : l = [] := List.length_eq_zero_iff.1 (by omega)
            rw [this] at hx
            exact nomatch hx⟩
        have HCT : Aside0 (∀ W : World, Below wr.heap.size wr W → Calls Tryd.prog 18 #[.slice A k c, .func (.func 19) #[] #[.pointer (some ⟨w.heap.size, 0, none⟩)]] W _) := ⟨fun W hW => by
          rw [← HN.out]
          exact contains_strs enters_open1 (Kd.C_below (Kd.C_below HR.out HW.out) hW) (HP.out W hW)⟩
        obtain ⟨q, hq⟩ : ∃ q, l.any (fun p => !alikeB p (l.getD 0 [])) = q := ⟨_, rfl⟩
        rw [hq] at HE
        have HQ := Aside0.mk hq
        clear hq
        cases q with
        | true =>
          have e4 : rv = 4 := HE.out
          subst e4
          go_wp2_with (go_at_call 18; refine (HCT.out _ (Below.refl _ _)).mono ?_; rw [HQ.out]; rintro e w1 ⟨rfl, hb1⟩; have HB1 := Aside0.mk (later_below HW.out hb1); clear hb1 s2)
          go_ret
          exact ⟨rfl, HB1.out⟩
        | false =>
          have HBE : Aside0 (lattice_Bars.f bars = some rv) := ⟨by rw [HE.out]; rfl⟩
          go_wp2_with (first
            | (go_at_call 18; refine (HCT.out _ (Below.refl _ _)).mono ?_; rw [HQ.out]; rintro e w1 ⟨rfl, hb1⟩; have HB1 := Aside0.mk (later_below HW.out hb1); clear hb1 s2)
            | (go_at_call 21; refine (lattice_Bars.calls B d bars rv _ (Kd.C_below HBR.out HB1.out) HD.out HBE.out (HT.out.below HB1.out)).mono ?_; rintro e w2 ⟨rfl, hb2⟩; have HB2 := Aside0.mk (later_below HB1.out hb2); clear hb2))
          go_ret
          exact ⟨rfl, HB2.out⟩
end Go.Proofs.YtpnflmaagncbkaaDoor.X
end
section
/- Package guard: the two tests of checkAll. -/
namespace Go.Proofs.YtpnflmaagncbkaaDoor.X
open Go.RowKit Go.Proofs.YtpnflmaagncbkaaDoorW.PrintWords Go.Proofs.YtpnflmaagncbkaaDoorW.PrintLast Go.Proofs.YtpnflmaagncbkaaDoorW.PrintMore

def isNone (x : S38) : Bool := !(decide (1 ≤ x.f0) && decide (x.f0 ≤ 10000)) || !(x.f1.all fun n => decide (0 ≤ n) && decide (n ≤ 500))
theorem enters_checkAll2 : ∀ args w, (callFunc 32 args).run Tryd.prog w = .ok (.enter 32 args) w := enters_of Tryd.func32 (by kernel_rfl) rfl
set_option maxHeartbeats 4000000 in
theorem none_pred {xs : List S38} {w : World} : PredK 32 #[] k38 cellN xs isNone w := by
  intro x _ W cs _ hK
  obtain ⟨Ac, cc, rfl, hlc, hCc⟩ := k38_open hK
  have HL := Aside0.mk hlc
  have HC := Aside0.mk hCc
  have HF : Aside0 (∀ {w1 : World}, Below (W.alloc (.cells #[.int .i64 x.f0, .slice Ac x.f1.length cc] 38 (0, 0))).heap.size (W.alloc (.cells #[.int .i64 x.f0, .slice Ac x.f1.length cc] 38 (0, 0))) w1 → _) := ⟨fun h => after_alloc1 h⟩
  simp only [cellN]
  show Calls Tryd.prog 32 #[.agg #[.int .i64 x.f0, .slice Ac x.f1.length cc]] W _
  unfold isNone
  have hw1 : guard_within.f 1 10000 [x.f0] = some (decide (1 ≤ x.f0) && decide (x.f0 ≤ 10000)) := by unfold guard_within.f; simp
  have hw2 : guard_within.f 0 500 x.f1 = some (x.f1.all fun n => decide (0 ≤ n) && decide (n ≤ 500)) := rfl
  clear hlc hCc hK
  cases q1 : (decide (1 ≤ x.f0) && decide (x.f0 ≤ 10000)) with
  | false =>
    rw [q1] at hw1
    have W1 := Aside0.mk hw1
    clear hw1 hw2 q1
    go_enter Tryd.func32, Tryd.ntmps32
    go_wp2_with (go_at_call 31; with_reducible refine (guard_within_lit 1 10000 _ false _ _ W1.out ?side).mono ?_; (case side => simp); rintro e w1 ⟨rfl, hb1⟩; have HB := Aside0.mk (HF.out hb1).2; clear hb1)
    go_ret
    exact ⟨rfl, HB.out⟩
  | true =>
    rw [q1] at hw1
    have W1 := Aside0.mk hw1
    obtain ⟨q2, hq2⟩ : ∃ q, (x.f1.all fun n => decide (0 ≤ n) && decide (n ≤ 500)) = q := ⟨_, rfl⟩
    rw [hq2] at hw2 ⊢
    have W2 := Aside0.mk hw2
    clear hw1 hw2 q1 hq2
    go_enter Tryd.func32, Tryd.ntmps32
    go_wp2_with (first
      | (go_at_call 31; with_reducible refine (guard_within_lit 1 10000 _ true _ _ W1.out ?side).mono ?_; (case side => simp); rintro e w1 ⟨rfl, hb1⟩; obtain ⟨b2, hbw⟩ := HF.out hb1; have HB := Aside0.mk hbw; have s0 := (blk_cell b2 0).trans rfl; have s1 := (blk_cell b2 1).trans rfl; clear hb1 b2 hbw)
      | (go_at_call 31; refine (guard_within.calls 0 500 Ac cc x.f1 q2 _ (Kd.C_below HC.out HB.out) HL.out W2.out).mono ?_; rintro e w2 ⟨rfl, hb2⟩; have HB2 := Aside0.mk (later_below HB.out hb2); clear hb2))
    go_ret
    refine ⟨?_, HB2.out⟩
    cases q2 <;> rfl
end Go.Proofs.YtpnflmaagncbkaaDoor.X
end
section
/- Package guard: the first test of checkAll (the lines of its drawn region were printed by genreg.py). -/
namespace Go.Proofs.YtpnflmaagncbkaaDoor.X
open Go.RowKit Go.Proofs.YtpnflmaagncbkaaDoorW.PrintWords Go.Proofs.YtpnflmaagncbkaaDoorW.PrintLast Go.Proofs.YtpnflmaagncbkaaDoorW.PrintMore

def isOdd (n0 : Nat) (x : S38) : Bool := !(decide (1 ≤ (x.f1.length : Int)) && decide ((x.f1.length : Int) ≤ 4)) || !(x.f1.length == n0)
theorem enters_checkAll1 : ∀ args w, (callFunc 30 args).run Tryd.prog w = .ok (.enter 30 args) w := enters_of Tryd.func30 (by kernel_rfl) rfl
set_option maxHeartbeats 4000000 in
set_option maxRecDepth 8000 in
theorem odd_pred {g1 c : Nat} {A : Option Addr} {l : List S38} {w : World} (h1 : w.cell? ⟨g1, 0, none⟩ = some (.slice A l.length c)) (hr : Kd.C k38 w A l.length l) (hl : 0 < l.length) :
    PredK 30 #[.pointer (some ⟨g1, 0, none⟩)] k38 cellN l (isOdd (l.getD 0 z38).f1.length) w := by
  intro x _ W cs hb hK
  obtain ⟨Ac, cc, rfl, hlc, hCc⟩ := k38_open hK
  have k1 : W.cell? ⟨g1, 0, none⟩ = some (.slice A l.length c) := pw_cell_below hb h1
  have hlz : (0 : Int) < (l.length : Int) := by omega
  obtain ⟨ad, cs2, rfl, _, hK2, hcell⟩ := Kd.C_get (Kd.C_below hr hb) z38 0 (by omega) hlz
  obtain ⟨A2, c2, rfl, hl2, hC2⟩ := k38_open hK2
  have t1 : W.cell? ⟨ad.block, ad.off + 1, none⟩ = some (.slice A2 (l.getD 0 z38).f1.length c2) := by
    have h := hcell 1 _ rfl
    rw [add_field _ _ 1 (by omega)] at h
    have e : ad.add ((0 : Int).toNat * k38.sz) = ad := by
      rw [show (0 : Int).toNat * k38.sz = 0 from by simp]
      simp [Addr.add]
    rw [e] at h
    exact h
  simp only [cellN]
  show Calls Tryd.prog 30 #[.agg #[.int .i64 x.f0, .slice Ac x.f1.length cc], .pointer (some ⟨g1, 0, none⟩)] W _
  unfold isOdd
  generalize (l.getD 0 z38).f1.length = n0 at t1 ⊢
  have b1 := blk_new W (.cells #[.int .i64 x.f0, .slice Ac x.f1.length cc] 38 (0, 0))
  have hb0 : Below W.heap.size W (W.alloc (.cells #[.int .i64 x.f0, .slice Ac x.f1.length cc] 38 (0, 0))) := below_alloc (Below.refl _ _) _
  have HB0 := Aside0.mk hb0
  have B1 := Aside0.mk b1
  have K1 := Aside0.mk (pw_cell_below hb0 k1)
  have T1 := Aside0.mk (pw_cell_below hb0 t1)
  clear hb h1 hcell hC2 hl2 hr hK hCc hlc b1 hb0 k1 t1
  have hw1 : guard_within.f 1 4 [(x.f1.length : Int)] = some (decide (1 ≤ (x.f1.length : Int)) && decide ((x.f1.length : Int) ≤ 4)) := by unfold guard_within.f; simp
  obtain ⟨q1, hq1⟩ : ∃ q, (decide (1 ≤ (x.f1.length : Int)) && decide ((x.f1.length : Int) ≤ 4)) = q := ⟨_, rfl⟩
  rw [hq1] at hw1 ⊢
  have W1 := Aside0.mk hw1
  clear hw1 hq1
  go_enter Tryd.func30, Tryd.ntmps30
  go_upto_region 1 with fail
  generalize W.alloc (.cells #[.int .i64 x.f0, .slice Ac x.f1.length cc] 38 (0, 0)) = wb at HB0 B1 K1 T1 ⊢
  have y1 := (blk_cell B1.out 1).trans rfl
  have k1 := K1.out
  have t1 := T1.out
  have KEEP : Aside0 (∀ {w' : World}, Below wb.heap.size wb w' → w'.cell? ⟨W.heap.size, 1, none⟩ = some (.slice Ac x.f1.length cc) ∧ w'.cell? ⟨g1, 0, none⟩ = some (.slice (some ad) l.length c) ∧ w'.cell? ⟨ad.block, ad.off + 1, none⟩ = some (.slice A2 n0 c2)) := ⟨fun hb => ⟨pw_cell_below hb y1, pw_cell_below hb k1, pw_cell_below hb t1⟩⟩
  clear y1 k1 t1
  cases q1 with
  | false =>
    refine start_ (n := 18) (S := fun w' => w'.cell? ⟨W.heap.size, 1, none⟩ = some (.slice Ac x.f1.length cc) ∧ w'.cell? ⟨g1, 0, none⟩ = some (.slice (some ad) l.length c) ∧ w'.cell? ⟨ad.block, ad.off + 1, none⟩ = some (.slice A2 n0 c2)) (ds := []) #[false, false, false, false, false, false, false, false, false, false, false, false, false, false, false, false, false, false] (by kernel_rfl) rfl rfl (KEEP.out (below_drew (Below.refl _ _))) (fun hHeld => ?_)
    have HB := Aside0.mk (below_drew (Below.refl wb.heap.size wb))
    generalize wb.drew = wd at HB hHeld ⊢
    refine pure_ (i := 0) (N := some 4) (v := ?_) (a' := ?_) #[true, false, false, false, false, false, false, false, false, false, false, false, false, false, false, false, false, false] rfl rfl (by kernel_rfl) (fun _ _ _ h => h) (Or.inl ⟨by rfl, ?_⟩) ?_ ?_
    rotate_left
    · intro w'; go_simp; with_reducible rfl
    rotate_left
    · simp only [Act.put, List.setIfInBounds_toArray, List.set_cons_zero, List.set_cons_succ]; rfl
    refine take_ (i := 1) (N := some 5) (v := ?_) (a' := ?_) #[true, true, false, false, false, false, false, false, false, false, false, false, false, false, false, false, false, false] rfl rfl (by kernel_rfl) (fun _ _ _ h => h) (Or.inl ⟨by rfl, ?_⟩) hHeld ?_ ?_
    rotate_left
    · rintro w' ⟨s0, s1, s2⟩; go_simp; with_reducible rfl
    rotate_left
    · simp only [Act.put, List.setIfInBounds_toArray, List.set_cons_zero, List.set_cons_succ]; rfl
    refine pure_ (i := 2) (N := some 6) (v := ?_) (a' := ?_) #[true, true, true, false, false, false, false, false, false, false, false, false, false, false, false, false, false, false] rfl rfl (by kernel_rfl) (fun _ _ _ h => h) (Or.inl ⟨by rfl, ?_⟩) ?_ ?_
    rotate_left
    · intro w'; go_simp; with_reducible rfl
    rotate_left
    · simp only [Act.put, List.setIfInBounds_toArray, List.set_cons_zero, List.set_cons_succ]; rfl
    refine one_ (i := 3) (N := some 7) #[true, true, true, true, false, false, false, false, false, false, false, false, false, false, false, false, false, false] rfl rfl (by kernel_rfl) (by decide) (fun K hK => ?_)
    refine Kd.R_lit_step (Kd.int .i64) _ 3 ?hg (N := 7) ?hd (xs := ([(x.f1.length : Int)] : List Int)) (inner := [.int .i64 (x.f1.length : Int)]) (ok := fun _ => True) (okp := fun _ => True) ?hr ?hp (fun _ hk => hk) trivial (Below.refl _ _) (Nat.le_refl _) (by simp) ?_; (case hd => rfl); (case hg => rfl); (case hr => first | (go_simp; done) | (go_simp; rfl)); (case hp => exact (Reps.one (show Kd.M (Kd.int .i64) _ _ _ (x.f1.length : Int) [.int .i64 (x.f1.length : Int)] from rfl) (Reps.none _ _)))
    intro v5 w5 ho hb hg hat
    obtain ⟨Al, cl, rfl⟩ := Kd.R_slice ho
    have HL := Aside0.mk ho
    have HB5 := Aside0.mk (later_below HB.out ⟨hg.os, hg.tape, hg.output, hg.size, fun k hk => hg.block k hk (by simp)⟩)
    clear ho hb hg hat
    refine hK.out _ _ (KEEP.out HB5.out) (fun hHeld => ?_)
    clear hK K
    refine norm_ (a' := ?_) ?_ ?_
    rotate_left
    · show Act.put _ (some 7) _ = _
      simp only [Act.put, List.setIfInBounds_toArray, List.set_cons_zero, List.set_cons_succ]
      rfl
    refine one_ (i := 4) (N := some 8) #[true, true, true, true, true, false, false, false, false, false, false, false, false, false, false, false, false, false] rfl rfl (by kernel_rfl) (by decide) (fun K hK => ?_)
    refine goes_ Tryd.func31 (by kernel_rfl) rfl #[.int .i64 1, .int .i64 4, .slice Al [(x.f1.length : Int)].length cl] (by rfl) rfl rfl (by (try simp only [List.map_toArray, List.map_cons, List.map_nil]); first | done | rfl) ?_
    refine (guard_within.calls 1 4 Al cl [(x.f1.length : Int)] false _ (Kd.R_reads' HL.out).2.2 (Kd.R_reads' HL.out).2.1 W1.out).mono ?_
    rintro e w6 ⟨rfl, hb⟩
    refine ⟨_, rfl, ?_⟩
    have HB6 := Aside0.mk (later_below HB5.out hb)
    clear hb
    refine hK.out _ _ (KEEP.out HB6.out) (fun hHeld => ?_)
    clear hK K
    refine norm_ (a' := ?_) ?_ ?_
    rotate_left
    · show Act.put _ (some 8) _ = _
      simp only [Act.put, List.setIfInBounds_toArray, List.set_cons_zero, List.set_cons_succ]
      rfl
    refine pure_ (i := 5) (N := some 9) (v := ?_) (a' := ?_) #[true, true, true, true, true, true, false, false, false, false, false, false, false, false, false, false, false, false] rfl rfl (by kernel_rfl) (fun _ _ _ h => h) (Or.inl ⟨by rfl, ?_⟩) ?_ ?_
    rotate_left
    · intro w'; go_simp; with_reducible rfl
    rotate_left
    · simp only [Act.put, List.setIfInBounds_toArray, List.set_cons_zero, List.set_cons_succ]; rfl
    refine pure_ (i := 6) (N := some 10) (v := ?_) (a' := ?_) #[true, true, true, true, true, true, true, false, false, false, false, false, false, false, false, false, false, false] rfl rfl (by kernel_rfl) (fun _ _ _ h => h) (Or.inl ⟨by rfl, ?_⟩) ?_ ?_
    rotate_left
    · intro w'; go_simp; with_reducible rfl
    rotate_left
    · simp only [Act.put, List.setIfInBounds_toArray, List.set_cons_zero, List.set_cons_succ]; rfl
    refine pure_ (i := 7) (N := some 11) (v := undef) (a' := ?_) #[true, true, true, true, true, true, true, true, false, false, false, false, false, false, false, false, false, false] rfl rfl (by kernel_rfl) (fun _ _ _ h => h) (Or.inr ⟨by rfl, rfl⟩) ?_ ?_
    rotate_left
    · simp only [Act.put, List.setIfInBounds_toArray, List.set_cons_zero, List.set_cons_succ]; rfl
    refine pure_ (i := 8) (N := some 12) (v := undef) (a' := ?_) #[true, true, true, true, true, true, true, true, true, false, false, false, false, false, false, false, false, false] rfl rfl (by kernel_rfl) (fun _ _ _ h => h) (Or.inr ⟨by rfl, rfl⟩) ?_ ?_
    rotate_left
    · simp only [Act.put, List.setIfInBounds_toArray, List.set_cons_zero, List.set_cons_succ]; rfl
    refine pure_ (i := 9) (N := some 13) (v := undef) (a' := ?_) #[true, true, true, true, true, true, true, true, true, true, false, false, false, false, false, false, false, false] rfl rfl (by kernel_rfl) (fun _ _ _ h => h) (Or.inr ⟨by rfl, rfl⟩) ?_ ?_
    rotate_left
    · simp only [Act.put, List.setIfInBounds_toArray, List.set_cons_zero, List.set_cons_succ]; rfl
    refine pure_ (i := 10) (N := some 14) (v := undef) (a' := ?_) #[true, true, true, true, true, true, true, true, true, true, true, false, false, false, false, false, false, false] rfl rfl (by kernel_rfl) (fun _ _ _ h => h) (Or.inr ⟨by rfl, rfl⟩) ?_ ?_
    rotate_left
    · simp only [Act.put, List.setIfInBounds_toArray, List.set_cons_zero, List.set_cons_succ]; rfl
    refine pure_ (i := 11) (N := some 15) (v := undef) (a' := ?_) #[true, true, true, true, true, true, true, true, true, true, true, true, false, false, false, false, false, false] rfl rfl (by kernel_rfl) (fun _ _ _ h => h) (Or.inr ⟨by rfl, rfl⟩) ?_ ?_
    rotate_left
    · simp only [Act.put, List.setIfInBounds_toArray, List.set_cons_zero, List.set_cons_succ]; rfl
    refine pure_ (i := 12) (N := some 16) (v := undef) (a' := ?_) #[true, true, true, true, true, true, true, true, true, true, true, true, true, false, false, false, false, false] rfl rfl (by kernel_rfl) (fun _ _ _ h => h) (Or.inr ⟨by rfl, rfl⟩) ?_ ?_
    rotate_left
    · simp only [Act.put, List.setIfInBounds_toArray, List.set_cons_zero, List.set_cons_succ]; rfl
    refine pure_ (i := 13) (N := some 17) (v := undef) (a' := ?_) #[true, true, true, true, true, true, true, true, true, true, true, true, true, true, false, false, false, false] rfl rfl (by kernel_rfl) (fun _ _ _ h => h) (Or.inr ⟨by rfl, rfl⟩) ?_ ?_
    rotate_left
    · simp only [Act.put, List.setIfInBounds_toArray, List.set_cons_zero, List.set_cons_succ]; rfl
    refine pure_ (i := 14) (N := some 18) (v := undef) (a' := ?_) #[true, true, true, true, true, true, true, true, true, true, true, true, true, true, true, false, false, false] rfl rfl (by kernel_rfl) (fun _ _ _ h => h) (Or.inr ⟨by rfl, rfl⟩) ?_ ?_
    rotate_left
    · simp only [Act.put, List.setIfInBounds_toArray, List.set_cons_zero, List.set_cons_succ]; rfl
    refine pure_ (i := 15) (N := some 19) (v := undef) (a' := ?_) #[true, true, true, true, true, true, true, true, true, true, true, true, true, true, true, true, false, false] rfl rfl (by kernel_rfl) (fun _ _ _ h => h) (Or.inr ⟨by rfl, rfl⟩) ?_ ?_
    rotate_left
    · simp only [Act.put, List.setIfInBounds_toArray, List.set_cons_zero, List.set_cons_succ]; rfl
    refine pure_ (i := 16) (N := some 20) (v := ?_) (a' := ?_) #[true, true, true, true, true, true, true, true, true, true, true, true, true, true, true, true, true, false] rfl rfl (by kernel_rfl) (fun _ _ _ h => h) (Or.inl ⟨by rfl, ?_⟩) ?_ ?_
    rotate_left
    · intro w'; go_simp; with_reducible rfl
    rotate_left
    · simp only [Act.put, List.setIfInBounds_toArray, List.set_cons_zero, List.set_cons_succ]; rfl
    refine pure_ (i := 17) (N := some 3) (v := ?_) (a' := ?_) #[true, true, true, true, true, true, true, true, true, true, true, true, true, true, true, true, true, true] rfl rfl (by kernel_rfl) (fun _ _ _ h => h) (Or.inl ⟨by rfl, ?_⟩) ?_ ?_
    rotate_left
    · intro w'; go_simp; with_reducible rfl
    rotate_left
    · simp only [Act.put, List.setIfInBounds_toArray, List.set_cons_zero, List.set_cons_succ]; rfl
    refine done_ (by kernel_rfl) ?_
    go_wp2
    go_ret
    exact ⟨rfl, later_below HB0.out HB6.out⟩
  | true =>
    refine start_ (n := 18) (S := fun w' => w'.cell? ⟨W.heap.size, 1, none⟩ = some (.slice Ac x.f1.length cc) ∧ w'.cell? ⟨g1, 0, none⟩ = some (.slice (some ad) l.length c) ∧ w'.cell? ⟨ad.block, ad.off + 1, none⟩ = some (.slice A2 n0 c2)) (ds := []) #[false, false, false, false, false, false, false, false, false, false, false, false, false, false, false, false, false, false] (by kernel_rfl) rfl rfl (KEEP.out (below_drew (Below.refl _ _))) (fun hHeld => ?_)
    have HB := Aside0.mk (below_drew (Below.refl wb.heap.size wb))
    generalize wb.drew = wd at HB hHeld ⊢
    refine pure_ (i := 0) (N := some 4) (v := ?_) (a' := ?_) #[true, false, false, false, false, false, false, false, false, false, false, false, false, false, false, false, false, false] rfl rfl (by kernel_rfl) (fun _ _ _ h => h) (Or.inl ⟨by rfl, ?_⟩) ?_ ?_
    rotate_left
    · intro w'; go_simp; with_reducible rfl
    rotate_left
    · simp only [Act.put, List.setIfInBounds_toArray, List.set_cons_zero, List.set_cons_succ]; rfl
    refine take_ (i := 1) (N := some 5) (v := ?_) (a' := ?_) #[true, true, false, false, false, false, false, false, false, false, false, false, false, false, false, false, false, false] rfl rfl (by kernel_rfl) (fun _ _ _ h => h) (Or.inl ⟨by rfl, ?_⟩) hHeld ?_ ?_
    rotate_left
    · rintro w' ⟨s0, s1, s2⟩; go_simp; with_reducible rfl
    rotate_left
    · simp only [Act.put, List.setIfInBounds_toArray, List.set_cons_zero, List.set_cons_succ]; rfl
    refine pure_ (i := 2) (N := some 6) (v := ?_) (a' := ?_) #[true, true, true, false, false, false, false, false, false, false, false, false, false, false, false, false, false, false] rfl rfl (by kernel_rfl) (fun _ _ _ h => h) (Or.inl ⟨by rfl, ?_⟩) ?_ ?_
    rotate_left
    · intro w'; go_simp; with_reducible rfl
    rotate_left
    · simp only [Act.put, List.setIfInBounds_toArray, List.set_cons_zero, List.set_cons_succ]; rfl
    refine one_ (i := 3) (N := some 7) #[true, true, true, true, false, false, false, false, false, false, false, false, false, false, false, false, false, false] rfl rfl (by kernel_rfl) (by decide) (fun K hK => ?_)
    refine Kd.R_lit_step (Kd.int .i64) _ 3 ?hg (N := 7) ?hd (xs := ([(x.f1.length : Int)] : List Int)) (inner := [.int .i64 (x.f1.length : Int)]) (ok := fun _ => True) (okp := fun _ => True) ?hr ?hp (fun _ hk => hk) trivial (Below.refl _ _) (Nat.le_refl _) (by simp) ?_; (case hd => rfl); (case hg => rfl); (case hr => first | (go_simp; done) | (go_simp; rfl)); (case hp => exact (Reps.one (show Kd.M (Kd.int .i64) _ _ _ (x.f1.length : Int) [.int .i64 (x.f1.length : Int)] from rfl) (Reps.none _ _)))
    intro v5 w5 ho hb hg hat
    obtain ⟨Al, cl, rfl⟩ := Kd.R_slice ho
    have HL := Aside0.mk ho
    have HB5 := Aside0.mk (later_below HB.out ⟨hg.os, hg.tape, hg.output, hg.size, fun k hk => hg.block k hk (by simp)⟩)
    clear ho hb hg hat
    refine hK.out _ _ (KEEP.out HB5.out) (fun hHeld => ?_)
    clear hK K
    refine norm_ (a' := ?_) ?_ ?_
    rotate_left
    · show Act.put _ (some 7) _ = _
      simp only [Act.put, List.setIfInBounds_toArray, List.set_cons_zero, List.set_cons_succ]
      rfl
    refine one_ (i := 4) (N := some 8) #[true, true, true, true, true, false, false, false, false, false, false, false, false, false, false, false, false, false] rfl rfl (by kernel_rfl) (by decide) (fun K hK => ?_)
    refine goes_ Tryd.func31 (by kernel_rfl) rfl #[.int .i64 1, .int .i64 4, .slice Al [(x.f1.length : Int)].length cl] (by rfl) rfl rfl (by (try simp only [List.map_toArray, List.map_cons, List.map_nil]); first | done | rfl) ?_
    refine (guard_within.calls 1 4 Al cl [(x.f1.length : Int)] true _ (Kd.R_reads' HL.out).2.2 (Kd.R_reads' HL.out).2.1 W1.out).mono ?_
    rintro e w6 ⟨rfl, hb⟩
    refine ⟨_, rfl, ?_⟩
    have HB6 := Aside0.mk (later_below HB5.out hb)
    clear hb
    refine hK.out _ _ (KEEP.out HB6.out) (fun hHeld => ?_)
    clear hK K
    refine norm_ (a' := ?_) ?_ ?_
    rotate_left
    · show Act.put _ (some 8) _ = _
      simp only [Act.put, List.setIfInBounds_toArray, List.set_cons_zero, List.set_cons_succ]
      rfl
    refine pure_ (i := 5) (N := some 9) (v := ?_) (a' := ?_) #[true, true, true, true, true, true, false, false, false, false, false, false, false, false, false, false, false, false] rfl rfl (by kernel_rfl) (fun _ _ _ h => h) (Or.inl ⟨by rfl, ?_⟩) ?_ ?_
    rotate_left
    · intro w'; go_simp; with_reducible rfl
    rotate_left
    · simp only [Act.put, List.setIfInBounds_toArray, List.set_cons_zero, List.set_cons_succ]; rfl
    refine pure_ (i := 6) (N := some 10) (v := ?_) (a' := ?_) #[true, true, true, true, true, true, true, false, false, false, false, false, false, false, false, false, false, false] rfl rfl (by kernel_rfl) (fun _ _ _ h => h) (Or.inl ⟨by rfl, ?_⟩) ?_ ?_
    rotate_left
    · intro w'; go_simp; with_reducible rfl
    rotate_left
    · simp only [Act.put, List.setIfInBounds_toArray, List.set_cons_zero, List.set_cons_succ]; rfl
    refine pure_ (i := 7) (N := some 11) (v := ?_) (a' := ?_) #[true, true, true, true, true, true, true, true, false, false, false, false, false, false, false, false, false, false] rfl rfl (by kernel_rfl) (fun _ _ _ h => h) (Or.inl ⟨by rfl, ?_⟩) ?_ ?_
    rotate_left
    · intro w'; go_simp; with_reducible rfl
    rotate_left
    · simp only [Act.put, List.setIfInBounds_toArray, List.set_cons_zero, List.set_cons_succ]; rfl
    refine take_ (i := 8) (N := some 12) (v := ?_) (a' := ?_) #[true, true, true, true, true, true, true, true, true, false, false, false, false, false, false, false, false, false] rfl rfl (by kernel_rfl) (fun _ _ _ h => h) (Or.inl ⟨by rfl, ?_⟩) hHeld ?_ ?_
    rotate_left
    · rintro w' ⟨s0, s1, s2⟩; go_simp; with_reducible rfl
    rotate_left
    · simp only [Act.put, List.setIfInBounds_toArray, List.set_cons_zero, List.set_cons_succ]; rfl
    refine pure_ (i := 9) (N := some 13) (v := ?_) (a' := ?_) #[true, true, true, true, true, true, true, true, true, true, false, false, false, false, false, false, false, false] rfl rfl (by kernel_rfl) (fun _ _ _ h => h) (Or.inl ⟨by rfl, ?_⟩) ?_ ?_
    rotate_left
    · intro w'; go_simp; with_reducible rfl
    rotate_left
    · simp only [Act.put, List.setIfInBounds_toArray, List.set_cons_zero, List.set_cons_succ]; rfl
    refine take_ (i := 10) (N := some 14) (v := ?_) (a' := ?_) #[true, true, true, true, true, true, true, true, true, true, true, false, false, false, false, false, false, false] rfl rfl (by kernel_rfl) (fun _ _ _ h => h) (Or.inl ⟨by rfl, ?_⟩) hHeld ?_ ?_
    rotate_left
    · rintro w' ⟨s0, s1, s2⟩; go_simp; with_reducible rfl
    rotate_left
    · simp only [Act.put, List.setIfInBounds_toArray, List.set_cons_zero, List.set_cons_succ]; rfl
    refine pure_ (i := 11) (N := some 15) (v := ?_) (a' := ?_) #[true, true, true, true, true, true, true, true, true, true, true, true, false, false, false, false, false, false] rfl rfl (by kernel_rfl) (fun _ _ _ h => h) (Or.inl ⟨by rfl, ?_⟩) ?_ ?_
    rotate_left
    · intro w'; go_simp; with_reducible rfl
    rotate_left
    · simp only [Act.put, List.setIfInBounds_toArray, List.set_cons_zero, List.set_cons_succ]; rfl
    refine pure_ (i := 12) (N := some 16) (v := ?_) (a' := ?_) #[true, true, true, true, true, true, true, true, true, true, true, true, true, false, false, false, false, false] rfl rfl (by kernel_rfl) (fun _ _ _ h => h) (Or.inl ⟨by rfl, ?_⟩) ?_ ?_
    rotate_left
    · intro w'; go_simp; with_reducible rfl
    rotate_left
    · simp only [Act.put, List.setIfInBounds_toArray, List.set_cons_zero, List.set_cons_succ]; rfl
    refine take_ (i := 13) (N := some 17) (v := ?_) (a' := ?_) #[true, true, true, true, true, true, true, true, true, true, true, true, true, true, false, false, false, false] rfl rfl (by kernel_rfl) (fun _ _ _ h => h) (Or.inl ⟨by rfl, ?_⟩) hHeld ?_ ?_
    rotate_left
    · rintro w' ⟨s0, s1, s2⟩; go_simp; with_reducible rfl
    rotate_left
    · simp only [Act.put, List.setIfInBounds_toArray, List.set_cons_zero, List.set_cons_succ]; rfl
    refine pure_ (i := 14) (N := some 18) (v := ?_) (a' := ?_) #[true, true, true, true, true, true, true, true, true, true, true, true, true, true, true, false, false, false] rfl rfl (by kernel_rfl) (fun _ _ _ h => h) (Or.inl ⟨by rfl, ?_⟩) ?_ ?_
    rotate_left
    · intro w'; go_simp; with_reducible rfl
    rotate_left
    · simp only [Act.put, List.setIfInBounds_toArray, List.set_cons_zero, List.set_cons_succ]; rfl
    refine pure_ (i := 15) (N := some 19) (v := ?_) (a' := ?_) #[true, true, true, true, true, true, true, true, true, true, true, true, true, true, true, true, false, false] rfl rfl (by kernel_rfl) (fun _ _ _ h => h) (Or.inl ⟨by rfl, ?_⟩) ?_ ?_
    rotate_left
    · intro w'; go_simp; with_reducible rfl
    rotate_left
    · simp only [Act.put, List.setIfInBounds_toArray, List.set_cons_zero, List.set_cons_succ]; rfl
    refine pure_ (i := 16) (N := some 20) (v := ?_) (a' := ?_) #[true, true, true, true, true, true, true, true, true, true, true, true, true, true, true, true, true, false] rfl rfl (by kernel_rfl) (fun _ _ _ h => h) (Or.inl ⟨by rfl, ?_⟩) ?_ ?_
    rotate_left
    · intro w'; go_simp; with_reducible rfl
    rotate_left
    · simp only [Act.put, List.setIfInBounds_toArray, List.set_cons_zero, List.set_cons_succ]; rfl
    refine pure_ (i := 17) (N := some 3) (v := ?_) (a' := ?_) #[true, true, true, true, true, true, true, true, true, true, true, true, true, true, true, true, true, true] rfl rfl (by kernel_rfl) (fun _ _ _ h => h) (Or.inl ⟨by rfl, ?_⟩) ?_ ?_
    rotate_left
    · intro w'; go_simp; with_reducible rfl
    rotate_left
    · simp only [Act.put, List.setIfInBounds_toArray, List.set_cons_zero, List.set_cons_succ]; rfl
    refine done_ (by kernel_rfl) ?_
    go_wp2
    go_ret
    refine ⟨?_, later_below HB0.out HB6.out⟩
    show Ending.returned (.bool ((x.f1.length : Int) != (n0 : Int))) = _
    have e : ((x.f1.length : Int) == (n0 : Int)) = (x.f1.length == n0) := by
      rw [Bool.eq_iff_iff, beq_iff_eq, beq_iff_eq]
      exact Int.ofNat_inj
    rw [bne, e]
    rfl
end Go.Proofs.YtpnflmaagncbkaaDoor.X
end
section
/- Package guard: checkAll, where there is no error. -/
namespace Go.Proofs.YtpnflmaagncbkaaDoor.X
open Go.RowKit Go.Proofs.YtpnflmaagncbkaaDoorW.PrintWords Go.Proofs.YtpnflmaagncbkaaDoorW.PrintLast Go.Proofs.YtpnflmaagncbkaaDoorW.PrintMore

theorem guard_within_lit2 (a0 a1 x y : Int) (q : Bool) (W : World) (e : TypeId) {g : Nat} (h : guard_within.f a0 a1 [x, y] = some q) (hg : g = W.heap.size) :
    Calls Tryd.prog 31 #[.int .i64 a0, .int .i64 a1, .slice (some ⟨g, 0, none⟩) 2 2] (W.alloc (.cells #[.int .i64 x, .int .i64 y] e)) fun e w' => e = .returned (.bool q) ∧ Below W.heap.size W w' := by
  refine (guard_within.calls a0 a1 _ 2 [x, y] q _ (C_lit2 W .i64 e x y hg) (Nat.le_refl 2) h).mono ?_
  rintro e w' ⟨rfl, hb⟩
  exact ⟨rfl, below_then (below_alloc (Below.refl _ _) _) (by simp) hb⟩
theorem boxes2 {w w1 : World} {o1 o2 : Obj} (hb : Below ((w.alloc o1).alloc o2).heap.size ((w.alloc o1).alloc o2) w1) : w1.heap[w.heap.size]? = some o1 ∧ w1.heap[w.heap.size + 1]? = some o2 ∧ Below w.heap.size w w1 :=
  ⟨blk_below (blk_alloc (blk_new _ _) _) hb, blk_below (one_blk _ _ (by simp)) hb, below_then (below_alloc (below_alloc (Below.refl _ _) _) _) (by simp; omega) hb⟩
theorem later_below' {w0 w W : World} (h : Below w0.heap.size w0 w) (k : Below w.heap.size w W) : Below w0.heap.size w0 W := later_below h k
set_option maxHeartbeats 4000000 in
set_option maxRecDepth 8000 in
theorem checkAll_ok {A : Option Addr} {c : Nat} {l : List S38} {g0 g1 g2 g3 : Int} {w : World} (hr : Kd.C k38 w A l.length l) (hl : 0 < l.length)
    (h1 : l.any (isOdd (l.getD 0 z38).f1.length) = false) (h2 : l.any isNone = false) (e1 : guard_within.f 0 100 [g0, g1] = some true) (e2 : guard_within.f 0 10000 [g2] = some true) (e3 : guard_within.f 0 500 [g3] = some true) :
    Calls Tryd.prog 15 #[.agg #[.int .i64 g0, .int .i64 g1, .int .i64 g2, .int .i64 g3], .slice A l.length c] w fun e w' => e = .returned (.int .i64 0) ∧ Below w.heap.size w w' := by
  have HF : Aside0 (∀ {w1 : World}, Below ((w.alloc (.cells #[.int .i64 g0, .int .i64 g1, .int .i64 g2, .int .i64 g3] 43 (0, 0))).alloc (.cells #[.slice A l.length c] 69 (0, 0))).heap.size ((w.alloc (.cells #[.int .i64 g0, .int .i64 g1, .int .i64 g2, .int .i64 g3] 43 (0, 0))).alloc (.cells #[.slice A l.length c] 69 (0, 0))) w1 → _) := ⟨fun hb => boxes2 hb⟩
  have H0 := Aside0.mk (Below.refl ((w.alloc (.cells #[.int .i64 g0, .int .i64 g1, .int .i64 g2, .int .i64 g3] 43 (0, 0))).alloc (.cells #[.slice A l.length c] 69 (0, 0))).heap.size ((w.alloc (.cells #[.int .i64 g0, .int .i64 g1, .int .i64 g2, .int .i64 g3] 43 (0, 0))).alloc (.cells #[.slice A l.length c] 69 (0, 0))))
  have HR := Aside0.mk hr
  have HL := Aside0.mk hl
  have A1 := Aside0.mk h1
  have A2 := Aside0.mk h2
  have W1 := Aside0.mk e1
  have W2 := Aside0.mk e2
  have W3 := Aside0.mk e3
  clear hr hl h1 h2 e1 e2 e3
  go_enter Tryd.func15, Tryd.ntmps15
  go_upto_region 3 with fail
  generalize (w.alloc (.cells #[.int .i64 g0, .int .i64 g1, .int .i64 g2, .int .i64 g3] 43 (0, 0))).alloc (.cells #[.slice A l.length c] 69 (0, 0)) = wz at HF H0 ⊢
  obtain ⟨b2, b3, hbw⟩ := HF.out H0.out
  have s0 := (blk_cell b3 0).trans rfl
  have HW := Aside0.mk hbw
  clear b2 b3 hbw
  go_upto_region 5 with (go_at_call 33; refine (contains_guard enters_checkAll1 (Kd.C_below HR.out HW.out) (odd_pred s0 (Kd.C_below HR.out HW.out) HL.out)).mono ?_; rw [A1.out]; rintro e w1 ⟨rfl, hb1⟩; have HB1 := Aside0.mk hb1; clear hb1 s0)
  obtain ⟨b2, b3, hbw⟩ := HF.out HB1.out
  have s0 := (blk_cell b3 0).trans rfl
  have HW1 := Aside0.mk hbw
  clear b2 b3 hbw
  go_upto_region 7 with (go_at_call 33; refine (contains_guard enters_checkAll2 (Kd.C_below HR.out HW1.out) none_pred).mono ?_; rw [A2.out]; rintro e w2 ⟨rfl, hb1⟩; have HB2 := Aside0.mk (later_below HB1.out hb1); clear hb1 s0)
  obtain ⟨b2, b3, hbw⟩ := HF.out HB2.out
  have y0 := (blk_cell b2 0).trans rfl
  have y1 := (blk_cell b2 1).trans rfl
  have y2 := (blk_cell b2 2).trans rfl
  have y3 := (blk_cell b2 3).trans rfl
  clear b2 b3 hbw
  go_wp2_with (first
    | (go_at_call 31; with_reducible refine (guard_within_lit2 _ _ _ _ true _ _ W1.out ?side).mono ?_; (case side => simp); rintro e w3 ⟨rfl, hb1⟩; have HB3 := Aside0.mk (later_below' HB2.out hb1); clear y0 y1 y2 y3 hb1; obtain ⟨b2, b3, hbw⟩ := HF.out HB3.out; have y0 := (blk_cell b2 0).trans rfl; have y1 := (blk_cell b2 1).trans rfl; have y2 := (blk_cell b2 2).trans rfl; have y3 := (blk_cell b2 3).trans rfl; have HB3W := Aside0.mk hbw; clear b2 b3 hbw)
    | (go_at_call 31; with_reducible refine (guard_within_lit _ _ _ true _ _ W2.out ?side).mono ?_; (case side => simp); rintro e w4 ⟨rfl, hb1⟩; have HB4 := Aside0.mk (later_below' HB3.out hb1); clear y0 y1 y2 y3 hb1; obtain ⟨b2, b3, hbw⟩ := HF.out HB4.out; have y0 := (blk_cell b2 0).trans rfl; have y1 := (blk_cell b2 1).trans rfl; have y2 := (blk_cell b2 2).trans rfl; have y3 := (blk_cell b2 3).trans rfl; have HB4W := Aside0.mk hbw; clear b2 b3 hbw)
    | (go_at_call 31; with_reducible refine (guard_within_lit _ _ _ true _ _ W3.out ?side).mono ?_; (case side => simp); rintro e w5 ⟨rfl, hb1⟩; have HB5 := Aside0.mk (later_below' HB4.out hb1); clear y0 y1 y2 y3 hb1; obtain ⟨b2, b3, hbw⟩ := HF.out HB5.out; have y0 := (blk_cell b2 0).trans rfl; have y1 := (blk_cell b2 1).trans rfl; have y2 := (blk_cell b2 2).trans rfl; have y3 := (blk_cell b2 3).trans rfl; have HB5W := Aside0.mk hbw; clear b2 b3 hbw))
  go_ret
  exact ⟨rfl, HB5W.out⟩
end Go.Proofs.YtpnflmaagncbkaaDoor.X
end
section
/- Package guard: checkAll in the print's form, where there is no error. -/
namespace Go.Proofs.YtpnflmaagncbkaaDoor.X
open Go.RowKit Go.Proofs.YtpnflmaagncbkaaDoorW.PrintWords Go.Proofs.YtpnflmaagncbkaaDoorW.PrintLast Go.Proofs.YtpnflmaagncbkaaDoorW.PrintMore

def guard_checkAll.f (a0_0 : Int) (a0_1 : Int) (a0_2 : Int) (a0_3 : Int) (l1 : List S38) : Option Int :=
  if 0 < l1.length ∧ l1.any (isOdd (l1.getD 0 z38).f1.length) = false ∧ l1.any isNone = false ∧ guard_within.f 0 100 [a0_0, a0_1] = some true ∧ guard_within.f 0 10000 [a0_2] = some true ∧ guard_within.f 0 500 [a0_3] = some true then some 0 else none
theorem guard_checkAll.calls (a0_0 : Int) (a0_1 : Int) (a0_2 : Int) (a0_3 : Int) (A1 : Option Addr) (c1 : Nat) (l1 : List S38) (r : Int) (w : World) (hr1 : Kd.C k38 w A1 l1.length l1) (_hc1 : l1.length ≤ c1) (h : guard_checkAll.f a0_0 a0_1 a0_2 a0_3 l1 = some r) :
    Calls Tryd.prog 15 #[.agg #[.int .i64 a0_0, .int .i64 a0_1, .int .i64 a0_2, .int .i64 a0_3], .slice A1 l1.length c1] w fun e w' => e = .returned (.int .i64 r) ∧ Below w.heap.size w w' := by
  unfold guard_checkAll.f at h
  split at h
  · rename_i hc
    obtain ⟨h0, h1, h2, h3, h4, h5⟩ := hc
    cases h
    exact checkAll_ok hr1 h0 h1 h2 h3 h4 h5
  · exact absurd h (by simp)
end Go.Proofs.YtpnflmaagncbkaaDoor.X
end
section
/- A map from strings to whole numbers that the call itself makes: each new key is stored with the number of keys before it; steps for the printed walks. -/
namespace Go.Proofs.YtpnflmaagncbkaaDoor.X
open Go.RowKit Go.Maps Go.WideMaps Go.Proofs.YtpnflmaagncbkaaDoorW.PrintWords Go.Proofs.YtpnflmaagncbkaaDoorW.PrintLast Go.Proofs.YtpnflmaagncbkaaDoorW.PrintMore

def keyL (s : ByteArray) : Lit := .string s.data.toList
theorem keyL_inj {s t : ByteArray} (h : keyL s = keyL t) : s = t := by
  unfold keyL at h
  injection h with h
  cases s with | mk a => cases t with | mk b => exact congrArg ByteArray.mk (Array.toList_inj.mp h)
def mapD (keys : List ByteArray) : DataW Unit := keys.zipIdx.foldl (fun D p => D.put (keyL p.1) (.lit (.int .i64 (p.2 : Int)))) (.map [])
theorem mapD_snoc (keys : List ByteArray) (s : ByteArray) : mapD (keys ++ [s]) = (mapD keys).put (keyL s) (.lit (.int .i64 (keys.length : Int))) := by
  unfold mapD
  rw [List.zipIdx_append, List.foldl_append]
  simp
def hasIx (keys : List ByteArray) (t : ByteArray) : Bool := keys.any fun s => decide (s = t)
def atIx (keys : List ByteArray) (t : ByteArray) : Int := keys.zipIdx.foldl (fun a p => if p.1 = t then (p.2 : Int) else a) 0
theorem atIx_snoc (keys : List ByteArray) (s t : ByteArray) : atIx (keys ++ [s]) t = if s = t then (keys.length : Int) else atIx keys t := by
  unfold atIx
  rw [List.zipIdx_append, List.foldl_append]
  simp
theorem hasIx_snoc (keys : List ByteArray) (s t : ByteArray) : hasIx (keys ++ [s]) t = (hasIx keys t || decide (s = t)) := by
  unfold hasIx
  rw [List.any_append]
  simp
theorem snoc_ind {α : Type} {P : List α → Prop} (h0 : P []) (hs : ∀ l a, P l → P (l ++ [a])) (l : List α) : P l := by
  rw [← List.reverse_reverse l]
  induction l.reverse with
  | nil => exact h0
  | cons a l ih =>
    rw [List.reverse_cons]
    exact hs _ _ ih
theorem isKeyL (s : ByteArray) : WideAt.IsKeyLit (keyL s) := by
  first | exact trivial | exact ⟨_, rfl⟩ | simp [WideAt.IsKeyLit, keyL]
theorem mapD_isMap (keys : List ByteArray) : IsMap (mapD keys) := by
  refine snoc_ind (P := fun keys => IsMap (mapD keys)) ?_ ?_ keys
  · exact ⟨[], rfl⟩
  · intro l s ih
    rw [mapD_snoc]
    obtain ⟨es, he⟩ := ih
    rw [he]
    exact ⟨_, rfl⟩
theorem mapD_at (keys : List ByteArray) (t : ByteArray) : (mapD keys).atKey (keyL t) (.lit (.int .i64 0)) = .lit (.int .i64 (atIx keys t)) := by
  refine snoc_ind (P := fun keys => (mapD keys).atKey (keyL t) (.lit (.int .i64 0)) = .lit (.int .i64 (atIx keys t))) ?_ ?_ keys
  · rfl
  · intro l s ih
    rw [mapD_snoc, atIx_snoc]
    by_cases h : s = t
    · rw [if_pos h, h, atKey_put_same (mapD_isMap l) (isKeyL t)]
    · rw [if_neg h, atKey_put_other (fun e => h (keyL_inj e.symm)), ih]
theorem mapD_has (keys : List ByteArray) (t : ByteArray) : Maps.has (mapD keys) (keyL t) = hasIx keys t := by
  refine snoc_ind (P := fun keys => Maps.has (mapD keys) (keyL t) = hasIx keys t) ?_ ?_ keys
  · rfl
  · intro l s ih
    rw [mapD_snoc, hasIx_snoc]
    by_cases h : s = t
    · rw [h, has_put_same (mapD_isMap l) (isKeyL t), decide_eq_true rfl, Bool.or_true]
    · rw [has_put_other (fun e => h (keyL_inj e.symm)), ih, decide_eq_false h, Bool.or_false]
def MapKs (w : World) (g : Nat) (keys : List ByteArray) : Prop := w.ownsMap Tryd.prog 9 (plainElem (H := Unit) Tryd.prog 3) g keys.length (mapD keys)
section
variable {w w1 W : World} {g : Nat} {keys : List ByteArray}
theorem MapKs_below (h : MapKs w g keys) (hb : Below w.heap.size w w1) : MapKs w1 g keys := by
  obtain ⟨es, clock, hx, F, hs, hD⟩ := h
  exact ⟨es, clock, blk_below hx hb, F, hs, hD⟩
theorem MapKs_alloc (h : MapKs w g keys) (o : Obj) : MapKs (w.alloc o) g keys := World.ownsMap.alloc h o
theorem MapKs_drew (h : MapKs w g keys) : MapKs w.drew g keys := h
theorem MapKs_drewN (h : MapKs w g keys) (n : Nat) : MapKs (w.drewN n) g keys := h
theorem MapKs_grown {row : Option Nat} (h : MapKs w g keys) (hg : w.grownBy w1 row) (hne : some g ≠ row) : MapKs w1 g keys := World.ownsMap.kept h hg hne
theorem MapKs_obj (h : MapKs w g keys) : ∃ es clock, w.heap[g]? = some (.map es clock) := by
  obtain ⟨es, clock, hx, _⟩ := h
  exact ⟨es, clock, hx⟩
theorem blk_neM (h : MapKs w g keys) {gb : Nat} {cs : Array Value} {t : TypeId} (hb : w.heap[gb]? = some (.cells cs t (0, 0))) : some gb ≠ some g := by
  obtain ⟨es, clock, hx⟩ := MapKs_obj h
  rintro e
  cases e
  rw [hb] at hx
  injection hx with hx
  cases hx
theorem blk_map {gb : Nat} {o : Obj} (_h : MapKs w g keys) (hb : w.heap[gb]? = some o) (hne : some gb ≠ some g) (hg : w.grownBy w1 (some g)) : w1.heap[gb]? = some o := blk_grown hb hg hne
variable {α : Type} {d : Kd α} {e : Nat} {base : Nat} {ok : Nat → Prop} {v : Value} {xs : List α}
theorem R_neM (h : d.R e w base ok v xs) (hM : MapKs w g keys) : some g ≠ v.ownBlock := by
  obtain ⟨es, clock, hx⟩ := MapKs_obj hM
  intro he
  obtain ⟨cells, hc⟩ := Kd.R_typed h g he.symm
  rw [hc] at hx
  injection hx with hx
  cases hx
theorem S_neM (h : Kd.S d e w base ok v xs) (hM : MapKs w g keys) : some g ≠ v.ownBlock := R_neM (Kd.S_R h) hM
theorem keep_map (hg : w.grownBy w1 (some g)) : KeepBut w w1 g none := ⟨hg.size, fun i hi hne _ => hg.block i hi (fun e => hne (Option.some.inj e))⟩
theorem R_overM (h : d.R e w base ok v xs) (hM : MapKs w g keys) (hg : w.grownBy w1 (some g)) : d.R e w1 base ok v xs := by
  obtain ⟨es, clock, hx⟩ := MapKs_obj hM
  refine Kd.R_mono (Kd.R_keep (Kd.R_bound h) (keep_map hg) ?_) (fun _ hk => hk.1)
  rintro k ⟨_, _, _, q, _, cells, hc⟩ rfl
  rw [hc] at hx
  injection hx with hx
  cases hx
theorem S_overM (h : Kd.S d e w base ok v xs) (hM : MapKs w g keys) (hg : w.grownBy w1 (some g)) : Kd.S d e w1 base ok v xs := by
  obtain ⟨f, h⟩ := h
  exact ⟨f, R_overM h hM hg⟩
theorem below_map (hb : Below w.heap.size w W) (hgd : w.heap.size ≤ g) (hg : W.grownBy w1 (some g)) : Below w.heap.size w w1 :=
  ⟨hg.os.trans hb.os, hg.tape.trans hb.tape, hg.output.trans hb.output, Nat.le_trans hb.size hg.size, fun k hk => (hg.block k (Nat.lt_of_lt_of_le hk hb.size) (fun e => by cases e; omega)).trans (hb.block k hk)⟩
end
section
variable {ops : Array Oper} {rest : List Oper} {o : Oper} {a : Act} {Q : Exit → Act → World → Prop} {W : World} {g : Nat} {keys : List ByteArray}
theorem gate_makeMap {t : TypeId} (_ho : o.op = .makeMap t none) (h : wpList Tryd.prog ops Q (o :: rest) a W) : wpList Tryd.prog ops Q (o :: rest) a W := h
theorem makeMap_event {t : TypeId} (hgd : o.guard = none) (ho : o.op = .makeMap t none) (h : ∀ g, g = W.heap.size → ∀ w1, MapKs w1 g [] → Below W.heap.size W w1 → wpList Tryd.prog ops Q rest (a.put o.dst (.map (some g))) w1) : wpList Tryd.prog ops Q (o :: rest) a W := by
  refine wpList_plain hgd fun K hK => ?_
  unfold Oper.wp
  have hr := @run_makeMap Tryd.prog t W
  simp [execOp, ho, hr, Result.andThen]
  exact hK _ _ (h _ rfl _ (World.ownsMap_made W _ _ _) (below_alloc (Below.refl _ _) _))
theorem gate_lookup {t : TypeId} {m x : Operand} (_ho : o.op = .lookup t m x true) (h : wpList Tryd.prog ops Q (o :: rest) a W) : wpList Tryd.prog ops Q (o :: rest) a W := h
theorem lookup_event (hgd : o.guard = none) {m x : Operand} (ho : o.op = .lookup 62 m x true) (hm : a.eval m = .map (some g)) {s : ByteArray} (hx : a.eval x = .string s) (hs : s.size ≤ maxLen) (hM : MapKs W g keys)
    (h : wpList Tryd.prog ops Q rest (a.put o.dst (.tuple #[.int .i64 (atIx keys s), .bool (hasIx keys s)])) W) : wpList Tryd.prog ops Q (o :: rest) a W :=
  wpList_lookup_own_ok_int W hgd m x _ ho 9 3 .i64 (string_keyed Tryd.underlying9) Tryd.underlying62 Tryd.underlying3 (by kernel_rfl) g keys.length (mapD keys) hm hM _ (keyL s) hx (keyOf_string_mk Tryd.underlying9 hs) (fun c hat _ => by
    rw [mapD_at] at hat
    injection hat with hat
    injection hat with _ hat
    rw [← hat, mapD_has]
    exact h)
theorem gate_mapUpdate {t : TypeId} {m x v : Operand} (_ho : o.op = .mapUpdate t m x v) (h : wpList Tryd.prog ops Q (o :: rest) a W) : wpList Tryd.prog ops Q (o :: rest) a W := h
theorem mapUpdate_event (hgd : o.guard = none) (hN : o.dst = none) {m x v : Operand} (ho : o.op = .mapUpdate 62 m x v) (hm : a.eval m = .map (some g)) {s : ByteArray} (hx : a.eval x = .string s) (hs : s.size ≤ maxLen) (hM : MapKs W g keys)
    {n : Int} (hv : a.eval v = .int .i64 n) (he : n = (keys.length : Int)) (hn : keys.length < 5864062014805) (h : ∀ w', MapKs w' g (keys ++ [s]) → W.grownBy w' (some g) → wpList Tryd.prog ops Q rest a w') : wpList Tryd.prog ops Q (o :: rest) a W := by
  subst he
  refine wpList_mapUpdate_own W hgd m x v _ ho 9 3 (string_keyed Tryd.underlying9) Tryd.underlying62 _ g keys.length (mapD keys) hm hM (by unfold maxLen; omega) _ _ (keyL s) hx hv (keyOf_string_mk Tryd.underlying9 hs) _ [] (plainElem_int Tryd.underlying3 (WalkArith.wf_i64 (by omega))) ?_
  intro w' hown hg
  rw [hN]
  refine h w' ?_ hg
  unfold MapKs
  rw [mapD_snoc, List.length_append, List.length_singleton]
  exact hown
end
end Go.Proofs.YtpnflmaagncbkaaDoor.X
end
section
/- Package lattice: show, openPictures and strings.Join in the print's form (for groups, Alike). -/
namespace Go.Proofs.YtpnflmaagncbkaaDoor.X
open Go.RowKit Go.Proofs.YtpnflmaagncbkaaDoorW.PrintWords Go.Proofs.YtpnflmaagncbkaaDoorW.PrintLast Go.Proofs.YtpnflmaagncbkaaDoorW.PrintMore Go.Proofs.YtpnflmaagncbkaaDoor.PLat

def joinB (l : List ByteArray) (sep : ByteArray) : ByteArray := ⟨(Lib.join (l.map (·.data.toList)) sep.data.toList).toArray⟩
def strings_Join.f (l0 : List ByteArray) (a1 : ByteArray) : Option ByteArray := if l0.length ≤ 1000000 ∧ (joinB l0 a1).size ≤ 1000000 then some (joinB l0 a1) else none
theorem strings_Join_size {l : List ByteArray} {sep t : ByteArray} (h : strings_Join.f l sep = some t) : t.size ≤ maxLen := by
  unfold strings_Join.f at h
  split at h
  · rename_i hc
    cases h
    unfold maxLen
    omega
  · cases h
theorem strings_Join.calls {base : Nat} {ok : Nat → Prop} (A0 : Option Addr) (c0 : Nat) (l0 : List ByteArray) (a1 : ByteArray) (r : ByteArray) (w : World) (hr0 : Kd.R Kd.string 9 w base ok (.slice A0 l0.length c0) l0) (hc0 : l0.length ≤ c0) (h : strings_Join.f l0 a1 = some r) :
    Calls Tryd.prog 23 #[.slice A0 l0.length c0, .string a1] w fun e w' => e = .returned (.string r) ∧ Below w.heap.size w w' := by
  unfold strings_Join.f at h
  split at h
  · rename_i hc
    cases h
    by_cases hl : l0 = []
    · subst hl
      refine (Tryd.strings_Join_none A0 c0 a1 w).mono ?_
      rintro e w' ⟨rfl, rfl⟩
      exact ⟨by unfold joinB; rfl, Below.refl _ _⟩
    · have hp : 0 < l0.length := List.length_pos_iff.mpr hl
      obtain ⟨g, cap, he, _, hg, _⟩ := Kd.R_form hr0 hp
      cases he
      unfold joinB
      refine Tryd.strings_Join g 0 c0 l0 a1 w ?_ hg (Nat.le_trans hc.1 (by decide)) hc0 ?_
      · intro j x hx
        have hj : j < l0.length := (List.getElem?_eq_some_iff.mp hx).1
        have hh := (Kd.R_cell (enc := Value.string) (h1 := fun _ => rfl) ByteArray.empty hr0 (j : Int) (by omega) (by omega)).1
        have e2 : rdOf ByteArray.empty l0 (j : Int) = x := by
          show l0.getD (j : Int).toNat ByteArray.empty = x
          rw [Int.toNat_natCast, List.getD_eq_getElem?_getD, hx]
          rfl
        rw [e2, Int.toNat_natCast] at hh
        rw [Nat.zero_add]
        exact hh
      · exact Nat.le_trans (Nat.le_of_eq (by unfold joinB; rw [ByteArray.size]; simp)) (Nat.le_trans hc.2 (by decide))
  · cases h
def lattice_grid_show.f (l0 : List ByteArray) (l1 : List ByteArray) (a2_0 : Int) (a2_1 : Int) : Option (List ByteArray) := if checkE l1 = 0 ∧ barsE l0 = 0 ∧ shiftB l0 a2_0 a2_1 = true then some (showRows (openB l0 a2_0 a2_1) l1) else none
theorem lattice_grid_show.calls (A0 : Option Addr) (c0 : Nat) (l0 : List ByteArray) (A1 : Option Addr) (c1 : Nat) (l1 : List ByteArray) (a2_0 : Int) (a2_1 : Int) (r : List ByteArray) (w : World) (hr0 : Kd.C Kd.string w A0 l0.length l0) (hc0 : l0.length ≤ c0) (hr1 : Kd.C Kd.string w A1 l1.length l1) (hc1 : l1.length ≤ c1) (h : lattice_grid_show.f l0 l1 a2_0 a2_1 = some r) :
    Calls Tryd.prog 24 #[.slice A0 l0.length c0, .slice A1 l1.length c1, .agg #[.int .i64 a2_0, .int .i64 a2_1]] w fun e w' => ∃ v0_ : Value, e = .returned (v0_) ∧ Kd.R Kd.string 9 w' w.heap.size (fun _ => True) v0_ r ∧ Below w.heap.size w w' := by
  unfold lattice_grid_show.f at h
  split at h
  · rename_i hc
    obtain ⟨h1, h2, h3⟩ := hc
    cases h
    have hb := rows_big (rows_of (high := 8) (wide := 8) h1) (by decide) (by decide)
    exact show_calls A0 c0 l0 A1 c1 l1 a2_0 a2_1 (openB l0 a2_0 a2_1) w hr0 hc0 hr1 hc1 hb.1 hb.2 (open_all (rows_of (high := 8) (wide := 8) h1) (rows_of (high := 4) (wide := 4) h2) h3)
  · cases h
def lattice_openPictures.f (l0 : List (List ByteArray)) (l1 : List ByteArray) : Option Int := some (openE l0 l1)
theorem lattice_openPictures.calls (A0 : Option Addr) (c0 : Nat) (l0 : List (List ByteArray)) (A1 : Option Addr) (c1 : Nat) (l1 : List ByteArray) (r : Int) (w : World) (hr0 : Kd.C (Kd.slice 9 Kd.string) w A0 l0.length l0) (_hc0 : l0.length ≤ c0) (hr1 : Kd.C Kd.string w A1 l1.length l1) (hc1 : l1.length ≤ c1) (h : lattice_openPictures.f l0 l1 = some r) (hT : Tabs w) :
    Calls Tryd.prog 11 #[.slice A0 l0.length c0, .slice A1 l1.length c1] w fun e w' => e = .returned (.int .i64 r) ∧ Below w.heap.size w w' := by
  cases h
  exact openPictures_calls hr0 hr1 hc1 hT
end Go.Proofs.YtpnflmaagncbkaaDoor.X
end
section
-- Written by a program of this claim's author out of the translation (the kit's print, with some functions taken as given). Not trusted: Lean checks it.
namespace Go.Proofs.YtpnflmaagncbkaaDoor.PGrp
open Go.RowKit Go.Proofs.YtpnflmaagncbkaaDoorW.PrintWords Go.Proofs.YtpnflmaagncbkaaDoorW.PrintLast Go.Proofs.YtpnflmaagncbkaaDoorW.PrintMore Go.Proofs.YtpnflmaagncbkaaDoor.X
attribute [local go_sem] max2_int min2_int max_two min_two max_three min_three max_four min_four   -- for this text's walks alone
set_option linter.unusedVariables false
set_option linter.unusedSimpArgs false



def errW : Option Int → Value
  | none => .nilIface
  | some c => .iface 0 (.int .i64 c)
theorem errW_none : errW none = .nilIface := rfl
theorem errW_some (c : Int) : errW (some c) = .iface 0 (.int .i64 c) := rfl

theorem info3 : (Tryd.prog.info? 3).map (fun i => (i.zero, i.size, i.bytes)) = some (some (.int .i64 0), 1, 8) := by kernel_rfl
theorem info36 : (Tryd.prog.info? 36).map (fun i => (i.zero, i.size, i.bytes)) = some (some (.slice none 0 0), 1, 24) := by kernel_rfl
-- the values' own types

end Go.Proofs.YtpnflmaagncbkaaDoor.PGrp
end
