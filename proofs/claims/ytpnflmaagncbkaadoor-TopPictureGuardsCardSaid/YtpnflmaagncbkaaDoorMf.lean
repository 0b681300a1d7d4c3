/- Part 6 of this claim's texts, put together by a program of its author: TpgAll, TpgPure, TpgEnd, TpgRow, TpgCard. -/
import Derived.Test.YtpnflmaagncbkaaDoorMe
import Derived.Laws.Strings
import Derived.Test.YtpnflmaagncbkaaDoorRows
import Derived.Laws.IdiomArrays
import Derived.Lib.LaidIn
import Derived.Lib.LaidU8
import Derived.Deep.DeepHandedRow
import Derived.Deep.DeepWitnessRowRef
import Derived.ProofKit
import Derived.SizedLaws
import Derived.Carry
import Derived.OpenShut
import Derived.Test.YtpnflmaagncbkaaDoorTie
import Derived.Test.YtpnflmaagncbkaaDoorCards
import Derived.SevenTiedAt
section
/- TopPictureGuards: what the kernel reckons: all rows of four cells, all lattices of one row. -/
namespace Go.Proofs.YtpnflmaagncbkaaDoor.PureTpg
open Go.RowKit Go.Proofs.YtpnflmaagncbkaaDoor.X Go.Proofs.YtpnflmaagncbkaaDoor.PTopPictureGuards

set_option maxRecDepth 100000
def dg (d : Nat) : UInt8 := UInt8.ofNat (48 + d)
def P4 (d0 d1 d2 d3 : Nat) : ByteArray := ⟨#[dg d0, dg d1, dg d2, dg d3]⟩
theorem known : panachetop_oakKnown06.f 20 = some true := by decide +kernel
def cellsOk (d0 d1 d2 d3 : Nat) : Bool := decide ((POac.panachetop_oakCells.f 9 [(d0 : Int), (d1 : Int), (d2 : Int), (d3 : Int)] 3).map ByteArray.data = some (P4 d0 d1 d2 d3).data) && decide (checkE [P4 d0 d1 d2 d3] = 0)
theorem cells256 : ((List.range 4).all fun a => (List.range 4).all fun b => (List.range 4).all fun c => (List.range 4).all fun d => cellsOk a b c d) = true := by decide +kernel
def barsEq (m x : Nat) : Bool := decide ((panachetop_oakBars.f 34 (x : Int) (m : Int)).map ByteArray.data = (panachetop_oakBars.f 34 ((2 * (x / 2 % 2 ^ m) : Nat) : Int) (m : Int)).map ByteArray.data)
theorem bars16 : ((List.range 4).all fun m => (List.range 256).all fun x => barsEq m x) = true := by decide +kernel
def barsOkO (m : Nat) (o : Option ByteArray) : Bool := match o with
  | some b => decide (b.size = m + 1) && (decide (barsE [b] = 0) && (List.range (m + 1)).all fun s => shiftB [b] (s : Int) 0)
  | none => false
theorem barsAll : ((List.range 4).all fun m => (List.range (2 ^ m)).all fun y => barsOkO m (panachetop_oakBars.f 34 ((2 * y : Nat) : Int) (m : Int))) = true := by decide +kernel
end Go.Proofs.YtpnflmaagncbkaaDoor.PureTpg
end
section
/- The plain law of TopPictureGuards: whatever the bytes are, the law's function is true. -/
namespace Go.Proofs.YtpnflmaagncbkaaDoor.PureTpg
open Go.RowKit Go.Proofs.YtpnflmaagncbkaaDoor.X Go.Proofs.YtpnflmaagncbkaaDoor.PTopPictureGuards Go.Proofs.YtpnflmaagncbkaaDoorW.PrintWords Go.Proofs.YtpnflmaagncbkaaDoorW.PrintMore

def tx (o : Bool) (d : Nat) : UInt8 := if o then dg d else 63
def T4 (o : Nat → Bool) (d0 d1 d2 d3 : Nat) : ByteArray := ⟨#[tx (o 0) d0, tx (o 1) d1, tx (o 2) d2, tx (o 3) d3]⟩
def cu (o : Bool) (d : Nat) : Int := if o then (d : Int) else 0
/-! the loop of the law -/
def cur (t p : ByteArray) (i : Nat) : Int := if bt t i = 63 then 0 else (bt p i - 48) % 256
theorem step (k : Nat) (x9 x10 x13 x14 : ByteArray) (x11 : List (List Int)) (i : Nat) (hi : i < 4) (h9 : x9.size = 4) (h10 : x10.size = 4) (h13 : x13.size = 4) (h14 : x14.size = 4) (u v : Int) (cx cy : List Int) (hx : cx.length ≤ 10) (hy : cy.length ≤ 10) :
    panachetop_TopPictureGuards.l0 (k + 3) x9 x10 x11 x13 x14 (i : Int) u cx v cy = panachetop_TopPictureGuards.l0 k x9 x10 x11 x13 x14 ((i + 1 : Nat) : Int) u (cx ++ [cur x13 x9 i]) v (cy ++ [cur x14 x10 i]) := by
  have w : wrap64 ((i : Int) + 1) = ((i + 1 : Nat) : Int) := by rw [wrap_id (by omega) (by omega)]; rfl
  have j3 : ∀ (a b : Int), panachetop_TopPictureGuards.j3 (k + 1) x9 x10 x11 x13 x14 (i : Int) a b u cx v cy = panachetop_TopPictureGuards.l0 k x9 x10 x11 x13 x14 ((i + 1 : Nat) : Int) u (cx ++ [a]) v (cy ++ [b]) := by
    intro a b
    rw [panachetop_TopPictureGuards.j3]
    simp only [Option.bind_some, List.length_singleton]
    rw [if_pos (by omega), if_pos (by omega), w]
  have j2 : ∀ (a : Int), panachetop_TopPictureGuards.j2 (k + 2) x9 x10 x11 x13 x14 (i : Int) a 0 u cx v cy = panachetop_TopPictureGuards.l0 k x9 x10 x11 x13 x14 ((i + 1 : Nat) : Int) u (cx ++ [a]) v (cy ++ [cur x14 x10 i]) := by
    intro a
    rw [panachetop_TopPictureGuards.j2, if_pos (by omega), if_pos (by omega)]
    unfold cur
    by_cases h : bt x14 i = 63
    · rw [if_pos h, if_pos h, j3]
    · rw [if_neg h, if_neg h, if_pos (by omega), j3]
  rw [panachetop_TopPictureGuards.l0, if_pos (by omega), if_pos (by omega), if_pos (by omega)]
  have e : cur x13 x9 i = if bt x13 i = 63 then 0 else (bt x9 i - 48) % 256 := rfl
  by_cases h : bt x13 i = 63
  · rw [if_pos h, j2, e, if_pos h]
  · rw [if_neg h, if_pos (by omega), j2, e, if_neg h]
/-! guards -/
theorem far_zero {a b m : Int} (ha : 0 ≤ a ∧ a ≤ 3) (hb : 0 ≤ b ∧ b ≤ 3) : (wrap64 (mx (wrap64 (a - b)) (wrap64 (b - a)) + wrap64 (m * 0)) > 0) ↔ a ≠ b := by
  rw [Int.mul_zero, wrap_id (a := a - b) (by omega) (by omega), wrap_id (a := b - a) (by omega) (by omega), wrap_id (a := 0) (by omega) (by omega), Int.add_zero]
  unfold mx
  split
  · rw [wrap_id (by omega) (by omega)]; omega
  · rw [wrap_id (by omega) (by omega)]; omega
theorem alike_step (k : Nat) (m w : Int) (lx ly : List Int) (hx : lx.length = 4) (hy : ly.length = 4) (i : Nat) (hi : i < 4) (ha : 0 ≤ rd lx i ∧ rd lx i ≤ 3) (hb : 0 ≤ rd ly i ∧ rd ly i ≤ 3) :
    guard_gauge_alike.l0 (k + 1) m lx 4 (i : Int) 0 0 0 0 w ly = if rd lx i = rd ly i then guard_gauge_alike.l0 k m lx 4 ((i + 1 : Nat) : Int) 0 0 0 0 w ly else some false := by
  have e : wrap64 ((i : Int) + 1) = ((i + 1 : Nat) : Int) := by rw [wrap_id (by omega) (by omega)]; rfl
  rw [guard_gauge_alike.l0, if_pos (by omega), if_pos (by omega), if_pos (by omega), if_pos (by omega)]
  unfold guard_far.f
  simp only [Option.bind_some]
  by_cases h : rd lx i = rd ly i
  · rw [if_pos h, if_neg (fun g => (far_zero ha hb).mp g h), e]
  · rw [if_neg h, if_pos ((far_zero ha hb).mpr h)]
def In3 (a : Int) : Prop := 0 ≤ a ∧ a ≤ 3
theorem gauge_alike (k : Nat) (m : Int) {a0 a1 a2 a3 b0 b1 b2 b3 : Int} (p0 : In3 a0) (p1 : In3 a1) (p2 : In3 a2) (p3 : In3 a3) (q0 : In3 b0) (q1 : In3 b1) (q2 : In3 b2) (q3 : In3 b3) :
    guard_gauge_alike.f (k + 5) 0 0 0 0 7 [a0, a1, a2, a3] 7 [b0, b1, b2, b3] m = some (decide ([a0, a1, a2, a3] = [b0, b1, b2, b3])) := by
  unfold guard_gauge_alike.f guard_far.f
  simp only [Option.bind_some]
  have w0 : wrap64 0 = 0 := wrap_id (by omega) (by omega)
  rw [Int.mul_zero, show (7 : Int) - 7 = 0 from rfl, w0, show mx 0 0 = 0 from rfl, Int.add_zero, w0, if_neg (by omega)]
  show guard_gauge_alike.l0 (k + 5) m [a0, a1, a2, a3] 4 ((0 : Nat) : Int) 0 0 0 0 7 [b0, b1, b2, b3] = _
  rw [alike_step (k + 4) m 7 [a0, a1, a2, a3] [b0, b1, b2, b3] rfl rfl 0 (by omega) p0 q0]
  rw [alike_step (k + 3) m 7 [a0, a1, a2, a3] [b0, b1, b2, b3] rfl rfl 1 (by omega) p1 q1]
  rw [alike_step (k + 2) m 7 [a0, a1, a2, a3] [b0, b1, b2, b3] rfl rfl 2 (by omega) p2 q2]
  rw [alike_step (k + 1) m 7 [a0, a1, a2, a3] [b0, b1, b2, b3] rfl rfl 3 (by omega) p3 q3]
  rw [guard_gauge_alike.l0, if_neg (show ¬ ((3 + 1 : Nat) : Int) < 4 from by omega)]
  show (if a0 = b0 then if a1 = b1 then if a2 = b2 then if a3 = b3 then some true else some false else some false else some false else some false) = _
  by_cases h0 : a0 = b0 <;> by_cases h1 : a1 = b1 <;> by_cases h2 : a2 = b2 <;> by_cases h3 : a3 = b3 <;> simp [h0, h1, h2, h3]
theorem not_none {a0 a1 a2 a3 : Int} (p0 : In3 a0) (p1 : In3 a1) (p2 : In3 a2) (p3 : In3 a3) : isNone ⟨7, [a0, a1, a2, a3]⟩ = false := by
  unfold In3 at p0 p1 p2 p3
  unfold isNone
  simp only [List.all_cons, List.all_nil]
  rw [decide_eq_true (p := 0 ≤ a0) (by omega), decide_eq_true (p := a0 ≤ 500) (by omega), decide_eq_true (p := 0 ≤ a1) (by omega), decide_eq_true (p := a1 ≤ 500) (by omega), decide_eq_true (p := 0 ≤ a2) (by omega), decide_eq_true (p := a2 ≤ 500) (by omega), decide_eq_true (p := 0 ≤ a3) (by omega), decide_eq_true (p := a3 ≤ 500) (by omega)]
  rfl
theorem guards_alike (k : Nat) {a0 a1 a2 a3 b0 b1 b2 b3 : Int} (p0 : In3 a0) (p1 : In3 a1) (p2 : In3 a2) (p3 : In3 a3) (q0 : In3 b0) (q1 : In3 b1) (q2 : In3 b2) (q3 : In3 b3) :
    guard_Alike.f (k + 5) 7 [a0, a1, a2, a3] 7 [b0, b1, b2, b3] 0 0 0 0 = some (decide ([a0, a1, a2, a3] = [b0, b1, b2, b3]), decide ([a0, a1, a2, a3] = [b0, b1, b2, b3]), 0) := by
  unfold guard_Alike.f
  have hc : guard_checkAll.f 0 0 0 0 [⟨7, [a0, a1, a2, a3]⟩, ⟨7, [b0, b1, b2, b3]⟩] = some 0 := by
    unfold guard_checkAll.f
    refine if_pos ⟨by simp, ?_, ?_, rfl, rfl, rfl⟩
    · rfl
    · simp only [List.any_cons, List.any_nil]
      rw [not_none p0 p1 p2 p3, not_none q0 q1 q2 q3]
      rfl
  rw [hc]
  simp only [Option.bind_some, if_true]
  rw [gauge_alike k 2 p0 p1 p2 p3 q0 q1 q2 q3]
  simp only [Option.bind_some]
  rw [gauge_alike k (-2) p0 p1 p2 p3 q0 q1 q2 q3]
  rfl
/-! pictures -/
theorem size_P (d0 d1 d2 d3 : Nat) : (P4 d0 d1 d2 d3).size = 4 := rfl
theorem size_T (o : Nat → Bool) (d0 d1 d2 d3 : Nat) : (T4 o d0 d1 d2 d3).size = 4 := rfl
theorem showRows_P (op : Nat → Nat → Bool) (d0 d1 d2 d3 : Nat) : showRows op [P4 d0 d1 d2 d3] = [T4 (fun x => op x 0) d0 d1 d2 d3] := rfl
theorem grid_show {b : ByteArray} {s : Int} {d0 d1 d2 d3 : Nat} (hb : barsE [b] = 0) (hs : shiftB [b] s 0 = true) (hc : checkE [P4 d0 d1 d2 d3] = 0) :
    lattice_grid_show.f [b] [P4 d0 d1 d2 d3] s 0 = some [T4 (fun x => openB [b] s 0 x 0) d0 d1 d2 d3] := by
  unfold lattice_grid_show.f
  rw [if_pos ⟨hc, hb, hs⟩, showRows_P]
theorem oak_show {b : ByteArray} {s : Int} {d0 d1 d2 d3 : Nat} (hb : barsE [b] = 0) (hs : shiftB [b] s 0 = true) (hc : checkE [P4 d0 d1 d2 d3] = 0) :
    panachetop_oakShow.f (P4 d0 d1 d2 d3) b s = some (T4 (fun x => openB [b] s 0 x 0) d0 d1 d2 d3) := by
  have h : lattice_Show.f [P4 d0 d1 d2 d3] [b] s 0 = some ([T4 (fun x => openB [b] s 0 x 0) d0 d1 d2 d3], 0) := by
    have e : showE [P4 d0 d1 d2 d3] [b] s 0 = 0 := by unfold showE; rw [if_pos hc, if_pos hb, if_pos hs]
    unfold lattice_Show.f
    rw [e, if_pos rfl, showRows_P]
  show (lattice_Show.f [P4 d0 d1 d2 d3] [b] s 0).bind _ = _
  rw [h]
  rfl
theorem join_one (t : ByteArray) (ht : t.size ≤ 1000) : strings_Join.f [t] ⟨#[10]⟩ = some t := by
  have e : joinB [t] ⟨#[10]⟩ = t := by
    unfold joinB Lib.join
    cases t with | mk a => simp [List.intercalate]
  unfold strings_Join.f
  rw [e, if_pos ⟨by simp, by omega⟩]
theorem groups_two {b p q tp tq : ByteArray} {s : Int} (hp : lattice_grid_show.f [b] [p] s 0 = some [tp]) (hq : lattice_grid_show.f [b] [q] s 0 = some [tq]) (kp : tp.size ≤ 1000) (kq : tq.size ≤ 1000) :
    lattice_grid_groups.f [b] [[p], [q]] s 0 = some (if tp = tq then [[0, 1]] else [[0], [1]]) := by
  have w1 : wrap64 (0 + 1) = 1 := wrap_id (by omega) (by omega)
  have w2 : wrap64 (1 + 1) = 2 := wrap_id (by omega) (by omega)
  show PGrp.lattice_grid_groups.l0 3 [b] [] [] [[p], [q]] 2 0 s 0 = _
  rw [PGrp.lattice_grid_groups.l0, if_pos (by decide), if_pos (by decide), if_pos (show (0 : Int) < ((([[p], [q]] : List (List ByteArray)).length : Nat) : Int) from (by decide : (0 : Int) < 2))]
  rw [show rd_L4 [[p], [q]] 0 = [p] from rfl, hp]
  simp only [Option.bind_some]
  rw [join_one tp kp]
  simp only [Option.bind_some]
  rw [if_neg (show ¬ (hasIx [] tp = true) from by simp [hasIx]), if_pos (show ([] : List (List Int)).length < 5864062014805 from by decide)]
  rw [if_pos (show (0 : Int) ≤ (([] : List (List Int)).length : Int) from by decide), if_pos (show (([] : List (List Int)).length : Int) < ((([] ++ [[]] : List (List Int)).length : Nat) : Int) from by decide), if_pos (by decide)]
  rw [w1]
  show PGrp.lattice_grid_groups.l0 2 [b] [[0]] [tp] [[p], [q]] 2 1 s 0 = _
  rw [PGrp.lattice_grid_groups.l0, if_pos (by decide), if_pos (by decide), if_pos (show (1 : Int) < ((([[p], [q]] : List (List ByteArray)).length : Nat) : Int) from (by decide : (1 : Int) < 2))]
  rw [show rd_L4 [[p], [q]] 1 = [q] from rfl, hq]
  simp only [Option.bind_some]
  rw [join_one tq kq]
  simp only [Option.bind_some]
  by_cases h : tp = tq
  · subst h
    have a0 : atIx [tp] tp = 0 := by simp [atIx]
    rw [if_pos (show hasIx [tp] tp = true from by simp [hasIx]), a0, if_pos (by decide), if_pos (by decide), if_pos (by decide), if_pos rfl]
    rw [w2]
    show PGrp.lattice_grid_groups.l0 1 [b] [[0, 1]] [tp] [[p], [q]] 2 2 s 0 = _
    rw [PGrp.lattice_grid_groups.l0, if_neg (by decide)]
  · rw [if_neg (show ¬ (hasIx [tp] tq = true) from by simp [hasIx, h]), if_pos (show ([[0]] : List (List Int)).length < 5864062014805 from by decide), if_neg h]
    rw [if_pos (show (0 : Int) ≤ (([[0]] : List (List Int)).length : Int) from by decide), if_pos (show (([[0]] : List (List Int)).length : Int) < ((([[0]] ++ [[]] : List (List Int)).length : Nat) : Int) from by decide), if_pos (by decide)]
    rw [w2]
    show PGrp.lattice_grid_groups.l0 1 [b] [[0], [1]] [tp, tq] [[p], [q]] 2 2 s 0 = _
    rw [PGrp.lattice_grid_groups.l0, if_neg (by decide)]
theorem open_two {b : ByteArray} {d0 d1 d2 d3 e0 e1 e2 e3 : Nat} (hb : barsE [b] = 0) (hc : checkE [P4 d0 d1 d2 d3] = 0) (hd : checkE [P4 e0 e1 e2 e3] = 0) : openE [[P4 d0 d1 d2 d3], [P4 e0 e1 e2 e3]] [b] = 0 := by
  unfold openE
  rw [if_neg (show ¬ 12 < [[P4 d0 d1 d2 d3], [P4 e0 e1 e2 e3]].length from (by decide : ¬ 12 < 2))]
  have hf : firstErr (fun j => checkE ([[P4 d0 d1 d2 d3], [P4 e0 e1 e2 e3]].getD j [])) [[P4 d0 d1 d2 d3], [P4 e0 e1 e2 e3]].length = 0 := firstErr_zero _ _ (fun j hj => by
    match j, hj with
    | 0, _ => exact hc
    | 1, _ => exact hd)
  have ha : ([[P4 d0 d1 d2 d3], [P4 e0 e1 e2 e3]].any fun p => !alikeB p ([[P4 d0 d1 d2 d3], [P4 e0 e1 e2 e3]].getD 0 [])) = false := rfl
  rw [if_pos hf, if_neg (by rw [ha]; decide), hb]
/-! the cells -/
theorem tx_eq (o : Bool) {d e : Nat} (hd : d < 4) (he : e < 4) : tx o d = tx o e ↔ cu o d = cu o e := by
  cases o with
  | false => simp [tx, cu]
  | true =>
    have h : ∀ d, d < 4 → ∀ e, e < 4 → (dg d = dg e ↔ d = e) := by decide
    simp only [tx, cu, if_true]
    rw [h d hd e he]
    omega
theorem cu_in (o : Bool) {d : Nat} (hd : d < 4) : In3 (cu o d) := by
  unfold In3 cu
  split <;> omega
theorem dg_ne {d : Nat} (hd : d < 4) : ((dg d).toNat : Int) ≠ 63 ∧ ((((dg d).toNat : Int) - 48) % 256) = (d : Int) := by
  have h : ∀ d, d < 4 → ((dg d).toNat : Int) ≠ 63 ∧ ((((dg d).toNat : Int) - 48) % 256) = (d : Int) := by decide
  exact h d hd
theorem cur_cell {o : Bool} {d : Nat} (hd : d < 4) {x y : Int} (hx : x = ((tx o d).toNat : Int)) (hy : y = ((dg d).toNat : Int)) : (if x = 63 then 0 else (y - 48) % 256) = cu o d := by
  subst hx hy
  cases o with
  | false => rfl
  | true =>
    show (if ((dg d).toNat : Int) = 63 then 0 else (((dg d).toNat : Int) - 48) % 256) = (d : Int)
    rw [if_neg (dg_ne hd).1, (dg_ne hd).2]
theorem T4_eq {o : Nat → Bool} {d0 d1 d2 d3 e0 e1 e2 e3 : Nat} (p0 : d0 < 4) (p1 : d1 < 4) (p2 : d2 < 4) (p3 : d3 < 4) (q0 : e0 < 4) (q1 : e1 < 4) (q2 : e2 < 4) (q3 : e3 < 4) :
    T4 o d0 d1 d2 d3 = T4 o e0 e1 e2 e3 ↔ [cu (o 0) d0, cu (o 1) d1, cu (o 2) d2, cu (o 3) d3] = [cu (o 0) e0, cu (o 1) e1, cu (o 2) e2, cu (o 3) e3] := by
  unfold T4
  rw [ByteArray.mk.injEq, Array.mk.injEq]
  simp only [List.cons.injEq, and_true]
  rw [tx_eq _ p0 q0, tx_eq _ p1 q1, tx_eq _ p2 q2, tx_eq _ p3 q3]
theorem loop4 (k : Nat) (o : Nat → Bool) (d0 d1 d2 d3 e0 e1 e2 e3 : Nat) (x11 : List (List Int)) (p0 : d0 < 4) (p1 : d1 < 4) (p2 : d2 < 4) (p3 : d3 < 4) (q0 : e0 < 4) (q1 : e1 < 4) (q2 : e2 < 4) (q3 : e3 < 4) :
    panachetop_TopPictureGuards.l0 (k + 3 + 3 + 3 + 3) (P4 d0 d1 d2 d3) (P4 e0 e1 e2 e3) x11 (T4 o d0 d1 d2 d3) (T4 o e0 e1 e2 e3) 0 7 [] 7 [] =
    panachetop_TopPictureGuards.l0 k (P4 d0 d1 d2 d3) (P4 e0 e1 e2 e3) x11 (T4 o d0 d1 d2 d3) (T4 o e0 e1 e2 e3) 4 7 [cu (o 0) d0, cu (o 1) d1, cu (o 2) d2, cu (o 3) d3] 7 [cu (o 0) e0, cu (o 1) e1, cu (o 2) e2, cu (o 3) e3] := by
  have s := fun (k : Nat) (i : Nat) (hi : i < 4) cx cy hx hy => step k (P4 d0 d1 d2 d3) (P4 e0 e1 e2 e3) (T4 o d0 d1 d2 d3) (T4 o e0 e1 e2 e3) x11 i hi rfl rfl rfl rfl 7 7 cx cy hx hy
  have c0 : cur (T4 o d0 d1 d2 d3) (P4 d0 d1 d2 d3) 0 = cu (o 0) d0 := cur_cell p0 rfl rfl
  have c1 : cur (T4 o d0 d1 d2 d3) (P4 d0 d1 d2 d3) 1 = cu (o 1) d1 := cur_cell p1 rfl rfl
  have c2 : cur (T4 o d0 d1 d2 d3) (P4 d0 d1 d2 d3) 2 = cu (o 2) d2 := cur_cell p2 rfl rfl
  have c3 : cur (T4 o d0 d1 d2 d3) (P4 d0 d1 d2 d3) 3 = cu (o 3) d3 := cur_cell p3 rfl rfl
  have f0 : cur (T4 o e0 e1 e2 e3) (P4 e0 e1 e2 e3) 0 = cu (o 0) e0 := cur_cell q0 rfl rfl
  have f1 : cur (T4 o e0 e1 e2 e3) (P4 e0 e1 e2 e3) 1 = cu (o 1) e1 := cur_cell q1 rfl rfl
  have f2 : cur (T4 o e0 e1 e2 e3) (P4 e0 e1 e2 e3) 2 = cu (o 2) e2 := cur_cell q2 rfl rfl
  have f3 : cur (T4 o e0 e1 e2 e3) (P4 e0 e1 e2 e3) 3 = cu (o 3) e3 := cur_cell q3 rfl rfl
  have t0 := s (k + 3 + 3 + 3) 0 (by omega) [] [] (by simp) (by simp)
  have t1 := s (k + 3 + 3) 1 (by omega) [cu (o 0) d0] [cu (o 0) e0] (by simp) (by simp)
  have t2 := s (k + 3) 2 (by omega) [cu (o 0) d0, cu (o 1) d1] [cu (o 0) e0, cu (o 1) e1] (by simp) (by simp)
  have t3 := s k 3 (by omega) [cu (o 0) d0, cu (o 1) d1, cu (o 2) d2] [cu (o 0) e0, cu (o 1) e1, cu (o 2) e2] (by simp) (by simp)
  rw [c0, f0] at t0
  rw [c1, f1] at t1
  rw [c2, f2] at t2
  rw [c3, f3] at t3
  exact t0.trans (t1.trans (t2.trans t3))
end Go.Proofs.YtpnflmaagncbkaaDoor.PureTpg
end
section
/- The plain law of TopPictureGuards, joined: the law's function is true at all bytes. -/
namespace Go.Proofs.YtpnflmaagncbkaaDoor.PureTpg
open Go.RowKit Go.Proofs.YtpnflmaagncbkaaDoor.X Go.Proofs.YtpnflmaagncbkaaDoor.PTopPictureGuards Go.Proofs.YtpnflmaagncbkaaDoorW.PrintWords Go.Proofs.YtpnflmaagncbkaaDoorW.PrintMore

theorem text_beq (a b : ByteArray) : (a.toList == b.toList) = decide (a = b) := by
  rw [ByteArray.toList_eq, ByteArray.toList_eq, Bool.eq_iff_iff, beq_iff_eq, decide_eq_true_iff]
  constructor
  · intro h
    cases a with | mk x => cases b with | mk y => exact congrArg ByteArray.mk (Array.toList_inj.mp h)
  · rintro rfl
    rfl
theorem last (k : Nat) (hk : panachetop_oakKnown06.f (k + 5) = some true) (o : Nat → Bool) (d0 d1 d2 d3 e0 e1 e2 e3 : Nat) (p0 : d0 < 4) (p1 : d1 < 4) (p2 : d2 < 4) (p3 : d3 < 4) (q0 : e0 < 4) (q1 : e1 < 4) (q2 : e2 < 4) (q3 : e3 < 4) :
    panachetop_TopPictureGuards.l0 (k + 5 + 1) (P4 d0 d1 d2 d3) (P4 e0 e1 e2 e3) (if T4 o d0 d1 d2 d3 = T4 o e0 e1 e2 e3 then [[0, 1]] else [[0], [1]]) (T4 o d0 d1 d2 d3) (T4 o e0 e1 e2 e3) 4 7 [cu (o 0) d0, cu (o 1) d1, cu (o 2) d2, cu (o 3) d3] 7 [cu (o 0) e0, cu (o 1) e1, cu (o 2) e2, cu (o 3) e3] = some true := by
  have hT := T4_eq (o := o) p0 p1 p2 p3 q0 q1 q2 q3
  have hg := guards_alike k (cu_in (o 0) p0) (cu_in (o 1) p1) (cu_in (o 2) p2) (cu_in (o 3) p3) (cu_in (o 0) q0) (cu_in (o 1) q1) (cu_in (o 2) q2) (cu_in (o 3) q3)
  have hq : decide ([cu (o 0) d0, cu (o 1) d1, cu (o 2) d2, cu (o 3) d3] = [cu (o 0) e0, cu (o 1) e1, cu (o 2) e2, cu (o 3) e3]) = decide (T4 o d0 d1 d2 d3 = T4 o e0 e1 e2 e3) := decide_eq_decide.mpr hT.symm
  rw [hq] at hg
  rw [panachetop_TopPictureGuards.l0, if_neg (by omega), hg]
  simp only [Option.bind_some, if_true]
  rw [text_beq, hk]
  by_cases h : T4 o d0 d1 d2 d3 = T4 o e0 e1 e2 e3
  · rw [if_pos h, decide_eq_true h]
    rfl
  · rw [if_neg h, decide_eq_false h]
    rfl
theorem alike_two {b : ByteArray} {s : Int} {d0 d1 d2 d3 e0 e1 e2 e3 : Nat} (hb : barsE [b] = 0) (hs : shiftB [b] s 0 = true) (hc : checkE [P4 d0 d1 d2 d3] = 0) (hd : checkE [P4 e0 e1 e2 e3] = 0) :
    lattice_Alike.f [[P4 d0 d1 d2 d3], [P4 e0 e1 e2 e3]] [b] s 0 = some (if T4 (fun x => openB [b] s 0 x 0) d0 d1 d2 d3 = T4 (fun x => openB [b] s 0 x 0) e0 e1 e2 e3 then [[0, 1]] else [[0], [1]], 0) := by
  show PAlk.lattice_Alike.f _ _ _ _ = _
  unfold PAlk.lattice_Alike.f lattice_openPictures.f
  rw [open_two hb hc hd]
  simp only [Option.bind_some, if_true]
  have h1 : lattice_grid_isShift.f [b] s 0 = some true := (isShift_f (rows_of (high := 4) (wide := 4) hb) s 0).trans (congrArg some hs)
  rw [h1]
  simp only [Option.bind_some, if_true]
  rw [groups_two (grid_show hb hs hc) (grid_show hb hs hd) (by rw [size_T]; decide) (by rw [size_T]; decide)]
  rfl
theorem f_true {a0 a1 a2 a3 b0 b1 b2 b3 c0 c1 c2 s : Int} {b : ByteArray} {d0 d1 d2 d3 e0 e1 e2 e3 : Nat} (p0 : d0 < 4) (p1 : d1 < 4) (p2 : d2 < 4) (p3 : d3 < 4) (q0 : e0 < 4) (q1 : e1 < 4) (q2 : e2 < 4) (q3 : e3 < 4)
    (hB : panachetop_oakBars.f 34 c0 c1 = some b) (hz : (b.size : Int) ≠ 0) (hs : Int.tmod (wrap64 c2) (b.size : Int) = s) (hP : panachetop_oakCells.f a0 a1 a2 a3 3 = some (P4 d0 d1 d2 d3)) (hQ : panachetop_oakCells.f b0 b1 b2 b3 3 = some (P4 e0 e1 e2 e3))
    (hb : barsE [b] = 0) (hh : shiftB [b] s 0 = true) (hc : checkE [P4 d0 d1 d2 d3] = 0) (hd : checkE [P4 e0 e1 e2 e3] = 0) : panachetop_TopPictureGuards.f 34 a0 a1 a2 a3 b0 b1 b2 b3 c0 c1 c2 = some true := by
  unfold panachetop_TopPictureGuards.f
  rw [hB]
  simp only [Option.bind_some]
  rw [if_neg hz, hP]
  simp only [Option.bind_some]
  rw [hQ]
  simp only [Option.bind_some]
  rw [hs, alike_two hb hh hc hd]
  simp only [Option.bind_some]
  rw [oak_show hb hh hc]
  simp only [Option.bind_some]
  rw [oak_show hb hh hd]
  simp only [Option.bind_some, if_true]
  generalize (fun x => openB [b] s 0 x 0) = o
  have A := loop4 21 o d0 d1 d2 d3 e0 e1 e2 e3 (if T4 o d0 d1 d2 d3 = T4 o e0 e1 e2 e3 then [[0, 1]] else [[0], [1]]) p0 p1 p2 p3 q0 q1 q2 q3
  have B := last 15 known o d0 d1 d2 d3 e0 e1 e2 e3 p0 p1 p2 p3 q0 q1 q2 q3
  have C := A.trans B
  clear A B
  rw [if_pos (show ((T4 o d0 d1 d2 d3).size : Int) = 4 from rfl), panachetop_TopPictureGuards.j0]
  have hg : panachetop_oakGuard.f 7 [] = some (7, []) := rfl
  rw [if_neg (show ¬ (((T4 o e0 e1 e2 e3).size : Int) != 4) = true from by rw [size_T]; decide), hg]
  simp only [Option.bind_some]
  exact C
/-! bytes and their rests -/
theorem rest (n : Nat) (m : Nat) (hn : n < 256) : Int.tmod (wrap64 (n : Int)) (m : Int) = ((n % m : Nat) : Int) := by
  rw [wrap_id (by omega) (by omega), Int.tmod_eq_emod_of_nonneg (by omega), Int.natCast_emod]
theorem data_inj {a b : Option ByteArray} (h : a.map ByteArray.data = b.map ByteArray.data) : a = b := by
  cases a with
  | none => cases b with
    | none => rfl
    | some y => cases h
  | some x => cases b with
    | none => cases h
    | some y =>
      obtain ⟨x⟩ := x
      obtain ⟨y⟩ := y
      have e : x = y := Option.some.inj h
      rw [e]
theorem cells_same {l l' : List Int} (hl : l.length = l'.length) (h : ∀ j, Int.tmod (wrap64 (rd l j)) 4 = Int.tmod (wrap64 (rd l' j)) 4) (a : Int) : ∀ (k : Nat) (s : ByteArray) (j : Int), POac.panachetop_oakCells.l0 k l a s j = POac.panachetop_oakCells.l0 k l' a s j := by
  intro k
  induction k with
  | zero => intro s j; rfl
  | succ k ih =>
    intro s j
    unfold POac.panachetop_oakCells.l0
    rw [h j, hl]
    simp only [ih]
theorem cells_of {n0 n1 n2 n3 : Nat} (h0 : n0 < 256) (h1 : n1 < 256) (h2 : n2 < 256) (h3 : n3 < 256) : panachetop_oakCells.f (n0 : Int) (n1 : Int) (n2 : Int) (n3 : Int) 3 = some (P4 (n0 % 4) (n1 % 4) (n2 % 4) (n3 % 4)) ∧ checkE [P4 (n0 % 4) (n1 % 4) (n2 % 4) (n3 % 4)] = 0 := by
  have h := cells256
  simp only [List.all_eq_true, List.mem_range] at h
  have hh := h (n0 % 4) (Nat.mod_lt _ (by decide)) (n1 % 4) (Nat.mod_lt _ (by decide)) (n2 % 4) (Nat.mod_lt _ (by decide)) (n3 % 4) (Nat.mod_lt _ (by decide))
  unfold cellsOk at hh
  rw [Bool.and_eq_true] at hh
  refine ⟨?_, of_decide_eq_true hh.2⟩
  have e : POac.panachetop_oakCells.f 9 [((n0 % 4 : Nat) : Int), ((n1 % 4 : Nat) : Int), ((n2 % 4 : Nat) : Int), ((n3 % 4 : Nat) : Int)] 3 = some (P4 (n0 % 4) (n1 % 4) (n2 % 4) (n3 % 4)) := data_inj (of_decide_eq_true hh.1)
  rw [← e]
  refine cells_same (by rfl) ?_ 3 9 _ _
  have r4 : ∀ n : Nat, n < 256 → Int.tmod (wrap64 (n : Int)) 4 = Int.tmod (wrap64 ((n % 4 : Nat) : Int)) 4 := fun n hn => by
    rw [show (4 : Int) = ((4 : Nat) : Int) from rfl, rest n 4 hn, rest (n % 4) 4 (by omega), Nat.mod_mod]
  intro j
  unfold rd
  match j.toNat with
  | 0 => exact r4 n0 h0
  | 1 => exact r4 n1 h1
  | 2 => exact r4 n2 h2
  | 3 => exact r4 n3 h3
  | i + 4 => rfl
theorem bars_same {x a b : Int} (h : Int.tmod (wrap64 a) 4 = Int.tmod (wrap64 b) 4) : ∀ (k : Nat) (s : ByteArray) (j : Int), panachetop_oakBars.l0 k x a s j = panachetop_oakBars.l0 k x b s j := by
  intro k
  induction k with
  | zero => intro s j; rfl
  | succ k ih =>
    intro s j
    unfold panachetop_oakBars.l0
    rw [h]
    simp only [ih]
theorem bars_of {x m : Nat} (hx : x < 256) (hm : m < 4) : panachetop_oakBars.f 34 (x : Int) (m : Int) = panachetop_oakBars.f 34 ((2 * (x / 2 % 2 ^ m) : Nat) : Int) (m : Int) := by
  have h := bars16
  simp only [List.all_eq_true, List.mem_range] at h
  have hh := h m hm x hx
  unfold barsEq at hh
  exact data_inj (of_decide_eq_true hh)
theorem barsOkO_spec {m : Nat} {o : Option ByteArray} (h : barsOkO m o = true) : ∃ b, o = some b ∧ b.size = m + 1 ∧ barsE [b] = 0 ∧ ∀ s, s < m + 1 → shiftB [b] (s : Int) 0 = true := by
  cases o with
  | none => cases h
  | some b =>
    simp only [barsOkO, Bool.and_eq_true, decide_eq_true_iff, List.all_eq_true, List.mem_range] at h
    exact ⟨b, rfl, h.1, h.2.1, h.2.2⟩
theorem bars_good {n1 n2 : Nat} (h1 : n1 < 256) (h2 : n2 < 256) : ∃ b, panachetop_oakBars.f 34 (n1 : Int) (n2 : Int) = some b ∧ b.size = n2 % 4 + 1 ∧ barsE [b] = 0 ∧ ∀ s, s < n2 % 4 + 1 → shiftB [b] (s : Int) 0 = true := by
  have hm : n2 % 4 < 4 := Nat.mod_lt _ (by decide)
  have h := barsAll
  simp only [List.all_eq_true, List.mem_range] at h
  have hh := barsOkO_spec (h (n2 % 4) hm (n1 / 2 % 2 ^ (n2 % 4)) (Nat.mod_lt _ (Nat.two_pow_pos _)))
  have e : panachetop_oakBars.f 34 (n1 : Int) (n2 : Int) = panachetop_oakBars.f 34 ((2 * (n1 / 2 % 2 ^ (n2 % 4)) : Nat) : Int) ((n2 % 4 : Nat) : Int) := by
    refine (bars_same (b := ((n2 % 4 : Nat) : Int)) ?_ 34 _ _).trans (bars_of h1 hm)
    rw [show (4 : Int) = ((4 : Nat) : Int) from rfl, rest n2 4 h2, rest (n2 % 4) 4 (by omega), Nat.mod_mod]
  rw [e]
  exact hh
theorem pure (n0 n1 n2 n3 m0 m1 m2 m3 v0 v1 v2 : Nat) (h0 : n0 < 256) (h1 : n1 < 256) (h2 : n2 < 256) (h3 : n3 < 256) (k0 : m0 < 256) (k1 : m1 < 256) (k2 : m2 < 256) (k3 : m3 < 256) (w0 : v0 < 256) (w1 : v1 < 256) (w2 : v2 < 256) :
    panachetop_TopPictureGuards.f 34 (n0 : Int) (n1 : Int) (n2 : Int) (n3 : Int) (m0 : Int) (m1 : Int) (m2 : Int) (m3 : Int) (v0 : Int) (v1 : Int) (v2 : Int) = some true := by
  obtain ⟨b, hB, hz, hb, hs⟩ := bars_good w0 w1
  obtain ⟨hP, hc⟩ := cells_of h0 h1 h2 h3
  obtain ⟨hQ, hd⟩ := cells_of k0 k1 k2 k3
  have lt : ∀ n, n % 4 < 4 := fun n => Nat.mod_lt _ (by decide)
  exact f_true (s := ((v2 % b.size : Nat) : Int)) (lt n0) (lt n1) (lt n2) (lt n3) (lt m0) (lt m1) (lt m2) (lt m3) hB (by omega) (rest v2 b.size w2) hP hQ hb (hs _ (by rw [← hz]; exact Nat.mod_lt _ (by omega))) hc hd
end Go.Proofs.YtpnflmaagncbkaaDoor.PureTpg
end
section
/- The row of TopPictureGuards: for every eleven bytes, with the two tables of package unicode/utf8 as its text lays them, the law returns true and its arguments read as before -/
namespace Go.Proofs.YtpnflmaagncbkaaDoor.topPictureGuards
open Go.Shelf Go.ChangeShapes Go.WideShapes Go.ChangeAt Go.RowKit Go.Lib
open Go.Proofs.YtpnflmaagncbkaaDoor.X Go.Proofs.YtpnflmaagncbkaaDoor.PTopPictureGuards

theorem own : ownKnob Tryd.prog.godebug = none := by kernel_rfl
theorem laidOut : laidOutB Tryd.prog = true := by kernel_rfl
theorem list3 : ∀ (l : List Value), l.length = 3 → ∃ a0 a1 a2, l = [a0, a1, a2]
  | [a0, a1, a2], _ => ⟨a0, a1, a2, rfl⟩
theorem list4 : ∀ (l : List Value), l.length = 4 → ∃ a0 a1 a2 a3, l = [a0, a1, a2, a3]
  | [a0, a1, a2, a3], _ => ⟨a0, a1, a2, a3, rfl⟩

/-- The witness: the settled world, the two variables holding what their initialisers lay. -/
noncomputable def laidWorld (os : Os) : World :=
  let w0 := World.holding Tryd.prog os ⟨#[], #[], []⟩
  let put (h : Array Obj) (g : Nat) (cs : Array Value) : Array Obj := h.modify g fun
    | .cells _ t frozen => .cells cs t frozen
    | o => o
  let h1 := put w0.heap 1 (Lib.firstTab.map fun z => Value.int .u8 z).toArray
  let h2 := put h1 2 ((List.range 16).flatMap fun i => [Value.int .u8 (Lib.accLo i), Value.int .u8 (Lib.accHi i)]).toArray
  { w0 with heap := h2 }
theorem laid_met (os : Os) (args : Array Value) : laidMet Tryd.prog Rows.topPictureGuardsRow.laid ((laidWorld os).forCall (fun _ _ => 0) ⟨#[], args, []⟩).memory :=
  (LaidIn.of_run (l := Rows.topPictureGuardsRow.laid) [1, 2] 8 (by kernel_rfl) (by kernel_rfl) (by kernel_rfl) (by kernel_rfl)).met

theorem first_eq : (Rows.laid_unicode_utf8_first : DataW Unit) = Lib.firstData := by kernel_rfl
theorem accept_eq : (Rows.laid_unicode_utf8_acceptRanges : DataW Unit) = Lib.acceptData := by kernel_rfl
theorem reads_first {W : World} (hL : laidMet Tryd.prog Rows.topPictureGuardsRow.laid W) : VarReads Tryd.prog W "unicode/utf8.first" Lib.firstData := by
  rw [← first_eq]
  exact Lib.laidMet.reads hL (.tail _ (.head _))
theorem reads_accept {W : World} (hL : laidMet Tryd.prog Rows.topPictureGuardsRow.laid W) : VarReads Tryd.prog W "unicode/utf8.acceptRanges" Lib.acceptData := by
  rw [← accept_eq]
  exact Lib.laidMet.reads hL (.head _)

abbrev spec : OpenSpec := OpenSpec.ofChange Rows.topPictureGuardsSpec
theorem witness_row (os : Os) {H : Type} (enc : TypeId × Value → H) :
    spec.preRow enc Tryd.prog Tryd.f3 Rows.topPictureGuardsRow.domain false Rows.topPictureGuardsRow.laid ((laidWorld os).forCall (fun _ _ => 0) ⟨#[], #[.agg #[.int .u8 0, .int .u8 0, .int .u8 0, .int .u8 0], .agg #[.int .u8 0, .int .u8 0, .int .u8 0, .int .u8 0], .agg #[.int .u8 0, .int .u8 0, .int .u8 0]], []⟩).memory #[.agg #[.int .u8 0, .int .u8 0, .int .u8 0, .int .u8 0], .agg #[.int .u8 0, .int .u8 0, .int .u8 0, .int .u8 0], .agg #[.int .u8 0, .int .u8 0, .int .u8 0]] := by
  have hw : (DataW.whole enc Tryd.prog ((laidWorld os).forCall (fun _ _ => 0) ⟨#[], #[.agg #[.int .u8 0, .int .u8 0, .int .u8 0, .int .u8 0], .agg #[.int .u8 0, .int .u8 0, .int .u8 0, .int .u8 0], .agg #[.int .u8 0, .int .u8 0, .int .u8 0]], []⟩).memory Tryd.f3.params.toList spec.vars false (#[.agg #[.int .u8 0, .int .u8 0, .int .u8 0, .int .u8 0], .agg #[.int .u8 0, .int .u8 0, .int .u8 0, .int .u8 0], .agg #[.int .u8 0, .int .u8 0, .int .u8 0]] : Array Value).toList 8).map (fun x => (x.1, x.2.1)) =
      some ([.agg [.lit (.int .u8 0), .lit (.int .u8 0), .lit (.int .u8 0), .lit (.int .u8 0)], .agg [.lit (.int .u8 0), .lit (.int .u8 0), .lit (.int .u8 0), .lit (.int .u8 0)], .agg [.lit (.int .u8 0), .lit (.int .u8 0), .lit (.int .u8 0)]], []) := by kernel_rfl
  obtain ⟨⟨x1, x2, x3⟩, hx, hx1⟩ := Option.map_eq_some_iff.1 hw
  simp only [Prod.mk.injEq] at hx1
  obtain ⟨rfl, rfl⟩ := hx1
  exact OpenSpec.preRow_of_cond 8 hx (by kernel_rfl) (fun k hk => by cases hk) (by kernel_rfl) (laid_met os _)

set_option maxRecDepth 100000 in
set_option maxHeartbeats 2000000 in
theorem lifted (os : Os) (started : os.Started) (H : Type) (enc : TypeId × Value → H) (F : Stop.Interp) :
    ReturnsInHanded {} Tryd.checked os 3 .any (spec.preRow enc Tryd.prog Tryd.f3 Rows.topPictureGuardsRow.domain false Rows.topPictureGuardsRow.laid) ((spec.at F).post enc Tryd.prog Tryd.f3 false true false false) := by
  refine returnsInHanded_of_row (C := Tryd.checked) (s := spec) own started (by kernel_rfl) Tryd.func3
    (witness_row_atRef (enc := enc) (C := Tryd.checked) false (laidWorld os) #[.agg #[.int .u8 0, .int .u8 0, .int .u8 0, .int .u8 0], .agg #[.int .u8 0, .int .u8 0, .int .u8 0, .int .u8 0], .agg #[.int .u8 0, .int .u8 0, .int .u8 0]] rfl (by kernel_rfl) (by kernel_rfl) (by kernel_rfl) (witness_row os enc)) ?_
  intro W base args ds gs before hval0 hW _ _ _ hL _ _
  have hval : ∀ (j : Nat) t v, Tryd.f3.params[j]? = some t → args[j]? = some v → Value.okWide Tryd.prog W .any base t v := hval0
  have hW' := hW
  obtain ⟨p, q, hA0, hV0, rfl, _, _⟩ := hW
  have hA : DataW.TrodAll enc Tryd.prog W 0 (fun _ => true) true Tryd.f3.params.toList args.toList ds p := hA0
  rw [Tryd.params3] at hA hval
  obtain ⟨v0, v1, v2, d0, d1, d2, pp0, pp1, pp2, rfl, rfl, rfl, t0, t1, t2⟩ := trodAll_three hA
  obtain ⟨rfl, rfl⟩ := trodVars_none hV0
  have t0k := t0
  obtain ⟨cs0, rfl, hsz0, _⟩ : ∃ cs, v0 = .agg cs ∧ cs.size = Tryd.prog.cellsOf 22 ∧ Row.okWide Tryd.prog W .any base 22 cs := by
    have := hval 0 22 v0 rfl rfl
    simpa [Value.okWide, Tryd.underlying22] using this
  rw [show Tryd.prog.cellsOf 22 = 4 from by kernel_rfl] at hsz0
  obtain ⟨l0⟩ := cs0
  obtain ⟨c0, c1, c2, c3, rfl⟩ := list4 l0 hsz0
  obtain ⟨fuel0, hf0⟩ := t0
  obtain ⟨y0, y1, y2, y3, m0, hx0, hy0, hy1, hy2, hy3⟩ := trod_array4 Tryd.underlying22 (show Tryd.prog.cellsOf 5 = 1 from by kernel_rfl) hf0
  obtain ⟨x0, e0, rfl, w0⟩ := DataW.trod_int Tryd.underlying5 hy0
  obtain ⟨x1, e1, rfl, w1⟩ := DataW.trod_int Tryd.underlying5 hy1
  obtain ⟨x2, e2, rfl, w2⟩ := DataW.trod_int Tryd.underlying5 hy2
  obtain ⟨x3, e3, rfl, w3⟩ := DataW.trod_int Tryd.underlying5 hy3
  simp at e0 e1 e2 e3
  subst e0 e1 e2 e3
  simp only [Prod.mk.injEq] at hx0
  obtain ⟨rfl, rfl⟩ := hx0
  have t1k := t1
  obtain ⟨cs1, rfl, hsz1, _⟩ : ∃ cs, v1 = .agg cs ∧ cs.size = Tryd.prog.cellsOf 22 ∧ Row.okWide Tryd.prog W .any base 22 cs := by
    have := hval 1 22 v1 rfl rfl
    simpa [Value.okWide, Tryd.underlying22] using this
  rw [show Tryd.prog.cellsOf 22 = 4 from by kernel_rfl] at hsz1
  obtain ⟨l1⟩ := cs1
  obtain ⟨c4, c5, c6, c7, rfl⟩ := list4 l1 hsz1
  obtain ⟨fuel1, hf1⟩ := t1
  obtain ⟨y4, y5, y6, y7, m1, hx1, hy4, hy5, hy6, hy7⟩ := trod_array4 Tryd.underlying22 (show Tryd.prog.cellsOf 5 = 1 from by kernel_rfl) hf1
  obtain ⟨x4, e4, rfl, w4⟩ := DataW.trod_int Tryd.underlying5 hy4
  obtain ⟨x5, e5, rfl, w5⟩ := DataW.trod_int Tryd.underlying5 hy5
  obtain ⟨x6, e6, rfl, w6⟩ := DataW.trod_int Tryd.underlying5 hy6
  obtain ⟨x7, e7, rfl, w7⟩ := DataW.trod_int Tryd.underlying5 hy7
  simp at e4 e5 e6 e7
  subst e4 e5 e6 e7
  simp only [Prod.mk.injEq] at hx1
  obtain ⟨rfl, rfl⟩ := hx1
  have t2k := t2
  obtain ⟨cs2, rfl, hsz2, _⟩ : ∃ cs, v2 = .agg cs ∧ cs.size = Tryd.prog.cellsOf 23 ∧ Row.okWide Tryd.prog W .any base 23 cs := by
    have := hval 2 23 v2 rfl rfl
    simpa [Value.okWide, Tryd.underlying23] using this
  rw [show Tryd.prog.cellsOf 23 = 3 from by kernel_rfl] at hsz2
  obtain ⟨l2⟩ := cs2
  obtain ⟨c8, c9, c10, rfl⟩ := list3 l2 hsz2
  obtain ⟨fuel2, hf2⟩ := t2
  obtain ⟨y8, y9, y10, m2, hx2, hy8, hy9, hy10⟩ := trod_array3 Tryd.underlying23 (show Tryd.prog.cellsOf 5 = 1 from by kernel_rfl) hf2
  obtain ⟨x8, e8, rfl, w8⟩ := DataW.trod_int Tryd.underlying5 hy8
  obtain ⟨x9, e9, rfl, w9⟩ := DataW.trod_int Tryd.underlying5 hy9
  obtain ⟨x10, e10, rfl, w10⟩ := DataW.trod_int Tryd.underlying5 hy10
  simp at e8 e9 e10
  subst e8 e9 e10
  simp only [Prod.mk.injEq] at hx2
  obtain ⟨rfl, rfl⟩ := hx2
  clear hA0 hV0 hval0
  simp only [List.append_nil] at hW' t0k t1k t2k
  have htab : Tabs W :=
    utf8Tabs_of_reads (ρ := Tryd.lays260_ren) Tryd.lays260 ⟨by kernel_rfl, by kernel_rfl, by kernel_rfl, by kernel_rfl, by kernel_rfl, by kernel_rfl, by kernel_rfl⟩
      (reads_first hL) (reads_accept hL)
  have k0 := bounds_u8 w0
  obtain ⟨n0, rfl⟩ := Int.eq_ofNat_of_zero_le k0.1
  have h0 : n0 < 256 := by omega
  have k1 := bounds_u8 w1
  obtain ⟨n1, rfl⟩ := Int.eq_ofNat_of_zero_le k1.1
  have h1 : n1 < 256 := by omega
  have k2 := bounds_u8 w2
  obtain ⟨n2, rfl⟩ := Int.eq_ofNat_of_zero_le k2.1
  have h2 : n2 < 256 := by omega
  have k3 := bounds_u8 w3
  obtain ⟨n3, rfl⟩ := Int.eq_ofNat_of_zero_le k3.1
  have h3 : n3 < 256 := by omega
  have k4 := bounds_u8 w4
  obtain ⟨n4, rfl⟩ := Int.eq_ofNat_of_zero_le k4.1
  have h4 : n4 < 256 := by omega
  have k5 := bounds_u8 w5
  obtain ⟨n5, rfl⟩ := Int.eq_ofNat_of_zero_le k5.1
  have h5 : n5 < 256 := by omega
  have k6 := bounds_u8 w6
  obtain ⟨n6, rfl⟩ := Int.eq_ofNat_of_zero_le k6.1
  have h6 : n6 < 256 := by omega
  have k7 := bounds_u8 w7
  obtain ⟨n7, rfl⟩ := Int.eq_ofNat_of_zero_le k7.1
  have h7 : n7 < 256 := by omega
  have k8 := bounds_u8 w8
  obtain ⟨n8, rfl⟩ := Int.eq_ofNat_of_zero_le k8.1
  have h8 : n8 < 256 := by omega
  have k9 := bounds_u8 w9
  obtain ⟨n9, rfl⟩ := Int.eq_ofNat_of_zero_le k9.1
  have h9 : n9 < 256 := by omega
  have k10 := bounds_u8 w10
  obtain ⟨n10, rfl⟩ := Int.eq_ofNat_of_zero_le k10.1
  have h10 : n10 < 256 := by omega
  refine (panachetop_TopPictureGuards.calls 34 n0 n1 n2 n3 n4 n5 n6 n7 n8 n9 n10 true W (PureTpg.pure n0 n1 n2 n3 n4 n5 n6 n7 n8 n9 n10 h0 h1 h2 h3 h4 h5 h6 h7 h8 h9 h10) htab).mono ?_
  rintro e W' ⟨rfl, bel⟩
  have e1 : (spec.at F).fn H ([.agg [.lit (.int .u8 n0), .lit (.int .u8 n1), .lit (.int .u8 n2), .lit (.int .u8 n3)], .agg [.lit (.int .u8 n4), .lit (.int .u8 n5), .lit (.int .u8 n6), .lit (.int .u8 n7)], .agg [.lit (.int .u8 n8), .lit (.int .u8 n9), .lit (.int .u8 n10)]] ++ []) = { results := [.lit (.bool true)], args := [.agg [.lit (.int .u8 n0), .lit (.int .u8 n1), .lit (.int .u8 n2), .lit (.int .u8 n3)], .agg [.lit (.int .u8 n4), .lit (.int .u8 n5), .lit (.int .u8 n6), .lit (.int .u8 n7)], .agg [.lit (.int .u8 n8), .lit (.int .u8 n9), .lit (.int .u8 n10)]] } := rfl
  refine ⟨_, rfl, _, _, _, [], [], [], hW', ?_, ?_, ?_, bel.frame _, fun h => by cases h⟩
  · rw [e1]; exact trodAll_mk1 (shut_bool Tryd.underlying4 _)
  · rw [e1]; exact trodAll_mk3 (Below.trod laidOut (by kernel_rfl) (of_decide_eq_true (by kernel_rfl)) t0k bel (fun x hx => by cases hx)) (Below.trod laidOut (by kernel_rfl) (of_decide_eq_true (by kernel_rfl)) t1k bel (fun x hx => by cases hx)) (Below.trod laidOut (by kernel_rfl) (of_decide_eq_true (by kernel_rfl)) t2k bel (fun x hx => by cases hx))
  · rw [e1]; rfl

theorem over : Rows.TopPictureGuardsSaid :=
  OpenClaim.holds_of_cond 3 Tryd.f3 rfl rfl rfl rfl rfl rfl rfl ⟨rfl, rfl, rfl, rfl, rfl⟩ rfl rfl rfl rfl rfl (by kernel_rfl) Tryd.func3 (by kernel_rfl)
    (of_decide_eq_true (by kernel_rfl)) (by unfold Func.isWrapper; first | (rw [if_pos (by decide +kernel)]; kernel_rfl) | (rw [if_neg (by decide +kernel)]; exact ⟨rfl, rfl⟩))
    (fun os started H enc _ F0 => by rw [OpenClaim.pre_eq_preRow]; exact lifted os started H enc F0)
end Go.Proofs.YtpnflmaagncbkaaDoor.topPictureGuards
end
section
/- TopPictureGuards: the tied card: for every eleven bytes, with the two tables of package unicode/utf8 as its text lays them, the law returns true and its arguments read as before; what the two tables of package unicode/utf8 hold is tied to the program's text. -/
namespace Go.Proofs.YtpnflmaagncbkaaDoor
open Go

theorem topPictureGuards_card : Rows.TopPictureGuardsCardSaid :=
  Claim7.holds_tied_plain_at .later [] [.data, .pinned] true (true, "4982623b8949db30d7676e3f9df2aab10c0190540df6f43daf8f550d0912bd34") false
    topPictureGuards.over (fun _ h => by cases h) (by kernel_rfl) (fun _ h => by cases h) topPictureGuards_row_tie rfl ⟨rfl, rfl⟩ (by kernel_rfl) rfl
    (fun f fn hf hfn => by
      obtain rfl : f = 3 := Option.some.inj ((show Tryd.prog.funcNamed "panache/panachetop.TopPictureGuards" = some 3 by kernel_rfl).symm.trans hf) |>.symm
      obtain rfl : fn = Tryd.f3 := (Option.some.inj (Tryd.func3.symm.trans hfn)).symm
      exact ⟨by kernel_rfl, fun j t ht => by
        rw [Tryd.params3] at ht
        have h3 : t = 22 ∨ t = 23 := by
          rcases j with _ | _ | _ | j
          · have e : t = 22 := by simpa using ht.symm
            simp [e]
          · have e : t = 22 := by simpa using ht.symm
            simp [e]
          · have e : t = 23 := by simpa using ht.symm
            simp [e]
          · simp at ht
        rcases h3 with rfl | rfl
        · exact (show Tryd.prog.wantsStandIn 22 = false by kernel_rfl)
        · exact (show Tryd.prog.wantsStandIn 23 = false by kernel_rfl)⟩)
    (by kernel_rfl)
#print axioms topPictureGuards_card
end Go.Proofs.YtpnflmaagncbkaaDoor
end
