/- Part 7 of this claim's texts, put together by a program of its author: PWefx3, PWefx, WefEnd, Horn, U8s, WefLaw, WefRow, WefCard. -/
import Derived.Test.YtgdkmadcegleiaaGreatDoorMb
import Derived.Test.YtgdkmadcegleiaaGreatDoorMf
import Derived.Test.YtgdkmadcegleiaaGreatDoorRows
import Derived.Lib.LaidU8
import Derived.Deep.DeepHandedRow
import Derived.Deep.DeepWitnessRowRef
import Derived.ProofKit
import Derived.ChangeSame
import Derived.SizedLaws
import Derived.Carry
import Derived.OpenShut
import Derived.ChangeSlices
import Derived.Laws.IdiomArrays
import Derived.Lib.LaidIn
import Derived.Test.YtgdkmadcegleiaaGreatDoorTie
import Derived.Test.YtgdkmadcegleiaaGreatDoorCards
import Derived.SevenTiedAt
open Go.RowKit Go.Proofs.YtgdkmadcegleiaaGreatDoorW.PrintWords Go.Proofs.YtgdkmadcegleiaaGreatDoorW.PrintLast Go.Proofs.YtgdkmadcegleiaaGreatDoorW.PrintMore
set_option linter.unusedVariables false
set_option linter.unusedSimpArgs false
attribute [local go_sem] max2_int min2_int max_two min_two max_three min_three max_four min_four
namespace Go.Proofs.YtgdkmadcegleiaaGreatDoor
namespace PWef
open Sq X Z
attribute [local go_sem] max2_int min2_int max_two min_two max_three min_three max_four min_four   -- for this text's walks alone
attribute [local go_sem high] eqA30
mutual
def z0_.l0 : Nat → List Int → List Int → Int → Int → Int → Int → Int → Int → Int → Int → Int → List (S47) → Int → Int → Int → Int → List (S47) → Option (Bool)
 | 0, _, _, _, _, _, _, _, _, _, _, _, _, _, _, _, _, _ => none
 | k + 1, x0, x1, x11, x106000, x106001, x107000, x107001, x112000, x112001, x112002, x112003, x112004, x117000, x117001, x117002, x117003, x117004 => if x11 < (x0.length : Int) then (z0_.j1 k x0 x1 x11 (decide (x11 < 10)) x106000 x106001 x107000 x107001 x112000 x112001 x112002 x112003 x112004 x117000 x117001 x117002 x117003 x117004) else (z0_.j1 k x0 x1 x11 false x106000 x106001 x107000 x107001 x112000 x112001 x112002 x112003 x112004 x117000 x117001 x117002 x117003 x117004)
def z0_.j1 : Nat → List Int → List Int → Int → Bool → Int → Int → Int → Int → Int → Int → Int → Int → List (S47) → Int → Int → Int → Int → List (S47) → Option (Bool)
 | 0, _, _, _, _, _, _, _, _, _, _, _, _, _, _, _, _, _, _ => none
 | k + 1, x0, x1, x11, x50, x106000, x106001, x107000, x107001, x112000, x112001, x112002, x112003, x112004, x117000, x117001, x117002, x117003, x117004 => if x50 = true then (if 0 ≤ x11 then (if x11 < (x0.length : Int) then ((z1_.f 0 0).bind fun bt118 => ((z1_.f (wrap64 (20 + (wrap64 (rd x0 x11)))) (wrap64 (20 + (wrap64 (rd x0 x11))))).bind fun bt120 => ((z6_.f 400 (([(⟨(⟨bt118.1, bt118.2⟩ : S30), (⟨bt120.1, bt120.2⟩ : S30)⟩ : S55)] : List (S55))) x106000 x106001 x107000 x107001).bind fun bt125 => (if bt125.2.2 = 0 then (if (bt125.2.1.length : Int) = 1 then (if 0 < (bt125.2.1.length : Int) then ((z1_.f 0 0).bind fun bt132 => (z0_.j2 k x0 x1 x11 (wrap64 (20 + (wrap64 (rd x0 x11)))) (!(((rd_T55 bt125.2.1 0).f0.f0) == bt132.1) || (!(((rd_T55 bt125.2.1 0).f0.f1) == bt132.2))) x106000 x106001 x107000 x107001 x112000 x112001 x112002 x112003 x112004 x117000 x117001 x117002 x117003 x117004 bt125.1 bt125.2.1)) else (none)) else (z0_.j2 k x0 x1 x11 (wrap64 (20 + (wrap64 (rd x0 x11)))) true x106000 x106001 x107000 x107001 x112000 x112001 x112002 x112003 x112004 x117000 x117001 x117002 x117003 x117004 bt125.1 bt125.2.1)) else (z0_.j2 k x0 x1 x11 (wrap64 (20 + (wrap64 (rd x0 x11)))) true x106000 x106001 x107000 x107001 x112000 x112001 x112002 x112003 x112004 x117000 x117001 x117002 x117003 x117004 bt125.1 bt125.2.1))))) else (none)) else (none)) else ((z23_.f x112000 x112001 x112002 x112003 x112004).bind fun bt153 => ((z23_.f x117000 x117001 x117002 x117003 x117004).bind fun bt157 => ((z10_.f x117000 x117001 x117002 x117003 x117004 x112000 x112001 x112002 x112003 x112004).bind fun bt161 => (if bt153.2.2 = 0 then (if bt157.2.2 = 0 then (if bt161.2 = 0 then (if bt157.1 = bt157.2.1 then ((z32_.f k bt157.1 bt153.1 bt153.2.1).bind fun t163 => (if t163 = true then (if bt161.1 = 3 then ((z3_.f).bind fun t164 => (z0_.j4 k t164)) else (z0_.j4 k false)) else (z0_.j4 k false))) else (z0_.j4 k false)) else (z0_.j4 k false)) else (z0_.j4 k false)) else (z0_.j4 k false)))))
def z0_.j2 : Nat → List Int → List Int → Int → Int → Bool → Int → Int → Int → Int → Int → Int → Int → Int → List (S47) → Int → Int → Int → Int → List (S47) → Int → List (S55) → Option (Bool)
 | 0, _, _, _, _, _, _, _, _, _, _, _, _, _, _, _, _, _, _, _, _, _ => none
 | k + 1, x0, x1, x11, x12, x88, x106000, x106001, x107000, x107001, x112000, x112001, x112002, x112003, x112004, x117000, x117001, x117002, x117003, x117004, x131000, x131001 => if x88 = true then (some false) else (if 0 < (x131001.length : Int) then ((z42_.f x1 x11).bind fun t136 => ((z32_.f k (wrap64 (Int.tdiv (wrap64 (x12 * (wrap64 ((wrap64 (10 * x106000)) + (wrap64 (Int.tdiv (wrap64 ((wrap64 (t136 * 10)) * (wrap64 (x107000 - x106000)))) 255)))))) 1000)) ((rd_T55 x131001 0).f1.f0) ((rd_T55 x131001 0).f1.f1)).bind fun t137 => (if t137 = true then (z0_.j3 k x0 x1 x11 (wrap64 (Int.tdiv (wrap64 (x12 * (wrap64 ((wrap64 (10 * x106000)) + (wrap64 (Int.tdiv (wrap64 ((wrap64 (t136 * 10)) * (wrap64 (x107000 - x106000)))) 255)))))) 1000)) (decide (((rd_T55 x131001 0).f1.f1) > 1000)) x106000 x106001 x107000 x107001 x112000 x112001 x112002 x112003 x112004 x117000 x117001 x117002 x117003 x117004 ((rd_T55 x131001 0).f1.f0) ((rd_T55 x131001 0).f1.f1)) else (z0_.j3 k x0 x1 x11 (wrap64 (Int.tdiv (wrap64 (x12 * (wrap64 ((wrap64 (10 * x106000)) + (wrap64 (Int.tdiv (wrap64 ((wrap64 (t136 * 10)) * (wrap64 (x107000 - x106000)))) 255)))))) 1000)) true x106000 x106001 x107000 x107001 x112000 x112001 x112002 x112003 x112004 x117000 x117001 x117002 x117003 x117004 ((rd_T55 x131001 0).f1.f0) ((rd_T55 x131001 0).f1.f1))))) else (none))
def z0_.j3 : Nat → List Int → List Int → Int → Int → Bool → Int → Int → Int → Int → Int → Int → Int → Int → List (S47) → Int → Int → Int → Int → List (S47) → Int → Int → Option (Bool)
 | 0, _, _, _, _, _, _, _, _, _, _, _, _, _, _, _, _, _, _, _, _, _ => none
 | k + 1, x0, x1, x11, x17, x121, x106000, x106001, x107000, x107001, x112000, x112001, x112002, x112003, x112004, x117000, x117001, x117002, x117003, x117004, x136000, x136001 => if x121 = true then (some false) else ((z42_.f x1 (wrap64 (x11 + 1))).bind fun t138 => ((z42_.f x1 (wrap64 (x11 + 1))).bind fun t139 => ((z1_.f (wrap64 (Int.tdiv t138 20)) (wrap64 ((wrap64 (Int.tdiv t139 20)) + 1))).bind fun bt140 => (if x112004.length < 4398046511104 then ((z1_.f x17 x17).bind fun bt146 => ((z1_.f bt140.2 bt140.2).bind fun bt148 => (if x117004.length < 4398046511104 then (z0_.l0 k x0 x1 (wrap64 (x11 + 1)) x106000 x106001 x107000 x107001 x112000 x112001 x112002 x112003 (x112004 ++ [(⟨(⟨x136000, x136001⟩ : S30), (⟨bt140.1, bt140.2⟩ : S30)⟩ : S47)]) x117000 x117001 x117002 x117003 (x117004 ++ [(⟨(⟨bt146.1, bt146.2⟩ : S30), (⟨bt148.1, bt148.2⟩ : S30)⟩ : S47)])) else (none)))) else (none)))))
def z0_.j4 : Nat → Bool → Option (Bool)
 | 0, _ => none
 | k + 1, x6 => some x6
end
def z0_.f (k : Nat) (l0 : List Int) (l1 : List Int) (a2_0 : Int) (a2_1 : Int) : Option (Bool) := (z1_.f 900 1000).bind fun bt107 => ((z1_.f 40 50).bind fun bt109 => ((z1_.f 950 950).bind fun bt112 => ((z1_.f 45 45).bind fun bt114 => (z0_.l0 k l0 l1 0 (wrap64 (90 + (Int.tmod (wrap64 (a2_0)) 11))) 100 (wrap64 (100 + (Int.tmod (wrap64 (a2_1)) 11))) 100 bt107.1 bt107.2 bt109.1 bt109.2 ([] : List (S47)) bt112.1 bt112.2 bt114.1 bt114.2 ([] : List (S47))))))
def z0_.T1 : Bool × List (List Nat × List Nat) := (true, [([], []), ([0], [0]), ([1], [1]), ([2], [2]), ([3], [3]), ([4], [4]), ([], []), ([6], [6]), ([7], [7]), ([8], [8]), ([9], [9]), ([10], [10]), ([], []), ([], []), ([12, 5, 0, 1, 2, 3, 4, 5, 12, 13], [5, 12]), ([13, 11, 14, 0, 1, 2, 3, 4, 5, 6, 7, 8, 9, 10, 11, 12, 13, 14], [11, 13])])
def z0_.B1 : List Nat := [0, 1, 3, 7, 15, 31, 0, 64, 192, 448, 960, 1984, 0, 0, 12351, 32767]
theorem z0_.tab1 : rtab .any (opsOf Tryz.f5 1) = z0_.T1 := by kernel_rfl
theorem z0_.bits1 : waitsOk z0_.T1.2 z0_.B1 = true := by kernel_rfl
def z0_.T8 : Bool × List (List Nat × List Nat) := (true, [([], []), ([], []), ([], []), ([1, 2, 0], [1, 2]), ([0, 3], [0, 3]), ([4], [4]), ([5], [5]), ([], []), ([], []), ([6, 7, 8, 3], [6, 7, 8]), ([9], [9]), ([10], [10]), ([10], [10]), ([], []), ([13, 11, 9, 0, 1, 2, 3, 4, 5, 6, 7, 8, 9, 10, 11, 13], [11, 13]), ([12, 14, 0, 1, 2, 3, 4, 5, 6, 7, 8, 9, 10, 11, 12, 13, 14], [12])])
def z0_.B8 : List Nat := [0, 0, 0, 7, 15, 31, 63, 0, 0, 511, 1023, 2047, 2047, 0, 12287, 32767]
theorem z0_.tab8 : rtab .any (opsOf Tryz.f5 8) = z0_.T8 := by kernel_rfl
theorem z0_.bits8 : waitsOk z0_.T8.2 z0_.B8 = true := by kernel_rfl
def z0_.T9 : Bool × List (List Nat × List Nat) := (true, [([], []), ([0], [0]), ([1], [1]), ([2], [2]), ([3, 2], [2, 3]), ([4, 2], [2, 4]), ([5, 2], [2, 5]), ([2, 6], [2, 6]), ([7, 2], [7]), ([8], [8]), ([9, 8], [8, 9]), ([10, 8], [8, 10]), ([11, 8], [8, 11]), ([12, 8], [8, 12]), ([8, 8], [8]), ([13, 14, 8], [8, 13, 14]), ([8, 15], [8, 15])])
def z0_.B9 : List Nat := [0, 1, 3, 7, 15, 31, 63, 127, 255, 511, 1023, 2047, 4095, 8191, 511, 32767, 65535]
theorem z0_.tab9 : rtab .any (opsOf Tryz.f5 9) = z0_.T9 := by kernel_rfl
theorem z0_.bits9 : waitsOk z0_.T9.2 z0_.B9 = true := by kernel_rfl
def z0_.T12 : Bool × List (List Nat × List Nat) := (true, [([], []), ([0], [0]), ([1], [1]), ([], []), ([], []), ([3, 4], [3, 4]), ([5], [5]), ([], []), ([7], [7]), ([], []), ([9], [9]), ([8, 10], [8, 10]), ([6, 11], [6, 11]), ([12], [12]), ([2, 13], [2, 13]), ([14, 5, 0, 1, 2, 3, 4, 5, 6, 7, 8, 9, 10, 11, 12, 13, 14], [14])])
def z0_.B12 : List Nat := [0, 1, 3, 0, 0, 24, 56, 0, 128, 0, 512, 1920, 4088, 8184, 16383, 32767]
theorem z0_.tab12 : rtab .any (opsOf Tryz.f5 12) = z0_.T12 := by kernel_rfl
theorem z0_.bits12 : waitsOk z0_.T12.2 z0_.B12 = true := by kernel_rfl
def z0_.T18 : Bool × List (List Nat × List Nat) := (true, [([], []), ([0], [0]), ([], []), ([], []), ([2, 3], [2, 3]), ([], []), ([5], [5]), ([], []), ([7], [7]), ([6, 8, 4], [6, 8]), ([4, 9], [4, 9]), ([10], [10]), ([1, 11, 9], [1, 11]), ([0, 1, 2, 3, 4, 5, 6, 7, 8, 9, 10, 11, 12], []), ([13, 12, 12, 0, 1, 2, 3, 4, 5, 6, 7, 8, 9, 10, 11, 12], [12, 13])])
def z0_.B18 : List Nat := [0, 1, 0, 0, 12, 0, 32, 0, 128, 508, 1020, 2044, 4095, 8191, 16383]
theorem z0_.tab18 : rtab .any (opsOf Tryz.f5 18) = z0_.T18 := by kernel_rfl
theorem z0_.bits18 : waitsOk z0_.T18.2 z0_.B18 = true := by kernel_rfl
theorem z0_.j2_dead {k : Nat} {a0 : List Int} {a1 : List Int} {a2 : Int} {a3 : Int} {a5 : Int} {a6 : Int} {a7 : Int} {a8 : Int} {a9 : Int} {a10 : Int} {a11 : Int} {a12 : Int} {a13 : List (S47)} {a14 : Int} {a15 : Int} {a16 : Int} {a17 : Int} {a18 : List (S47)} {a19 : Int} {a20 : List (S55)} (H : z0_.j2 k a0 a1 a2 a3 true a5 a6 a7 a8 a9 a10 a11 a12 a13 a14 a15 a16 a17 a18 a19 a20 = some true) : False := by cases k <;> simp [z0_.j2] at H
theorem z0_.j3_dead {k : Nat} {a0 : List Int} {a1 : List Int} {a2 : Int} {a3 : Int} {a5 : Int} {a6 : Int} {a7 : Int} {a8 : Int} {a9 : Int} {a10 : Int} {a11 : Int} {a12 : Int} {a13 : List (S47)} {a14 : Int} {a15 : Int} {a16 : Int} {a17 : Int} {a18 : List (S47)} {a19 : Int} {a20 : Int} (H : z0_.j3 k a0 a1 a2 a3 true a5 a6 a7 a8 a9 a10 a11 a12 a13 a14 a15 a16 a17 a18 a19 a20 = some true) : False := by cases k <;> simp [z0_.j3] at H
theorem z0_.j4_dead {k : Nat}  (H : z0_.j4 k false = some true) : False := by cases k <;> simp [z0_.j4] at H
set_option maxHeartbeats 8000000 in
set_option maxRecDepth 100000 in
theorem z0_.calls (k : Nat) (A0 : Option Addr) (c0 : Nat) (l0 : List Int) (A1 : Option Addr) (c1 : Nat) (l1 : List Int) (a2_0 : Int) (a2_1 : Int) (w : World) (hr0 : Kd.C (Kd.int .u8) w A0 l0.length l0) (hc0 : l0.length ≤ c0) (hr1 : Kd.C (Kd.int .u8) w A1 l1.length l1) (hc1 : l1.length ≤ c1) (h : z0_.f k l0 l1 a2_0 a2_1 = some true) (hT : Tabs w) :
  Calls Tryz.prog 5 #[.slice A0 l0.length c0, .slice A1 l1.length c1, .agg #[.int .u8 a2_0, .int .u8 a2_1]] w fun e w' => e = .returned (.bool true) ∧ Below w.heap.size w w' := by
 have HT := Aside0.mk hT
 clear hT
 have hu26 := Tryz.underlying26
 have hu67 := Tryz.underlying67
 have hu33 := Tryz.underlying33
 have hu55 := Tryz.underlying55
 have hu58 := Tryz.underlying58
 have hu30 := Tryz.underlying30
 have hu47 := Tryz.underlying47
 have HR0 := Aside0.mk hr0
 have HC0 := Aside0.mk hc0
 clear hr0 hc0
 have HR1 := Aside0.mk hr1
 have HC1 := Aside0.mk hc1
 clear hr1 hc1
 have HB := Aside0.mk (Below.refl w.heap.size w)
 have H : ((z1_.f 900 1000).bind fun bt107 => ((z1_.f 40 50).bind fun bt109 => ((z1_.f 950 950).bind fun bt112 => ((z1_.f 45 45).bind fun bt114 => (z0_.l0 k l0 l1 0 (wrap64 (90 + (Int.tmod (wrap64 (a2_0)) 11))) 100 (wrap64 (100 + (Int.tmod (wrap64 (a2_1)) 11))) 100 bt107.1 bt107.2 bt109.1 bt109.2 ([] : List (S47)) bt112.1 bt112.2 bt114.1 bt114.2 ([] : List (S47))))))) = some true := h
 clear h
 replace H := bindA H
 obtain ⟨⟨t107, t108⟩, A4, H⟩ := H
 try dsimp only at H
 replace H := bindA H
 obtain ⟨⟨t109, t110⟩, A5, H⟩ := H
 try dsimp only at H
 replace H := bindA H
 obtain ⟨⟨t112, t113⟩, A6, H⟩ := H
 try dsimp only at H
 replace H := bindA H
 obtain ⟨⟨t114, t115⟩, A7, H⟩ := H
 try dsimp only at H
 have H' := Aside0.mk H
 clear H
 go_enter Tryz.func5, Tryz.ntmps5
 try go_wp2_with (first | ((with_reducible refine gate_dst (N := 5) rfl ?_); (try (refine gate_guard (by rfl) ?_; dsimp only)); refine boxA (N := 5) (cs := #[.int .u8 a2_0, .int .u8 a2_1]) (t := 26) ?_; intro gb104 hg w8 hbox hb; have BK104 := Aside0.mk (hbox); have GE104 := bG HB hg; replace HB := bS HB hb; clear hb hbox hg))
 replace BK104 := Aside0.mk (blk_drew BK104.out)
 replace HB := Aside0.mk (below_drew1 HB.out)
 refine start_ (n := 16) (S := fun w' => w'.cell? ⟨gb104, 0, none⟩ = some (.int .u8 a2_0) ∧ w'.cell? ⟨gb104, 1, none⟩ = some (.int .u8 a2_1)) (ds := []) #[false, false, false, false, false, false, false, false, false, false, false, false, false, false, false, false] (by kernel_rfl) rfl rfl ⟨bc BK104 0, bc BK104 1⟩ (fun hHeld => ?_); refine with_tabW z0_.tab1 z0_.bits1 (fun HT_ HW_ => ?_)
 generalize w8.drew = w9 at BK104 HB hHeld ⊢
 refine pA 0 25 HT_ ?_
 refine pA 6 31 HT_ ?_
 refine tA 1 26 HT_ HW_ hHeld ?_
 refine pA 2 27 HT_ ?_
 refine pA 3 28 HT_ ?_
 refine pA 4 29 HT_ ?_
 refine pA 5 30 HT_ ?_
 refine tA 7 32 HT_ HW_ hHeld ?_
 refine pA 8 33 HT_ ?_
 refine pA 9 34 HT_ ?_
 refine pA 10 35 HT_ ?_
 refine pA 11 36 HT_ ?_
 refine join_ (σ := Nat × Nat) 2 #[true, true, true, true, true, true, true, true, true, true, true, true, true, true, false, false] (fun s_ => [(7, .pointer (some ⟨s_.1, 0, none⟩)), (8, .pointer (some ⟨s_.2, 0, none⟩))]) (fun s_ w' => (w'.cell? ⟨gb104, 0, none⟩ = some (.int .u8 a2_0) ∧ w'.cell? ⟨gb104, 1, none⟩ = some (.int .u8 a2_1)) ∧ (w'.heap[gb104]? = some (.cells #[.int .u8 a2_0, .int .u8 a2_1] 26 (0, 0))) ∧ (w'.heap[s_.1]? = some (.cells #[.int .i64 0, .int .i64 0] 67 (0, 0))) ∧ (w'.heap[s_.2]? = some (.cells #[.int .i64 0, .int .i64 0] 67 (0, 0))) ∧ (w.heap.size ≤ s_.1) ∧ (w.heap.size ≤ s_.1) ∧ (gb104 ≠ s_.1) ∧ (s_.1 ≠ gb104) ∧ (s_.2 ≠ s_.1) ∧ (s_.1 ≠ s_.2) ∧ (w.heap.size ≤ s_.2) ∧ (w.heap.size ≤ s_.2) ∧ (gb104 ≠ s_.2) ∧ (s_.2 ≠ gb104) ∧ (Below w.heap.size w w')) ?_ ?_
 rotate_left
 ·intro hCont
  refine two_ (i := 12) (j := 13) (Ni := some 7) (Nj := some 8) #[true, true, true, true, true, true, true, true, true, true, true, true, true, false, false, false] #[true, true, true, true, true, true, true, true, true, true, true, true, false, true, false, false] rfl rfl rfl rfl (two_of HT_.out (by kernel_rfl)) (by decide) (by decide) (fun K hK => ?_) (fun K hK => ?_)
  ·skip
   refine box_step ?hg (N := 7) ?hd (cs := #[.int .i64 0, .int .i64 0]) (t := 67) ?hr ?_; (case hd => rfl); (case hg => rfl); (case hr => first | (go_simp; done) | (go_simp; rfl))
   intro gb105 hg w10 hbox hb
   have BK105 := Aside0.mk (hbox)
   have GW105 := bG HB hg
   have GE105 := bG HB hg
   have NB104_105 := kN BK104 hg
   have NB105_104 := kM BK104 hg
   replace BK104 := kB BK104 hb
   replace HB := bS HB hb
   clear hb hbox hg
   refine hK.out _ _ ⟨bc BK104 0, bc BK104 1⟩ (fun hHeld => ?_)
   clear hK K
   refine normA (N := some 7) ?_
   refine oneA (i := 13) (N := some 8) HT_ (fun K hK => ?_)
   refine box_step ?hg (N := 8) ?hd (cs := #[.int .i64 0, .int .i64 0]) (t := 67) ?hr ?_; (case hd => rfl); (case hg => rfl); (case hr => first | (go_simp; done) | (go_simp; rfl))
   intro gb106 hg w11 hbox hb
   have BK106 := Aside0.mk (hbox)
   have GW106 := bG HB hg
   have GE106 := bG HB hg
   have NB104_106 := kN BK104 hg
   have NB106_104 := kM BK104 hg
   have NB105_106 := kN BK105 hg
   have NB106_105 := kM BK105 hg
   replace BK104 := kB BK104 hb
   replace BK105 := kB BK105 hb
   replace HB := bS HB hb
   clear hb hbox hg
   refine hK.out _ _ ⟨bc BK104 0, bc BK104 1⟩ (fun hHeld => ?_)
   clear hK K
   refine normA (N := some 8) ?_
   exact norm_ (by simp only [putAll, Act.put, List.setIfInBounds_toArray, List.set_cons_zero, List.set_cons_succ]) (hCont (gb105, gb106) _ ⟨hHeld, (kX BK104.out), (kX BK105.out), (kX BK106.out), GW105.out, GE105.out, NB104_105.out, NB105_104.out, NB106_105.out, NB105_106.out, GW106.out, GE106.out, NB104_106.out, NB106_104.out, (bX HB)⟩)
  ·skip
   refine box_step ?hg (N := 8) ?hd (cs := #[.int .i64 0, .int .i64 0]) (t := 67) ?hr ?_; (case hd => rfl); (case hg => rfl); (case hr => first | (go_simp; done) | (go_simp; rfl))
   intro gb106 hg w10 hbox hb
   have BK106 := Aside0.mk (hbox)
   have GW106 := bG HB hg
   have GE106 := bG HB hg
   have NB104_106 := kN BK104 hg
   have NB106_104 := kM BK104 hg
   replace BK104 := kB BK104 hb
   replace HB := bS HB hb
   clear hb hbox hg
   refine hK.out _ _ ⟨bc BK104 0, bc BK104 1⟩ (fun hHeld => ?_)
   clear hK K
   refine normA (N := some 8) ?_
   refine oneA (i := 12) (N := some 7) HT_ (fun K hK => ?_)
   refine box_step ?hg (N := 7) ?hd (cs := #[.int .i64 0, .int .i64 0]) (t := 67) ?hr ?_; (case hd => rfl); (case hg => rfl); (case hr => first | (go_simp; done) | (go_simp; rfl))
   intro gb105 hg w11 hbox hb
   have BK105 := Aside0.mk (hbox)
   have GW105 := bG HB hg
   have GE105 := bG HB hg
   have NB104_105 := kN BK104 hg
   have NB105_104 := kM BK104 hg
   have NB106_105 := kN BK106 hg
   have NB105_106 := kM BK106 hg
   replace BK104 := kB BK104 hb
   replace BK106 := kB BK106 hb
   replace HB := bS HB hb
   clear hb hbox hg
   refine hK.out _ _ ⟨bc BK104 0, bc BK104 1⟩ (fun hHeld => ?_)
   clear hK K
   refine normA (N := some 7) ?_
   exact norm_ (by simp only [putAll, Act.put, List.setIfInBounds_toArray, List.set_cons_zero, List.set_cons_succ]) (hCont (gb105, gb106) _ ⟨hHeld, (kX BK104.out), (kX BK105.out), (kX BK106.out), GW105.out, GE105.out, NB104_105.out, NB105_104.out, NB106_105.out, NB105_106.out, GW106.out, GE106.out, NB104_106.out, NB106_104.out, (bX HB)⟩)
 rintro ⟨gb105, gb106⟩ w12 ⟨hS_, h0_, h1_, h2_, h3_, h4_, h5_, h6_, h7_, h8_, h9_, h10_, h11_, h12_, h13_⟩
 have n0_ : Aside0 (w12.heap[gb104]? = some (.cells #[.int .u8 a2_0, .int .u8 a2_1] 26 (0, 0))) := ⟨h0_⟩
 have n1_ : Aside0 (w12.heap[gb105]? = some (.cells #[.int .i64 0, .int .i64 0] 67 (0, 0))) := ⟨h1_⟩
 have n2_ : Aside0 (w12.heap[gb106]? = some (.cells #[.int .i64 0, .int .i64 0] 67 (0, 0))) := ⟨h2_⟩
 have n3_ : Aside0 (w.heap.size ≤ gb105) := ⟨h3_⟩
 have n4_ : Aside0 (w.heap.size ≤ gb105) := ⟨h4_⟩
 have n5_ : Aside0 (gb104 ≠ gb105) := ⟨h5_⟩
 have n6_ : Aside0 (gb105 ≠ gb104) := ⟨h6_⟩
 have n7_ : Aside0 (gb106 ≠ gb105) := ⟨h7_⟩
 have n8_ : Aside0 (gb105 ≠ gb106) := ⟨h8_⟩
 have n9_ : Aside0 (w.heap.size ≤ gb106) := ⟨h9_⟩
 have n10_ : Aside0 (w.heap.size ≤ gb106) := ⟨h10_⟩
 have n11_ : Aside0 (gb104 ≠ gb106) := ⟨h11_⟩
 have n12_ : Aside0 (gb106 ≠ gb104) := ⟨h12_⟩
 have n13_ : Aside0 (Below w.heap.size w w12) := ⟨h13_⟩
 clear BK104
 clear HB
 clear h0_ h1_ h2_ h3_ h4_ h5_ h6_ h7_ h8_ h9_ h10_ h11_ h12_ h13_
 have BK104 := n0_
 have BK105 := n1_
 have BK106 := n2_
 have GW105 := n3_
 have GE105 := n4_
 have NB104_105 := n5_
 have NB105_104 := n6_
 have NB106_105 := n7_
 have NB105_106 := n8_
 have GW106 := n9_
 have GE106 := n10_
 have NB104_106 := n11_
 have NB106_104 := n12_
 have HB := n13_
 clear n0_ n1_ n2_ n3_ n4_ n5_ n6_ n7_ n8_ n9_ n10_ n11_ n12_ n13_
 have hHeld : w12.cell? ⟨gb104, 0, none⟩ = some (.int .u8 a2_0) ∧ w12.cell? ⟨gb104, 1, none⟩ = some (.int .u8 a2_1) := hS_
 refine norm_ (a' := ?_) ?_ ?_
 rotate_left
 ·simp only [putAll, Act.put, List.setIfInBounds_toArray, List.set_cons_zero, List.set_cons_succ]
  rfl
 refine one_ (i := 14) (N := none) #[true, true, true, true, true, true, true, true, true, true, true, true, true, true, true, false] rfl rfl (one_of HT_.out (by kernel_rfl)) (by decide) (fun K hK => ?_)
 have hs13 : w12.cell? ⟨gb105, 0, none⟩ = some (.int .i64 0) := bc BK105 0
 have hfs13 := blk_frozen BK105.out 0
 have hns13_0 := NB104_105.out
 have hns13_2 := NB106_105.out
 have hms13_0 := NB105_104.out
 have hms13_2 := NB105_106.out
 have hs14 : w12.cell? ⟨gb105, 1, none⟩ = some (.int .i64 0) := bc BK105 1
 have hfs14 := blk_frozen BK105.out 1
 have hns14_0 := NB104_105.out
 have hns14_2 := NB106_105.out
 have hms14_0 := NB105_104.out
 have hms14_2 := NB105_106.out
 refine skip_ (w1 := ?_) (by rfl) rfl ?_ ?_
 rotate_left
 ·go_simp
  rfl
 refine hK.out _ _ ⟨((cell_far (p := ⟨gb105, _, none⟩) NB104_105.out _).trans (((cell_far (p := ⟨gb105, _, none⟩) NB104_105.out _).trans (hHeld.1)))), ((cell_far (p := ⟨gb105, _, none⟩) NB104_105.out _).trans (((cell_far (p := ⟨gb105, _, none⟩) NB104_105.out _).trans (hHeld.2))))⟩ (fun hHeld => ?_)
 clear hK K
 refine one_ (i := 15) (N := none) #[true, true, true, true, true, true, true, true, true, true, true, true, true, true, true, true] rfl rfl (one_of HT_.out (by kernel_rfl)) (by decide) (fun K hK => ?_)
 have hs15 : w12.cell? ⟨gb106, 0, none⟩ = some (.int .i64 0) := bc BK106 0
 have hfs15 := blk_frozen BK106.out 0
 have hns15_0 := NB104_106.out
 have hns15_1 := NB105_106.out
 have hms15_0 := NB106_104.out
 have hms15_1 := NB106_105.out
 have hs16 : w12.cell? ⟨gb106, 1, none⟩ = some (.int .i64 0) := bc BK106 1
 have hfs16 := blk_frozen BK106.out 1
 have hns16_0 := NB104_106.out
 have hns16_1 := NB105_106.out
 have hms16_0 := NB106_104.out
 have hms16_1 := NB106_105.out
 refine skip_ (w1 := ?_) (by rfl) rfl ?_ ?_
 rotate_left
 ·go_simp
  rfl
 refine hK.out _ _ ⟨((cell_far (p := ⟨gb106, _, none⟩) NB104_106.out _).trans (((cell_far (p := ⟨gb106, _, none⟩) NB104_106.out _).trans (hHeld.1)))), ((cell_far (p := ⟨gb106, _, none⟩) NB104_106.out _).trans (((cell_far (p := ⟨gb106, _, none⟩) NB104_106.out _).trans (hHeld.2))))⟩ (fun hHeld => ?_)
 clear hK K
 refine done_ (done_of HT_.out (by kernel_rfl)) ?_
 try go_wp2_with (first | ((with_reducible refine gate_callee (f := 15) rfl ?_); refine goesA (some 37) Tryz.func15 #[.int .i64 900, .int .i64 1000] ?_; (with_reducible refine (z1_.calls 900 1000 t107 t108 _ A4.out).mono ?_); rintro e w17 ⟨rfl, hb⟩; refine ⟨_, rfl, ?_⟩; have n0_ := Aside0.mk (blk_below (g := gb104) (o := .cells #[.int .u8 a2_0, .int .u8 a2_1] 26 (0, 0)) (by (with_reducible repeat (first | refine blk_drewN ?_ _ | refine blk_drew ?_ | refine blk_alloc ?_ _)); refine blk_far ?_ NB104_106.out _; (with_reducible repeat (first | refine blk_drewN ?_ _ | refine blk_drew ?_ | refine blk_alloc ?_ _)); refine blk_far ?_ NB104_106.out _; (with_reducible repeat (first | refine blk_drewN ?_ _ | refine blk_drew ?_ | refine blk_alloc ?_ _)); refine blk_far ?_ NB104_105.out _; (with_reducible repeat (first | refine blk_drewN ?_ _ | refine blk_drew ?_ | refine blk_alloc ?_ _)); refine blk_far ?_ NB104_105.out _; (with_reducible repeat (first | refine blk_drewN ?_ _ | refine blk_drew ?_ | refine blk_alloc ?_ _)); exact BK104.out) hb); have n1_ := Aside0.mk (blk_below (g := gb105) (o := .cells #[.int .i64 (wrap64 (90 + (Int.tmod (wrap64 (a2_0)) 11))), .int .i64 100] 67 (0, 0)) (by (with_reducible repeat (first | refine blk_drewN ?_ _ | refine blk_drew ?_ | refine blk_alloc ?_ _)); refine blk_far ?_ NB105_106.out _; (with_reducible repeat (first | refine blk_drewN ?_ _ | refine blk_drew ?_ | refine blk_alloc ?_ _)); refine blk_far ?_ NB105_106.out _; (with_reducible repeat (first | refine blk_drewN ?_ _ | refine blk_drew ?_ | refine blk_alloc ?_ _)); refine blk_put (cs := #[.int .i64 (wrap64 (90 + (Int.tmod (wrap64 (a2_0)) 11))), .int .i64 0]) ?_ 1 _ rfl; (with_reducible repeat (first | refine blk_drewN ?_ _ | refine blk_drew ?_ | refine blk_alloc ?_ _)); refine blk_put (cs := #[.int .i64 0, .int .i64 0]) ?_ 0 _ rfl; (with_reducible repeat (first | refine blk_drewN ?_ _ | refine blk_drew ?_ | refine blk_alloc ?_ _)); exact BK105.out) hb); have n2_ := Aside0.mk (blk_below (g := gb106) (o := .cells #[.int .i64 (wrap64 (100 + (Int.tmod (wrap64 (a2_1)) 11))), .int .i64 100] 67 (0, 0)) (by (with_reducible repeat (first | refine blk_drewN ?_ _ | refine blk_drew ?_ | refine blk_alloc ?_ _)); refine blk_put (cs := #[.int .i64 (wrap64 (100 + (Int.tmod (wrap64 (a2_1)) 11))), .int .i64 0]) ?_ 1 _ rfl; (with_reducible repeat (first | refine blk_drewN ?_ _ | refine blk_drew ?_ | refine blk_alloc ?_ _)); refine blk_put (cs := #[.int .i64 0, .int .i64 0]) ?_ 0 _ rfl; (with_reducible repeat (first | refine blk_drewN ?_ _ | refine blk_drew ?_ | refine blk_alloc ?_ _)); refine blk_far ?_ NB106_105.out _; (with_reducible repeat (first | refine blk_drewN ?_ _ | refine blk_drew ?_ | refine blk_alloc ?_ _)); refine blk_far ?_ NB106_105.out _; (with_reducible repeat (first | refine blk_drewN ?_ _ | refine blk_drew ?_ | refine blk_alloc ?_ _)); exact BK106.out) hb); have n3_ := bS HB hb; clear BK104; clear BK105; clear BK106; clear HB; have BK104 := n0_; have BK105 := n1_; have BK106 := n2_; have HB := n3_; clear n0_ n1_ n2_ n3_) | ((with_reducible refine gate_callee (f := 15) rfl ?_); refine goesA (some 38) Tryz.func15 #[.int .i64 40, .int .i64 50] ?_; (with_reducible refine (z1_.calls 40 50 t109 t110 _ A5.out).mono ?_); rintro e w18 ⟨rfl, hb⟩; refine ⟨_, rfl, ?_⟩; replace BK104 := kB BK104 hb; replace BK105 := kB BK105 hb; replace BK106 := kB BK106 hb; replace HB := bS HB hb) | ((with_reducible refine gate_dst (N := 9) rfl ?_); (try (refine gate_guard (by rfl) ?_; dsimp only)); refine boxA (N := 9) (cs := #[.int .i64 0, .int .i64 0, .int .i64 0, .int .i64 0, .slice none 0 0]) (t := 33) ?_; intro gb111 hg w19 hbox hb; have BK111 := Aside0.mk (hbox); have GE111 := bG HB hg; have NB104_111 := kN BK104 hg; have NB111_104 := kM BK104 hg; have NB105_111 := kN BK105 hg; have NB111_105 := kM BK105 hg; have NB106_111 := kN BK106 hg; have NB111_106 := kM BK106 hg; replace BK104 := kB BK104 hb; replace BK105 := kB BK105 hb; replace BK106 := kB BK106 hb; replace HB := bS HB hb; clear hb hbox hg; obtain ⟨hnb20, hnc20⟩ := nn NB111_104; obtain ⟨hnb21, hnc21⟩ := nn NB111_105; obtain ⟨hnb22, hnc22⟩ := nn NB111_106; obtain ⟨hcz23_0, hcz23_1, hcz23_2, hcz23_3, hcz23_4, hfz23_0, hfz23_1, hfz23_2, hfz23_3, hfz23_4⟩ := cc5 BK111) | ((with_reducible refine gate_callee (f := 15) rfl ?_); refine goesA (some 40) Tryz.func15 #[.int .i64 950, .int .i64 950] ?_; (with_reducible refine (z1_.calls 950 950 t112 t113 _ A6.out).mono ?_); rintro e w24 ⟨rfl, hb⟩; refine ⟨_, rfl, ?_⟩; have n0_ := Aside0.mk (blk_below (kF BK104 NB104_111) hb); have n1_ := Aside0.mk (blk_below (kF BK105 NB105_111) hb); have n2_ := Aside0.mk (blk_below (kF BK106 NB106_111) hb); have n3_ := Aside0.mk (blk_below (g := gb111) (o := .cells #[.int .i64 t107, .int .i64 t108, .int .i64 t109, .int .i64 t110, .slice none 0 0] 33 (0, 0)) (by (with_reducible repeat (first | refine blk_drewN ?_ _ | refine blk_drew ?_ | refine blk_alloc ?_ _)); refine blk_put (cs := #[.int .i64 t107, .int .i64 t108, .int .i64 t109, .int .i64 t110, .slice none 0 0]) ?_ 4 _ rfl; (with_reducible repeat (first | refine blk_drewN ?_ _ | refine blk_drew ?_ | refine blk_alloc ?_ _)); refine blk_put (cs := #[.int .i64 t107, .int .i64 t108, .int .i64 t109, .int .i64 0, .slice none 0 0]) ?_ 3 _ rfl; (with_reducible repeat (first | refine blk_drewN ?_ _ | refine blk_drew ?_ | refine blk_alloc ?_ _)); refine blk_put (cs := #[.int .i64 t107, .int .i64 t108, .int .i64 0, .int .i64 0, .slice none 0 0]) ?_ 2 _ rfl; (with_reducible repeat (first | refine blk_drewN ?_ _ | refine blk_drew ?_ | refine blk_alloc ?_ _)); refine blk_put (cs := #[.int .i64 t107, .int .i64 0, .int .i64 0, .int .i64 0, .slice none 0 0]) ?_ 1 _ rfl; (with_reducible repeat (first | refine blk_drewN ?_ _ | refine blk_drew ?_ | refine blk_alloc ?_ _)); refine blk_put (cs := #[.int .i64 0, .int .i64 0, .int .i64 0, .int .i64 0, .slice none 0 0]) ?_ 0 _ rfl; (with_reducible repeat (first | refine blk_drewN ?_ _ | refine blk_drew ?_ | refine blk_alloc ?_ _)); exact BK111.out) hb); have n4_ := bS HB hb; clear BK104; clear BK105; clear BK106; clear BK111; clear HB; have BK104 := n0_; have BK105 := n1_; have BK106 := n2_; have BK111 := n3_; have HB := n4_; clear n0_ n1_ n2_ n3_ n4_) | ((with_reducible refine gate_callee (f := 15) rfl ?_); refine goesA (some 41) Tryz.func15 #[.int .i64 45, .int .i64 45] ?_; (with_reducible refine (z1_.calls 45 45 t114 t115 _ A7.out).mono ?_); rintro e w25 ⟨rfl, hb⟩; refine ⟨_, rfl, ?_⟩; replace BK104 := kB BK104 hb; replace BK105 := kB BK105 hb; replace BK106 := kB BK106 hb; replace BK111 := kB BK111 hb; replace HB := bS HB hb) | ((with_reducible refine gate_dst (N := 10) rfl ?_); (try (refine gate_guard (by rfl) ?_; dsimp only)); refine boxA (N := 10) (cs := #[.int .i64 0, .int .i64 0, .int .i64 0, .int .i64 0, .slice none 0 0]) (t := 33) ?_; intro gb116 hg w26 hbox hb; have BK116 := Aside0.mk (hbox); have GE116 := bG HB hg; have NB104_116 := kN BK104 hg; have NB116_104 := kM BK104 hg; have NB105_116 := kN BK105 hg; have NB116_105 := kM BK105 hg; have NB106_116 := kN BK106 hg; have NB116_106 := kM BK106 hg; have NB111_116 := kN BK111 hg; have NB116_111 := kM BK111 hg; replace BK104 := kB BK104 hb; replace BK105 := kB BK105 hb; replace BK106 := kB BK106 hb; replace BK111 := kB BK111 hb; replace HB := bS HB hb; clear hb hbox hg; obtain ⟨hnb27, hnc27⟩ := nn NB116_104; obtain ⟨hnb28, hnc28⟩ := nn NB116_105; obtain ⟨hnb29, hnc29⟩ := nn NB116_106; obtain ⟨hnb30, hnc30⟩ := nn NB116_111; obtain ⟨hcz31_0, hcz31_1, hcz31_2, hcz31_3, hcz31_4, hfz31_0, hfz31_1, hfz31_2, hfz31_3, hfz31_4⟩ := cc5 BK116))
 go_loopg [11] k (fun kq v11 w' => ∃ (x11_1 : Int) (x112004_1 : List (S47)) (x117004_1 : List (S47)) (u112004 : Value) (u117004 : Value), v11 = .int .i64 x11_1 ∧ Aside0 (z0_.l0 kq l0 l1 x11_1 (wrap64 (90 + (Int.tmod (wrap64 (a2_0)) 11))) 100 (wrap64 (100 + (Int.tmod (wrap64 (a2_1)) 11))) 100 t107 t108 t109 t110 x112004_1 t112 t113 t114 t115 x117004_1 = some true) ∧ Aside0 (kq ≤ k) ∧ Aside0 (Kd.R k47 47 w' w.heap.size (fun k_ => some k_ ≠ (u117004 : Value).ownBlock) u112004 x112004_1) ∧ Aside0 (Kd.R k47 47 w' w.heap.size (fun k_ => some k_ ≠ (u112004 : Value).ownBlock) u117004 x117004_1) ∧ Aside0 (w'.heap[gb104]? = some (.cells #[.int .u8 a2_0, .int .u8 a2_1] 26 (0, 0))) ∧ Aside0 (w'.heap[gb105]? = some (.cells #[.int .i64 (wrap64 (90 + (Int.tmod (wrap64 (a2_0)) 11))), .int .i64 100] 67 (0, 0))) ∧ Aside0 (w'.heap[gb106]? = some (.cells #[.int .i64 (wrap64 (100 + (Int.tmod (wrap64 (a2_1)) 11))), .int .i64 100] 67 (0, 0))) ∧ Aside0 (w'.heap[gb111]? = some (.cells #[.int .i64 t107, .int .i64 t108, .int .i64 t109, .int .i64 t110, u112004] 33 (0, 0))) ∧ Aside0 (w'.heap[gb116]? = some (.cells #[.int .i64 t112, .int .i64 t113, .int .i64 t114, .int .i64 t115, u117004] 33 (0, 0))) ∧ Aside0 (Below w.heap.size w w'))
 case atStart => exact ⟨(0), (([] : List (S47))), (([] : List (S47))), (.slice none 0 0), (.slice none 0 0), eR, H', ⟨Nat.le_refl _⟩, ⟨by first | exact Kd.R_nil _ _ _ _ _ | exact Kd.N_nil _ _ _ _ _ | exact Kd.V_nil _ _ _ _ _ | exact Kd.Q_nil _ _ _ _ _ | exact Kd.S_nil _ _ _ _ _⟩, ⟨by first | exact Kd.R_nil _ _ _ _ _ | exact Kd.N_nil _ _ _ _ _ | exact Kd.V_nil _ _ _ _ _ | exact Kd.Q_nil _ _ _ _ _ | exact Kd.S_nil _ _ _ _ _⟩, ⟨by (with_reducible repeat (first | refine blk_drewN ?_ _ | refine blk_drew ?_ | refine blk_alloc ?_ _)); refine blk_far ?_ NB104_116.out _; (with_reducible repeat (first | refine blk_drewN ?_ _ | refine blk_drew ?_ | refine blk_alloc ?_ _)); refine blk_far ?_ NB104_116.out _; (with_reducible repeat (first | refine blk_drewN ?_ _ | refine blk_drew ?_ | refine blk_alloc ?_ _)); refine blk_far ?_ NB104_116.out _; (with_reducible repeat (first | refine blk_drewN ?_ _ | refine blk_drew ?_ | refine blk_alloc ?_ _)); refine blk_far ?_ NB104_116.out _; (with_reducible repeat (first | refine blk_drewN ?_ _ | refine blk_drew ?_ | refine blk_alloc ?_ _)); refine blk_far ?_ NB104_116.out _; (with_reducible repeat (first | refine blk_drewN ?_ _ | refine blk_drew ?_ | refine blk_alloc ?_ _)); exact BK104.out⟩, ⟨by (with_reducible repeat (first | refine blk_drewN ?_ _ | refine blk_drew ?_ | refine blk_alloc ?_ _)); refine blk_far ?_ NB105_116.out _; (with_reducible repeat (first | refine blk_drewN ?_ _ | refine blk_drew ?_ | refine blk_alloc ?_ _)); refine blk_far ?_ NB105_116.out _; (with_reducible repeat (first | refine blk_drewN ?_ _ | refine blk_drew ?_ | refine blk_alloc ?_ _)); refine blk_far ?_ NB105_116.out _; (with_reducible repeat (first | refine blk_drewN ?_ _ | refine blk_drew ?_ | refine blk_alloc ?_ _)); refine blk_far ?_ NB105_116.out _; (with_reducible repeat (first | refine blk_drewN ?_ _ | refine blk_drew ?_ | refine blk_alloc ?_ _)); refine blk_far ?_ NB105_116.out _; (with_reducible repeat (first | refine blk_drewN ?_ _ | refine blk_drew ?_ | refine blk_alloc ?_ _)); exact BK105.out⟩, ⟨by (with_reducible repeat (first | refine blk_drewN ?_ _ | refine blk_drew ?_ | refine blk_alloc ?_ _)); refine blk_far ?_ NB106_116.out _; (with_reducible repeat (first | refine blk_drewN ?_ _ | refine blk_drew ?_ | refine blk_alloc ?_ _)); refine blk_far ?_ NB106_116.out _; (with_reducible repeat (first | refine blk_drewN ?_ _ | refine blk_drew ?_ | refine blk_alloc ?_ _)); refine blk_far ?_ NB106_116.out _; (with_reducible repeat (first | refine blk_drewN ?_ _ | refine blk_drew ?_ | refine blk_alloc ?_ _)); refine blk_far ?_ NB106_116.out _; (with_reducible repeat (first | refine blk_drewN ?_ _ | refine blk_drew ?_ | refine blk_alloc ?_ _)); refine blk_far ?_ NB106_116.out _; (with_reducible repeat (first | refine blk_drewN ?_ _ | refine blk_drew ?_ | refine blk_alloc ?_ _)); exact BK106.out⟩, ⟨by (with_reducible repeat (first | refine blk_drewN ?_ _ | refine blk_drew ?_ | refine blk_alloc ?_ _)); refine blk_far ?_ NB111_116.out _; (with_reducible repeat (first | refine blk_drewN ?_ _ | refine blk_drew ?_ | refine blk_alloc ?_ _)); refine blk_far ?_ NB111_116.out _; (with_reducible repeat (first | refine blk_drewN ?_ _ | refine blk_drew ?_ | refine blk_alloc ?_ _)); refine blk_far ?_ NB111_116.out _; (with_reducible repeat (first | refine blk_drewN ?_ _ | refine blk_drew ?_ | refine blk_alloc ?_ _)); refine blk_far ?_ NB111_116.out _; (with_reducible repeat (first | refine blk_drewN ?_ _ | refine blk_drew ?_ | refine blk_alloc ?_ _)); refine blk_far ?_ NB111_116.out _; (with_reducible repeat (first | refine blk_drewN ?_ _ | refine blk_drew ?_ | refine blk_alloc ?_ _)); exact BK111.out⟩, ⟨by (with_reducible repeat (first | refine blk_drewN ?_ _ | refine blk_drew ?_ | refine blk_alloc ?_ _)); refine blk_put (cs := #[.int .i64 t112, .int .i64 t113, .int .i64 t114, .int .i64 t115, .slice none 0 0]) ?_ 4 _ rfl; (with_reducible repeat (first | refine blk_drewN ?_ _ | refine blk_drew ?_ | refine blk_alloc ?_ _)); refine blk_put (cs := #[.int .i64 t112, .int .i64 t113, .int .i64 t114, .int .i64 0, .slice none 0 0]) ?_ 3 _ rfl; (with_reducible repeat (first | refine blk_drewN ?_ _ | refine blk_drew ?_ | refine blk_alloc ?_ _)); refine blk_put (cs := #[.int .i64 t112, .int .i64 t113, .int .i64 0, .int .i64 0, .slice none 0 0]) ?_ 2 _ rfl; (with_reducible repeat (first | refine blk_drewN ?_ _ | refine blk_drew ?_ | refine blk_alloc ?_ _)); refine blk_put (cs := #[.int .i64 t112, .int .i64 0, .int .i64 0, .int .i64 0, .slice none 0 0]) ?_ 1 _ rfl; (with_reducible repeat (first | refine blk_drewN ?_ _ | refine blk_drew ?_ | refine blk_alloc ?_ _)); refine blk_put (cs := #[.int .i64 0, .int .i64 0, .int .i64 0, .int .i64 0, .slice none 0 0]) ?_ 0 _ rfl; (with_reducible repeat (first | refine blk_drewN ?_ _ | refine blk_drew ?_ | refine blk_alloc ?_ _)); exact BK116.out⟩, ⟨bX HB⟩⟩
 case round =>
  clear H'
  try clear p2
  try clear p6
  try clear hcz23_0 hcz23_1 hcz23_2 hcz23_3 hcz23_4 hfz23_0 hfz23_1 hfz23_2 hfz23_3 hfz23_4
  try clear hcz31_0 hcz31_1 hcz31_2 hcz31_3 hcz31_4 hfz31_0 hfz31_1 hfz31_2 hfz31_3 hfz31_4
  obtain ⟨x11_1, x112004_1, x117004_1, u112004, u117004, rfl, HA, HK1, HO_112004, HO_117004, BK104, BK105, BK106, BK111, BK116, HB⟩ := hrel
  cases gk with
  | zero => exact absurd HA.out (by simp [z0_.l0])
  | succ k1 =>
   have H := HA.out
   clear HA
   simp only [z0_.l0] at H
   have HC32 := Aside0.mk H
   clear H
   go_upto_region 5 with (fail)
   go_cut [50] (fun v50 wc => ∃ (kq : Nat) (x50_31 : Bool), v50 = .bool x50_31 ∧ Aside0 (z0_.j1 kq l0 l1 x11_1 x50_31 (wrap64 (90 + (Int.tmod (wrap64 (a2_0)) 11))) 100 (wrap64 (100 + (Int.tmod (wrap64 (a2_1)) 11))) 100 t107 t108 t109 t110 x112004_1 t112 t113 t114 t115 x117004_1 = some true) ∧ Aside0 (kq ≤ k1) ∧ Aside0 (Kd.R k47 47 wc w.heap.size (fun k_ => some k_ ≠ (u117004 : Value).ownBlock) u112004 x112004_1) ∧ Aside0 (Kd.R k47 47 wc w.heap.size (fun k_ => some k_ ≠ (u112004 : Value).ownBlock) u117004 x117004_1) ∧ Aside0 (wc.heap[gb104]? = some (.cells #[.int .u8 a2_0, .int .u8 a2_1] 26 (0, 0))) ∧ Aside0 (wc.heap[gb105]? = some (.cells #[.int .i64 (wrap64 (90 + (Int.tmod (wrap64 (a2_0)) 11))), .int .i64 100] 67 (0, 0))) ∧ Aside0 (wc.heap[gb106]? = some (.cells #[.int .i64 (wrap64 (100 + (Int.tmod (wrap64 (a2_1)) 11))), .int .i64 100] 67 (0, 0))) ∧ Aside0 (wc.heap[gb111]? = some (.cells #[.int .i64 t107, .int .i64 t108, .int .i64 t109, .int .i64 t110, u112004] 33 (0, 0))) ∧ Aside0 (wc.heap[gb116]? = some (.cells #[.int .i64 t112, .int .i64 t113, .int .i64 t114, .int .i64 t115, u117004] 33 (0, 0))) ∧ Aside0 (Below w.heap.size w wc))
   case first =>
    have H := HC32.out
    clear HC32
    by_cases c33 : x11_1 < (l0.length : Int)
    ·rw [if_pos c33] at H
     have c33b0 : decide (x11_1 < (l0.length : Int)) = true := decide_eq_true c33
     clear c33
     (first | rw [c33b0] | (simp only [i64_w, i32_w]; rw [c33b0]) | skip)
     have H' := Aside0.mk H
     clear H
     go_wp2
     go_meet
     case rel => exact ⟨_, (decide (x11_1 < 10)), eR, H', ⟨by have := HK1.out; first | omega | exact Nat.le_refl _⟩, ⟨rX HO_112004.out⟩, ⟨rX HO_117004.out⟩, ⟨kX BK104.out⟩, ⟨kX BK105.out⟩, ⟨kX BK106.out⟩, ⟨kX BK111.out⟩, ⟨kX BK116.out⟩, ⟨bX HB⟩⟩
    ·rw [if_neg c33] at H
     have c33b0 : decide (x11_1 < (l0.length : Int)) = false := decide_eq_false c33
     clear c33
     (first | rw [c33b0] | (simp only [i64_w, i32_w]; rw [c33b0]) | skip)
     have H' := Aside0.mk H
     clear H
     go_wp2
     go_meet
     case rel => exact ⟨_, (false), eR, H', ⟨by have := HK1.out; first | omega | exact Nat.le_refl _⟩, ⟨rX HO_112004.out⟩, ⟨rX HO_117004.out⟩, ⟨kX BK104.out⟩, ⟨kX BK105.out⟩, ⟨kX BK106.out⟩, ⟨kX BK111.out⟩, ⟨kX BK116.out⟩, ⟨bX HB⟩⟩
   case rest =>
    clear HC32
    try clear p2
    try clear p6
    try clear c33b0
    try clear hcz23_0 hcz23_1 hcz23_2 hcz23_3 hcz23_4 hfz23_0 hfz23_1 hfz23_2 hfz23_3 hfz23_4
    try clear hcz31_0 hcz31_1 hcz31_2 hcz31_3 hcz31_4 hfz31_0 hfz31_1 hfz31_2 hfz31_3 hfz31_4
    try clear p2
    try clear p6
    obtain ⟨kq, x50_31, rfl, HA, HJ31, HO_112004, HO_117004, BK104, BK105, BK106, BK111, BK116, HB⟩ := hcut
    cases kq with
    | zero => exact absurd HA.out (by simp [z0_.j1])
    | succ kj31 =>
     have H := HA.out
     clear HA
     simp only [z0_.j1] at H
     by_cases c34 : x50_31 = true
     ·subst c34
      have H1 : (if 0 ≤ x11_1 then (if x11_1 < (l0.length : Int) then ((z1_.f 0 0).bind fun bt118 => ((z1_.f (wrap64 (20 + (wrap64 (rd l0 x11_1)))) (wrap64 (20 + (wrap64 (rd l0 x11_1))))).bind fun bt120 => ((z6_.f 400 (([(⟨(⟨bt118.1, bt118.2⟩ : S30), (⟨bt120.1, bt120.2⟩ : S30)⟩ : S55)] : List (S55))) (wrap64 (90 + (Int.tmod (wrap64 (a2_0)) 11))) 100 (wrap64 (100 + (Int.tmod (wrap64 (a2_1)) 11))) 100).bind fun bt125 => (if bt125.2.2 = 0 then (if (bt125.2.1.length : Int) = 1 then (if 0 < (bt125.2.1.length : Int) then ((z1_.f 0 0).bind fun bt132 => (z0_.j2 kj31 l0 l1 x11_1 (wrap64 (20 + (wrap64 (rd l0 x11_1)))) (!(((rd_T55 bt125.2.1 0).f0.f0) == bt132.1) || (!(((rd_T55 bt125.2.1 0).f0.f1) == bt132.2))) (wrap64 (90 + (Int.tmod (wrap64 (a2_0)) 11))) 100 (wrap64 (100 + (Int.tmod (wrap64 (a2_1)) 11))) 100 t107 t108 t109 t110 x112004_1 t112 t113 t114 t115 x117004_1 bt125.1 bt125.2.1)) else (none)) else (z0_.j2 kj31 l0 l1 x11_1 (wrap64 (20 + (wrap64 (rd l0 x11_1)))) true (wrap64 (90 + (Int.tmod (wrap64 (a2_0)) 11))) 100 (wrap64 (100 + (Int.tmod (wrap64 (a2_1)) 11))) 100 t107 t108 t109 t110 x112004_1 t112 t113 t114 t115 x117004_1 bt125.1 bt125.2.1)) else (z0_.j2 kj31 l0 l1 x11_1 (wrap64 (20 + (wrap64 (rd l0 x11_1)))) true (wrap64 (90 + (Int.tmod (wrap64 (a2_0)) 11))) 100 (wrap64 (100 + (Int.tmod (wrap64 (a2_1)) 11))) 100 t107 t108 t109 t110 x112004_1 t112 t113 t114 t115 x117004_1 bt125.1 bt125.2.1))))) else (none)) else (none)) = some true := by rw [if_pos rfl] at H; exact H
      clear H
      have H := H1
      clear H1
      by_cases c35 : 0 ≤ x11_1
      ·rw [if_pos c35] at H
       have c35b0 : decide (0 ≤ x11_1) = true := decide_eq_true c35
       clear c35
       by_cases c36 : x11_1 < (l0.length : Int)
       ·rw [if_pos c36] at H
        have c36b0 : decide (x11_1 < (l0.length : Int)) = true := decide_eq_true c36
        clear c36
        replace H := bindA H
        obtain ⟨⟨t118, t119⟩, A37, H⟩ := H
        try dsimp only at H
        replace H := bindA H
        obtain ⟨⟨t120, t121⟩, A38, H⟩ := H
        try dsimp only at H
        obtain ⟨y122, hy122⟩ : ∃ y_ : List (S55), y_ = (([(⟨(⟨t118, t119⟩ : S30), (⟨t120, t121⟩ : S30)⟩ : S55)] : List (S55))) := ⟨_, rfl⟩
        replace H : ((z6_.f 400 y122 (wrap64 (90 + (Int.tmod (wrap64 (a2_0)) 11))) 100 (wrap64 (100 + (Int.tmod (wrap64 (a2_1)) 11))) 100).bind fun bt125 => (if bt125.2.2 = 0 then (if (bt125.2.1.length : Int) = 1 then (if 0 < (bt125.2.1.length : Int) then ((z1_.f 0 0).bind fun bt132 => (z0_.j2 kj31 l0 l1 x11_1 (wrap64 (20 + (wrap64 (rd l0 x11_1)))) (!(((rd_T55 bt125.2.1 0).f0.f0) == bt132.1) || (!(((rd_T55 bt125.2.1 0).f0.f1) == bt132.2))) (wrap64 (90 + (Int.tmod (wrap64 (a2_0)) 11))) 100 (wrap64 (100 + (Int.tmod (wrap64 (a2_1)) 11))) 100 t107 t108 t109 t110 x112004_1 t112 t113 t114 t115 x117004_1 bt125.1 bt125.2.1)) else (none)) else (z0_.j2 kj31 l0 l1 x11_1 (wrap64 (20 + (wrap64 (rd l0 x11_1)))) true (wrap64 (90 + (Int.tmod (wrap64 (a2_0)) 11))) 100 (wrap64 (100 + (Int.tmod (wrap64 (a2_1)) 11))) 100 t107 t108 t109 t110 x112004_1 t112 t113 t114 t115 x117004_1 bt125.1 bt125.2.1)) else (z0_.j2 kj31 l0 l1 x11_1 (wrap64 (20 + (wrap64 (rd l0 x11_1)))) true (wrap64 (90 + (Int.tmod (wrap64 (a2_0)) 11))) 100 (wrap64 (100 + (Int.tmod (wrap64 (a2_1)) 11))) 100 t107 t108 t109 t110 x112004_1 t112 t113 t114 t115 x117004_1 bt125.1 bt125.2.1))) = some true := by first | (rw [hy122]; with_reducible exact H) | (have H2_ := (Option.bind_some _ _).symm.trans H; rw [hy122]; with_reducible exact H2_) | (have H2_ := (Option.bind_some _ _).symm.trans H; with_reducible exact H2_) | with_reducible exact H | (rw [hy122]; exact H) | exact H
        have Ny122 := Aside0.mk hy122
        clear hy122
        replace H := bindA H
        obtain ⟨⟨t125, t126, t129⟩, A39, H⟩ := H
        try dsimp only at H
        have HC40 := Aside0.mk H
        clear H
        have p117 : 0 ≤ (x11_1 : Int) := of_decide_eq_true (by first | (with_reducible assumption) | assumption)
        have q117 : x11_1 < (l0.length : Int) := of_decide_eq_true (by first | (with_reducible assumption) | assumption)
        obtain ⟨ad117, e117, hx117_0⟩ := Kd.at_int HR0.out x11_1 p117 q117
        cases e117
        replace hx117_0 := (HB.out.cell (World.block_lt_of_cell? w _ hx117_0)).trans hx117_0
        replace p117 := eq_true p117
        replace q117 := eq_true q117
        try go_wp2
        replace HO_112004 := Aside0.mk (Kd.R_drew HO_112004.out)
        replace HO_117004 := Aside0.mk (Kd.R_drew HO_117004.out)
        replace BK104 := Aside0.mk (blk_drew BK104.out)
        replace BK105 := Aside0.mk (blk_drew BK105.out)
        replace BK106 := Aside0.mk (blk_drew BK106.out)
        replace BK111 := Aside0.mk (blk_drew BK111.out)
        replace BK116 := Aside0.mk (blk_drew BK116.out)
        replace HB := Aside0.mk (below_drew1 HB.out)
        refine start_ (n := 16) (S := fun w' => w'.cell? ⟨gb105, 0, none⟩ = some (.int .i64 (wrap64 (90 + (Int.tmod (wrap64 (a2_0)) 11)))) ∧ w'.cell? ⟨gb105, 1, none⟩ = some (.int .i64 100) ∧ w'.cell? ⟨gb106, 0, none⟩ = some (.int .i64 (wrap64 (100 + (Int.tmod (wrap64 (a2_1)) 11)))) ∧ w'.cell? ⟨gb106, 1, none⟩ = some (.int .i64 100)) (ds := []) #[false, false, false, false, false, false, false, false, false, false, false, false, false, false, false, false] (by kernel_rfl) rfl rfl ⟨bc BK105 0, bc BK105 1, bc BK106 0, bc BK106 1⟩ (fun hHeld => ?_); refine with_tabW z0_.tab8 z0_.bits8 (fun HT_ HW_ => ?_)
        generalize wc.drew = w41 at HO_112004 HO_117004 BK104 BK105 BK106 BK111 BK116 HB hHeld ⊢
        refine pA 1 61 HT_ ?_
        refine pA 2 62 HT_ ?_
        refine tA 7 67 HT_ HW_ hHeld ?_
        refine tA 8 68 HT_ HW_ hHeld ?_
        refine join_ (σ := Value × Value × Nat) 2 #[true, true, true, true, true, true, true, true, true, true, true, true, true, true, false, false] (fun s_ => [(60, .agg #[.int .i64 t118, .int .i64 t119]), (63, .agg #[.int .i64 t120, .int .i64 t121]), (65, s_.1), (69, .tuple #[.agg #[.int .i64 t125, s_.2.1], .int .i64 t129]), (13, .pointer (some ⟨s_.2.2, 0, none⟩)), (64, .agg #[.int .i64 t118, .int .i64 t119, .int .i64 t120, .int .i64 t121]), (66, .agg #[.int .i64 400, s_.1]), (59, .tuple #[.agg #[.int .i64 t125, s_.2.1], .int .i64 t129]), (70, .agg #[.int .i64 t125, s_.2.1]), (71, .int .i64 t129)]) (fun s_ w' => (w'.cell? ⟨gb105, 0, none⟩ = some (.int .i64 (wrap64 (90 + (Int.tmod (wrap64 (a2_0)) 11)))) ∧ w'.cell? ⟨gb105, 1, none⟩ = some (.int .i64 100) ∧ w'.cell? ⟨gb106, 0, none⟩ = some (.int .i64 (wrap64 (100 + (Int.tmod (wrap64 (a2_1)) 11)))) ∧ w'.cell? ⟨gb106, 1, none⟩ = some (.int .i64 100)) ∧ (Kd.R k55 55 w' w.heap.size (fun k_ => some k_ ≠ (s_.2.1 : Value).ownBlock) s_.1 y122) ∧ (Kd.R k55 55 w' w.heap.size (fun k_ => some k_ ≠ (s_.1 : Value).ownBlock) s_.2.1 t126) ∧ (Kd.R k47 47 w' w.heap.size (fun k_ => some k_ ≠ (u117004 : Value).ownBlock) u112004 x112004_1) ∧ (Kd.R k47 47 w' w.heap.size (fun k_ => some k_ ≠ (u112004 : Value).ownBlock) u117004 x117004_1) ∧ (w'.heap[gb104]? = some (.cells #[.int .u8 a2_0, .int .u8 a2_1] 26 (0, 0))) ∧ (w'.heap[gb105]? = some (.cells #[.int .i64 (wrap64 (90 + (Int.tmod (wrap64 (a2_0)) 11))), .int .i64 100] 67 (0, 0))) ∧ (w'.heap[gb106]? = some (.cells #[.int .i64 (wrap64 (100 + (Int.tmod (wrap64 (a2_1)) 11))), .int .i64 100] 67 (0, 0))) ∧ (w'.heap[gb111]? = some (.cells #[.int .i64 t107, .int .i64 t108, .int .i64 t109, .int .i64 t110, u112004] 33 (0, 0))) ∧ (w'.heap[gb116]? = some (.cells #[.int .i64 t112, .int .i64 t113, .int .i64 t114, .int .i64 t115, u117004] 33 (0, 0))) ∧ (w'.heap[s_.2.2]? = some (.cells #[.int .i64 0, .slice none 0 0] 58 (0, 0))) ∧ (w.heap.size ≤ s_.2.2) ∧ (w.heap.size ≤ s_.2.2) ∧ (gb104 ≠ s_.2.2) ∧ (s_.2.2 ≠ gb104) ∧ (gb105 ≠ s_.2.2) ∧ (s_.2.2 ≠ gb105) ∧ (gb106 ≠ s_.2.2) ∧ (s_.2.2 ≠ gb106) ∧ (gb111 ≠ s_.2.2) ∧ (s_.2.2 ≠ gb111) ∧ (gb116 ≠ s_.2.2) ∧ (s_.2.2 ≠ gb116) ∧ (Below w.heap.size w w')) ?_ ?_
        rotate_left
        ·intro hJ0_3_5_9_13
         refine join_ (σ := Value × Value) 3 #[true, true, true, true, true, true, true, true, true, true, true, true, true, false, false, false] (fun s_ => [(60, .agg #[.int .i64 t118, .int .i64 t119]), (63, .agg #[.int .i64 t120, .int .i64 t121]), (65, s_.1), (69, .tuple #[.agg #[.int .i64 t125, s_.2], .int .i64 t129]), (64, .agg #[.int .i64 t118, .int .i64 t119, .int .i64 t120, .int .i64 t121]), (66, .agg #[.int .i64 400, s_.1]), (59, .tuple #[.agg #[.int .i64 t125, s_.2], .int .i64 t129]), (70, .agg #[.int .i64 t125, s_.2]), (71, .int .i64 t129)]) (fun s_ w' => (w'.cell? ⟨gb105, 0, none⟩ = some (.int .i64 (wrap64 (90 + (Int.tmod (wrap64 (a2_0)) 11)))) ∧ w'.cell? ⟨gb105, 1, none⟩ = some (.int .i64 100) ∧ w'.cell? ⟨gb106, 0, none⟩ = some (.int .i64 (wrap64 (100 + (Int.tmod (wrap64 (a2_1)) 11)))) ∧ w'.cell? ⟨gb106, 1, none⟩ = some (.int .i64 100)) ∧ (Kd.R k55 55 w' w.heap.size (fun k_ => some k_ ≠ (s_.2 : Value).ownBlock) s_.1 y122) ∧ (Kd.R k55 55 w' w.heap.size (fun k_ => some k_ ≠ (s_.1 : Value).ownBlock) s_.2 t126) ∧ (Kd.R k47 47 w' w.heap.size (fun k_ => some k_ ≠ (u117004 : Value).ownBlock) u112004 x112004_1) ∧ (Kd.R k47 47 w' w.heap.size (fun k_ => some k_ ≠ (u112004 : Value).ownBlock) u117004 x117004_1) ∧ (w'.heap[gb104]? = some (.cells #[.int .u8 a2_0, .int .u8 a2_1] 26 (0, 0))) ∧ (w'.heap[gb105]? = some (.cells #[.int .i64 (wrap64 (90 + (Int.tmod (wrap64 (a2_0)) 11))), .int .i64 100] 67 (0, 0))) ∧ (w'.heap[gb106]? = some (.cells #[.int .i64 (wrap64 (100 + (Int.tmod (wrap64 (a2_1)) 11))), .int .i64 100] 67 (0, 0))) ∧ (w'.heap[gb111]? = some (.cells #[.int .i64 t107, .int .i64 t108, .int .i64 t109, .int .i64 t110, u112004] 33 (0, 0))) ∧ (w'.heap[gb116]? = some (.cells #[.int .i64 t112, .int .i64 t113, .int .i64 t114, .int .i64 t115, u117004] 33 (0, 0))) ∧ (Below w.heap.size w w')) ?_ ?_
         rotate_left
         ·intro hJ0_3_5_9
          refine join_ (σ := Value × Nat) 6 #[true, true, true, true, true, true, true, true, true, false, false, false, false, true, false, false] (fun s_ => [(60, .agg #[.int .i64 t118, .int .i64 t119]), (63, .agg #[.int .i64 t120, .int .i64 t121]), (65, s_.1), (13, .pointer (some ⟨s_.2, 0, none⟩)), (64, .agg #[.int .i64 t118, .int .i64 t119, .int .i64 t120, .int .i64 t121]), (66, .agg #[.int .i64 400, s_.1])]) (fun s_ w' => (w'.cell? ⟨gb105, 0, none⟩ = some (.int .i64 (wrap64 (90 + (Int.tmod (wrap64 (a2_0)) 11)))) ∧ w'.cell? ⟨gb105, 1, none⟩ = some (.int .i64 100) ∧ w'.cell? ⟨gb106, 0, none⟩ = some (.int .i64 (wrap64 (100 + (Int.tmod (wrap64 (a2_1)) 11)))) ∧ w'.cell? ⟨gb106, 1, none⟩ = some (.int .i64 100)) ∧ (Kd.R k55 55 w' w.heap.size (fun _ => True) s_.1 y122) ∧ (Kd.R k47 47 w' w.heap.size (fun k_ => some k_ ≠ (u117004 : Value).ownBlock) u112004 x112004_1) ∧ (Kd.R k47 47 w' w.heap.size (fun k_ => some k_ ≠ (u112004 : Value).ownBlock) u117004 x117004_1) ∧ (w'.heap[gb104]? = some (.cells #[.int .u8 a2_0, .int .u8 a2_1] 26 (0, 0))) ∧ (w'.heap[gb105]? = some (.cells #[.int .i64 (wrap64 (90 + (Int.tmod (wrap64 (a2_0)) 11))), .int .i64 100] 67 (0, 0))) ∧ (w'.heap[gb106]? = some (.cells #[.int .i64 (wrap64 (100 + (Int.tmod (wrap64 (a2_1)) 11))), .int .i64 100] 67 (0, 0))) ∧ (w'.heap[gb111]? = some (.cells #[.int .i64 t107, .int .i64 t108, .int .i64 t109, .int .i64 t110, u112004] 33 (0, 0))) ∧ (w'.heap[gb116]? = some (.cells #[.int .i64 t112, .int .i64 t113, .int .i64 t114, .int .i64 t115, u117004] 33 (0, 0))) ∧ (w'.heap[s_.2]? = some (.cells #[.int .i64 0, .slice none 0 0] 58 (0, 0))) ∧ (w.heap.size ≤ s_.2) ∧ (w.heap.size ≤ s_.2) ∧ (gb104 ≠ s_.2) ∧ (s_.2 ≠ gb104) ∧ (gb105 ≠ s_.2) ∧ (s_.2 ≠ gb105) ∧ (gb106 ≠ s_.2) ∧ (s_.2 ≠ gb106) ∧ (gb111 ≠ s_.2) ∧ (s_.2 ≠ gb111) ∧ (gb116 ≠ s_.2) ∧ (s_.2 ≠ gb116) ∧ (Below w.heap.size w w')) ?_ ?_
          rotate_left
          ·intro hJ0_3_5_13
           refine join_ (σ := Value) 7 #[true, true, true, true, true, true, true, true, true, false, false, false, false, false, false, false] (fun s_ => [(60, .agg #[.int .i64 t118, .int .i64 t119]), (63, .agg #[.int .i64 t120, .int .i64 t121]), (65, s_), (64, .agg #[.int .i64 t118, .int .i64 t119, .int .i64 t120, .int .i64 t121]), (66, .agg #[.int .i64 400, s_])]) (fun s_ w' => (w'.cell? ⟨gb105, 0, none⟩ = some (.int .i64 (wrap64 (90 + (Int.tmod (wrap64 (a2_0)) 11)))) ∧ w'.cell? ⟨gb105, 1, none⟩ = some (.int .i64 100) ∧ w'.cell? ⟨gb106, 0, none⟩ = some (.int .i64 (wrap64 (100 + (Int.tmod (wrap64 (a2_1)) 11)))) ∧ w'.cell? ⟨gb106, 1, none⟩ = some (.int .i64 100)) ∧ (Kd.R k55 55 w' w.heap.size (fun _ => True) s_ y122) ∧ (Kd.R k47 47 w' w.heap.size (fun k_ => some k_ ≠ (u117004 : Value).ownBlock) u112004 x112004_1) ∧ (Kd.R k47 47 w' w.heap.size (fun k_ => some k_ ≠ (u112004 : Value).ownBlock) u117004 x117004_1) ∧ (w'.heap[gb104]? = some (.cells #[.int .u8 a2_0, .int .u8 a2_1] 26 (0, 0))) ∧ (w'.heap[gb105]? = some (.cells #[.int .i64 (wrap64 (90 + (Int.tmod (wrap64 (a2_0)) 11))), .int .i64 100] 67 (0, 0))) ∧ (w'.heap[gb106]? = some (.cells #[.int .i64 (wrap64 (100 + (Int.tmod (wrap64 (a2_1)) 11))), .int .i64 100] 67 (0, 0))) ∧ (w'.heap[gb111]? = some (.cells #[.int .i64 t107, .int .i64 t108, .int .i64 t109, .int .i64 t110, u112004] 33 (0, 0))) ∧ (w'.heap[gb116]? = some (.cells #[.int .i64 t112, .int .i64 t113, .int .i64 t114, .int .i64 t115, u117004] 33 (0, 0))) ∧ (Below w.heap.size w w')) ?_ ?_
           rotate_left
           ·intro hJ0_3_5
            refine join_ (σ := Nat) 8 #[true, true, true, true, true, false, false, true, true, false, false, false, false, true, false, false] (fun s_ => [(60, .agg #[.int .i64 t118, .int .i64 t119]), (63, .agg #[.int .i64 t120, .int .i64 t121]), (13, .pointer (some ⟨s_, 0, none⟩)), (64, .agg #[.int .i64 t118, .int .i64 t119, .int .i64 t120, .int .i64 t121])]) (fun s_ w' => (w'.cell? ⟨gb105, 0, none⟩ = some (.int .i64 (wrap64 (90 + (Int.tmod (wrap64 (a2_0)) 11)))) ∧ w'.cell? ⟨gb105, 1, none⟩ = some (.int .i64 100) ∧ w'.cell? ⟨gb106, 0, none⟩ = some (.int .i64 (wrap64 (100 + (Int.tmod (wrap64 (a2_1)) 11)))) ∧ w'.cell? ⟨gb106, 1, none⟩ = some (.int .i64 100)) ∧ (Kd.R k47 47 w' w.heap.size (fun k_ => some k_ ≠ (u117004 : Value).ownBlock) u112004 x112004_1) ∧ (Kd.R k47 47 w' w.heap.size (fun k_ => some k_ ≠ (u112004 : Value).ownBlock) u117004 x117004_1) ∧ (w'.heap[gb104]? = some (.cells #[.int .u8 a2_0, .int .u8 a2_1] 26 (0, 0))) ∧ (w'.heap[gb105]? = some (.cells #[.int .i64 (wrap64 (90 + (Int.tmod (wrap64 (a2_0)) 11))), .int .i64 100] 67 (0, 0))) ∧ (w'.heap[gb106]? = some (.cells #[.int .i64 (wrap64 (100 + (Int.tmod (wrap64 (a2_1)) 11))), .int .i64 100] 67 (0, 0))) ∧ (w'.heap[gb111]? = some (.cells #[.int .i64 t107, .int .i64 t108, .int .i64 t109, .int .i64 t110, u112004] 33 (0, 0))) ∧ (w'.heap[gb116]? = some (.cells #[.int .i64 t112, .int .i64 t113, .int .i64 t114, .int .i64 t115, u117004] 33 (0, 0))) ∧ (w'.heap[s_]? = some (.cells #[.int .i64 0, .slice none 0 0] 58 (0, 0))) ∧ (w.heap.size ≤ s_) ∧ (w.heap.size ≤ s_) ∧ (gb104 ≠ s_) ∧ (s_ ≠ gb104) ∧ (gb105 ≠ s_) ∧ (s_ ≠ gb105) ∧ (gb106 ≠ s_) ∧ (s_ ≠ gb106) ∧ (gb111 ≠ s_) ∧ (s_ ≠ gb111) ∧ (gb116 ≠ s_) ∧ (s_ ≠ gb116) ∧ (Below w.heap.size w w')) ?_ ?_
            rotate_left
            ·intro hJ0_3_13
             refine join_ (σ := Unit) 9 #[true, true, true, true, true, false, false, true, true, false, false, false, false, false, false, false] (fun s_ => [(60, .agg #[.int .i64 t118, .int .i64 t119]), (63, .agg #[.int .i64 t120, .int .i64 t121]), (64, .agg #[.int .i64 t118, .int .i64 t119, .int .i64 t120, .int .i64 t121])]) (fun s_ w' => (w'.cell? ⟨gb105, 0, none⟩ = some (.int .i64 (wrap64 (90 + (Int.tmod (wrap64 (a2_0)) 11)))) ∧ w'.cell? ⟨gb105, 1, none⟩ = some (.int .i64 100) ∧ w'.cell? ⟨gb106, 0, none⟩ = some (.int .i64 (wrap64 (100 + (Int.tmod (wrap64 (a2_1)) 11)))) ∧ w'.cell? ⟨gb106, 1, none⟩ = some (.int .i64 100)) ∧ (Kd.R k47 47 w' w.heap.size (fun k_ => some k_ ≠ (u117004 : Value).ownBlock) u112004 x112004_1) ∧ (Kd.R k47 47 w' w.heap.size (fun k_ => some k_ ≠ (u112004 : Value).ownBlock) u117004 x117004_1) ∧ (w'.heap[gb104]? = some (.cells #[.int .u8 a2_0, .int .u8 a2_1] 26 (0, 0))) ∧ (w'.heap[gb105]? = some (.cells #[.int .i64 (wrap64 (90 + (Int.tmod (wrap64 (a2_0)) 11))), .int .i64 100] 67 (0, 0))) ∧ (w'.heap[gb106]? = some (.cells #[.int .i64 (wrap64 (100 + (Int.tmod (wrap64 (a2_1)) 11))), .int .i64 100] 67 (0, 0))) ∧ (w'.heap[gb111]? = some (.cells #[.int .i64 t107, .int .i64 t108, .int .i64 t109, .int .i64 t110, u112004] 33 (0, 0))) ∧ (w'.heap[gb116]? = some (.cells #[.int .i64 t112, .int .i64 t113, .int .i64 t114, .int .i64 t115, u117004] 33 (0, 0))) ∧ (Below w.heap.size w w')) ?_ ?_
             rotate_left
             ·intro hJ0_3
              refine join_ (σ := Nat) 10 #[true, true, true, false, false, false, false, true, true, false, false, false, false, true, false, false] (fun s_ => [(60, .agg #[.int .i64 t118, .int .i64 t119]), (13, .pointer (some ⟨s_, 0, none⟩))]) (fun s_ w' => (w'.cell? ⟨gb105, 0, none⟩ = some (.int .i64 (wrap64 (90 + (Int.tmod (wrap64 (a2_0)) 11)))) ∧ w'.cell? ⟨gb105, 1, none⟩ = some (.int .i64 100) ∧ w'.cell? ⟨gb106, 0, none⟩ = some (.int .i64 (wrap64 (100 + (Int.tmod (wrap64 (a2_1)) 11)))) ∧ w'.cell? ⟨gb106, 1, none⟩ = some (.int .i64 100)) ∧ (Kd.R k47 47 w' w.heap.size (fun k_ => some k_ ≠ (u117004 : Value).ownBlock) u112004 x112004_1) ∧ (Kd.R k47 47 w' w.heap.size (fun k_ => some k_ ≠ (u112004 : Value).ownBlock) u117004 x117004_1) ∧ (w'.heap[gb104]? = some (.cells #[.int .u8 a2_0, .int .u8 a2_1] 26 (0, 0))) ∧ (w'.heap[gb105]? = some (.cells #[.int .i64 (wrap64 (90 + (Int.tmod (wrap64 (a2_0)) 11))), .int .i64 100] 67 (0, 0))) ∧ (w'.heap[gb106]? = some (.cells #[.int .i64 (wrap64 (100 + (Int.tmod (wrap64 (a2_1)) 11))), .int .i64 100] 67 (0, 0))) ∧ (w'.heap[gb111]? = some (.cells #[.int .i64 t107, .int .i64 t108, .int .i64 t109, .int .i64 t110, u112004] 33 (0, 0))) ∧ (w'.heap[gb116]? = some (.cells #[.int .i64 t112, .int .i64 t113, .int .i64 t114, .int .i64 t115, u117004] 33 (0, 0))) ∧ (w'.heap[s_]? = some (.cells #[.int .i64 0, .slice none 0 0] 58 (0, 0))) ∧ (w.heap.size ≤ s_) ∧ (w.heap.size ≤ s_) ∧ (gb104 ≠ s_) ∧ (s_ ≠ gb104) ∧ (gb105 ≠ s_) ∧ (s_ ≠ gb105) ∧ (gb106 ≠ s_) ∧ (s_ ≠ gb106) ∧ (gb111 ≠ s_) ∧ (s_ ≠ gb111) ∧ (gb116 ≠ s_) ∧ (s_ ≠ gb116) ∧ (Below w.heap.size w w')) ?_ ?_
              rotate_left
              ·intro hJ0_13
               refine join_ (σ := Unit) 11 #[true, true, true, false, false, false, false, true, true, false, false, false, false, false, false, false] (fun s_ => [(60, .agg #[.int .i64 t118, .int .i64 t119])]) (fun s_ w' => (w'.cell? ⟨gb105, 0, none⟩ = some (.int .i64 (wrap64 (90 + (Int.tmod (wrap64 (a2_0)) 11)))) ∧ w'.cell? ⟨gb105, 1, none⟩ = some (.int .i64 100) ∧ w'.cell? ⟨gb106, 0, none⟩ = some (.int .i64 (wrap64 (100 + (Int.tmod (wrap64 (a2_1)) 11)))) ∧ w'.cell? ⟨gb106, 1, none⟩ = some (.int .i64 100)) ∧ (Kd.R k47 47 w' w.heap.size (fun k_ => some k_ ≠ (u117004 : Value).ownBlock) u112004 x112004_1) ∧ (Kd.R k47 47 w' w.heap.size (fun k_ => some k_ ≠ (u112004 : Value).ownBlock) u117004 x117004_1) ∧ (w'.heap[gb104]? = some (.cells #[.int .u8 a2_0, .int .u8 a2_1] 26 (0, 0))) ∧ (w'.heap[gb105]? = some (.cells #[.int .i64 (wrap64 (90 + (Int.tmod (wrap64 (a2_0)) 11))), .int .i64 100] 67 (0, 0))) ∧ (w'.heap[gb106]? = some (.cells #[.int .i64 (wrap64 (100 + (Int.tmod (wrap64 (a2_1)) 11))), .int .i64 100] 67 (0, 0))) ∧ (w'.heap[gb111]? = some (.cells #[.int .i64 t107, .int .i64 t108, .int .i64 t109, .int .i64 t110, u112004] 33 (0, 0))) ∧ (w'.heap[gb116]? = some (.cells #[.int .i64 t112, .int .i64 t113, .int .i64 t114, .int .i64 t115, u117004] 33 (0, 0))) ∧ (Below w.heap.size w w')) ?_ ?_
               rotate_left
               ·intro hJ0
                refine join_ (σ := Nat) 11 #[false, true, true, false, false, false, false, true, true, false, false, false, false, true, false, false] (fun s_ => [(13, .pointer (some ⟨s_, 0, none⟩))]) (fun s_ w' => (w'.cell? ⟨gb105, 0, none⟩ = some (.int .i64 (wrap64 (90 + (Int.tmod (wrap64 (a2_0)) 11)))) ∧ w'.cell? ⟨gb105, 1, none⟩ = some (.int .i64 100) ∧ w'.cell? ⟨gb106, 0, none⟩ = some (.int .i64 (wrap64 (100 + (Int.tmod (wrap64 (a2_1)) 11)))) ∧ w'.cell? ⟨gb106, 1, none⟩ = some (.int .i64 100)) ∧ (Kd.R k47 47 w' w.heap.size (fun k_ => some k_ ≠ (u117004 : Value).ownBlock) u112004 x112004_1) ∧ (Kd.R k47 47 w' w.heap.size (fun k_ => some k_ ≠ (u112004 : Value).ownBlock) u117004 x117004_1) ∧ (w'.heap[gb104]? = some (.cells #[.int .u8 a2_0, .int .u8 a2_1] 26 (0, 0))) ∧ (w'.heap[gb105]? = some (.cells #[.int .i64 (wrap64 (90 + (Int.tmod (wrap64 (a2_0)) 11))), .int .i64 100] 67 (0, 0))) ∧ (w'.heap[gb106]? = some (.cells #[.int .i64 (wrap64 (100 + (Int.tmod (wrap64 (a2_1)) 11))), .int .i64 100] 67 (0, 0))) ∧ (w'.heap[gb111]? = some (.cells #[.int .i64 t107, .int .i64 t108, .int .i64 t109, .int .i64 t110, u112004] 33 (0, 0))) ∧ (w'.heap[gb116]? = some (.cells #[.int .i64 t112, .int .i64 t113, .int .i64 t114, .int .i64 t115, u117004] 33 (0, 0))) ∧ (w'.heap[s_]? = some (.cells #[.int .i64 0, .slice none 0 0] 58 (0, 0))) ∧ (w.heap.size ≤ s_) ∧ (w.heap.size ≤ s_) ∧ (gb104 ≠ s_) ∧ (s_ ≠ gb104) ∧ (gb105 ≠ s_) ∧ (s_ ≠ gb105) ∧ (gb106 ≠ s_) ∧ (s_ ≠ gb106) ∧ (gb111 ≠ s_) ∧ (s_ ≠ gb111) ∧ (gb116 ≠ s_) ∧ (s_ ≠ gb116) ∧ (Below w.heap.size w w')) ?_ ?_
                rotate_left
                ·intro hJ13
                 refine two_ (i := 0) (j := 13) (Ni := some 60) (Nj := some 13) #[true, true, true, false, false, false, false, true, true, false, false, false, false, false, false, false] #[false, true, true, false, false, false, false, true, true, false, false, false, false, true, false, false] rfl rfl rfl rfl (two_of HT_.out (by kernel_rfl)) (by decide) (by decide) (fun K hK => ?_) (fun K hK => ?_)
                 ·skip
                  refine goesB Tryz.func15 #[.int .i64 0, .int .i64 0] ?_
                  with_reducible refine (z1_.calls 0 0 t118 t119 _ A37.out).mono ?_
                  rintro e w42 ⟨rfl, hb⟩
                  refine ⟨_, rfl, ?_⟩
                  replace HO_112004 := rB HO_112004 hb
                  replace HO_117004 := rB HO_117004 hb
                  replace BK104 := kB BK104 hb
                  replace BK105 := kB BK105 hb
                  replace BK106 := kB BK106 hb
                  replace BK111 := kB BK111 hb
                  replace BK116 := kB BK116 hb
                  replace HB := bS HB hb
                  refine hK.out _ _ ⟨bc BK105 0, bc BK105 1, bc BK106 0, bc BK106 1⟩ (fun hHeld => ?_)
                  clear hK K
                  refine normA (N := some 60) ?_
                  exact norm_ (by first | (simp only [putAll, Act.put, List.setIfInBounds_toArray, List.set_cons_zero, List.set_cons_succ]; done) | (simp only [putAll, Act.put, List.setIfInBounds_toArray, List.set_cons_zero, List.set_cons_succ]; rfl)) (hJ0 () _ ⟨hHeld, (rX HO_112004.out), (rX HO_117004.out), (kX BK104.out), (kX BK105.out), (kX BK106.out), (kX BK111.out), (kX BK116.out), (bX HB)⟩)
                 ·skip
                  refine box_step ?hg (N := 13) ?hd (cs := #[.int .i64 0, .slice none 0 0]) (t := 58) ?hr ?_; (case hd => rfl); (case hg => rfl); (case hr => first | (go_simp; done) | (go_simp; rfl))
                  intro gb130 hg w42 hbox hb
                  have BK130 := Aside0.mk (hbox)
                  have GW130 := bG HB hg
                  have GE130 := bG HB hg
                  have NB104_130 := kN BK104 hg
                  have NB130_104 := kM BK104 hg
                  have NB105_130 := kN BK105 hg
                  have NB130_105 := kM BK105 hg
                  have NB106_130 := kN BK106 hg
                  have NB130_106 := kM BK106 hg
                  have NB111_130 := kN BK111 hg
                  have NB130_111 := kM BK111 hg
                  have NB116_130 := kN BK116 hg
                  have NB130_116 := kM BK116 hg
                  replace HO_112004 := rB HO_112004 hb
                  replace HO_117004 := rB HO_117004 hb
                  replace BK104 := kB BK104 hb
                  replace BK105 := kB BK105 hb
                  replace BK106 := kB BK106 hb
                  replace BK111 := kB BK111 hb
                  replace BK116 := kB BK116 hb
                  replace HB := bS HB hb
                  clear hb hbox hg
                  refine hK.out _ _ ⟨bc BK105 0, bc BK105 1, bc BK106 0, bc BK106 1⟩ (fun hHeld => ?_)
                  clear hK K
                  refine normA (N := some 13) ?_
                  exact norm_ (by first | (simp only [putAll, Act.put, List.setIfInBounds_toArray, List.set_cons_zero, List.set_cons_succ]; done) | (simp only [putAll, Act.put, List.setIfInBounds_toArray, List.set_cons_zero, List.set_cons_succ]; rfl)) (hJ13 (gb130) _ ⟨hHeld, (rX HO_112004.out), (rX HO_117004.out), (kX BK104.out), (kX BK105.out), (kX BK106.out), (kX BK111.out), (kX BK116.out), (kX BK130.out), GW130.out, GE130.out, NB104_130.out, NB130_104.out, NB105_130.out, NB130_105.out, NB106_130.out, NB130_106.out, NB111_130.out, NB130_111.out, NB116_130.out, NB130_116.out, (bX HB)⟩)
                ·skip
                 rintro gb130 w43 ⟨hS_, h0_, h1_, h2_, h3_, h4_, h5_, h6_, h7_, h8_, h9_, h10_, h11_, h12_, h13_, h14_, h15_, h16_, h17_, h18_, h19_, h20_⟩
                 have n0_ : Aside0 (Kd.R k47 47 w43 w.heap.size (fun k_ => some k_ ≠ (u117004 : Value).ownBlock) u112004 x112004_1) := ⟨h0_⟩
                 have n1_ : Aside0 (Kd.R k47 47 w43 w.heap.size (fun k_ => some k_ ≠ (u112004 : Value).ownBlock) u117004 x117004_1) := ⟨h1_⟩
                 have n2_ : Aside0 (w43.heap[gb104]? = some (.cells #[.int .u8 a2_0, .int .u8 a2_1] 26 (0, 0))) := ⟨h2_⟩
                 have n3_ : Aside0 (w43.heap[gb105]? = some (.cells #[.int .i64 (wrap64 (90 + (Int.tmod (wrap64 (a2_0)) 11))), .int .i64 100] 67 (0, 0))) := ⟨h3_⟩
                 have n4_ : Aside0 (w43.heap[gb106]? = some (.cells #[.int .i64 (wrap64 (100 + (Int.tmod (wrap64 (a2_1)) 11))), .int .i64 100] 67 (0, 0))) := ⟨h4_⟩
                 have n5_ : Aside0 (w43.heap[gb111]? = some (.cells #[.int .i64 t107, .int .i64 t108, .int .i64 t109, .int .i64 t110, u112004] 33 (0, 0))) := ⟨h5_⟩
                 have n6_ : Aside0 (w43.heap[gb116]? = some (.cells #[.int .i64 t112, .int .i64 t113, .int .i64 t114, .int .i64 t115, u117004] 33 (0, 0))) := ⟨h6_⟩
                 have n7_ : Aside0 (w43.heap[gb130]? = some (.cells #[.int .i64 0, .slice none 0 0] 58 (0, 0))) := ⟨h7_⟩
                 have n8_ : Aside0 (w.heap.size ≤ gb130) := ⟨h8_⟩
                 have n9_ : Aside0 (w.heap.size ≤ gb130) := ⟨h9_⟩
                 have n10_ : Aside0 (gb104 ≠ gb130) := ⟨h10_⟩
                 have n11_ : Aside0 (gb130 ≠ gb104) := ⟨h11_⟩
                 have n12_ : Aside0 (gb105 ≠ gb130) := ⟨h12_⟩
                 have n13_ : Aside0 (gb130 ≠ gb105) := ⟨h13_⟩
                 have n14_ : Aside0 (gb106 ≠ gb130) := ⟨h14_⟩
                 have n15_ : Aside0 (gb130 ≠ gb106) := ⟨h15_⟩
                 have n16_ : Aside0 (gb111 ≠ gb130) := ⟨h16_⟩
                 have n17_ : Aside0 (gb130 ≠ gb111) := ⟨h17_⟩
                 have n18_ : Aside0 (gb116 ≠ gb130) := ⟨h18_⟩
                 have n19_ : Aside0 (gb130 ≠ gb116) := ⟨h19_⟩
                 have n20_ : Aside0 (Below w.heap.size w w43) := ⟨h20_⟩
                 clear HO_112004
                 clear HO_117004
                 clear BK104
                 clear BK105
                 clear BK106
                 clear BK111
                 clear BK116
                 clear HB
                 clear h0_ h1_ h2_ h3_ h4_ h5_ h6_ h7_ h8_ h9_ h10_ h11_ h12_ h13_ h14_ h15_ h16_ h17_ h18_ h19_ h20_
                 have HO_112004 := n0_
                 have HO_117004 := n1_
                 have BK104 := n2_
                 have BK105 := n3_
                 have BK106 := n4_
                 have BK111 := n5_
                 have BK116 := n6_
                 have BK130 := n7_
                 have GW130 := n8_
                 have GE130 := n9_
                 have NB104_130 := n10_
                 have NB130_104 := n11_
                 have NB105_130 := n12_
                 have NB130_105 := n13_
                 have NB106_130 := n14_
                 have NB130_106 := n15_
                 have NB111_130 := n16_
                 have NB130_111 := n17_
                 have NB116_130 := n18_
                 have NB130_116 := n19_
                 have HB := n20_
                 clear n0_ n1_ n2_ n3_ n4_ n5_ n6_ n7_ n8_ n9_ n10_ n11_ n12_ n13_ n14_ n15_ n16_ n17_ n18_ n19_ n20_
                 have hHeld : w43.cell? ⟨gb105, 0, none⟩ = some (.int .i64 (wrap64 (90 + (Int.tmod (wrap64 (a2_0)) 11)))) ∧ w43.cell? ⟨gb105, 1, none⟩ = some (.int .i64 100) ∧ w43.cell? ⟨gb106, 0, none⟩ = some (.int .i64 (wrap64 (100 + (Int.tmod (wrap64 (a2_1)) 11)))) ∧ w43.cell? ⟨gb106, 1, none⟩ = some (.int .i64 100) := hS_
                 refine norm_ (a' := ?_) ?_ ?_
                 rotate_left
                 ·simp only [putAll, Act.put, List.setIfInBounds_toArray, List.set_cons_zero, List.set_cons_succ]
                  rfl
                 refine oneA (i := 0) (N := some 60) HT_ (fun K hK => ?_)
                 refine goesB Tryz.func15 #[.int .i64 0, .int .i64 0] ?_
                 with_reducible refine (z1_.calls 0 0 t118 t119 _ A37.out).mono ?_
                 rintro e w44 ⟨rfl, hb⟩
                 refine ⟨_, rfl, ?_⟩
                 replace HO_112004 := rB HO_112004 hb
                 replace HO_117004 := rB HO_117004 hb
                 replace BK104 := kB BK104 hb
                 replace BK105 := kB BK105 hb
                 replace BK106 := kB BK106 hb
                 replace BK111 := kB BK111 hb
                 replace BK116 := kB BK116 hb
                 replace BK130 := kB BK130 hb
                 replace HB := bS HB hb
                 refine hK.out _ _ ⟨bc BK105 0, bc BK105 1, bc BK106 0, bc BK106 1⟩ (fun hHeld => ?_)
                 clear hK K
                 refine normA (N := some 60) ?_
                 exact norm_ (by first | (simp only [putAll, Act.put, List.setIfInBounds_toArray, List.set_cons_zero, List.set_cons_succ]; done) | (simp only [putAll, Act.put, List.setIfInBounds_toArray, List.set_cons_zero, List.set_cons_succ]; rfl)) (hJ0_13 (gb130) _ ⟨hHeld, (rX HO_112004.out), (rX HO_117004.out), (kX BK104.out), (kX BK105.out), (kX BK106.out), (kX BK111.out), (kX BK116.out), (kX BK130.out), GW130.out, GE130.out, NB104_130.out, NB130_104.out, NB105_130.out, NB130_105.out, NB106_130.out, NB130_106.out, NB111_130.out, NB130_111.out, NB116_130.out, NB130_116.out, (bX HB)⟩)
               ·skip
                rintro _ w43 ⟨hS_, h0_, h1_, h2_, h3_, h4_, h5_, h6_, h7_⟩
                have n0_ : Aside0 (Kd.R k47 47 w43 w.heap.size (fun k_ => some k_ ≠ (u117004 : Value).ownBlock) u112004 x112004_1) := ⟨h0_⟩
                have n1_ : Aside0 (Kd.R k47 47 w43 w.heap.size (fun k_ => some k_ ≠ (u112004 : Value).ownBlock) u117004 x117004_1) := ⟨h1_⟩
                have n2_ : Aside0 (w43.heap[gb104]? = some (.cells #[.int .u8 a2_0, .int .u8 a2_1] 26 (0, 0))) := ⟨h2_⟩
                have n3_ : Aside0 (w43.heap[gb105]? = some (.cells #[.int .i64 (wrap64 (90 + (Int.tmod (wrap64 (a2_0)) 11))), .int .i64 100] 67 (0, 0))) := ⟨h3_⟩
                have n4_ : Aside0 (w43.heap[gb106]? = some (.cells #[.int .i64 (wrap64 (100 + (Int.tmod (wrap64 (a2_1)) 11))), .int .i64 100] 67 (0, 0))) := ⟨h4_⟩
                have n5_ : Aside0 (w43.heap[gb111]? = some (.cells #[.int .i64 t107, .int .i64 t108, .int .i64 t109, .int .i64 t110, u112004] 33 (0, 0))) := ⟨h5_⟩
                have n6_ : Aside0 (w43.heap[gb116]? = some (.cells #[.int .i64 t112, .int .i64 t113, .int .i64 t114, .int .i64 t115, u117004] 33 (0, 0))) := ⟨h6_⟩
                have n7_ : Aside0 (Below w.heap.size w w43) := ⟨h7_⟩
                clear HO_112004
                clear HO_117004
                clear BK104
                clear BK105
                clear BK106
                clear BK111
                clear BK116
                clear HB
                clear h0_ h1_ h2_ h3_ h4_ h5_ h6_ h7_
                have HO_112004 := n0_
                have HO_117004 := n1_
                have BK104 := n2_
                have BK105 := n3_
                have BK106 := n4_
                have BK111 := n5_
                have BK116 := n6_
                have HB := n7_
                clear n0_ n1_ n2_ n3_ n4_ n5_ n6_ n7_
                have hHeld : w43.cell? ⟨gb105, 0, none⟩ = some (.int .i64 (wrap64 (90 + (Int.tmod (wrap64 (a2_0)) 11)))) ∧ w43.cell? ⟨gb105, 1, none⟩ = some (.int .i64 100) ∧ w43.cell? ⟨gb106, 0, none⟩ = some (.int .i64 (wrap64 (100 + (Int.tmod (wrap64 (a2_1)) 11)))) ∧ w43.cell? ⟨gb106, 1, none⟩ = some (.int .i64 100) := hS_
                refine norm_ (a' := ?_) ?_ ?_
                rotate_left
                ·simp only [putAll, Act.put, List.setIfInBounds_toArray, List.set_cons_zero, List.set_cons_succ]
                 rfl
                refine two_ (i := 3) (j := 13) (Ni := some 63) (Nj := some 13) #[true, true, true, true, false, false, false, true, true, false, false, false, false, false, false, false] #[true, true, true, false, false, false, false, true, true, false, false, false, false, true, false, false] rfl rfl rfl rfl (two_of HT_.out (by kernel_rfl)) (by decide) (by decide) (fun K hK => ?_) (fun K hK => ?_)
                ·skip
                 refine goesB Tryz.func15 #[.int .i64 (wrap64 (20 + (wrap64 (rd l0 x11_1)))), .int .i64 (wrap64 (20 + (wrap64 (rd l0 x11_1))))] ?_
                 with_reducible refine (z1_.calls (wrap64 (20 + (wrap64 (rd l0 x11_1)))) (wrap64 (20 + (wrap64 (rd l0 x11_1)))) t120 t121 _ A38.out).mono ?_
                 rintro e w44 ⟨rfl, hb⟩
                 refine ⟨_, rfl, ?_⟩
                 replace HO_112004 := rB HO_112004 hb
                 replace HO_117004 := rB HO_117004 hb
                 replace BK104 := kB BK104 hb
                 replace BK105 := kB BK105 hb
                 replace BK106 := kB BK106 hb
                 replace BK111 := kB BK111 hb
                 replace BK116 := kB BK116 hb
                 replace HB := bS HB hb
                 refine hK.out _ _ ⟨bc BK105 0, bc BK105 1, bc BK106 0, bc BK106 1⟩ (fun hHeld => ?_)
                 clear hK K
                 refine normA (N := some 63) ?_
                 refine pA 4 64 HT_ ?_
                 exact norm_ (by first | (simp only [putAll, Act.put, List.setIfInBounds_toArray, List.set_cons_zero, List.set_cons_succ]; done) | (simp only [putAll, Act.put, List.setIfInBounds_toArray, List.set_cons_zero, List.set_cons_succ]; rfl)) (hJ0_3 () _ ⟨hHeld, (rX HO_112004.out), (rX HO_117004.out), (kX BK104.out), (kX BK105.out), (kX BK106.out), (kX BK111.out), (kX BK116.out), (bX HB)⟩)
                ·skip
                 refine box_step ?hg (N := 13) ?hd (cs := #[.int .i64 0, .slice none 0 0]) (t := 58) ?hr ?_; (case hd => rfl); (case hg => rfl); (case hr => first | (go_simp; done) | (go_simp; rfl))
                 intro gb130 hg w44 hbox hb
                 have BK130 := Aside0.mk (hbox)
                 have GW130 := bG HB hg
                 have GE130 := bG HB hg
                 have NB104_130 := kN BK104 hg
                 have NB130_104 := kM BK104 hg
                 have NB105_130 := kN BK105 hg
                 have NB130_105 := kM BK105 hg
                 have NB106_130 := kN BK106 hg
                 have NB130_106 := kM BK106 hg
                 have NB111_130 := kN BK111 hg
                 have NB130_111 := kM BK111 hg
                 have NB116_130 := kN BK116 hg
                 have NB130_116 := kM BK116 hg
                 replace HO_112004 := rB HO_112004 hb
                 replace HO_117004 := rB HO_117004 hb
                 replace BK104 := kB BK104 hb
                 replace BK105 := kB BK105 hb
                 replace BK106 := kB BK106 hb
                 replace BK111 := kB BK111 hb
                 replace BK116 := kB BK116 hb
                 replace HB := bS HB hb
                 clear hb hbox hg
                 refine hK.out _ _ ⟨bc BK105 0, bc BK105 1, bc BK106 0, bc BK106 1⟩ (fun hHeld => ?_)
                 clear hK K
                 refine normA (N := some 13) ?_
                 exact norm_ (by first | (simp only [putAll, Act.put, List.setIfInBounds_toArray, List.set_cons_zero, List.set_cons_succ]; done) | (simp only [putAll, Act.put, List.setIfInBounds_toArray, List.set_cons_zero, List.set_cons_succ]; rfl)) (hJ0_13 (gb130) _ ⟨hHeld, (rX HO_112004.out), (rX HO_117004.out), (kX BK104.out), (kX BK105.out), (kX BK106.out), (kX BK111.out), (kX BK116.out), (kX BK130.out), GW130.out, GE130.out, NB104_130.out, NB130_104.out, NB105_130.out, NB130_105.out, NB106_130.out, NB130_106.out, NB111_130.out, NB130_111.out, NB116_130.out, NB130_116.out, (bX HB)⟩)
              ·skip
               rintro gb130 w44 ⟨hS_, h0_, h1_, h2_, h3_, h4_, h5_, h6_, h7_, h8_, h9_, h10_, h11_, h12_, h13_, h14_, h15_, h16_, h17_, h18_, h19_, h20_⟩
               have n0_ : Aside0 (Kd.R k47 47 w44 w.heap.size (fun k_ => some k_ ≠ (u117004 : Value).ownBlock) u112004 x112004_1) := ⟨h0_⟩
               have n1_ : Aside0 (Kd.R k47 47 w44 w.heap.size (fun k_ => some k_ ≠ (u112004 : Value).ownBlock) u117004 x117004_1) := ⟨h1_⟩
               have n2_ : Aside0 (w44.heap[gb104]? = some (.cells #[.int .u8 a2_0, .int .u8 a2_1] 26 (0, 0))) := ⟨h2_⟩
               have n3_ : Aside0 (w44.heap[gb105]? = some (.cells #[.int .i64 (wrap64 (90 + (Int.tmod (wrap64 (a2_0)) 11))), .int .i64 100] 67 (0, 0))) := ⟨h3_⟩
               have n4_ : Aside0 (w44.heap[gb106]? = some (.cells #[.int .i64 (wrap64 (100 + (Int.tmod (wrap64 (a2_1)) 11))), .int .i64 100] 67 (0, 0))) := ⟨h4_⟩
               have n5_ : Aside0 (w44.heap[gb111]? = some (.cells #[.int .i64 t107, .int .i64 t108, .int .i64 t109, .int .i64 t110, u112004] 33 (0, 0))) := ⟨h5_⟩
               have n6_ : Aside0 (w44.heap[gb116]? = some (.cells #[.int .i64 t112, .int .i64 t113, .int .i64 t114, .int .i64 t115, u117004] 33 (0, 0))) := ⟨h6_⟩
               have n7_ : Aside0 (w44.heap[gb130]? = some (.cells #[.int .i64 0, .slice none 0 0] 58 (0, 0))) := ⟨h7_⟩
               have n8_ : Aside0 (w.heap.size ≤ gb130) := ⟨h8_⟩
               have n9_ : Aside0 (w.heap.size ≤ gb130) := ⟨h9_⟩
               have n10_ : Aside0 (gb104 ≠ gb130) := ⟨h10_⟩
               have n11_ : Aside0 (gb130 ≠ gb104) := ⟨h11_⟩
               have n12_ : Aside0 (gb105 ≠ gb130) := ⟨h12_⟩
               have n13_ : Aside0 (gb130 ≠ gb105) := ⟨h13_⟩
               have n14_ : Aside0 (gb106 ≠ gb130) := ⟨h14_⟩
               have n15_ : Aside0 (gb130 ≠ gb106) := ⟨h15_⟩
               have n16_ : Aside0 (gb111 ≠ gb130) := ⟨h16_⟩
               have n17_ : Aside0 (gb130 ≠ gb111) := ⟨h17_⟩
               have n18_ : Aside0 (gb116 ≠ gb130) := ⟨h18_⟩
               have n19_ : Aside0 (gb130 ≠ gb116) := ⟨h19_⟩
               have n20_ : Aside0 (Below w.heap.size w w44) := ⟨h20_⟩
               clear HO_112004
               clear HO_117004
               clear BK104
               clear BK105
               clear BK106
               clear BK111
               clear BK116
               clear HB
               clear h0_ h1_ h2_ h3_ h4_ h5_ h6_ h7_ h8_ h9_ h10_ h11_ h12_ h13_ h14_ h15_ h16_ h17_ h18_ h19_ h20_
               have HO_112004 := n0_
               have HO_117004 := n1_
               have BK104 := n2_
               have BK105 := n3_
               have BK106 := n4_
               have BK111 := n5_
               have BK116 := n6_
               have BK130 := n7_
               have GW130 := n8_
               have GE130 := n9_
               have NB104_130 := n10_
               have NB130_104 := n11_
               have NB105_130 := n12_
               have NB130_105 := n13_
               have NB106_130 := n14_
               have NB130_106 := n15_
               have NB111_130 := n16_
               have NB130_111 := n17_
               have NB116_130 := n18_
               have NB130_116 := n19_
               have HB := n20_
               clear n0_ n1_ n2_ n3_ n4_ n5_ n6_ n7_ n8_ n9_ n10_ n11_ n12_ n13_ n14_ n15_ n16_ n17_ n18_ n19_ n20_
               have hHeld : w44.cell? ⟨gb105, 0, none⟩ = some (.int .i64 (wrap64 (90 + (Int.tmod (wrap64 (a2_0)) 11)))) ∧ w44.cell? ⟨gb105, 1, none⟩ = some (.int .i64 100) ∧ w44.cell? ⟨gb106, 0, none⟩ = some (.int .i64 (wrap64 (100 + (Int.tmod (wrap64 (a2_1)) 11)))) ∧ w44.cell? ⟨gb106, 1, none⟩ = some (.int .i64 100) := hS_
               refine norm_ (a' := ?_) ?_ ?_
               rotate_left
               ·simp only [putAll, Act.put, List.setIfInBounds_toArray, List.set_cons_zero, List.set_cons_succ]
                rfl
               refine oneA (i := 3) (N := some 63) HT_ (fun K hK => ?_)
               refine goesB Tryz.func15 #[.int .i64 (wrap64 (20 + (wrap64 (rd l0 x11_1)))), .int .i64 (wrap64 (20 + (wrap64 (rd l0 x11_1))))] ?_
               with_reducible refine (z1_.calls (wrap64 (20 + (wrap64 (rd l0 x11_1)))) (wrap64 (20 + (wrap64 (rd l0 x11_1)))) t120 t121 _ A38.out).mono ?_
               rintro e w45 ⟨rfl, hb⟩
               refine ⟨_, rfl, ?_⟩
               replace HO_112004 := rB HO_112004 hb
               replace HO_117004 := rB HO_117004 hb
               replace BK104 := kB BK104 hb
               replace BK105 := kB BK105 hb
               replace BK106 := kB BK106 hb
               replace BK111 := kB BK111 hb
               replace BK116 := kB BK116 hb
               replace BK130 := kB BK130 hb
               replace HB := bS HB hb
               refine hK.out _ _ ⟨bc BK105 0, bc BK105 1, bc BK106 0, bc BK106 1⟩ (fun hHeld => ?_)
               clear hK K
               refine normA (N := some 63) ?_
               refine pA 4 64 HT_ ?_
               exact norm_ (by first | (simp only [putAll, Act.put, List.setIfInBounds_toArray, List.set_cons_zero, List.set_cons_succ]; done) | (simp only [putAll, Act.put, List.setIfInBounds_toArray, List.set_cons_zero, List.set_cons_succ]; rfl)) (hJ0_3_13 (gb130) _ ⟨hHeld, (rX HO_112004.out), (rX HO_117004.out), (kX BK104.out), (kX BK105.out), (kX BK106.out), (kX BK111.out), (kX BK116.out), (kX BK130.out), GW130.out, GE130.out, NB104_130.out, NB130_104.out, NB105_130.out, NB130_105.out, NB106_130.out, NB130_106.out, NB111_130.out, NB130_111.out, NB116_130.out, NB130_116.out, (bX HB)⟩)
             ·skip
              rintro _ w44 ⟨hS_, h0_, h1_, h2_, h3_, h4_, h5_, h6_, h7_⟩
              have n0_ : Aside0 (Kd.R k47 47 w44 w.heap.size (fun k_ => some k_ ≠ (u117004 : Value).ownBlock) u112004 x112004_1) := ⟨h0_⟩
              have n1_ : Aside0 (Kd.R k47 47 w44 w.heap.size (fun k_ => some k_ ≠ (u112004 : Value).ownBlock) u117004 x117004_1) := ⟨h1_⟩
              have n2_ : Aside0 (w44.heap[gb104]? = some (.cells #[.int .u8 a2_0, .int .u8 a2_1] 26 (0, 0))) := ⟨h2_⟩
              have n3_ : Aside0 (w44.heap[gb105]? = some (.cells #[.int .i64 (wrap64 (90 + (Int.tmod (wrap64 (a2_0)) 11))), .int .i64 100] 67 (0, 0))) := ⟨h3_⟩
              have n4_ : Aside0 (w44.heap[gb106]? = some (.cells #[.int .i64 (wrap64 (100 + (Int.tmod (wrap64 (a2_1)) 11))), .int .i64 100] 67 (0, 0))) := ⟨h4_⟩
              have n5_ : Aside0 (w44.heap[gb111]? = some (.cells #[.int .i64 t107, .int .i64 t108, .int .i64 t109, .int .i64 t110, u112004] 33 (0, 0))) := ⟨h5_⟩
              have n6_ : Aside0 (w44.heap[gb116]? = some (.cells #[.int .i64 t112, .int .i64 t113, .int .i64 t114, .int .i64 t115, u117004] 33 (0, 0))) := ⟨h6_⟩
              have n7_ : Aside0 (Below w.heap.size w w44) := ⟨h7_⟩
              clear HO_112004
              clear HO_117004
              clear BK104
              clear BK105
              clear BK106
              clear BK111
              clear BK116
              clear HB
              clear h0_ h1_ h2_ h3_ h4_ h5_ h6_ h7_
              have HO_112004 := n0_
              have HO_117004 := n1_
              have BK104 := n2_
              have BK105 := n3_
              have BK106 := n4_
              have BK111 := n5_
              have BK116 := n6_
              have HB := n7_
              clear n0_ n1_ n2_ n3_ n4_ n5_ n6_ n7_
              have hHeld : w44.cell? ⟨gb105, 0, none⟩ = some (.int .i64 (wrap64 (90 + (Int.tmod (wrap64 (a2_0)) 11)))) ∧ w44.cell? ⟨gb105, 1, none⟩ = some (.int .i64 100) ∧ w44.cell? ⟨gb106, 0, none⟩ = some (.int .i64 (wrap64 (100 + (Int.tmod (wrap64 (a2_1)) 11)))) ∧ w44.cell? ⟨gb106, 1, none⟩ = some (.int .i64 100) := hS_
              refine norm_ (a' := ?_) ?_ ?_
              rotate_left
              ·simp only [putAll, Act.put, List.setIfInBounds_toArray, List.set_cons_zero, List.set_cons_succ]
               rfl
              refine two_ (i := 5) (j := 13) (Ni := some 65) (Nj := some 13) #[true, true, true, true, true, true, false, true, true, false, false, false, false, false, false, false] #[true, true, true, true, true, false, false, true, true, false, false, false, false, true, false, false] rfl rfl rfl rfl (two_of HT_.out (by kernel_rfl)) (by decide) (by decide) (fun K hK => ?_) (fun K hK => ?_)
              ·skip
               refine Kd.R_lit_step k55 _ 55 ?hg (N := 65) ?hd (xs := ([(⟨(⟨t118, t119⟩ : S30), (⟨t120, t121⟩ : S30)⟩ : S55)] : List (S55))) (inner := [.int .i64 t118, .int .i64 t119, .int .i64 t120, .int .i64 t121]) (ok := fun _ => True) (okp := fun _ => True) ?hr ?hp (fun _ hk => hk) trivial (Below.refl _ _) (Nat.le_refl _) (by simp) ?_; (case hd => rfl); (case hg => rfl); (case hr => first | (go_simp; done) | (go_simp; rfl)); (case hp => exact (Reps.c4 (show Kd.M k55 _ _ _ (⟨(⟨t118, t119⟩ : S30), (⟨t120, t121⟩ : S30)⟩ : S55) [.int .i64 t118, .int .i64 t119, .int .i64 t120, .int .i64 t121] from (k55_mkM _ _ _ (⟨(⟨t118, t119⟩ : S30), (⟨t120, t121⟩ : S30)⟩ : S55) )) (Reps.none _ _)))
               intro v123 w45 ho46 hb hg_ hnew_
               clear hg_ hnew_
               (first | rw [← Ny122.out] at ho46 | (simp only [Int.reduceToNat] at ho46; rw [← Ny122.out] at ho46))
               have HO124 := Aside0.mk (Kd.R_lower ho46 (below_size (bX HB)))
               replace HO_112004 := rB HO_112004 hb
               replace HO_117004 := rB HO_117004 hb
               replace BK104 := kB BK104 hb
               replace BK105 := kB BK105 hb
               replace BK106 := kB BK106 hb
               replace BK111 := kB BK111 hb
               replace BK116 := kB BK116 hb
               replace HB := bS HB hb
               clear hb ho46
               obtain ⟨Ao47, co47, eo47⟩ := Kd.R_slice HO124.out
               (first | subst eo47 | (injection eo47 with f1_ f2_ f3_; have f4_ := f1_.symm; have f5_ := f3_.symm; clear f1_ f2_ f3_; subst f4_; subst f5_))
               refine hK.out _ _ ⟨bc BK105 0, bc BK105 1, bc BK106 0, bc BK106 1⟩ (fun hHeld => ?_)
               clear hK K
               refine normA (N := some 65) ?_
               refine pA 6 66 HT_ ?_
               exact norm_ (by first | (simp only [putAll, Act.put, List.setIfInBounds_toArray, List.set_cons_zero, List.set_cons_succ]; done) | (simp only [putAll, Act.put, List.setIfInBounds_toArray, List.set_cons_zero, List.set_cons_succ]; rfl)) (hJ0_3_5 (.slice Ao47 y122.length co47) _ ⟨hHeld, (rX HO124.out), (rX HO_112004.out), (rX HO_117004.out), (kX BK104.out), (kX BK105.out), (kX BK106.out), (kX BK111.out), (kX BK116.out), (bX HB)⟩)
              ·skip
               refine box_step ?hg (N := 13) ?hd (cs := #[.int .i64 0, .slice none 0 0]) (t := 58) ?hr ?_; (case hd => rfl); (case hg => rfl); (case hr => first | (go_simp; done) | (go_simp; rfl))
               intro gb130 hg w45 hbox hb
               have BK130 := Aside0.mk (hbox)
               have GW130 := bG HB hg
               have GE130 := bG HB hg
               have NB104_130 := kN BK104 hg
               have NB130_104 := kM BK104 hg
               have NB105_130 := kN BK105 hg
               have NB130_105 := kM BK105 hg
               have NB106_130 := kN BK106 hg
               have NB130_106 := kM BK106 hg
               have NB111_130 := kN BK111 hg
               have NB130_111 := kM BK111 hg
               have NB116_130 := kN BK116 hg
               have NB130_116 := kM BK116 hg
               replace HO_112004 := rB HO_112004 hb
               replace HO_117004 := rB HO_117004 hb
               replace BK104 := kB BK104 hb
               replace BK105 := kB BK105 hb
               replace BK106 := kB BK106 hb
               replace BK111 := kB BK111 hb
               replace BK116 := kB BK116 hb
               replace HB := bS HB hb
               clear hb hbox hg
               refine hK.out _ _ ⟨bc BK105 0, bc BK105 1, bc BK106 0, bc BK106 1⟩ (fun hHeld => ?_)
               clear hK K
               refine normA (N := some 13) ?_
               exact norm_ (by first | (simp only [putAll, Act.put, List.setIfInBounds_toArray, List.set_cons_zero, List.set_cons_succ]; done) | (simp only [putAll, Act.put, List.setIfInBounds_toArray, List.set_cons_zero, List.set_cons_succ]; rfl)) (hJ0_3_13 (gb130) _ ⟨hHeld, (rX HO_112004.out), (rX HO_117004.out), (kX BK104.out), (kX BK105.out), (kX BK106.out), (kX BK111.out), (kX BK116.out), (kX BK130.out), GW130.out, GE130.out, NB104_130.out, NB130_104.out, NB105_130.out, NB130_105.out, NB106_130.out, NB130_106.out, NB111_130.out, NB130_111.out, NB116_130.out, NB130_116.out, (bX HB)⟩)
            ·skip
             rintro gb130 w45 ⟨hS_, h0_, h1_, h2_, h3_, h4_, h5_, h6_, h7_, h8_, h9_, h10_, h11_, h12_, h13_, h14_, h15_, h16_, h17_, h18_, h19_, h20_⟩
             have n0_ : Aside0 (Kd.R k47 47 w45 w.heap.size (fun k_ => some k_ ≠ (u117004 : Value).ownBlock) u112004 x112004_1) := ⟨h0_⟩
             have n1_ : Aside0 (Kd.R k47 47 w45 w.heap.size (fun k_ => some k_ ≠ (u112004 : Value).ownBlock) u117004 x117004_1) := ⟨h1_⟩
             have n2_ : Aside0 (w45.heap[gb104]? = some (.cells #[.int .u8 a2_0, .int .u8 a2_1] 26 (0, 0))) := ⟨h2_⟩
             have n3_ : Aside0 (w45.heap[gb105]? = some (.cells #[.int .i64 (wrap64 (90 + (Int.tmod (wrap64 (a2_0)) 11))), .int .i64 100] 67 (0, 0))) := ⟨h3_⟩
             have n4_ : Aside0 (w45.heap[gb106]? = some (.cells #[.int .i64 (wrap64 (100 + (Int.tmod (wrap64 (a2_1)) 11))), .int .i64 100] 67 (0, 0))) := ⟨h4_⟩
             have n5_ : Aside0 (w45.heap[gb111]? = some (.cells #[.int .i64 t107, .int .i64 t108, .int .i64 t109, .int .i64 t110, u112004] 33 (0, 0))) := ⟨h5_⟩
             have n6_ : Aside0 (w45.heap[gb116]? = some (.cells #[.int .i64 t112, .int .i64 t113, .int .i64 t114, .int .i64 t115, u117004] 33 (0, 0))) := ⟨h6_⟩
             have n7_ : Aside0 (w45.heap[gb130]? = some (.cells #[.int .i64 0, .slice none 0 0] 58 (0, 0))) := ⟨h7_⟩
             have n8_ : Aside0 (w.heap.size ≤ gb130) := ⟨h8_⟩
             have n9_ : Aside0 (w.heap.size ≤ gb130) := ⟨h9_⟩
             have n10_ : Aside0 (gb104 ≠ gb130) := ⟨h10_⟩
             have n11_ : Aside0 (gb130 ≠ gb104) := ⟨h11_⟩
             have n12_ : Aside0 (gb105 ≠ gb130) := ⟨h12_⟩
             have n13_ : Aside0 (gb130 ≠ gb105) := ⟨h13_⟩
             have n14_ : Aside0 (gb106 ≠ gb130) := ⟨h14_⟩
             have n15_ : Aside0 (gb130 ≠ gb106) := ⟨h15_⟩
             have n16_ : Aside0 (gb111 ≠ gb130) := ⟨h16_⟩
             have n17_ : Aside0 (gb130 ≠ gb111) := ⟨h17_⟩
             have n18_ : Aside0 (gb116 ≠ gb130) := ⟨h18_⟩
             have n19_ : Aside0 (gb130 ≠ gb116) := ⟨h19_⟩
             have n20_ : Aside0 (Below w.heap.size w w45) := ⟨h20_⟩
             clear HO_112004
             clear HO_117004
             clear BK104
             clear BK105
             clear BK106
             clear BK111
             clear BK116
             clear HB
             clear h0_ h1_ h2_ h3_ h4_ h5_ h6_ h7_ h8_ h9_ h10_ h11_ h12_ h13_ h14_ h15_ h16_ h17_ h18_ h19_ h20_
             have HO_112004 := n0_
             have HO_117004 := n1_
             have BK104 := n2_
             have BK105 := n3_
             have BK106 := n4_
             have BK111 := n5_
             have BK116 := n6_
             have BK130 := n7_
             have GW130 := n8_
             have GE130 := n9_
             have NB104_130 := n10_
             have NB130_104 := n11_
             have NB105_130 := n12_
             have NB130_105 := n13_
             have NB106_130 := n14_
             have NB130_106 := n15_
             have NB111_130 := n16_
             have NB130_111 := n17_
             have NB116_130 := n18_
             have NB130_116 := n19_
             have HB := n20_
             clear n0_ n1_ n2_ n3_ n4_ n5_ n6_ n7_ n8_ n9_ n10_ n11_ n12_ n13_ n14_ n15_ n16_ n17_ n18_ n19_ n20_
             have hHeld : w45.cell? ⟨gb105, 0, none⟩ = some (.int .i64 (wrap64 (90 + (Int.tmod (wrap64 (a2_0)) 11)))) ∧ w45.cell? ⟨gb105, 1, none⟩ = some (.int .i64 100) ∧ w45.cell? ⟨gb106, 0, none⟩ = some (.int .i64 (wrap64 (100 + (Int.tmod (wrap64 (a2_1)) 11)))) ∧ w45.cell? ⟨gb106, 1, none⟩ = some (.int .i64 100) := hS_
             refine norm_ (a' := ?_) ?_ ?_
             rotate_left
             ·simp only [putAll, Act.put, List.setIfInBounds_toArray, List.set_cons_zero, List.set_cons_succ]
              rfl
             refine oneA (i := 5) (N := some 65) HT_ (fun K hK => ?_)
             refine Kd.R_lit_step k55 _ 55 ?hg (N := 65) ?hd (xs := ([(⟨(⟨t118, t119⟩ : S30), (⟨t120, t121⟩ : S30)⟩ : S55)] : List (S55))) (inner := [.int .i64 t118, .int .i64 t119, .int .i64 t120, .int .i64 t121]) (ok := fun _ => True) (okp := fun _ => True) ?hr ?hp (fun _ hk => hk) trivial (Below.refl _ _) (Nat.le_refl _) (by simp) ?_; (case hd => rfl); (case hg => rfl); (case hr => first | (go_simp; done) | (go_simp; rfl)); (case hp => exact (Reps.c4 (show Kd.M k55 _ _ _ (⟨(⟨t118, t119⟩ : S30), (⟨t120, t121⟩ : S30)⟩ : S55) [.int .i64 t118, .int .i64 t119, .int .i64 t120, .int .i64 t121] from (k55_mkM _ _ _ (⟨(⟨t118, t119⟩ : S30), (⟨t120, t121⟩ : S30)⟩ : S55) )) (Reps.none _ _)))
             intro v123 w46 ho47 hb hg_ hnew_
             clear hg_ hnew_
             (first | rw [← Ny122.out] at ho47 | (simp only [Int.reduceToNat] at ho47; rw [← Ny122.out] at ho47))
             have HO124 := Aside0.mk (Kd.R_lower ho47 (below_size (bX HB)))
             replace HO_112004 := rB HO_112004 hb
             replace HO_117004 := rB HO_117004 hb
             replace BK104 := kB BK104 hb
             replace BK105 := kB BK105 hb
             replace BK106 := kB BK106 hb
             replace BK111 := kB BK111 hb
             replace BK116 := kB BK116 hb
             replace BK130 := kB BK130 hb
             replace HB := bS HB hb
             clear hb ho47
             obtain ⟨Ao48, co48, eo48⟩ := Kd.R_slice HO124.out
             (first | subst eo48 | (injection eo48 with f1_ f2_ f3_; have f4_ := f1_.symm; have f5_ := f3_.symm; clear f1_ f2_ f3_; subst f4_; subst f5_))
             refine hK.out _ _ ⟨bc BK105 0, bc BK105 1, bc BK106 0, bc BK106 1⟩ (fun hHeld => ?_)
             clear hK K
             refine normA (N := some 65) ?_
             refine pA 6 66 HT_ ?_
             exact norm_ (by first | (simp only [putAll, Act.put, List.setIfInBounds_toArray, List.set_cons_zero, List.set_cons_succ]; done) | (simp only [putAll, Act.put, List.setIfInBounds_toArray, List.set_cons_zero, List.set_cons_succ]; rfl)) (hJ0_3_5_13 (.slice Ao48 y122.length co48, gb130) _ ⟨hHeld, (rX HO124.out), (rX HO_112004.out), (rX HO_117004.out), (kX BK104.out), (kX BK105.out), (kX BK106.out), (kX BK111.out), (kX BK116.out), (kX BK130.out), GW130.out, GE130.out, NB104_130.out, NB130_104.out, NB105_130.out, NB130_105.out, NB106_130.out, NB130_106.out, NB111_130.out, NB130_111.out, NB116_130.out, NB130_116.out, (bX HB)⟩)
           ·skip
            rintro v123 w47 ⟨hS_, h0_, h1_, h2_, h3_, h4_, h5_, h6_, h7_, h8_⟩
            have n0_ : Aside0 (Kd.R k55 55 w47 w.heap.size (fun _ => True) v123 y122) := ⟨h0_⟩
            have n1_ : Aside0 (Kd.R k47 47 w47 w.heap.size (fun k_ => some k_ ≠ (u117004 : Value).ownBlock) u112004 x112004_1) := ⟨h1_⟩
            have n2_ : Aside0 (Kd.R k47 47 w47 w.heap.size (fun k_ => some k_ ≠ (u112004 : Value).ownBlock) u117004 x117004_1) := ⟨h2_⟩
            have n3_ : Aside0 (w47.heap[gb104]? = some (.cells #[.int .u8 a2_0, .int .u8 a2_1] 26 (0, 0))) := ⟨h3_⟩
            have n4_ : Aside0 (w47.heap[gb105]? = some (.cells #[.int .i64 (wrap64 (90 + (Int.tmod (wrap64 (a2_0)) 11))), .int .i64 100] 67 (0, 0))) := ⟨h4_⟩
            have n5_ : Aside0 (w47.heap[gb106]? = some (.cells #[.int .i64 (wrap64 (100 + (Int.tmod (wrap64 (a2_1)) 11))), .int .i64 100] 67 (0, 0))) := ⟨h5_⟩
            have n6_ : Aside0 (w47.heap[gb111]? = some (.cells #[.int .i64 t107, .int .i64 t108, .int .i64 t109, .int .i64 t110, u112004] 33 (0, 0))) := ⟨h6_⟩
            have n7_ : Aside0 (w47.heap[gb116]? = some (.cells #[.int .i64 t112, .int .i64 t113, .int .i64 t114, .int .i64 t115, u117004] 33 (0, 0))) := ⟨h7_⟩
            have n8_ : Aside0 (Below w.heap.size w w47) := ⟨h8_⟩
            clear HO_112004
            clear HO_117004
            clear BK104
            clear BK105
            clear BK106
            clear BK111
            clear BK116
            clear HB
            clear h0_ h1_ h2_ h3_ h4_ h5_ h6_ h7_ h8_
            have HO124 := n0_
            have HO_112004 := n1_
            have HO_117004 := n2_
            have BK104 := n3_
            have BK105 := n4_
            have BK106 := n5_
            have BK111 := n6_
            have BK116 := n7_
            have HB := n8_
            clear n0_ n1_ n2_ n3_ n4_ n5_ n6_ n7_ n8_
            have hHeld : w47.cell? ⟨gb105, 0, none⟩ = some (.int .i64 (wrap64 (90 + (Int.tmod (wrap64 (a2_0)) 11)))) ∧ w47.cell? ⟨gb105, 1, none⟩ = some (.int .i64 100) ∧ w47.cell? ⟨gb106, 0, none⟩ = some (.int .i64 (wrap64 (100 + (Int.tmod (wrap64 (a2_1)) 11)))) ∧ w47.cell? ⟨gb106, 1, none⟩ = some (.int .i64 100) := hS_
            obtain ⟨Ao48, co48, eo48⟩ := Kd.R_slice HO124.out
            (first | subst eo48 | (injection eo48 with f1_ f2_ f3_; have f4_ := f1_.symm; have f5_ := f3_.symm; clear f1_ f2_ f3_; subst f4_; subst f5_))
            refine norm_ (a' := ?_) ?_ ?_
            rotate_left
            ·simp only [putAll, Act.put, List.setIfInBounds_toArray, List.set_cons_zero, List.set_cons_succ]
             rfl
            refine two_ (i := 9) (j := 13) (Ni := some 69) (Nj := some 13) #[true, true, true, true, true, true, true, true, true, true, false, false, false, false, false, false] #[true, true, true, true, true, true, true, true, true, false, false, false, false, true, false, false] rfl rfl rfl rfl (two_of HT_.out (by kernel_rfl)) (by decide) (by decide) (fun K hK => ?_) (fun K hK => ?_)
            ·skip
             refine goesB Tryz.func20 #[.agg #[.int .i64 400, .slice Ao48 y122.length co48], .agg #[.int .i64 (wrap64 (90 + (Int.tmod (wrap64 (a2_0)) 11))), .int .i64 100], .agg #[.int .i64 (wrap64 (100 + (Int.tmod (wrap64 (a2_1)) 11))), .int .i64 100]] ?_
             with_reducible refine (z6_.calls 400 _ _ y122 (wrap64 (90 + (Int.tmod (wrap64 (a2_0)) 11))) 100 (wrap64 (100 + (Int.tmod (wrap64 (a2_1)) 11))) 100 t125 t126 t129 _ ?side1 ?side2 A39.out).mono ?_
             (case side1 => exact sX (Kd.R_reads' HO124.out).2.2)
             (case side2 => exact (Kd.R_reads' HO124.out).2.1)
             rintro e w49 ⟨v127, rfl, ho0, hb⟩
             refine ⟨_, rfl, ?_⟩
             have HO128 := Aside0.mk (Kd.R_lower (Kd.R_new' ho0 (Kd.R_lt (rX HO124.out))) (below_size (bX HB)))
             replace HO_112004 := rB HO_112004 hb
             replace HO_117004 := rB HO_117004 hb
             replace HO124 := Aside0.mk (Kd.R_elder' (rX HO124.out) (Kd.R_base ho0) hb)
             replace BK104 := kB BK104 hb
             replace BK105 := kB BK105 hb
             replace BK106 := kB BK106 hb
             replace BK111 := kB BK111 hb
             replace BK116 := kB BK116 hb
             replace HB := bS HB hb
             (try clear ho0)
             refine hK.out _ _ ⟨bc BK105 0, bc BK105 1, bc BK106 0, bc BK106 1⟩ (fun hHeld => ?_)
             clear hK K
             refine normA (N := some 69) ?_
             refine pA 10 59 HT_ ?_
             refine pA 11 70 HT_ ?_
             refine pA 12 71 HT_ ?_
             exact norm_ (by first | (simp only [putAll, Act.put, List.setIfInBounds_toArray, List.set_cons_zero, List.set_cons_succ]; done) | (simp only [putAll, Act.put, List.setIfInBounds_toArray, List.set_cons_zero, List.set_cons_succ]; rfl)) (hJ0_3_5_9 (.slice Ao48 y122.length co48, v127) _ ⟨hHeld, (rX (Kd.R_mono HO124.out (fun _ hk => hk.2))), (rX (Kd.R_mono HO128.out (fun _ hk => hk.2))), (rX HO_112004.out), (rX HO_117004.out), (kX BK104.out), (kX BK105.out), (kX BK106.out), (kX BK111.out), (kX BK116.out), (bX HB)⟩)
            ·skip
             refine box_step ?hg (N := 13) ?hd (cs := #[.int .i64 0, .slice none 0 0]) (t := 58) ?hr ?_; (case hd => rfl); (case hg => rfl); (case hr => first | (go_simp; done) | (go_simp; rfl))
             intro gb130 hg w49 hbox hb
             have BK130 := Aside0.mk (hbox)
             have GW130 := bG HB hg
             have GE130 := bG HB hg
             have NB104_130 := kN BK104 hg
             have NB130_104 := kM BK104 hg
             have NB105_130 := kN BK105 hg
             have NB130_105 := kM BK105 hg
             have NB106_130 := kN BK106 hg
             have NB130_106 := kM BK106 hg
             have NB111_130 := kN BK111 hg
             have NB130_111 := kM BK111 hg
             have NB116_130 := kN BK116 hg
             have NB130_116 := kM BK116 hg
             replace HO_112004 := rB HO_112004 hb
             replace HO_117004 := rB HO_117004 hb
             replace HO124 := rB HO124 hb
             replace BK104 := kB BK104 hb
             replace BK105 := kB BK105 hb
             replace BK106 := kB BK106 hb
             replace BK111 := kB BK111 hb
             replace BK116 := kB BK116 hb
             replace HB := bS HB hb
             clear hb hbox hg
             refine hK.out _ _ ⟨bc BK105 0, bc BK105 1, bc BK106 0, bc BK106 1⟩ (fun hHeld => ?_)
             clear hK K
             refine normA (N := some 13) ?_
             exact norm_ (by first | (simp only [putAll, Act.put, List.setIfInBounds_toArray, List.set_cons_zero, List.set_cons_succ]; done) | (simp only [putAll, Act.put, List.setIfInBounds_toArray, List.set_cons_zero, List.set_cons_succ]; rfl)) (hJ0_3_5_13 (.slice Ao48 y122.length co48, gb130) _ ⟨hHeld, (rX HO124.out), (rX HO_112004.out), (rX HO_117004.out), (kX BK104.out), (kX BK105.out), (kX BK106.out), (kX BK111.out), (kX BK116.out), (kX BK130.out), GW130.out, GE130.out, NB104_130.out, NB130_104.out, NB105_130.out, NB130_105.out, NB106_130.out, NB130_106.out, NB111_130.out, NB130_111.out, NB116_130.out, NB130_116.out, (bX HB)⟩)
          ·skip
           rintro ⟨v123, gb130⟩ w48 ⟨hS_, h0_, h1_, h2_, h3_, h4_, h5_, h6_, h7_, h8_, h9_, h10_, h11_, h12_, h13_, h14_, h15_, h16_, h17_, h18_, h19_, h20_, h21_⟩
           have n0_ : Aside0 (Kd.R k55 55 w48 w.heap.size (fun _ => True) v123 y122) := ⟨h0_⟩
           have n1_ : Aside0 (Kd.R k47 47 w48 w.heap.size (fun k_ => some k_ ≠ (u117004 : Value).ownBlock) u112004 x112004_1) := ⟨h1_⟩
           have n2_ : Aside0 (Kd.R k47 47 w48 w.heap.size (fun k_ => some k_ ≠ (u112004 : Value).ownBlock) u117004 x117004_1) := ⟨h2_⟩
           have n3_ : Aside0 (w48.heap[gb104]? = some (.cells #[.int .u8 a2_0, .int .u8 a2_1] 26 (0, 0))) := ⟨h3_⟩
           have n4_ : Aside0 (w48.heap[gb105]? = some (.cells #[.int .i64 (wrap64 (90 + (Int.tmod (wrap64 (a2_0)) 11))), .int .i64 100] 67 (0, 0))) := ⟨h4_⟩
           have n5_ : Aside0 (w48.heap[gb106]? = some (.cells #[.int .i64 (wrap64 (100 + (Int.tmod (wrap64 (a2_1)) 11))), .int .i64 100] 67 (0, 0))) := ⟨h5_⟩
           have n6_ : Aside0 (w48.heap[gb111]? = some (.cells #[.int .i64 t107, .int .i64 t108, .int .i64 t109, .int .i64 t110, u112004] 33 (0, 0))) := ⟨h6_⟩
           have n7_ : Aside0 (w48.heap[gb116]? = some (.cells #[.int .i64 t112, .int .i64 t113, .int .i64 t114, .int .i64 t115, u117004] 33 (0, 0))) := ⟨h7_⟩
           have n8_ : Aside0 (w48.heap[gb130]? = some (.cells #[.int .i64 0, .slice none 0 0] 58 (0, 0))) := ⟨h8_⟩
           have n9_ : Aside0 (w.heap.size ≤ gb130) := ⟨h9_⟩
           have n10_ : Aside0 (w.heap.size ≤ gb130) := ⟨h10_⟩
           have n11_ : Aside0 (gb104 ≠ gb130) := ⟨h11_⟩
           have n12_ : Aside0 (gb130 ≠ gb104) := ⟨h12_⟩
           have n13_ : Aside0 (gb105 ≠ gb130) := ⟨h13_⟩
           have n14_ : Aside0 (gb130 ≠ gb105) := ⟨h14_⟩
           have n15_ : Aside0 (gb106 ≠ gb130) := ⟨h15_⟩
           have n16_ : Aside0 (gb130 ≠ gb106) := ⟨h16_⟩
           have n17_ : Aside0 (gb111 ≠ gb130) := ⟨h17_⟩
           have n18_ : Aside0 (gb130 ≠ gb111) := ⟨h18_⟩
           have n19_ : Aside0 (gb116 ≠ gb130) := ⟨h19_⟩
           have n20_ : Aside0 (gb130 ≠ gb116) := ⟨h20_⟩
           have n21_ : Aside0 (Below w.heap.size w w48) := ⟨h21_⟩
           clear HO_112004
           clear HO_117004
           clear BK104
           clear BK105
           clear BK106
           clear BK111
           clear BK116
           clear HB
           clear h0_ h1_ h2_ h3_ h4_ h5_ h6_ h7_ h8_ h9_ h10_ h11_ h12_ h13_ h14_ h15_ h16_ h17_ h18_ h19_ h20_ h21_
           have HO124 := n0_
           have HO_112004 := n1_
           have HO_117004 := n2_
           have BK104 := n3_
           have BK105 := n4_
           have BK106 := n5_
           have BK111 := n6_
           have BK116 := n7_
           have BK130 := n8_
           have GW130 := n9_
           have GE130 := n10_
           have NB104_130 := n11_
           have NB130_104 := n12_
           have NB105_130 := n13_
           have NB130_105 := n14_
           have NB106_130 := n15_
           have NB130_106 := n16_
           have NB111_130 := n17_
           have NB130_111 := n18_
           have NB116_130 := n19_
           have NB130_116 := n20_
           have HB := n21_
           clear n0_ n1_ n2_ n3_ n4_ n5_ n6_ n7_ n8_ n9_ n10_ n11_ n12_ n13_ n14_ n15_ n16_ n17_ n18_ n19_ n20_ n21_
           have hHeld : w48.cell? ⟨gb105, 0, none⟩ = some (.int .i64 (wrap64 (90 + (Int.tmod (wrap64 (a2_0)) 11)))) ∧ w48.cell? ⟨gb105, 1, none⟩ = some (.int .i64 100) ∧ w48.cell? ⟨gb106, 0, none⟩ = some (.int .i64 (wrap64 (100 + (Int.tmod (wrap64 (a2_1)) 11)))) ∧ w48.cell? ⟨gb106, 1, none⟩ = some (.int .i64 100) := hS_
           obtain ⟨Ao49, co49, eo49⟩ := Kd.R_slice HO124.out
           (first | subst eo49 | (injection eo49 with f1_ f2_ f3_; have f4_ := f1_.symm; have f5_ := f3_.symm; clear f1_ f2_ f3_; subst f4_; subst f5_))
           refine norm_ (a' := ?_) ?_ ?_
           rotate_left
           ·simp only [putAll, Act.put, List.setIfInBounds_toArray, List.set_cons_zero, List.set_cons_succ]
            rfl
           refine oneA (i := 9) (N := some 69) HT_ (fun K hK => ?_)
           refine goesB Tryz.func20 #[.agg #[.int .i64 400, .slice Ao49 y122.length co49], .agg #[.int .i64 (wrap64 (90 + (Int.tmod (wrap64 (a2_0)) 11))), .int .i64 100], .agg #[.int .i64 (wrap64 (100 + (Int.tmod (wrap64 (a2_1)) 11))), .int .i64 100]] ?_
           with_reducible refine (z6_.calls 400 _ _ y122 (wrap64 (90 + (Int.tmod (wrap64 (a2_0)) 11))) 100 (wrap64 (100 + (Int.tmod (wrap64 (a2_1)) 11))) 100 t125 t126 t129 _ ?side1 ?side2 A39.out).mono ?_
           (case side1 => exact sX (Kd.R_reads' HO124.out).2.2)
           (case side2 => exact (Kd.R_reads' HO124.out).2.1)
           rintro e w50 ⟨v127, rfl, ho0, hb⟩
           refine ⟨_, rfl, ?_⟩
           have HO128 := Aside0.mk (Kd.R_lower (Kd.R_new' ho0 (Kd.R_lt (rX HO124.out))) (below_size (bX HB)))
           replace HO_112004 := rB HO_112004 hb
           replace HO_117004 := rB HO_117004 hb
           replace HO124 := Aside0.mk (Kd.R_elder' (rX HO124.out) (Kd.R_base ho0) hb)
           replace BK104 := kB BK104 hb
           replace BK105 := kB BK105 hb
           replace BK106 := kB BK106 hb
           replace BK111 := kB BK111 hb
           replace BK116 := kB BK116 hb
           replace BK130 := kB BK130 hb
           replace HB := bS HB hb
           (try clear ho0)
           refine hK.out _ _ ⟨bc BK105 0, bc BK105 1, bc BK106 0, bc BK106 1⟩ (fun hHeld => ?_)
           clear hK K
           refine normA (N := some 69) ?_
           refine pA 10 59 HT_ ?_
           refine pA 11 70 HT_ ?_
           refine pA 12 71 HT_ ?_
           exact norm_ (by first | (simp only [putAll, Act.put, List.setIfInBounds_toArray, List.set_cons_zero, List.set_cons_succ]; done) | (simp only [putAll, Act.put, List.setIfInBounds_toArray, List.set_cons_zero, List.set_cons_succ]; rfl)) (hJ0_3_5_9_13 (.slice Ao49 y122.length co49, v127, gb130) _ ⟨hHeld, (rX (Kd.R_mono HO124.out (fun _ hk => hk.2))), (rX (Kd.R_mono HO128.out (fun _ hk => hk.2))), (rX HO_112004.out), (rX HO_117004.out), (kX BK104.out), (kX BK105.out), (kX BK106.out), (kX BK111.out), (kX BK116.out), (kX BK130.out), GW130.out, GE130.out, NB104_130.out, NB130_104.out, NB105_130.out, NB130_105.out, NB106_130.out, NB130_106.out, NB111_130.out, NB130_111.out, NB116_130.out, NB130_116.out, (bX HB)⟩)
         ·skip
          rintro ⟨v123, v127⟩ w48 ⟨hS_, h0_, h1_, h2_, h3_, h4_, h5_, h6_, h7_, h8_, h9_⟩
          have n0_ : Aside0 (Kd.R k55 55 w48 w.heap.size (fun k_ => some k_ ≠ (v127 : Value).ownBlock) v123 y122) := ⟨h0_⟩
          have n1_ : Aside0 (Kd.R k55 55 w48 w.heap.size (fun k_ => some k_ ≠ (v123 : Value).ownBlock) v127 t126) := ⟨h1_⟩
          have n2_ : Aside0 (Kd.R k47 47 w48 w.heap.size (fun k_ => some k_ ≠ (u117004 : Value).ownBlock) u112004 x112004_1) := ⟨h2_⟩
          have n3_ : Aside0 (Kd.R k47 47 w48 w.heap.size (fun k_ => some k_ ≠ (u112004 : Value).ownBlock) u117004 x117004_1) := ⟨h3_⟩
          have n4_ : Aside0 (w48.heap[gb104]? = some (.cells #[.int .u8 a2_0, .int .u8 a2_1] 26 (0, 0))) := ⟨h4_⟩
          have n5_ : Aside0 (w48.heap[gb105]? = some (.cells #[.int .i64 (wrap64 (90 + (Int.tmod (wrap64 (a2_0)) 11))), .int .i64 100] 67 (0, 0))) := ⟨h5_⟩
          have n6_ : Aside0 (w48.heap[gb106]? = some (.cells #[.int .i64 (wrap64 (100 + (Int.tmod (wrap64 (a2_1)) 11))), .int .i64 100] 67 (0, 0))) := ⟨h6_⟩
          have n7_ : Aside0 (w48.heap[gb111]? = some (.cells #[.int .i64 t107, .int .i64 t108, .int .i64 t109, .int .i64 t110, u112004] 33 (0, 0))) := ⟨h7_⟩
          have n8_ : Aside0 (w48.heap[gb116]? = some (.cells #[.int .i64 t112, .int .i64 t113, .int .i64 t114, .int .i64 t115, u117004] 33 (0, 0))) := ⟨h8_⟩
          have n9_ : Aside0 (Below w.heap.size w w48) := ⟨h9_⟩
          clear HO_112004
          clear HO_117004
          clear BK104
          clear BK105
          clear BK106
          clear BK111
          clear BK116
          clear HB
          clear h0_ h1_ h2_ h3_ h4_ h5_ h6_ h7_ h8_ h9_
          have HO124 := n0_
          have HO128 := n1_
          have HO_112004 := n2_
          have HO_117004 := n3_
          have BK104 := n4_
          have BK105 := n5_
          have BK106 := n6_
          have BK111 := n7_
          have BK116 := n8_
          have HB := n9_
          clear n0_ n1_ n2_ n3_ n4_ n5_ n6_ n7_ n8_ n9_
          have hHeld : w48.cell? ⟨gb105, 0, none⟩ = some (.int .i64 (wrap64 (90 + (Int.tmod (wrap64 (a2_0)) 11)))) ∧ w48.cell? ⟨gb105, 1, none⟩ = some (.int .i64 100) ∧ w48.cell? ⟨gb106, 0, none⟩ = some (.int .i64 (wrap64 (100 + (Int.tmod (wrap64 (a2_1)) 11)))) ∧ w48.cell? ⟨gb106, 1, none⟩ = some (.int .i64 100) := hS_
          obtain ⟨Ao49, co49, eo49⟩ := Kd.R_slice HO124.out
          (first | subst eo49 | (injection eo49 with f1_ f2_ f3_; have f4_ := f1_.symm; have f5_ := f3_.symm; clear f1_ f2_ f3_; subst f4_; subst f5_))
          refine norm_ (a' := ?_) ?_ ?_
          rotate_left
          ·simp only [putAll, Act.put, List.setIfInBounds_toArray, List.set_cons_zero, List.set_cons_succ]
           rfl
          refine oneA (i := 13) (N := some 13) HT_ (fun K hK => ?_)
          refine box_step ?hg (N := 13) ?hd (cs := #[.int .i64 0, .slice none 0 0]) (t := 58) ?hr ?_; (case hd => rfl); (case hg => rfl); (case hr => first | (go_simp; done) | (go_simp; rfl))
          intro gb130 hg w50 hbox hb
          have BK130 := Aside0.mk (hbox)
          have GW130 := bG HB hg
          have GE130 := bG HB hg
          have NB104_130 := kN BK104 hg
          have NB130_104 := kM BK104 hg
          have NB105_130 := kN BK105 hg
          have NB130_105 := kM BK105 hg
          have NB106_130 := kN BK106 hg
          have NB130_106 := kM BK106 hg
          have NB111_130 := kN BK111 hg
          have NB130_111 := kM BK111 hg
          have NB116_130 := kN BK116 hg
          have NB130_116 := kM BK116 hg
          replace HO_112004 := rB HO_112004 hb
          replace HO_117004 := rB HO_117004 hb
          replace HO124 := rB HO124 hb
          replace HO128 := rB HO128 hb
          replace BK104 := kB BK104 hb
          replace BK105 := kB BK105 hb
          replace BK106 := kB BK106 hb
          replace BK111 := kB BK111 hb
          replace BK116 := kB BK116 hb
          replace HB := bS HB hb
          clear hb hbox hg
          refine hK.out _ _ ⟨bc BK105 0, bc BK105 1, bc BK106 0, bc BK106 1⟩ (fun hHeld => ?_)
          clear hK K
          refine normA (N := some 13) ?_
          exact norm_ (by first | (simp only [putAll, Act.put, List.setIfInBounds_toArray, List.set_cons_zero, List.set_cons_succ]; done) | (simp only [putAll, Act.put, List.setIfInBounds_toArray, List.set_cons_zero, List.set_cons_succ]; rfl)) (hJ0_3_5_9_13 (.slice Ao49 y122.length co49, v127, gb130) _ ⟨hHeld, (rX HO124.out), (rX HO128.out), (rX HO_112004.out), (rX HO_117004.out), (kX BK104.out), (kX BK105.out), (kX BK106.out), (kX BK111.out), (kX BK116.out), (kX BK130.out), GW130.out, GE130.out, NB104_130.out, NB130_104.out, NB105_130.out, NB130_105.out, NB106_130.out, NB130_106.out, NB111_130.out, NB130_111.out, NB116_130.out, NB130_116.out, (bX HB)⟩)
        rintro ⟨v123, v127, gb130⟩ w49 ⟨hS_, h0_, h1_, h2_, h3_, h4_, h5_, h6_, h7_, h8_, h9_, h10_, h11_, h12_, h13_, h14_, h15_, h16_, h17_, h18_, h19_, h20_, h21_, h22_⟩
        have n0_ : Aside0 (Kd.R k55 55 w49 w.heap.size (fun k_ => some k_ ≠ (v127 : Value).ownBlock) v123 y122) := ⟨h0_⟩
        have n1_ : Aside0 (Kd.R k55 55 w49 w.heap.size (fun k_ => some k_ ≠ (v123 : Value).ownBlock) v127 t126) := ⟨h1_⟩
        have n2_ : Aside0 (Kd.R k47 47 w49 w.heap.size (fun k_ => some k_ ≠ (u117004 : Value).ownBlock) u112004 x112004_1) := ⟨h2_⟩
        have n3_ : Aside0 (Kd.R k47 47 w49 w.heap.size (fun k_ => some k_ ≠ (u112004 : Value).ownBlock) u117004 x117004_1) := ⟨h3_⟩
        have n4_ : Aside0 (w49.heap[gb104]? = some (.cells #[.int .u8 a2_0, .int .u8 a2_1] 26 (0, 0))) := ⟨h4_⟩
        have n5_ : Aside0 (w49.heap[gb105]? = some (.cells #[.int .i64 (wrap64 (90 + (Int.tmod (wrap64 (a2_0)) 11))), .int .i64 100] 67 (0, 0))) := ⟨h5_⟩
        have n6_ : Aside0 (w49.heap[gb106]? = some (.cells #[.int .i64 (wrap64 (100 + (Int.tmod (wrap64 (a2_1)) 11))), .int .i64 100] 67 (0, 0))) := ⟨h6_⟩
        have n7_ : Aside0 (w49.heap[gb111]? = some (.cells #[.int .i64 t107, .int .i64 t108, .int .i64 t109, .int .i64 t110, u112004] 33 (0, 0))) := ⟨h7_⟩
        have n8_ : Aside0 (w49.heap[gb116]? = some (.cells #[.int .i64 t112, .int .i64 t113, .int .i64 t114, .int .i64 t115, u117004] 33 (0, 0))) := ⟨h8_⟩
        have n9_ : Aside0 (w49.heap[gb130]? = some (.cells #[.int .i64 0, .slice none 0 0] 58 (0, 0))) := ⟨h9_⟩
        have n10_ : Aside0 (w.heap.size ≤ gb130) := ⟨h10_⟩
        have n11_ : Aside0 (w.heap.size ≤ gb130) := ⟨h11_⟩
        have n12_ : Aside0 (gb104 ≠ gb130) := ⟨h12_⟩
        have n13_ : Aside0 (gb130 ≠ gb104) := ⟨h13_⟩
        have n14_ : Aside0 (gb105 ≠ gb130) := ⟨h14_⟩
        have n15_ : Aside0 (gb130 ≠ gb105) := ⟨h15_⟩
        have n16_ : Aside0 (gb106 ≠ gb130) := ⟨h16_⟩
        have n17_ : Aside0 (gb130 ≠ gb106) := ⟨h17_⟩
        have n18_ : Aside0 (gb111 ≠ gb130) := ⟨h18_⟩
        have n19_ : Aside0 (gb130 ≠ gb111) := ⟨h19_⟩
        have n20_ : Aside0 (gb116 ≠ gb130) := ⟨h20_⟩
        have n21_ : Aside0 (gb130 ≠ gb116) := ⟨h21_⟩
        have n22_ : Aside0 (Below w.heap.size w w49) := ⟨h22_⟩
        clear HO_112004
        clear HO_117004
        clear BK104
        clear BK105
        clear BK106
        clear BK111
        clear BK116
        clear HB
        clear h0_ h1_ h2_ h3_ h4_ h5_ h6_ h7_ h8_ h9_ h10_ h11_ h12_ h13_ h14_ h15_ h16_ h17_ h18_ h19_ h20_ h21_ h22_
        have HO124 := n0_
        have HO128 := n1_
        have HO_112004 := n2_
        have HO_117004 := n3_
        have BK104 := n4_
        have BK105 := n5_
        have BK106 := n6_
        have BK111 := n7_
        have BK116 := n8_
        have BK130 := n9_
        have GW130 := n10_
        have GE130 := n11_
        have NB104_130 := n12_
        have NB130_104 := n13_
        have NB105_130 := n14_
        have NB130_105 := n15_
        have NB106_130 := n16_
        have NB130_106 := n17_
        have NB111_130 := n18_
        have NB130_111 := n19_
        have NB116_130 := n20_
        have NB130_116 := n21_
        have HB := n22_
        clear n0_ n1_ n2_ n3_ n4_ n5_ n6_ n7_ n8_ n9_ n10_ n11_ n12_ n13_ n14_ n15_ n16_ n17_ n18_ n19_ n20_ n21_ n22_
        have hHeld : w49.cell? ⟨gb105, 0, none⟩ = some (.int .i64 (wrap64 (90 + (Int.tmod (wrap64 (a2_0)) 11)))) ∧ w49.cell? ⟨gb105, 1, none⟩ = some (.int .i64 100) ∧ w49.cell? ⟨gb106, 0, none⟩ = some (.int .i64 (wrap64 (100 + (Int.tmod (wrap64 (a2_1)) 11)))) ∧ w49.cell? ⟨gb106, 1, none⟩ = some (.int .i64 100) := hS_
        obtain ⟨Ao50, co50, eo50⟩ := Kd.R_slice HO124.out
        (first | subst eo50 | (injection eo50 with f1_ f2_ f3_; have f4_ := f1_.symm; have f5_ := f3_.symm; clear f1_ f2_ f3_; subst f4_; subst f5_))
        obtain ⟨Ao52, co52, eo52⟩ := Kd.R_slice HO128.out
        (first | subst eo52 | (injection eo52 with f1_ f2_ f3_; have f4_ := f1_.symm; have f5_ := f3_.symm; clear f1_ f2_ f3_; subst f4_; subst f5_))
        refine norm_ (a' := ?_) ?_ ?_
        rotate_left
        ·simp only [putAll, Act.put, List.setIfInBounds_toArray, List.set_cons_zero, List.set_cons_succ]
         rfl
        refine one_ (i := 14) (N := none) #[true, true, true, true, true, true, true, true, true, true, true, true, true, true, true, false] rfl rfl (one_of HT_.out (by kernel_rfl)) (by decide) (fun K hK => ?_)
        have hs51 : w49.cell? ⟨gb130, 0, none⟩ = some (.int .i64 0) := bc BK130 0
        have hfs51 := blk_frozen BK130.out 0
        have hns51_0 := NB104_130.out
        have hns51_1 := NB105_130.out
        have hns51_2 := NB106_130.out
        have hns51_3 := NB111_130.out
        have hns51_4 := NB116_130.out
        have hms51_0 := NB130_104.out
        have hms51_1 := NB130_105.out
        have hms51_2 := NB130_106.out
        have hms51_3 := NB130_111.out
        have hms51_4 := NB130_116.out
        have hs53 : w49.cell? ⟨gb130, 1, none⟩ = some (.slice none 0 0) := bc BK130 1
        have hfs53 := blk_frozen BK130.out 1
        have hns53_0 := NB104_130.out
        have hns53_1 := NB105_130.out
        have hns53_2 := NB106_130.out
        have hns53_3 := NB111_130.out
        have hns53_4 := NB116_130.out
        have hms53_0 := NB130_104.out
        have hms53_1 := NB130_105.out
        have hms53_2 := NB130_106.out
        have hms53_3 := NB130_111.out
        have hms53_4 := NB130_116.out
        refine skip_ (w1 := ?_) (by rfl) rfl ?_ ?_
        rotate_left
        ·go_simp
         rfl
        refine hK.out _ _ ⟨((cell_far (p := ⟨gb130, _, none⟩) NB105_130.out _).trans (((cell_far (p := ⟨gb130, _, none⟩) NB105_130.out _).trans (hHeld.1)))), ((cell_far (p := ⟨gb130, _, none⟩) NB105_130.out _).trans (((cell_far (p := ⟨gb130, _, none⟩) NB105_130.out _).trans (hHeld.2.1)))), ((cell_far (p := ⟨gb130, _, none⟩) NB106_130.out _).trans (((cell_far (p := ⟨gb130, _, none⟩) NB106_130.out _).trans (hHeld.2.2.1)))), ((cell_far (p := ⟨gb130, _, none⟩) NB106_130.out _).trans (((cell_far (p := ⟨gb130, _, none⟩) NB106_130.out _).trans (hHeld.2.2.2))))⟩ (fun hHeld => ?_)
        clear hK K
        refine pA 15 14 HT_ ?_
        refine done_ (done_of HT_.out (by kernel_rfl)) ?_
        go_upto_region 9 with (fail)
        go_cut [88] (fun v88 wc => ∃ (kq : Nat) (x88_39 : Bool), v88 = .bool x88_39 ∧ Aside0 (z0_.j2 kq l0 l1 x11_1 (wrap64 (20 + (wrap64 (rd l0 x11_1)))) x88_39 (wrap64 (90 + (Int.tmod (wrap64 (a2_0)) 11))) 100 (wrap64 (100 + (Int.tmod (wrap64 (a2_1)) 11))) 100 t107 t108 t109 t110 x112004_1 t112 t113 t114 t115 x117004_1 t125 t126 = some true) ∧ Aside0 (kq ≤ kj31) ∧ Aside0 (Kd.R k47 47 wc w.heap.size (fun k_ => some k_ ≠ (u117004 : Value).ownBlock) u112004 x112004_1) ∧ Aside0 (Kd.R k47 47 wc w.heap.size (fun k_ => some k_ ≠ (u112004 : Value).ownBlock) u117004 x117004_1) ∧ Aside0 (Kd.R k55 55 wc w.heap.size (fun _ => True) (.slice Ao52 t126.length co52) t126) ∧ Aside0 (wc.heap[gb104]? = some (.cells #[.int .u8 a2_0, .int .u8 a2_1] 26 (0, 0))) ∧ Aside0 (wc.heap[gb105]? = some (.cells #[.int .i64 (wrap64 (90 + (Int.tmod (wrap64 (a2_0)) 11))), .int .i64 100] 67 (0, 0))) ∧ Aside0 (wc.heap[gb106]? = some (.cells #[.int .i64 (wrap64 (100 + (Int.tmod (wrap64 (a2_1)) 11))), .int .i64 100] 67 (0, 0))) ∧ Aside0 (wc.heap[gb111]? = some (.cells #[.int .i64 t107, .int .i64 t108, .int .i64 t109, .int .i64 t110, u112004] 33 (0, 0))) ∧ Aside0 (wc.heap[gb116]? = some (.cells #[.int .i64 t112, .int .i64 t113, .int .i64 t114, .int .i64 t115, u117004] 33 (0, 0))) ∧ Aside0 (wc.heap[gb130]? = some (.cells #[.int .i64 t125, (.slice Ao52 t126.length co52)] 58 (0, 0))) ∧ Aside0 (Below w.heap.size w wc))
        case first =>
         have H := HC40.out
         clear HC40
         by_cases c54 : t129 = 0
         ·rw [if_pos c54] at H
          have c54b0 : (t129 == 0) = true := beq_iff_eq.mpr c54
          have c54b1 : (t129 != 0) = false := bne_eq_false_iff_eq.mpr c54
          clear c54
          (first | rw [c54b0] | (simp only [i64_w, i32_w]; rw [c54b0]) | skip)
          by_cases c55 : (t126.length : Int) = 1
          ·rw [if_pos c55] at H
           have c55b0 : ((t126.length : Int) == 1) = true := beq_iff_eq.mpr c55
           have c55b1 : ((t126.length : Int) != 1) = false := bne_eq_false_iff_eq.mpr c55
           clear c55
           by_cases c56 : 0 < (t126.length : Int)
           ·rw [if_pos c56] at H
            have c56b0 : decide (0 < (t126.length : Int)) = true := decide_eq_true c56
            have c56b1 : decide (0 < t126.length) = true := decide_eq_true (by omega)
            clear c56
            replace H := bindA H
            obtain ⟨⟨t132, t133⟩, A57, H⟩ := H
            try dsimp only at H
            have H' := Aside0.mk H
            clear H
            try go_wp2
            have n0_ : Aside0 (Kd.R k47 47 ((w49.setCell ⟨gb130, 0, none⟩ (.int .i64 t125)).setCell ⟨gb130, 1, none⟩ (.slice Ao52 t126.length co52)) w.heap.size (fun k_ => some k_ ≠ (u117004 : Value).ownBlock) u112004 x112004_1) := ⟨by (with_reducible repeat (first | apply Kd.R_alloc | apply Kd.R_drewN | apply Kd.R_drew)); exact Kd.R_mono (Kd.R_far (p := ⟨gb130, 1, none⟩) (Kd.R_far (p := ⟨gb130, 0, none⟩) (Kd.R_types HO_112004.out BK130.out (by decide)) (fun _ hk => hk.2) (.int .i64 t125)) (fun _ hk => hk.2) (.slice Ao52 t126.length co52)) (fun _ hk => hk.1)⟩
            have n1_ : Aside0 (Kd.R k47 47 ((w49.setCell ⟨gb130, 0, none⟩ (.int .i64 t125)).setCell ⟨gb130, 1, none⟩ (.slice Ao52 t126.length co52)) w.heap.size (fun k_ => some k_ ≠ (u112004 : Value).ownBlock) u117004 x117004_1) := ⟨by (with_reducible repeat (first | apply Kd.R_alloc | apply Kd.R_drewN | apply Kd.R_drew)); exact Kd.R_mono (Kd.R_far (p := ⟨gb130, 1, none⟩) (Kd.R_far (p := ⟨gb130, 0, none⟩) (Kd.R_types HO_117004.out BK130.out (by decide)) (fun _ hk => hk.2) (.int .i64 t125)) (fun _ hk => hk.2) (.slice Ao52 t126.length co52)) (fun _ hk => hk.1)⟩
            have n2_ : Aside0 (Kd.R k55 55 ((w49.setCell ⟨gb130, 0, none⟩ (.int .i64 t125)).setCell ⟨gb130, 1, none⟩ (.slice Ao52 t126.length co52)) w.heap.size (fun k_ => some k_ ≠ (.slice Ao52 t126.length co52 : Value).ownBlock) (.slice Ao50 y122.length co50) y122) := ⟨by (with_reducible repeat (first | apply Kd.R_alloc | apply Kd.R_drewN | apply Kd.R_drew)); exact Kd.R_mono (Kd.R_far (p := ⟨gb130, 1, none⟩) (Kd.R_far (p := ⟨gb130, 0, none⟩) (Kd.R_types HO124.out BK130.out (by decide)) (fun _ hk => hk.2) (.int .i64 t125)) (fun _ hk => hk.2) (.slice Ao52 t126.length co52)) (fun _ hk => hk.1)⟩
            have n3_ : Aside0 (Kd.R k55 55 ((w49.setCell ⟨gb130, 0, none⟩ (.int .i64 t125)).setCell ⟨gb130, 1, none⟩ (.slice Ao52 t126.length co52)) w.heap.size (fun k_ => some k_ ≠ (.slice Ao50 y122.length co50 : Value).ownBlock) (.slice Ao52 t126.length co52) t126) := ⟨by (with_reducible repeat (first | apply Kd.R_alloc | apply Kd.R_drewN | apply Kd.R_drew)); exact Kd.R_mono (Kd.R_far (p := ⟨gb130, 1, none⟩) (Kd.R_far (p := ⟨gb130, 0, none⟩) (Kd.R_types HO128.out BK130.out (by decide)) (fun _ hk => hk.2) (.int .i64 t125)) (fun _ hk => hk.2) (.slice Ao52 t126.length co52)) (fun _ hk => hk.1)⟩
            have n4_ : Aside0 (((w49.setCell ⟨gb130, 0, none⟩ (.int .i64 t125)).setCell ⟨gb130, 1, none⟩ (.slice Ao52 t126.length co52)).heap[gb104]? = some (.cells #[.int .u8 a2_0, .int .u8 a2_1] 26 (0, 0))) := ⟨by (with_reducible repeat (first | refine blk_drewN ?_ _ | refine blk_drew ?_ | refine blk_alloc ?_ _)); refine blk_far ?_ NB104_130.out _; (with_reducible repeat (first | refine blk_drewN ?_ _ | refine blk_drew ?_ | refine blk_alloc ?_ _)); refine blk_far ?_ NB104_130.out _; (with_reducible repeat (first | refine blk_drewN ?_ _ | refine blk_drew ?_ | refine blk_alloc ?_ _)); exact BK104.out⟩
            have n5_ : Aside0 (((w49.setCell ⟨gb130, 0, none⟩ (.int .i64 t125)).setCell ⟨gb130, 1, none⟩ (.slice Ao52 t126.length co52)).heap[gb105]? = some (.cells #[.int .i64 (wrap64 (90 + (Int.tmod (wrap64 (a2_0)) 11))), .int .i64 100] 67 (0, 0))) := ⟨by (with_reducible repeat (first | refine blk_drewN ?_ _ | refine blk_drew ?_ | refine blk_alloc ?_ _)); refine blk_far ?_ NB105_130.out _; (with_reducible repeat (first | refine blk_drewN ?_ _ | refine blk_drew ?_ | refine blk_alloc ?_ _)); refine blk_far ?_ NB105_130.out _; (with_reducible repeat (first | refine blk_drewN ?_ _ | refine blk_drew ?_ | refine blk_alloc ?_ _)); exact BK105.out⟩
            have n6_ : Aside0 (((w49.setCell ⟨gb130, 0, none⟩ (.int .i64 t125)).setCell ⟨gb130, 1, none⟩ (.slice Ao52 t126.length co52)).heap[gb106]? = some (.cells #[.int .i64 (wrap64 (100 + (Int.tmod (wrap64 (a2_1)) 11))), .int .i64 100] 67 (0, 0))) := ⟨by (with_reducible repeat (first | refine blk_drewN ?_ _ | refine blk_drew ?_ | refine blk_alloc ?_ _)); refine blk_far ?_ NB106_130.out _; (with_reducible repeat (first | refine blk_drewN ?_ _ | refine blk_drew ?_ | refine blk_alloc ?_ _)); refine blk_far ?_ NB106_130.out _; (with_reducible repeat (first | refine blk_drewN ?_ _ | refine blk_drew ?_ | refine blk_alloc ?_ _)); exact BK106.out⟩
            have n7_ : Aside0 (((w49.setCell ⟨gb130, 0, none⟩ (.int .i64 t125)).setCell ⟨gb130, 1, none⟩ (.slice Ao52 t126.length co52)).heap[gb111]? = some (.cells #[.int .i64 t107, .int .i64 t108, .int .i64 t109, .int .i64 t110, u112004] 33 (0, 0))) := ⟨by (with_reducible repeat (first | refine blk_drewN ?_ _ | refine blk_drew ?_ | refine blk_alloc ?_ _)); refine blk_far ?_ NB111_130.out _; (with_reducible repeat (first | refine blk_drewN ?_ _ | refine blk_drew ?_ | refine blk_alloc ?_ _)); refine blk_far ?_ NB111_130.out _; (with_reducible repeat (first | refine blk_drewN ?_ _ | refine blk_drew ?_ | refine blk_alloc ?_ _)); exact BK111.out⟩
            have n8_ : Aside0 (((w49.setCell ⟨gb130, 0, none⟩ (.int .i64 t125)).setCell ⟨gb130, 1, none⟩ (.slice Ao52 t126.length co52)).heap[gb116]? = some (.cells #[.int .i64 t112, .int .i64 t113, .int .i64 t114, .int .i64 t115, u117004] 33 (0, 0))) := ⟨by (with_reducible repeat (first | refine blk_drewN ?_ _ | refine blk_drew ?_ | refine blk_alloc ?_ _)); refine blk_far ?_ NB116_130.out _; (with_reducible repeat (first | refine blk_drewN ?_ _ | refine blk_drew ?_ | refine blk_alloc ?_ _)); refine blk_far ?_ NB116_130.out _; (with_reducible repeat (first | refine blk_drewN ?_ _ | refine blk_drew ?_ | refine blk_alloc ?_ _)); exact BK116.out⟩
            have n9_ : Aside0 (((w49.setCell ⟨gb130, 0, none⟩ (.int .i64 t125)).setCell ⟨gb130, 1, none⟩ (.slice Ao52 t126.length co52)).heap[gb130]? = some (.cells #[.int .i64 t125, .slice Ao52 t126.length co52] 58 (0, 0))) := ⟨by (with_reducible repeat (first | refine blk_drewN ?_ _ | refine blk_drew ?_ | refine blk_alloc ?_ _)); refine blk_put (cs := #[.int .i64 t125, .slice none 0 0]) ?_ 1 _ rfl; (with_reducible repeat (first | refine blk_drewN ?_ _ | refine blk_drew ?_ | refine blk_alloc ?_ _)); refine blk_put (cs := #[.int .i64 0, .slice none 0 0]) ?_ 0 _ rfl; (with_reducible repeat (first | refine blk_drewN ?_ _ | refine blk_drew ?_ | refine blk_alloc ?_ _)); exact BK130.out⟩
            have n10_ : Aside0 (Below w.heap.size w ((w49.setCell ⟨gb130, 0, none⟩ (.int .i64 t125)).setCell ⟨gb130, 1, none⟩ (.slice Ao52 t126.length co52))) := ⟨bX HB⟩
            (try clear HO_112004)
            (try clear HO_117004)
            (try clear HO124)
            (try clear HO128)
            (try clear BK104)
            (try clear BK105)
            (try clear BK106)
            (try clear BK111)
            (try clear BK116)
            (try clear BK130)
            (try clear HB)
            generalize ((w49.setCell ⟨gb130, 0, none⟩ (.int .i64 t125)).setCell ⟨gb130, 1, none⟩ (.slice Ao52 t126.length co52)) = w58 at n0_ n1_ n2_ n3_ n4_ n5_ n6_ n7_ n8_ n9_ n10_ ⊢
            have HO_112004 := n0_
            have HO_117004 := n1_
            have HO124 := n2_
            have HO128 := n3_
            have BK104 := n4_
            have BK105 := n5_
            have BK106 := n6_
            have BK111 := n7_
            have BK116 := n8_
            have BK130 := n9_
            have HB := n10_
            clear n0_ n1_ n2_ n3_ n4_ n5_ n6_ n7_ n8_ n9_ n10_
            replace HO_112004 := Aside0.mk (Kd.R_drew HO_112004.out)
            replace HO_117004 := Aside0.mk (Kd.R_drew HO_117004.out)
            replace HO124 := Aside0.mk (Kd.R_drew HO124.out)
            replace HO128 := Aside0.mk (Kd.R_drew HO128.out)
            replace BK104 := Aside0.mk (blk_drew BK104.out)
            replace BK105 := Aside0.mk (blk_drew BK105.out)
            replace BK106 := Aside0.mk (blk_drew BK106.out)
            replace BK111 := Aside0.mk (blk_drew BK111.out)
            replace BK116 := Aside0.mk (blk_drew BK116.out)
            replace BK130 := Aside0.mk (blk_drew BK130.out)
            replace HB := Aside0.mk (below_drew1 HB.out)
            have p131 : 0 ≤ (0 : Int) := (by omega)
            have q131 : 0 < (t126.length : Int) := of_decide_eq_true (by first | (with_reducible assumption) | assumption)
            obtain ⟨ad131, e131, hx131_0, hx131_1, hx131_2, hx131_3⟩ := at_T55 (Kd.R_reads' HO128.out).2.2 0 p131 q131
            cases e131
            have qi131 : (0 < t126.length) = True := eq_true (by omega)
            (try rw [show ((0 : Int)).toNat = 0 from rfl] at hx131_0)
            (try rw [show 0 * 4 = 0 from rfl] at hx131_0)
            (try rw [Addr.add_zero'] at hx131_0)
            (try rw [show ((0 : Int)).toNat = 0 from rfl] at hx131_1)
            (try rw [show 0 * 4 = 0 from rfl] at hx131_1)
            (try rw [Addr.add_zero'] at hx131_1)
            (try rw [show ((0 : Int)).toNat = 0 from rfl] at hx131_2)
            (try rw [show 0 * 4 = 0 from rfl] at hx131_2)
            (try rw [Addr.add_zero'] at hx131_2)
            (try rw [show ((0 : Int)).toNat = 0 from rfl] at hx131_3)
            (try rw [show 0 * 4 = 0 from rfl] at hx131_3)
            (try rw [Addr.add_zero'] at hx131_3)
            replace p131 := eq_true p131
            replace q131 := eq_true q131
            refine start_ (n := 17) (S := fun w' => w'.cell? ⟨gb130, 0, none⟩ = some (.int .i64 t125) ∧ w'.cell? ⟨gb130, 1, none⟩ = some (.slice (some ad131) t126.length co52) ∧ w'.cell? ad131 = some (.int .i64 ((rd_T55 t126 0).f0.f0)) ∧ w'.cell? ⟨ad131.block, ad131.off + 1, none⟩ = some (.int .i64 ((rd_T55 t126 0).f0.f1)) ∧ w'.cell? ⟨ad131.block, ad131.off + 2, none⟩ = some (.int .i64 ((rd_T55 t126 0).f1.f0)) ∧ w'.cell? ⟨ad131.block, ad131.off + 3, none⟩ = some (.int .i64 ((rd_T55 t126 0).f1.f1))) (ds := []) #[false, false, false, false, false, false, false, false, false, false, false, false, false, false, false, false, false] (by kernel_rfl) rfl rfl ⟨bc BK130 0, bc BK130 1, hx131_0, hx131_1, hx131_2, hx131_3⟩ (fun hHeld => ?_); refine with_tabW z0_.tab9 z0_.bits9 (fun HT_ HW_ => ?_)
            generalize w58.drew = w59 at HO_112004 HO_117004 HO124 HO128 BK104 BK105 BK106 BK111 BK116 BK130 HB hx131_0 hx131_1 hx131_2 hx131_3 hHeld ⊢
            refine pA 0 72 HT_ ?_
            refine pA 1 73 HT_ ?_
            refine pA 2 74 HT_ ?_
            refine pA 3 75 HT_ ?_
            refine tA 4 76 HT_ HW_ hHeld ?_
            refine pA 5 77 HT_ ?_
            refine pA 6 78 HT_ ?_
            refine pA 7 79 HT_ ?_
            refine pA 8 80 HT_ ?_
            refine pA 9 81 HT_ ?_
            refine tA 10 82 HT_ HW_ hHeld ?_
            refine pA 11 83 HT_ ?_
            refine pA 12 84 HT_ ?_
            refine tA 13 85 HT_ HW_ hHeld ?_
            refine oneA (i := 14) (N := some 86) HT_ (fun K hK => ?_)
            refine goesB Tryz.func15 #[.int .i64 0, .int .i64 0] ?_
            with_reducible refine (z1_.calls 0 0 t132 t133 _ A57.out).mono ?_
            rintro e w60 ⟨rfl, hb⟩
            have HS2_ := (hb.cell (World.block_lt_of_cell? _ _ (hHeld.2.2.1))).trans (hHeld.2.2.1)
            have HS3_ := (hb.cell (World.block_lt_of_cell? _ _ (hHeld.2.2.2.1))).trans (hHeld.2.2.2.1)
            have HS4_ := (hb.cell (World.block_lt_of_cell? _ _ (hHeld.2.2.2.2.1))).trans (hHeld.2.2.2.2.1)
            have HS5_ := (hb.cell (World.block_lt_of_cell? _ _ (hHeld.2.2.2.2.2))).trans (hHeld.2.2.2.2.2)
            refine ⟨_, rfl, ?_⟩
            replace HO_112004 := rB HO_112004 hb
            replace HO_117004 := rB HO_117004 hb
            replace HO124 := rB HO124 hb
            replace HO128 := rB HO128 hb
            replace BK104 := kB BK104 hb
            replace BK105 := kB BK105 hb
            replace BK106 := kB BK106 hb
            replace BK111 := kB BK111 hb
            replace BK116 := kB BK116 hb
            replace BK130 := kB BK130 hb
            replace HB := bS HB hb
            refine hK.out _ _ ⟨bc BK130 0, bc BK130 1, HS2_, HS3_, HS4_, HS5_⟩ (fun hHeld => ?_)
            clear hK K
            refine normA (N := some 86) ?_
            refine pA 15 87 HT_ ?_
            refine pA 16 88 HT_ ?_
            refine done_ (done_of HT_.out (by kernel_rfl)) ?_
            try go_wp2
            go_meet
            case rel => exact ⟨_, ((!(((rd_T55 t126 0).f0.f0) == t132) || (!(((rd_T55 t126 0).f0.f1) == t133)))), eR, H', ⟨by have := HK1.out; have := HJ31.out; first | omega | exact Nat.le_refl _⟩, ⟨rX HO_112004.out⟩, ⟨rX HO_117004.out⟩, ⟨by (with_reducible repeat (first | apply Kd.R_alloc | apply Kd.R_drewN | apply Kd.R_drew)); exact Kd.R_mono HO128.out (fun _ hk => trivial)⟩, ⟨kX BK104.out⟩, ⟨kX BK105.out⟩, ⟨kX BK106.out⟩, ⟨kX BK111.out⟩, ⟨kX BK116.out⟩, ⟨kX BK130.out⟩, ⟨bX HB⟩⟩
           ·rw [if_neg c56] at H
            exact absurd H (by simp)
          ·rw [if_neg c55] at H
           have c55b0 : ((t126.length : Int) == 1) = false := beq_eq_false_iff_ne.mpr c55
           have c55b1 : ((t126.length : Int) != 1) = true := bne_iff_ne.mpr c55
           exact (z0_.j2_dead H).elim
         ·rw [if_neg c54] at H
          have c54b0 : (t129 == 0) = false := beq_eq_false_iff_ne.mpr c54
          have c54b1 : (t129 != 0) = true := bne_iff_ne.mpr c54
          (first | rw [c54b0] | (simp only [i64_w, i32_w]; rw [c54b0]) | skip)
          exact (z0_.j2_dead H).elim
        case rest =>
         clear HC40
         try clear p1
         try clear q1
         try clear hx1
         try clear qi1
         try clear p2
         try clear p6
         try clear p13
         try clear q13
         try clear hx13
         try clear qi13
         try clear c54b0
         try clear c54b1
         try clear c55b0
         try clear c55b1
         try clear p64
         try clear hx131_0
         try clear hx131_1
         try clear hx131_2
         try clear hx131_3
         try clear p131
         try clear q131
         obtain ⟨kq, x88_39, rfl, HA, HJ39, HO_112004, HO_117004, HO_131001, BK104, BK105, BK106, BK111, BK116, BK130, HB⟩ := hcut
         cases kq with
         | zero => exact absurd HA.out (by simp [z0_.j2])
         | succ kj39 =>
          have H := HA.out
          clear HA
          simp only [z0_.j2] at H
          by_cases c65 : x88_39 = true
          ·subst c65
           have H1 : (some false) = some true := by rw [if_pos rfl] at H; exact H
           clear H
           have H := H1
           clear H1
           exact absurd H (by simp)
          ·replace c65 := Bool.eq_false_iff.mpr c65
           subst c65
           have H1 : (if 0 < (t126.length : Int) then ((z42_.f l1 x11_1).bind fun t136 => ((z32_.f kj39 (wrap64 (Int.tdiv (wrap64 ((wrap64 (20 + (wrap64 (rd l0 x11_1)))) * (wrap64 ((wrap64 (10 * (wrap64 (90 + (Int.tmod (wrap64 (a2_0)) 11))))) + (wrap64 (Int.tdiv (wrap64 ((wrap64 (t136 * 10)) * (wrap64 ((wrap64 (100 + (Int.tmod (wrap64 (a2_1)) 11))) - (wrap64 (90 + (Int.tmod (wrap64 (a2_0)) 11))))))) 255)))))) 1000)) ((rd_T55 t126 0).f1.f0) ((rd_T55 t126 0).f1.f1)).bind fun t137 => (if t137 = true then (z0_.j3 kj39 l0 l1 x11_1 (wrap64 (Int.tdiv (wrap64 ((wrap64 (20 + (wrap64 (rd l0 x11_1)))) * (wrap64 ((wrap64 (10 * (wrap64 (90 + (Int.tmod (wrap64 (a2_0)) 11))))) + (wrap64 (Int.tdiv (wrap64 ((wrap64 (t136 * 10)) * (wrap64 ((wrap64 (100 + (Int.tmod (wrap64 (a2_1)) 11))) - (wrap64 (90 + (Int.tmod (wrap64 (a2_0)) 11))))))) 255)))))) 1000)) (decide (((rd_T55 t126 0).f1.f1) > 1000)) (wrap64 (90 + (Int.tmod (wrap64 (a2_0)) 11))) 100 (wrap64 (100 + (Int.tmod (wrap64 (a2_1)) 11))) 100 t107 t108 t109 t110 x112004_1 t112 t113 t114 t115 x117004_1 ((rd_T55 t126 0).f1.f0) ((rd_T55 t126 0).f1.f1)) else (z0_.j3 kj39 l0 l1 x11_1 (wrap64 (Int.tdiv (wrap64 ((wrap64 (20 + (wrap64 (rd l0 x11_1)))) * (wrap64 ((wrap64 (10 * (wrap64 (90 + (Int.tmod (wrap64 (a2_0)) 11))))) + (wrap64 (Int.tdiv (wrap64 ((wrap64 (t136 * 10)) * (wrap64 ((wrap64 (100 + (Int.tmod (wrap64 (a2_1)) 11))) - (wrap64 (90 + (Int.tmod (wrap64 (a2_0)) 11))))))) 255)))))) 1000)) true (wrap64 (90 + (Int.tmod (wrap64 (a2_0)) 11))) 100 (wrap64 (100 + (Int.tmod (wrap64 (a2_1)) 11))) 100 t107 t108 t109 t110 x112004_1 t112 t113 t114 t115 x117004_1 ((rd_T55 t126 0).f1.f0) ((rd_T55 t126 0).f1.f1))))) else (none)) = some true := by rw [if_neg (show ¬ (false = true) by decide)] at H; exact H
           clear H
           have H := H1
           clear H1
           by_cases c66 : 0 < (t126.length : Int)
           ·rw [if_pos c66] at H
            have c66b0 : decide (0 < (t126.length : Int)) = true := decide_eq_true c66
            have c66b1 : decide (0 < t126.length) = true := decide_eq_true (by omega)
            clear c66
            replace H := bindA H
            obtain ⟨t136, A67, H⟩ := H
            try dsimp only at H
            have HC68 := Aside0.mk H
            clear H
            obtain ⟨hnb69, hnc69⟩ := nn NB130_104
            obtain ⟨hnb70, hnc70⟩ := nn NB130_105
            obtain ⟨hnb71, hnc71⟩ := nn NB130_106
            obtain ⟨hnb72, hnc72⟩ := nn NB130_111
            obtain ⟨hnb73, hnc73⟩ := nn NB130_116
            obtain ⟨hcz74_0, hcz74_1, hfz74_0, hfz74_1⟩ := cc2 BK130
            have p134 : 0 ≤ (0 : Int) := (by omega)
            have q134 : 0 < (t126.length : Int) := of_decide_eq_true (by first | (with_reducible assumption) | assumption)
            obtain ⟨ad134, e134, hx134_0, hx134_1, hx134_2, hx134_3⟩ := at_T55 (Kd.R_reads' HO_131001.out).2.2 0 p134 q134
            cases e134
            have qi134 : (0 < t126.length) = True := eq_true (by omega)
            (try rw [show ((0 : Int)).toNat = 0 from rfl] at hx134_0)
            (try rw [show 0 * 4 = 0 from rfl] at hx134_0)
            (try rw [Addr.add_zero'] at hx134_0)
            (try rw [show ((0 : Int)).toNat = 0 from rfl] at hx134_1)
            (try rw [show 0 * 4 = 0 from rfl] at hx134_1)
            (try rw [Addr.add_zero'] at hx134_1)
            (try rw [show ((0 : Int)).toNat = 0 from rfl] at hx134_2)
            (try rw [show 0 * 4 = 0 from rfl] at hx134_2)
            (try rw [Addr.add_zero'] at hx134_2)
            (try rw [show ((0 : Int)).toNat = 0 from rfl] at hx134_3)
            (try rw [show 0 * 4 = 0 from rfl] at hx134_3)
            (try rw [Addr.add_zero'] at hx134_3)
            replace p134 := eq_true p134
            replace q134 := eq_true q134
            try go_wp2_with (first | ((with_reducible refine gate_dst (N := 15) rfl ?_); (try (refine gate_guard (by rfl) ?_; dsimp only)); refine boxA (N := 15) (cs := #[.int .i64 0, .int .i64 0]) (t := 30) ?_; intro gb135 hg w75 hbox hb; have BK135 := Aside0.mk (hbox); have GE135 := bG HB hg; have NB104_135 := kN BK104 hg; have NB135_104 := kM BK104 hg; have NB105_135 := kN BK105 hg; have NB135_105 := kM BK105 hg; have NB106_135 := kN BK106 hg; have NB135_106 := kM BK106 hg; have NB111_135 := kN BK111 hg; have NB135_111 := kM BK111 hg; have NB116_135 := kN BK116 hg; have NB135_116 := kM BK116 hg; have NB130_135 := kN BK130 hg; have NB135_130 := kM BK130 hg; replace HO_112004 := rB HO_112004 hb; replace HO_117004 := rB HO_117004 hb; replace HO_131001 := rB HO_131001 hb; replace BK104 := kB BK104 hb; replace BK105 := kB BK105 hb; replace BK106 := kB BK106 hb; replace BK111 := kB BK111 hb; replace BK116 := kB BK116 hb; replace BK130 := kB BK130 hb; replace HB := bS HB hb; clear hb hbox hg; obtain ⟨hnb76, hnc76⟩ := nn NB135_104; obtain ⟨hnb77, hnc77⟩ := nn NB135_105; obtain ⟨hnb78, hnc78⟩ := nn NB135_106; obtain ⟨hnb79, hnc79⟩ := nn NB135_111; obtain ⟨hnb80, hnc80⟩ := nn NB135_116; obtain ⟨hnb81, hnc81⟩ := nn NB135_130; obtain ⟨hcz82_0, hcz82_1, hfz82_0, hfz82_1⟩ := cc2 BK135))
            have n0_ : Aside0 (Kd.R k47 47 ((w75.setCell ⟨gb135, 0, none⟩ (.int .i64 ((rd_T55 t126 0).f1.f0))).setCell ⟨gb135, 1, none⟩ (.int .i64 ((rd_T55 t126 0).f1.f1))) w.heap.size (fun k_ => some k_ ≠ (u117004 : Value).ownBlock) u112004 x112004_1) := ⟨by (with_reducible repeat (first | apply Kd.R_alloc | apply Kd.R_drewN | apply Kd.R_drew)); exact Kd.R_mono (Kd.R_far (p := ⟨gb135, 1, none⟩) (Kd.R_far (p := ⟨gb135, 0, none⟩) (Kd.R_types HO_112004.out BK135.out (by decide)) (fun _ hk => hk.2) (.int .i64 ((rd_T55 t126 0).f1.f0))) (fun _ hk => hk.2) (.int .i64 ((rd_T55 t126 0).f1.f1))) (fun _ hk => hk.1)⟩
            have n1_ : Aside0 (Kd.R k47 47 ((w75.setCell ⟨gb135, 0, none⟩ (.int .i64 ((rd_T55 t126 0).f1.f0))).setCell ⟨gb135, 1, none⟩ (.int .i64 ((rd_T55 t126 0).f1.f1))) w.heap.size (fun k_ => some k_ ≠ (u112004 : Value).ownBlock) u117004 x117004_1) := ⟨by (with_reducible repeat (first | apply Kd.R_alloc | apply Kd.R_drewN | apply Kd.R_drew)); exact Kd.R_mono (Kd.R_far (p := ⟨gb135, 1, none⟩) (Kd.R_far (p := ⟨gb135, 0, none⟩) (Kd.R_types HO_117004.out BK135.out (by decide)) (fun _ hk => hk.2) (.int .i64 ((rd_T55 t126 0).f1.f0))) (fun _ hk => hk.2) (.int .i64 ((rd_T55 t126 0).f1.f1))) (fun _ hk => hk.1)⟩
            have n2_ : Aside0 (Kd.R k55 55 ((w75.setCell ⟨gb135, 0, none⟩ (.int .i64 ((rd_T55 t126 0).f1.f0))).setCell ⟨gb135, 1, none⟩ (.int .i64 ((rd_T55 t126 0).f1.f1))) w.heap.size (fun _ => True) (.slice (some ad134) t126.length co52) t126) := ⟨by (with_reducible repeat (first | apply Kd.R_alloc | apply Kd.R_drewN | apply Kd.R_drew)); exact Kd.R_mono (Kd.R_far (p := ⟨gb135, 1, none⟩) (Kd.R_far (p := ⟨gb135, 0, none⟩) (Kd.R_types HO_131001.out BK135.out (by decide)) (fun _ hk => hk.2) (.int .i64 ((rd_T55 t126 0).f1.f0))) (fun _ hk => hk.2) (.int .i64 ((rd_T55 t126 0).f1.f1))) (fun _ hk => trivial)⟩
            have n3_ : Aside0 (((w75.setCell ⟨gb135, 0, none⟩ (.int .i64 ((rd_T55 t126 0).f1.f0))).setCell ⟨gb135, 1, none⟩ (.int .i64 ((rd_T55 t126 0).f1.f1))).heap[gb104]? = some (.cells #[.int .u8 a2_0, .int .u8 a2_1] 26 (0, 0))) := ⟨by (with_reducible repeat (first | refine blk_drewN ?_ _ | refine blk_drew ?_ | refine blk_alloc ?_ _)); refine blk_far ?_ NB104_135.out _; (with_reducible repeat (first | refine blk_drewN ?_ _ | refine blk_drew ?_ | refine blk_alloc ?_ _)); refine blk_far ?_ NB104_135.out _; (with_reducible repeat (first | refine blk_drewN ?_ _ | refine blk_drew ?_ | refine blk_alloc ?_ _)); exact BK104.out⟩
            have n4_ : Aside0 (((w75.setCell ⟨gb135, 0, none⟩ (.int .i64 ((rd_T55 t126 0).f1.f0))).setCell ⟨gb135, 1, none⟩ (.int .i64 ((rd_T55 t126 0).f1.f1))).heap[gb105]? = some (.cells #[.int .i64 (wrap64 (90 + (Int.tmod (wrap64 (a2_0)) 11))), .int .i64 100] 67 (0, 0))) := ⟨by (with_reducible repeat (first | refine blk_drewN ?_ _ | refine blk_drew ?_ | refine blk_alloc ?_ _)); refine blk_far ?_ NB105_135.out _; (with_reducible repeat (first | refine blk_drewN ?_ _ | refine blk_drew ?_ | refine blk_alloc ?_ _)); refine blk_far ?_ NB105_135.out _; (with_reducible repeat (first | refine blk_drewN ?_ _ | refine blk_drew ?_ | refine blk_alloc ?_ _)); exact BK105.out⟩
            have n5_ : Aside0 (((w75.setCell ⟨gb135, 0, none⟩ (.int .i64 ((rd_T55 t126 0).f1.f0))).setCell ⟨gb135, 1, none⟩ (.int .i64 ((rd_T55 t126 0).f1.f1))).heap[gb106]? = some (.cells #[.int .i64 (wrap64 (100 + (Int.tmod (wrap64 (a2_1)) 11))), .int .i64 100] 67 (0, 0))) := ⟨by (with_reducible repeat (first | refine blk_drewN ?_ _ | refine blk_drew ?_ | refine blk_alloc ?_ _)); refine blk_far ?_ NB106_135.out _; (with_reducible repeat (first | refine blk_drewN ?_ _ | refine blk_drew ?_ | refine blk_alloc ?_ _)); refine blk_far ?_ NB106_135.out _; (with_reducible repeat (first | refine blk_drewN ?_ _ | refine blk_drew ?_ | refine blk_alloc ?_ _)); exact BK106.out⟩
            have n6_ : Aside0 (((w75.setCell ⟨gb135, 0, none⟩ (.int .i64 ((rd_T55 t126 0).f1.f0))).setCell ⟨gb135, 1, none⟩ (.int .i64 ((rd_T55 t126 0).f1.f1))).heap[gb111]? = some (.cells #[.int .i64 t107, .int .i64 t108, .int .i64 t109, .int .i64 t110, u112004] 33 (0, 0))) := ⟨by (with_reducible repeat (first | refine blk_drewN ?_ _ | refine blk_drew ?_ | refine blk_alloc ?_ _)); refine blk_far ?_ NB111_135.out _; (with_reducible repeat (first | refine blk_drewN ?_ _ | refine blk_drew ?_ | refine blk_alloc ?_ _)); refine blk_far ?_ NB111_135.out _; (with_reducible repeat (first | refine blk_drewN ?_ _ | refine blk_drew ?_ | refine blk_alloc ?_ _)); exact BK111.out⟩
            have n7_ : Aside0 (((w75.setCell ⟨gb135, 0, none⟩ (.int .i64 ((rd_T55 t126 0).f1.f0))).setCell ⟨gb135, 1, none⟩ (.int .i64 ((rd_T55 t126 0).f1.f1))).heap[gb116]? = some (.cells #[.int .i64 t112, .int .i64 t113, .int .i64 t114, .int .i64 t115, u117004] 33 (0, 0))) := ⟨by (with_reducible repeat (first | refine blk_drewN ?_ _ | refine blk_drew ?_ | refine blk_alloc ?_ _)); refine blk_far ?_ NB116_135.out _; (with_reducible repeat (first | refine blk_drewN ?_ _ | refine blk_drew ?_ | refine blk_alloc ?_ _)); refine blk_far ?_ NB116_135.out _; (with_reducible repeat (first | refine blk_drewN ?_ _ | refine blk_drew ?_ | refine blk_alloc ?_ _)); exact BK116.out⟩
            have n8_ : Aside0 (((w75.setCell ⟨gb135, 0, none⟩ (.int .i64 ((rd_T55 t126 0).f1.f0))).setCell ⟨gb135, 1, none⟩ (.int .i64 ((rd_T55 t126 0).f1.f1))).heap[gb130]? = some (.cells #[.int .i64 t125, .slice (some ad134) t126.length co52] 58 (0, 0))) := ⟨by (with_reducible repeat (first | refine blk_drewN ?_ _ | refine blk_drew ?_ | refine blk_alloc ?_ _)); refine blk_far ?_ NB130_135.out _; (with_reducible repeat (first | refine blk_drewN ?_ _ | refine blk_drew ?_ | refine blk_alloc ?_ _)); refine blk_far ?_ NB130_135.out _; (with_reducible repeat (first | refine blk_drewN ?_ _ | refine blk_drew ?_ | refine blk_alloc ?_ _)); exact BK130.out⟩
            have n9_ : Aside0 (((w75.setCell ⟨gb135, 0, none⟩ (.int .i64 ((rd_T55 t126 0).f1.f0))).setCell ⟨gb135, 1, none⟩ (.int .i64 ((rd_T55 t126 0).f1.f1))).heap[gb135]? = some (.cells #[.int .i64 ((rd_T55 t126 0).f1.f0), .int .i64 ((rd_T55 t126 0).f1.f1)] 30 (0, 0))) := ⟨by (with_reducible repeat (first | refine blk_drewN ?_ _ | refine blk_drew ?_ | refine blk_alloc ?_ _)); refine blk_put (cs := #[.int .i64 ((rd_T55 t126 0).f1.f0), .int .i64 0]) ?_ 1 _ rfl; (with_reducible repeat (first | refine blk_drewN ?_ _ | refine blk_drew ?_ | refine blk_alloc ?_ _)); refine blk_put (cs := #[.int .i64 0, .int .i64 0]) ?_ 0 _ rfl; (with_reducible repeat (first | refine blk_drewN ?_ _ | refine blk_drew ?_ | refine blk_alloc ?_ _)); exact BK135.out⟩
            have n10_ : Aside0 (Below w.heap.size w ((w75.setCell ⟨gb135, 0, none⟩ (.int .i64 ((rd_T55 t126 0).f1.f0))).setCell ⟨gb135, 1, none⟩ (.int .i64 ((rd_T55 t126 0).f1.f1)))) := ⟨bX HB⟩
            (try clear HO_112004)
            (try clear HO_117004)
            (try clear HO_131001)
            (try clear BK104)
            (try clear BK105)
            (try clear BK106)
            (try clear BK111)
            (try clear BK116)
            (try clear BK130)
            (try clear BK135)
            (try clear HB)
            generalize ((w75.setCell ⟨gb135, 0, none⟩ (.int .i64 ((rd_T55 t126 0).f1.f0))).setCell ⟨gb135, 1, none⟩ (.int .i64 ((rd_T55 t126 0).f1.f1))) = w83 at n0_ n1_ n2_ n3_ n4_ n5_ n6_ n7_ n8_ n9_ n10_ ⊢
            have HO_112004 := n0_
            have HO_117004 := n1_
            have HO_131001 := n2_
            have BK104 := n3_
            have BK105 := n4_
            have BK106 := n5_
            have BK111 := n6_
            have BK116 := n7_
            have BK130 := n8_
            have BK135 := n9_
            have HB := n10_
            clear n0_ n1_ n2_ n3_ n4_ n5_ n6_ n7_ n8_ n9_ n10_
            replace HO_112004 := Aside0.mk (Kd.R_drew HO_112004.out)
            replace HO_117004 := Aside0.mk (Kd.R_drew HO_117004.out)
            replace HO_131001 := Aside0.mk (Kd.R_drew HO_131001.out)
            replace BK104 := Aside0.mk (blk_drew BK104.out)
            replace BK105 := Aside0.mk (blk_drew BK105.out)
            replace BK106 := Aside0.mk (blk_drew BK106.out)
            replace BK111 := Aside0.mk (blk_drew BK111.out)
            replace BK116 := Aside0.mk (blk_drew BK116.out)
            replace BK130 := Aside0.mk (blk_drew BK130.out)
            replace BK135 := Aside0.mk (blk_drew BK135.out)
            replace HB := Aside0.mk (below_drew1 HB.out)
            refine start_ (n := 16) (S := fun w' => w'.cell? ⟨gb105, 0, none⟩ = some (.int .i64 (wrap64 (90 + (Int.tmod (wrap64 (a2_0)) 11)))) ∧ w'.cell? ⟨gb105, 1, none⟩ = some (.int .i64 100) ∧ w'.cell? ⟨gb106, 0, none⟩ = some (.int .i64 (wrap64 (100 + (Int.tmod (wrap64 (a2_1)) 11)))) ∧ w'.cell? ⟨gb106, 1, none⟩ = some (.int .i64 100)) (ds := []) #[false, false, false, false, false, false, false, false, false, false, false, false, false, false, false, false] (by kernel_rfl) rfl rfl ⟨bc BK105 0, bc BK105 1, bc BK106 0, bc BK106 1⟩ (fun hHeld => ?_); refine with_tabW z0_.tab12 z0_.bits12 (fun HT_ HW_ => ?_)
            generalize w83.drew = w84 at HO_112004 HO_117004 HO_131001 BK104 BK105 BK106 BK111 BK116 BK130 BK135 HB hHeld ⊢
            refine pA 0 94 HT_ ?_
            refine pA 3 97 HT_ ?_
            refine pA 4 98 HT_ ?_
            refine pA 7 101 HT_ ?_
            refine pA 9 103 HT_ ?_
            refine tA 1 95 HT_ HW_ hHeld ?_
            refine pA 2 96 HT_ ?_
            refine tA 8 102 HT_ HW_ hHeld ?_
            refine tA 10 104 HT_ HW_ hHeld ?_
            refine pA 11 105 HT_ ?_
            refine oneA (i := 5) (N := some 99) HT_ (fun K hK => ?_)
            refine goesB Tryz.func21 #[.slice A1 l1.length c1, .int .i64 x11_1] ?_
            with_reducible refine (z42_.calls _ _ l1 x11_1 t136 _ ?side1 ?side2 A67.out).mono ?_
            (case side1 => exact sX (Kd.C_below HR1.out HB.out))
            (case side2 => exact HC1.out)
            rintro e w' ⟨rfl, ⟨nd, rfl⟩⟩
            refine ⟨_, rfl, ?_⟩
            refine hK.out _ _ ⟨bc BK105 0, bc BK105 1, bc BK106 0, bc BK106 1⟩ (fun hHeld => ?_)
            clear hK K
            refine normA (N := some 99) ?_
            refine pA 6 100 HT_ ?_
            refine pA 12 106 HT_ ?_
            refine pA 13 107 HT_ ?_
            refine pA 14 108 HT_ ?_
            refine pA 15 16 HT_ ?_
            refine done_ (done_of HT_.out (by kernel_rfl)) ?_
            go_upto_region 14 with (fail)
            go_cut [121] (fun v121 wc => ∃ (kq : Nat) (x121_67 : Bool), v121 = .bool x121_67 ∧ Aside0 (z0_.j3 kq l0 l1 x11_1 (wrap64 (Int.tdiv (wrap64 ((wrap64 (20 + (wrap64 (rd l0 x11_1)))) * (wrap64 ((wrap64 (10 * (wrap64 (90 + (Int.tmod (wrap64 (a2_0)) 11))))) + (wrap64 (Int.tdiv (wrap64 ((wrap64 (t136 * 10)) * (wrap64 ((wrap64 (100 + (Int.tmod (wrap64 (a2_1)) 11))) - (wrap64 (90 + (Int.tmod (wrap64 (a2_0)) 11))))))) 255)))))) 1000)) x121_67 (wrap64 (90 + (Int.tmod (wrap64 (a2_0)) 11))) 100 (wrap64 (100 + (Int.tmod (wrap64 (a2_1)) 11))) 100 t107 t108 t109 t110 x112004_1 t112 t113 t114 t115 x117004_1 ((rd_T55 t126 0).f1.f0) ((rd_T55 t126 0).f1.f1) = some true) ∧ Aside0 (kq ≤ kj39) ∧ Aside0 (Kd.R k47 47 wc w.heap.size (fun k_ => some k_ ≠ (u117004 : Value).ownBlock) u112004 x112004_1) ∧ Aside0 (Kd.R k47 47 wc w.heap.size (fun k_ => some k_ ≠ (u112004 : Value).ownBlock) u117004 x117004_1) ∧ Aside0 (Kd.R k55 55 wc w.heap.size (fun _ => True) (.slice (some ad134) t126.length co52) t126) ∧ Aside0 (wc.heap[gb104]? = some (.cells #[.int .u8 a2_0, .int .u8 a2_1] 26 (0, 0))) ∧ Aside0 (wc.heap[gb105]? = some (.cells #[.int .i64 (wrap64 (90 + (Int.tmod (wrap64 (a2_0)) 11))), .int .i64 100] 67 (0, 0))) ∧ Aside0 (wc.heap[gb106]? = some (.cells #[.int .i64 (wrap64 (100 + (Int.tmod (wrap64 (a2_1)) 11))), .int .i64 100] 67 (0, 0))) ∧ Aside0 (wc.heap[gb111]? = some (.cells #[.int .i64 t107, .int .i64 t108, .int .i64 t109, .int .i64 t110, u112004] 33 (0, 0))) ∧ Aside0 (wc.heap[gb116]? = some (.cells #[.int .i64 t112, .int .i64 t113, .int .i64 t114, .int .i64 t115, u117004] 33 (0, 0))) ∧ Aside0 (wc.heap[gb130]? = some (.cells #[.int .i64 t125, (.slice (some ad134) t126.length co52)] 58 (0, 0))) ∧ Aside0 (wc.heap[gb135]? = some (.cells #[.int .i64 ((rd_T55 t126 0).f1.f0), .int .i64 ((rd_T55 t126 0).f1.f1)] 30 (0, 0))) ∧ Aside0 (Below w.heap.size w wc))
            case first =>
             have H := HC68.out
             clear HC68
             replace H := bindA H
             obtain ⟨t137, A85, H⟩ := H
             try dsimp only at H
             by_cases c86 : t137 = true
             ·subst c86
              have H1 : (z0_.j3 kj39 l0 l1 x11_1 (wrap64 (Int.tdiv (wrap64 ((wrap64 (20 + (wrap64 (rd l0 x11_1)))) * (wrap64 ((wrap64 (10 * (wrap64 (90 + (Int.tmod (wrap64 (a2_0)) 11))))) + (wrap64 (Int.tdiv (wrap64 ((wrap64 (t136 * 10)) * (wrap64 ((wrap64 (100 + (Int.tmod (wrap64 (a2_1)) 11))) - (wrap64 (90 + (Int.tmod (wrap64 (a2_0)) 11))))))) 255)))))) 1000)) (decide (((rd_T55 t126 0).f1.f1) > 1000)) (wrap64 (90 + (Int.tmod (wrap64 (a2_0)) 11))) 100 (wrap64 (100 + (Int.tmod (wrap64 (a2_1)) 11))) 100 t107 t108 t109 t110 x112004_1 t112 t113 t114 t115 x117004_1 ((rd_T55 t126 0).f1.f0) ((rd_T55 t126 0).f1.f1)) = some true := by rw [if_pos rfl] at H; exact H
              clear H
              have H := H1
              clear H1
              have H' := Aside0.mk H
              clear H
              obtain ⟨hnb87, hnc87⟩ := nn NB135_104
              obtain ⟨hnb88, hnc88⟩ := nn NB135_105
              obtain ⟨hnb89, hnc89⟩ := nn NB135_106
              obtain ⟨hnb90, hnc90⟩ := nn NB135_111
              obtain ⟨hnb91, hnc91⟩ := nn NB135_116
              obtain ⟨hnb92, hnc92⟩ := nn NB135_130
              obtain ⟨hcz93_0, hcz93_1, hfz93_0, hfz93_1⟩ := cc2 BK135
              go_wp2_with (first | ((with_reducible refine gate_callee (f := 22) rfl ?_); refine goesA (some 115) Tryz.func22 #[.int .i64 (wrap64 (Int.tdiv (wrap64 ((wrap64 (20 + (wrap64 (rd l0 x11_1)))) * (wrap64 ((wrap64 (10 * (wrap64 (90 + (Int.tmod (wrap64 (a2_0)) 11))))) + (wrap64 (Int.tdiv (wrap64 ((wrap64 (t136 * 10)) * (wrap64 ((wrap64 (100 + (Int.tmod (wrap64 (a2_1)) 11))) - (wrap64 (90 + (Int.tmod (wrap64 (a2_0)) 11))))))) 255)))))) 1000)), .agg #[.int .i64 ((rd_T55 t126 0).f1.f0), .int .i64 ((rd_T55 t126 0).f1.f1)]] ?_; (with_reducible refine (z32_.calls kj39 (wrap64 (Int.tdiv (wrap64 ((wrap64 (20 + (wrap64 (rd l0 x11_1)))) * (wrap64 ((wrap64 (10 * (wrap64 (90 + (Int.tmod (wrap64 (a2_0)) 11))))) + (wrap64 (Int.tdiv (wrap64 ((wrap64 (t136 * 10)) * (wrap64 ((wrap64 (100 + (Int.tmod (wrap64 (a2_1)) 11))) - (wrap64 (90 + (Int.tmod (wrap64 (a2_0)) 11))))))) 255)))))) 1000)) ((rd_T55 t126 0).f1.f0) ((rd_T55 t126 0).f1.f1) true _ A85.out).mono ?_); rintro e w94 ⟨rfl, hb⟩; refine ⟨_, rfl, ?_⟩; replace HO_112004 := rB HO_112004 hb; replace HO_117004 := rB HO_117004 hb; replace HO_131001 := rB HO_131001 hb; replace BK104 := kB BK104 hb; replace BK105 := kB BK105 hb; replace BK106 := kB BK106 hb; replace BK111 := kB BK111 hb; replace BK116 := kB BK116 hb; replace BK130 := kB BK130 hb; replace BK135 := kB BK135 hb; replace HB := bS HB hb; obtain ⟨hcz95_0, hcz95_1, hfz95_0, hfz95_1⟩ := cc2 BK135))
              go_meet
              case rel => exact ⟨_, (decide (((rd_T55 t126 0).f1.f1) > 1000)), eR, H', ⟨by have := HK1.out; have := HJ31.out; have := HJ39.out; first | omega | exact Nat.le_refl _⟩, ⟨rX HO_112004.out⟩, ⟨rX HO_117004.out⟩, ⟨rX HO_131001.out⟩, ⟨kX BK104.out⟩, ⟨kX BK105.out⟩, ⟨kX BK106.out⟩, ⟨kX BK111.out⟩, ⟨kX BK116.out⟩, ⟨kX BK130.out⟩, ⟨kX BK135.out⟩, ⟨bX HB⟩⟩
             ·replace c86 := Bool.eq_false_iff.mpr c86
              subst c86
              have H1 : (z0_.j3 kj39 l0 l1 x11_1 (wrap64 (Int.tdiv (wrap64 ((wrap64 (20 + (wrap64 (rd l0 x11_1)))) * (wrap64 ((wrap64 (10 * (wrap64 (90 + (Int.tmod (wrap64 (a2_0)) 11))))) + (wrap64 (Int.tdiv (wrap64 ((wrap64 (t136 * 10)) * (wrap64 ((wrap64 (100 + (Int.tmod (wrap64 (a2_1)) 11))) - (wrap64 (90 + (Int.tmod (wrap64 (a2_0)) 11))))))) 255)))))) 1000)) true (wrap64 (90 + (Int.tmod (wrap64 (a2_0)) 11))) 100 (wrap64 (100 + (Int.tmod (wrap64 (a2_1)) 11))) 100 t107 t108 t109 t110 x112004_1 t112 t113 t114 t115 x117004_1 ((rd_T55 t126 0).f1.f0) ((rd_T55 t126 0).f1.f1)) = some true := by rw [if_neg (show ¬ (false = true) by decide)] at H; exact H
              clear H
              have H := H1
              clear H1
              exact (z0_.j3_dead H).elim
            case rest =>
             clear HC68
             try clear p1
             try clear q1
             try clear hx1
             try clear qi1
             try clear p2
             try clear p6
             try clear p13
             try clear q13
             try clear hx13
             try clear qi13
             try clear c54b0
             try clear c54b1
             try clear c55b0
             try clear c55b1
             try clear p64
             try clear c66b0
             try clear c66b1
             try clear hcz102_0 hcz102_1 hfz102_0 hfz102_1
             try clear hcz74_0 hcz74_1 hfz74_0 hfz74_1
             try clear hcz82_0 hcz82_1 hfz82_0 hfz82_1
             try clear hcz93_0 hcz93_1 hfz93_0 hfz93_1
             try clear hcz95_0 hcz95_1 hfz95_0 hfz95_1
             try clear hx131_0
             try clear hx131_1
             try clear hx131_2
             try clear hx131_3
             try clear hx134_0
             try clear hx134_1
             try clear hx134_2
             try clear hx134_3
             try clear p1
             try clear p13
             try clear p131
             try clear p134
             try clear p2
             try clear p6
             try clear p64
             try clear q1
             try clear q13
             try clear q131
             try clear q134
             obtain ⟨kq, x121_67, rfl, HA, HJ67, HO_112004, HO_117004, HO_131001, BK104, BK105, BK106, BK111, BK116, BK130, BK135, HB⟩ := hcut
             cases kq with
             | zero => exact absurd HA.out (by simp [z0_.j3])
             | succ kj67 =>
              have H := HA.out
              clear HA
              simp only [z0_.j3] at H
              by_cases c104 : x121_67 = true
              ·subst c104
               have H1 : (some false) = some true := by rw [if_pos rfl] at H; exact H
               clear H
               have H := H1
               clear H1
               exact absurd H (by simp)
              ·replace c104 := Bool.eq_false_iff.mpr c104
               subst c104
               have H1 : ((z42_.f l1 (wrap64 (x11_1 + 1))).bind fun t138 => ((z42_.f l1 (wrap64 (x11_1 + 1))).bind fun t139 => ((z1_.f (wrap64 (Int.tdiv t138 20)) (wrap64 ((wrap64 (Int.tdiv t139 20)) + 1))).bind fun bt140 => (if x112004_1.length < 4398046511104 then ((z1_.f (wrap64 (Int.tdiv (wrap64 ((wrap64 (20 + (wrap64 (rd l0 x11_1)))) * (wrap64 ((wrap64 (10 * (wrap64 (90 + (Int.tmod (wrap64 (a2_0)) 11))))) + (wrap64 (Int.tdiv (wrap64 ((wrap64 (t136 * 10)) * (wrap64 ((wrap64 (100 + (Int.tmod (wrap64 (a2_1)) 11))) - (wrap64 (90 + (Int.tmod (wrap64 (a2_0)) 11))))))) 255)))))) 1000)) (wrap64 (Int.tdiv (wrap64 ((wrap64 (20 + (wrap64 (rd l0 x11_1)))) * (wrap64 ((wrap64 (10 * (wrap64 (90 + (Int.tmod (wrap64 (a2_0)) 11))))) + (wrap64 (Int.tdiv (wrap64 ((wrap64 (t136 * 10)) * (wrap64 ((wrap64 (100 + (Int.tmod (wrap64 (a2_1)) 11))) - (wrap64 (90 + (Int.tmod (wrap64 (a2_0)) 11))))))) 255)))))) 1000))).bind fun bt146 => ((z1_.f bt140.2 bt140.2).bind fun bt148 => (if x117004_1.length < 4398046511104 then (z0_.l0 kj67 l0 l1 (wrap64 (x11_1 + 1)) (wrap64 (90 + (Int.tmod (wrap64 (a2_0)) 11))) 100 (wrap64 (100 + (Int.tmod (wrap64 (a2_1)) 11))) 100 t107 t108 t109 t110 (x112004_1 ++ [(⟨(⟨((rd_T55 t126 0).f1.f0), ((rd_T55 t126 0).f1.f1)⟩ : S30), (⟨bt140.1, bt140.2⟩ : S30)⟩ : S47)]) t112 t113 t114 t115 (x117004_1 ++ [(⟨(⟨bt146.1, bt146.2⟩ : S30), (⟨bt148.1, bt148.2⟩ : S30)⟩ : S47)])) else (none)))) else (none))))) = some true := by rw [if_neg (show ¬ (false = true) by decide)] at H; exact H
               clear H
               have H := H1
               clear H1
               replace H := bindA H
               obtain ⟨t138, A105, H⟩ := H
               try dsimp only at H
               replace H := bindA H
               obtain ⟨t139, A106, H⟩ := H
               try dsimp only at H
               replace H := bindA H
               obtain ⟨⟨t140, t141⟩, A107, H⟩ := H
               try dsimp only at H
               by_cases c108 : x112004_1.length < 4398046511104
               ·rw [if_pos c108] at H
                have LMc108 := Aside0.mk c108
                clear c108
                obtain ⟨y143, hy143⟩ : ∃ y_ : List (S47), y_ = (x112004_1 ++ [(⟨(⟨((rd_T55 t126 0).f1.f0), ((rd_T55 t126 0).f1.f1)⟩ : S30), (⟨t140, t141⟩ : S30)⟩ : S47)]) := ⟨_, rfl⟩
                replace H : ((z1_.f (wrap64 (Int.tdiv (wrap64 ((wrap64 (20 + (wrap64 (rd l0 x11_1)))) * (wrap64 ((wrap64 (10 * (wrap64 (90 + (Int.tmod (wrap64 (a2_0)) 11))))) + (wrap64 (Int.tdiv (wrap64 ((wrap64 (t136 * 10)) * (wrap64 ((wrap64 (100 + (Int.tmod (wrap64 (a2_1)) 11))) - (wrap64 (90 + (Int.tmod (wrap64 (a2_0)) 11))))))) 255)))))) 1000)) (wrap64 (Int.tdiv (wrap64 ((wrap64 (20 + (wrap64 (rd l0 x11_1)))) * (wrap64 ((wrap64 (10 * (wrap64 (90 + (Int.tmod (wrap64 (a2_0)) 11))))) + (wrap64 (Int.tdiv (wrap64 ((wrap64 (t136 * 10)) * (wrap64 ((wrap64 (100 + (Int.tmod (wrap64 (a2_1)) 11))) - (wrap64 (90 + (Int.tmod (wrap64 (a2_0)) 11))))))) 255)))))) 1000))).bind fun bt146 => ((z1_.f t141 t141).bind fun bt148 => (if x117004_1.length < 4398046511104 then (z0_.l0 kj67 l0 l1 (wrap64 (x11_1 + 1)) (wrap64 (90 + (Int.tmod (wrap64 (a2_0)) 11))) 100 (wrap64 (100 + (Int.tmod (wrap64 (a2_1)) 11))) 100 t107 t108 t109 t110 y143 t112 t113 t114 t115 (x117004_1 ++ [(⟨(⟨bt146.1, bt146.2⟩ : S30), (⟨bt148.1, bt148.2⟩ : S30)⟩ : S47)])) else (none)))) = some true := by first | (rw [hy143]; with_reducible exact H) | (have H2_ := (Option.bind_some _ _).symm.trans H; rw [hy143]; with_reducible exact H2_) | (have H2_ := (Option.bind_some _ _).symm.trans H; with_reducible exact H2_) | with_reducible exact H | (rw [hy143]; exact H) | exact H
                have Ny143 := Aside0.mk hy143
                clear hy143
                replace H := bindA H
                obtain ⟨⟨t146, t147⟩, A109, H⟩ := H
                try dsimp only at H
                replace H := bindA H
                obtain ⟨⟨t148, t149⟩, A110, H⟩ := H
                try dsimp only at H
                by_cases c111 : x117004_1.length < 4398046511104
                ·rw [if_pos c111] at H
                 have LMc111 := Aside0.mk c111
                 clear c111
                 obtain ⟨y150, hy150⟩ : ∃ y_ : List (S47), y_ = (x117004_1 ++ [(⟨(⟨t146, t147⟩ : S30), (⟨t148, t149⟩ : S30)⟩ : S47)]) := ⟨_, rfl⟩
                 replace H : (z0_.l0 kj67 l0 l1 (wrap64 (x11_1 + 1)) (wrap64 (90 + (Int.tmod (wrap64 (a2_0)) 11))) 100 (wrap64 (100 + (Int.tmod (wrap64 (a2_1)) 11))) 100 t107 t108 t109 t110 y143 t112 t113 t114 t115 y150) = some true := by first | (rw [hy150]; with_reducible exact H) | (have H2_ := (Option.bind_some _ _).symm.trans H; rw [hy150]; with_reducible exact H2_) | (have H2_ := (Option.bind_some _ _).symm.trans H; with_reducible exact H2_) | with_reducible exact H | (rw [hy150]; exact H) | exact H
                 have Ny150 := Aside0.mk hy150
                 clear hy150
                 have H' := Aside0.mk H
                 clear H
                 try go_wp2_with (first | ((with_reducible refine gate_callee (f := 21) rfl ?_); refine goesA (some 125) Tryz.func21 #[.slice A1 l1.length c1, .int .i64 (wrap64 (x11_1 + 1))] ?_; (with_reducible refine (z42_.calls _ _ l1 (wrap64 (x11_1 + 1)) t138 _ ?side1 ?side2 A105.out).mono ?_); (case side1 => exact sX (Kd.C_below HR1.out HB.out)); (case side2 => exact HC1.out); rintro e w' ⟨rfl, ⟨nd, rfl⟩⟩; refine ⟨_, rfl, ?_⟩; (try (rw [drewN_self wc]; generalize hq_ : World.drewN wc _ = wc; have n0_ : Aside0 (Kd.R k47 47 wc w.heap.size (fun k_ => some k_ ≠ (u117004 : Value).ownBlock) u112004 x112004_1) := ⟨by rw [← hq_]; exact (rX HO_112004.out)⟩; have n1_ : Aside0 (Kd.R k47 47 wc w.heap.size (fun k_ => some k_ ≠ (u112004 : Value).ownBlock) u117004 x117004_1) := ⟨by rw [← hq_]; exact (rX HO_117004.out)⟩; have n2_ : Aside0 (Kd.R k55 55 wc w.heap.size (fun _ => True) (.slice (some ad134) t126.length co52) t126) := ⟨by rw [← hq_]; exact (rX HO_131001.out)⟩; have n3_ : Aside0 (wc.heap[gb104]? = some (.cells #[.int .u8 a2_0, .int .u8 a2_1] 26 (0, 0))) := ⟨by rw [← hq_]; exact (kX BK104.out)⟩; have n4_ : Aside0 (wc.heap[gb105]? = some (.cells #[.int .i64 (wrap64 (90 + (Int.tmod (wrap64 (a2_0)) 11))), .int .i64 100] 67 (0, 0))) := ⟨by rw [← hq_]; exact (kX BK105.out)⟩; have n5_ : Aside0 (wc.heap[gb106]? = some (.cells #[.int .i64 (wrap64 (100 + (Int.tmod (wrap64 (a2_1)) 11))), .int .i64 100] 67 (0, 0))) := ⟨by rw [← hq_]; exact (kX BK106.out)⟩; have n6_ : Aside0 (wc.heap[gb111]? = some (.cells #[.int .i64 t107, .int .i64 t108, .int .i64 t109, .int .i64 t110, u112004] 33 (0, 0))) := ⟨by rw [← hq_]; exact (kX BK111.out)⟩; have n7_ : Aside0 (wc.heap[gb116]? = some (.cells #[.int .i64 t112, .int .i64 t113, .int .i64 t114, .int .i64 t115, u117004] 33 (0, 0))) := ⟨by rw [← hq_]; exact (kX BK116.out)⟩; have n8_ : Aside0 (wc.heap[gb130]? = some (.cells #[.int .i64 t125, .slice (some ad134) t126.length co52] 58 (0, 0))) := ⟨by rw [← hq_]; exact (kX BK130.out)⟩; have n9_ : Aside0 (wc.heap[gb135]? = some (.cells #[.int .i64 ((rd_T55 t126 0).f1.f0), .int .i64 ((rd_T55 t126 0).f1.f1)] 30 (0, 0))) := ⟨by rw [← hq_]; exact (kX BK135.out)⟩; have n10_ : Aside0 (Below w.heap.size w wc) := ⟨by rw [← hq_]; exact (bX HB)⟩; clear HO_112004 HO_117004 HO_131001 BK104 BK105 BK106 BK111 BK116 BK130 BK135 HB hq_; have HO_112004 := n0_; have HO_117004 := n1_; have HO_131001 := n2_; have BK104 := n3_; have BK105 := n4_; have BK106 := n5_; have BK111 := n6_; have BK116 := n7_; have BK130 := n8_; have BK135 := n9_; have HB := n10_; clear n0_ n1_ n2_ n3_ n4_ n5_ n6_ n7_ n8_ n9_ n10_))) | ((with_reducible refine gate_callee (f := 21) rfl ?_); refine goesA (some 130) Tryz.func21 #[.slice A1 l1.length c1, .int .i64 (wrap64 (x11_1 + 1))] ?_; (with_reducible refine (z42_.calls _ _ l1 (wrap64 (x11_1 + 1)) t139 _ ?side1 ?side2 A106.out).mono ?_); (case side1 => exact sX (Kd.C_below HR1.out HB.out)); (case side2 => exact HC1.out); rintro e w' ⟨rfl, ⟨nd, rfl⟩⟩; refine ⟨_, rfl, ?_⟩; (try (rw [drewN_self wc]; generalize hq_ : World.drewN wc _ = wc; have n0_ : Aside0 (Kd.R k47 47 wc w.heap.size (fun k_ => some k_ ≠ (u117004 : Value).ownBlock) u112004 x112004_1) := ⟨by rw [← hq_]; exact (rX HO_112004.out)⟩; have n1_ : Aside0 (Kd.R k47 47 wc w.heap.size (fun k_ => some k_ ≠ (u112004 : Value).ownBlock) u117004 x117004_1) := ⟨by rw [← hq_]; exact (rX HO_117004.out)⟩; have n2_ : Aside0 (Kd.R k55 55 wc w.heap.size (fun _ => True) (.slice (some ad134) t126.length co52) t126) := ⟨by rw [← hq_]; exact (rX HO_131001.out)⟩; have n3_ : Aside0 (wc.heap[gb104]? = some (.cells #[.int .u8 a2_0, .int .u8 a2_1] 26 (0, 0))) := ⟨by rw [← hq_]; exact (kX BK104.out)⟩; have n4_ : Aside0 (wc.heap[gb105]? = some (.cells #[.int .i64 (wrap64 (90 + (Int.tmod (wrap64 (a2_0)) 11))), .int .i64 100] 67 (0, 0))) := ⟨by rw [← hq_]; exact (kX BK105.out)⟩; have n5_ : Aside0 (wc.heap[gb106]? = some (.cells #[.int .i64 (wrap64 (100 + (Int.tmod (wrap64 (a2_1)) 11))), .int .i64 100] 67 (0, 0))) := ⟨by rw [← hq_]; exact (kX BK106.out)⟩; have n6_ : Aside0 (wc.heap[gb111]? = some (.cells #[.int .i64 t107, .int .i64 t108, .int .i64 t109, .int .i64 t110, u112004] 33 (0, 0))) := ⟨by rw [← hq_]; exact (kX BK111.out)⟩; have n7_ : Aside0 (wc.heap[gb116]? = some (.cells #[.int .i64 t112, .int .i64 t113, .int .i64 t114, .int .i64 t115, u117004] 33 (0, 0))) := ⟨by rw [← hq_]; exact (kX BK116.out)⟩; have n8_ : Aside0 (wc.heap[gb130]? = some (.cells #[.int .i64 t125, .slice (some ad134) t126.length co52] 58 (0, 0))) := ⟨by rw [← hq_]; exact (kX BK130.out)⟩; have n9_ : Aside0 (wc.heap[gb135]? = some (.cells #[.int .i64 ((rd_T55 t126 0).f1.f0), .int .i64 ((rd_T55 t126 0).f1.f1)] 30 (0, 0))) := ⟨by rw [← hq_]; exact (kX BK135.out)⟩; have n10_ : Aside0 (Below w.heap.size w wc) := ⟨by rw [← hq_]; exact (bX HB)⟩; clear HO_112004 HO_117004 HO_131001 BK104 BK105 BK106 BK111 BK116 BK130 BK135 HB hq_; have HO_112004 := n0_; have HO_117004 := n1_; have HO_131001 := n2_; have BK104 := n3_; have BK105 := n4_; have BK106 := n5_; have BK111 := n6_; have BK116 := n7_; have BK130 := n8_; have BK135 := n9_; have HB := n10_; clear n0_ n1_ n2_ n3_ n4_ n5_ n6_ n7_ n8_ n9_ n10_))) | ((with_reducible refine gate_callee (f := 15) rfl ?_); refine goesA (some 133) Tryz.func15 #[.int .i64 (wrap64 (Int.tdiv t138 20)), .int .i64 (wrap64 ((wrap64 (Int.tdiv t139 20)) + 1))] ?_; (with_reducible refine (z1_.calls (wrap64 (Int.tdiv t138 20)) (wrap64 ((wrap64 (Int.tdiv t139 20)) + 1)) t140 t141 _ A107.out).mono ?_); rintro e w112 ⟨rfl, hb⟩; refine ⟨_, rfl, ?_⟩; replace HO_112004 := rB HO_112004 hb; replace HO_117004 := rB HO_117004 hb; replace HO_131001 := rB HO_131001 hb; replace BK104 := kB BK104 hb; replace BK105 := kB BK105 hb; replace BK106 := kB BK106 hb; replace BK111 := kB BK111 hb; replace BK116 := kB BK116 hb; replace BK130 := kB BK130 hb; replace BK135 := kB BK135 hb; replace HB := bS HB hb) | ((with_reducible refine gate_dst (N := 18) rfl ?_); (try (refine gate_guard (by rfl) ?_; dsimp only)); refine boxA (N := 18) (cs := #[.int .i64 0, .int .i64 0]) (t := 30) ?_; intro gb142 hg w113 hbox hb; have BK142 := Aside0.mk (hbox); have GE142 := bG HB hg; have NB104_142 := kN BK104 hg; have NB142_104 := kM BK104 hg; have NB105_142 := kN BK105 hg; have NB142_105 := kM BK105 hg; have NB106_142 := kN BK106 hg; have NB142_106 := kM BK106 hg; have NB111_142 := kN BK111 hg; have NB142_111 := kM BK111 hg; have NB116_142 := kN BK116 hg; have NB142_116 := kM BK116 hg; have NB130_142 := kN BK130 hg; have NB142_130 := kM BK130 hg; have NB135_142 := kN BK135 hg; have NB142_135 := kM BK135 hg; replace HO_112004 := rB HO_112004 hb; replace HO_117004 := rB HO_117004 hb; replace HO_131001 := rB HO_131001 hb; replace BK104 := kB BK104 hb; replace BK105 := kB BK105 hb; replace BK106 := kB BK106 hb; replace BK111 := kB BK111 hb; replace BK116 := kB BK116 hb; replace BK130 := kB BK130 hb; replace BK135 := kB BK135 hb; replace HB := bS HB hb; clear hb hbox hg; obtain ⟨hnb114, hnc114⟩ := nn NB142_104; obtain ⟨hnb115, hnc115⟩ := nn NB142_105; obtain ⟨hnb116, hnc116⟩ := nn NB142_106; obtain ⟨hnb117, hnc117⟩ := nn NB142_111; obtain ⟨hnb118, hnc118⟩ := nn NB142_116; obtain ⟨hnb119, hnc119⟩ := nn NB142_130; obtain ⟨hnb120, hnc120⟩ := nn NB142_135; obtain ⟨hcz121_0, hcz121_1, hfz121_0, hfz121_1⟩ := cc2 BK142; obtain ⟨hnb122, hnc122⟩ := nn NB111_104; obtain ⟨hnb123, hnc123⟩ := nn NB111_105; obtain ⟨hnb124, hnc124⟩ := nn NB111_106; obtain ⟨hnb125, hnc125⟩ := nn NB111_116; obtain ⟨hnb126, hnc126⟩ := nn NB111_130; obtain ⟨hnb127, hnc127⟩ := nn NB111_135; obtain ⟨hcz128_0, hcz128_1, hcz128_2, hcz128_3, hcz128_4, hfz128_0, hfz128_1, hfz128_2, hfz128_3, hfz128_4⟩ := cc5 BK111; obtain ⟨hnb129, hnc129⟩ := nn NB135_104; obtain ⟨hnb130, hnc130⟩ := nn NB135_105; obtain ⟨hnb131, hnc131⟩ := nn NB135_106; obtain ⟨hnb132, hnc132⟩ := nn NB135_116; obtain ⟨hnb133, hnc133⟩ := nn NB135_130; obtain ⟨hcz134_0, hcz134_1, hfz134_0, hfz134_1⟩ := cc2 BK135) | ((with_reducible refine gate_builtin (b := .append) (xs := #[.tmp 135, .tmp 139]) rfl ?_); (try (refine gate_guard (by rfl) ?_; dsimp only)); at_builtin; refine Kd.R_append k47 (w0 := w) w.heap.size rfl (.tmp 135) (.tmp 139) 31 47 (.agg #[(.int .i64 0), (.int .i64 0), (.int .i64 0), (.int .i64 0)]) 32 rfl Tryz.underlying31 info47 rfl (by decide) (by omega) u112004 x112004_1 (⟨(⟨((rd_T55 t126 0).f1.f0), ((rd_T55 t126 0).f1.f1)⟩ : S30), (⟨t140, t141⟩ : S30)⟩ : S47) [.int .i64 ((rd_T55 t126 0).f1.f0), .int .i64 ((rd_T55 t126 0).f1.f1), .int .i64 t140, .int .i64 t141] (fun k_ => some k_ ≠ (u117004 : Value).ownBlock) (fun _ => False) rfl (by first | (go_simp; done) | (go_simp; rfl)) ?aP (fun _ hk => hk.elim) ?aF ?aO ?aB ?aS ?aL ?_; (case aP => exact k47_mkM _ _ _ (⟨(⟨((rd_T55 t126 0).f1.f0), ((rd_T55 t126 0).f1.f1)⟩ : S30), (⟨t140, t141⟩ : S30)⟩ : S47)); (case aB => exact (bX HB)); (case aF => exact (fun k_ hk => Kd.fresh' (Kd.R_lt (rX (Kd.R_mono (Kd.R_far (p := ⟨gb142, 1, none⟩) (Kd.R_far (p := ⟨gb142, 0, none⟩) (Kd.R_types HO_117004.out BK142.out (by decide)) (fun _ hk => hk.2) (.int .i64 t140)) (fun _ hk => hk.2) (.int .i64 t141)) (fun _ h_ => h_.1)))) k_ hk)); (case aO => exact (rX (Kd.R_mono (Kd.R_far (p := ⟨gb142, 1, none⟩) (Kd.R_far (p := ⟨gb142, 0, none⟩) (Kd.R_types HO_112004.out BK142.out (by decide)) (fun _ hk => hk.2) (.int .i64 t140)) (fun _ hk => hk.2) (.int .i64 t141)) (fun _ hk => hk.1)))); (case aS => exact (below_size (bX HB))); (case aL => have := LMc108.out; omega); intro v144 w135 ho hb hg hat; rw [← Ny143.out] at ho; have n0_ := Aside0.mk (Kd.R_after (ok := (fun _ => True)) (rX (Kd.R_mono (Kd.R_far (p := ⟨gb142, 1, none⟩) (Kd.R_far (p := ⟨gb142, 0, none⟩) (Kd.R_types HO_117004.out BK142.out (by decide)) (fun _ hk => hk.2) (.int .i64 t140)) (fun _ hk => hk.2) (.int .i64 t141)) (fun _ hk => ⟨trivial, hk.1⟩))) hg hat); have n1_ := Aside0.mk (Kd.R_over' (rX (Kd.R_mono (Kd.R_far (p := ⟨gb142, 1, none⟩) (Kd.R_far (p := ⟨gb142, 0, none⟩) (Kd.R_types HO_131001.out BK142.out (by decide)) (fun _ hk => hk.2) (.int .i64 t140)) (fun _ hk => hk.2) (.int .i64 t141)) (fun _ h_ => h_.1))) (Kd.R_typed (rX (Kd.R_mono (Kd.R_far (p := ⟨gb142, 1, none⟩) (Kd.R_far (p := ⟨gb142, 0, none⟩) (Kd.R_types HO_112004.out BK142.out (by decide)) (fun _ hk => hk.2) (.int .i64 t140)) (fun _ hk => hk.2) (.int .i64 t141)) (fun _ h_ => h_.1)))) (by decide) hg); have n2_ := Aside0.mk (blk_grown (g := gb104) (o := .cells #[.int .u8 a2_0, .int .u8 a2_1] 26 (0, 0)) (kF BK104 NB104_142) hg (Kd.R_ne HO_112004.out BK104.out (by decide))); have n3_ := Aside0.mk (blk_grown (g := gb105) (o := .cells #[.int .i64 (wrap64 (90 + (Int.tmod (wrap64 (a2_0)) 11))), .int .i64 100] 67 (0, 0)) (kF BK105 NB105_142) hg (Kd.R_ne HO_112004.out BK105.out (by decide))); have n4_ := Aside0.mk (blk_grown (g := gb106) (o := .cells #[.int .i64 (wrap64 (100 + (Int.tmod (wrap64 (a2_1)) 11))), .int .i64 100] 67 (0, 0)) (kF BK106 NB106_142) hg (Kd.R_ne HO_112004.out BK106.out (by decide))); have n5_ := Aside0.mk (blk_grown (g := gb111) (o := .cells #[.int .i64 t107, .int .i64 t108, .int .i64 t109, .int .i64 t110, u112004] 33 (0, 0)) (kF BK111 NB111_142) hg (Kd.R_ne HO_112004.out BK111.out (by decide))); have n6_ := Aside0.mk (blk_grown (g := gb116) (o := .cells #[.int .i64 t112, .int .i64 t113, .int .i64 t114, .int .i64 t115, u117004] 33 (0, 0)) (kF BK116 NB116_142) hg (Kd.R_ne HO_112004.out BK116.out (by decide))); have n7_ := Aside0.mk (blk_grown (g := gb130) (o := .cells #[.int .i64 t125, .slice (some ad134) t126.length co52] 58 (0, 0)) (kF BK130 NB130_142) hg (Kd.R_ne HO_112004.out BK130.out (by decide))); have n8_ := Aside0.mk (blk_grown (g := gb135) (o := .cells #[.int .i64 ((rd_T55 t126 0).f1.f0), .int .i64 ((rd_T55 t126 0).f1.f1)] 30 (0, 0)) (kF BK135 NB135_142) hg (Kd.R_ne HO_112004.out BK135.out (by decide))); have n9_ := Aside0.mk (blk_grown (g := gb142) (o := .cells #[.int .i64 t140, .int .i64 t141] 30 (0, 0)) (kP BK142) hg (Kd.R_ne HO_112004.out BK142.out (by decide))); have n10_ := Aside0.mk (hb); have n11_ := Aside0.mk (ho); clear HO_117004; clear HO_131001; clear BK104; clear BK105; clear BK106; clear BK111; clear BK116; clear BK130; clear BK135; clear BK142; clear HB; clear HO_112004; have HO_117004 := n0_; have HO_131001 := n1_; have BK104 := n2_; have BK105 := n3_; have BK106 := n4_; have BK111 := n5_; have BK116 := n6_; have BK130 := n7_; have BK135 := n8_; have BK142 := n9_; have HB := n10_; have HO145 := n11_; clear n0_ n1_ n2_ n3_ n4_ n5_ n6_ n7_ n8_ n9_ n10_ n11_; clear ho hb hg hat; obtain ⟨Ao136, co136, eo136⟩ := Kd.R_slice HO145.out; subst eo136; obtain ⟨hcz137_0, hcz137_1, hcz137_2, hcz137_3, hcz137_4, hfz137_0, hfz137_1, hfz137_2, hfz137_3, hfz137_4⟩ := cc5 BK111))
                 have n0_ : Aside0 (Kd.R k47 47 (w135.setCell ⟨gb111, 4, none⟩ (.slice Ao136 y143.length co136)) w.heap.size (fun k_ => some k_ ≠ (.slice Ao136 y143.length co136 : Value).ownBlock) u117004 x117004_1) := ⟨by (with_reducible repeat (first | apply Kd.R_alloc | apply Kd.R_drewN | apply Kd.R_drew)); exact Kd.R_mono (Kd.R_far (p := ⟨gb111, 4, none⟩) (Kd.R_types HO_117004.out BK111.out (by decide)) (fun _ hk => hk.2) (.slice Ao136 y143.length co136)) (fun _ hk => hk.1.2)⟩
                 have n1_ : Aside0 (Kd.R k55 55 (w135.setCell ⟨gb111, 4, none⟩ (.slice Ao136 y143.length co136)) w.heap.size (fun _ => True) (.slice (some ad134) t126.length co52) t126) := ⟨by (with_reducible repeat (first | apply Kd.R_alloc | apply Kd.R_drewN | apply Kd.R_drew)); exact Kd.R_mono (Kd.R_far (p := ⟨gb111, 4, none⟩) (Kd.R_types HO_131001.out BK111.out (by decide)) (fun _ hk => hk.2) (.slice Ao136 y143.length co136)) (fun _ hk => trivial)⟩
                 have n2_ : Aside0 (Kd.R k47 47 (w135.setCell ⟨gb111, 4, none⟩ (.slice Ao136 y143.length co136)) w.heap.size (fun k_ => some k_ ≠ (u117004 : Value).ownBlock) (.slice Ao136 y143.length co136) y143) := ⟨by (with_reducible repeat (first | apply Kd.R_alloc | apply Kd.R_drewN | apply Kd.R_drew)); exact Kd.R_mono (Kd.R_far (p := ⟨gb111, 4, none⟩) (Kd.R_types HO145.out BK111.out (by decide)) (fun _ hk => hk.2) (.slice Ao136 y143.length co136)) (fun _ hk => hk.1)⟩
                 have n3_ : Aside0 ((w135.setCell ⟨gb111, 4, none⟩ (.slice Ao136 y143.length co136)).heap[gb104]? = some (.cells #[.int .u8 a2_0, .int .u8 a2_1] 26 (0, 0))) := ⟨by (with_reducible repeat (first | refine blk_drewN ?_ _ | refine blk_drew ?_ | refine blk_alloc ?_ _)); refine blk_far ?_ NB104_111.out _; (with_reducible repeat (first | refine blk_drewN ?_ _ | refine blk_drew ?_ | refine blk_alloc ?_ _)); exact BK104.out⟩
                 have n4_ : Aside0 ((w135.setCell ⟨gb111, 4, none⟩ (.slice Ao136 y143.length co136)).heap[gb105]? = some (.cells #[.int .i64 (wrap64 (90 + (Int.tmod (wrap64 (a2_0)) 11))), .int .i64 100] 67 (0, 0))) := ⟨by (with_reducible repeat (first | refine blk_drewN ?_ _ | refine blk_drew ?_ | refine blk_alloc ?_ _)); refine blk_far ?_ NB105_111.out _; (with_reducible repeat (first | refine blk_drewN ?_ _ | refine blk_drew ?_ | refine blk_alloc ?_ _)); exact BK105.out⟩
                 have n5_ : Aside0 ((w135.setCell ⟨gb111, 4, none⟩ (.slice Ao136 y143.length co136)).heap[gb106]? = some (.cells #[.int .i64 (wrap64 (100 + (Int.tmod (wrap64 (a2_1)) 11))), .int .i64 100] 67 (0, 0))) := ⟨by (with_reducible repeat (first | refine blk_drewN ?_ _ | refine blk_drew ?_ | refine blk_alloc ?_ _)); refine blk_far ?_ NB106_111.out _; (with_reducible repeat (first | refine blk_drewN ?_ _ | refine blk_drew ?_ | refine blk_alloc ?_ _)); exact BK106.out⟩
                 have n6_ : Aside0 ((w135.setCell ⟨gb111, 4, none⟩ (.slice Ao136 y143.length co136)).heap[gb111]? = some (.cells #[.int .i64 t107, .int .i64 t108, .int .i64 t109, .int .i64 t110, .slice Ao136 y143.length co136] 33 (0, 0))) := ⟨by (with_reducible repeat (first | refine blk_drewN ?_ _ | refine blk_drew ?_ | refine blk_alloc ?_ _)); refine blk_put (cs := #[.int .i64 t107, .int .i64 t108, .int .i64 t109, .int .i64 t110, u112004]) ?_ 4 _ rfl; (with_reducible repeat (first | refine blk_drewN ?_ _ | refine blk_drew ?_ | refine blk_alloc ?_ _)); exact BK111.out⟩
                 have n7_ : Aside0 ((w135.setCell ⟨gb111, 4, none⟩ (.slice Ao136 y143.length co136)).heap[gb116]? = some (.cells #[.int .i64 t112, .int .i64 t113, .int .i64 t114, .int .i64 t115, u117004] 33 (0, 0))) := ⟨by (with_reducible repeat (first | refine blk_drewN ?_ _ | refine blk_drew ?_ | refine blk_alloc ?_ _)); refine blk_far ?_ NB116_111.out _; (with_reducible repeat (first | refine blk_drewN ?_ _ | refine blk_drew ?_ | refine blk_alloc ?_ _)); exact BK116.out⟩
                 have n8_ : Aside0 ((w135.setCell ⟨gb111, 4, none⟩ (.slice Ao136 y143.length co136)).heap[gb130]? = some (.cells #[.int .i64 t125, .slice (some ad134) t126.length co52] 58 (0, 0))) := ⟨by (with_reducible repeat (first | refine blk_drewN ?_ _ | refine blk_drew ?_ | refine blk_alloc ?_ _)); refine blk_far ?_ NB130_111.out _; (with_reducible repeat (first | refine blk_drewN ?_ _ | refine blk_drew ?_ | refine blk_alloc ?_ _)); exact BK130.out⟩
                 have n9_ : Aside0 ((w135.setCell ⟨gb111, 4, none⟩ (.slice Ao136 y143.length co136)).heap[gb135]? = some (.cells #[.int .i64 ((rd_T55 t126 0).f1.f0), .int .i64 ((rd_T55 t126 0).f1.f1)] 30 (0, 0))) := ⟨by (with_reducible repeat (first | refine blk_drewN ?_ _ | refine blk_drew ?_ | refine blk_alloc ?_ _)); refine blk_far ?_ NB135_111.out _; (with_reducible repeat (first | refine blk_drewN ?_ _ | refine blk_drew ?_ | refine blk_alloc ?_ _)); exact BK135.out⟩
                 have n10_ : Aside0 ((w135.setCell ⟨gb111, 4, none⟩ (.slice Ao136 y143.length co136)).heap[gb142]? = some (.cells #[.int .i64 t140, .int .i64 t141] 30 (0, 0))) := ⟨by (with_reducible repeat (first | refine blk_drewN ?_ _ | refine blk_drew ?_ | refine blk_alloc ?_ _)); refine blk_far ?_ NB142_111.out _; (with_reducible repeat (first | refine blk_drewN ?_ _ | refine blk_drew ?_ | refine blk_alloc ?_ _)); exact BK142.out⟩
                 have n11_ : Aside0 (Below w.heap.size w (w135.setCell ⟨gb111, 4, none⟩ (.slice Ao136 y143.length co136))) := ⟨bX HB⟩
                 (try clear HO_117004)
                 (try clear HO_131001)
                 (try clear HO145)
                 (try clear BK104)
                 (try clear BK105)
                 (try clear BK106)
                 (try clear BK111)
                 (try clear BK116)
                 (try clear BK130)
                 (try clear BK135)
                 (try clear BK142)
                 (try clear HB)
                 generalize (w135.setCell ⟨gb111, 4, none⟩ (.slice Ao136 y143.length co136)) = w138 at n0_ n1_ n2_ n3_ n4_ n5_ n6_ n7_ n8_ n9_ n10_ n11_ ⊢
                 have HO_117004 := n0_
                 have HO_131001 := n1_
                 have HO145 := n2_
                 have BK104 := n3_
                 have BK105 := n4_
                 have BK106 := n5_
                 have BK111 := n6_
                 have BK116 := n7_
                 have BK130 := n8_
                 have BK135 := n9_
                 have BK142 := n10_
                 have HB := n11_
                 clear n0_ n1_ n2_ n3_ n4_ n5_ n6_ n7_ n8_ n9_ n10_ n11_
                 replace HO_117004 := Aside0.mk (Kd.R_drew HO_117004.out)
                 replace HO_131001 := Aside0.mk (Kd.R_drew HO_131001.out)
                 replace HO145 := Aside0.mk (Kd.R_drew HO145.out)
                 replace BK104 := Aside0.mk (blk_drew BK104.out)
                 replace BK105 := Aside0.mk (blk_drew BK105.out)
                 replace BK106 := Aside0.mk (blk_drew BK106.out)
                 replace BK111 := Aside0.mk (blk_drew BK111.out)
                 replace BK116 := Aside0.mk (blk_drew BK116.out)
                 replace BK130 := Aside0.mk (blk_drew BK130.out)
                 replace BK135 := Aside0.mk (blk_drew BK135.out)
                 replace BK142 := Aside0.mk (blk_drew BK142.out)
                 replace HB := Aside0.mk (below_drew1 HB.out)
                 refine start_ (n := 15) (S := fun w' => w'.cell? ⟨gb116, 0, none⟩ = some (.int .i64 t112) ∧ w'.cell? ⟨gb116, 1, none⟩ = some (.int .i64 t113) ∧ w'.cell? ⟨gb116, 2, none⟩ = some (.int .i64 t114) ∧ w'.cell? ⟨gb116, 3, none⟩ = some (.int .i64 t115) ∧ w'.cell? ⟨gb116, 4, none⟩ = some (u117004) ∧ w'.cell? ⟨gb142, 0, none⟩ = some (.int .i64 t140) ∧ w'.cell? ⟨gb142, 1, none⟩ = some (.int .i64 t141)) (ds := [14]) #[false, false, false, false, false, false, false, false, false, false, false, false, false, false, false] (by kernel_rfl) rfl rfl ⟨bc BK116 0, bc BK116 1, bc BK116 2, bc BK116 3, bc BK116 4, bc BK142 0, bc BK142 1⟩ (fun hHeld => ?_); refine with_tabW z0_.tab18 z0_.bits18 (fun HT_ HW_ => ?_)
                 generalize w138.drew = w139 at HO_117004 HO_131001 HO145 BK104 BK105 BK106 BK111 BK116 BK130 BK135 BK142 HB hHeld ⊢
                 refine pA 0 142 HT_ ?_
                 refine pA 2 144 HT_ ?_
                 refine pA 3 145 HT_ ?_
                 refine pA 5 147 HT_ ?_
                 refine pA 7 149 HT_ ?_
                 refine tA 1 143 HT_ HW_ hHeld ?_
                 refine tA 6 148 HT_ HW_ hHeld ?_
                 refine tA 8 150 HT_ HW_ hHeld ?_
                 refine oneA (i := 4) (N := some 146) HT_ (fun K hK => ?_)
                 refine goesB Tryz.func15 #[.int .i64 (wrap64 (Int.tdiv (wrap64 ((wrap64 (20 + (wrap64 (rd l0 x11_1)))) * (wrap64 ((wrap64 (10 * (wrap64 (90 + (Int.tmod (wrap64 (a2_0)) 11))))) + (wrap64 (Int.tdiv (wrap64 ((wrap64 (t136 * 10)) * (wrap64 ((wrap64 (100 + (Int.tmod (wrap64 (a2_1)) 11))) - (wrap64 (90 + (Int.tmod (wrap64 (a2_0)) 11))))))) 255)))))) 1000)), .int .i64 (wrap64 (Int.tdiv (wrap64 ((wrap64 (20 + (wrap64 (rd l0 x11_1)))) * (wrap64 ((wrap64 (10 * (wrap64 (90 + (Int.tmod (wrap64 (a2_0)) 11))))) + (wrap64 (Int.tdiv (wrap64 ((wrap64 (t136 * 10)) * (wrap64 ((wrap64 (100 + (Int.tmod (wrap64 (a2_1)) 11))) - (wrap64 (90 + (Int.tmod (wrap64 (a2_0)) 11))))))) 255)))))) 1000))] ?_
                 with_reducible refine (z1_.calls (wrap64 (Int.tdiv (wrap64 ((wrap64 (20 + (wrap64 (rd l0 x11_1)))) * (wrap64 ((wrap64 (10 * (wrap64 (90 + (Int.tmod (wrap64 (a2_0)) 11))))) + (wrap64 (Int.tdiv (wrap64 ((wrap64 (t136 * 10)) * (wrap64 ((wrap64 (100 + (Int.tmod (wrap64 (a2_1)) 11))) - (wrap64 (90 + (Int.tmod (wrap64 (a2_0)) 11))))))) 255)))))) 1000)) (wrap64 (Int.tdiv (wrap64 ((wrap64 (20 + (wrap64 (rd l0 x11_1)))) * (wrap64 ((wrap64 (10 * (wrap64 (90 + (Int.tmod (wrap64 (a2_0)) 11))))) + (wrap64 (Int.tdiv (wrap64 ((wrap64 (t136 * 10)) * (wrap64 ((wrap64 (100 + (Int.tmod (wrap64 (a2_1)) 11))) - (wrap64 (90 + (Int.tmod (wrap64 (a2_0)) 11))))))) 255)))))) 1000)) t146 t147 _ A109.out).mono ?_
                 rintro e w140 ⟨rfl, hb⟩
                 refine ⟨_, rfl, ?_⟩
                 replace HO_117004 := rB HO_117004 hb
                 replace HO_131001 := rB HO_131001 hb
                 replace HO145 := rB HO145 hb
                 replace BK104 := kB BK104 hb
                 replace BK105 := kB BK105 hb
                 replace BK106 := kB BK106 hb
                 replace BK111 := kB BK111 hb
                 replace BK116 := kB BK116 hb
                 replace BK130 := kB BK130 hb
                 replace BK135 := kB BK135 hb
                 replace BK142 := kB BK142 hb
                 replace HB := bS HB hb
                 refine hK.out _ _ ⟨bc BK116 0, bc BK116 1, bc BK116 2, bc BK116 3, bc BK116 4, bc BK142 0, bc BK142 1⟩ (fun hHeld => ?_)
                 clear hK K
                 refine normA (N := some 146) ?_
                 refine oneA (i := 9) (N := some 151) HT_ (fun K hK => ?_)
                 refine goesB Tryz.func15 #[.int .i64 t141, .int .i64 t141] ?_
                 with_reducible refine (z1_.calls t141 t141 t148 t149 _ A110.out).mono ?_
                 rintro e w141 ⟨rfl, hb⟩
                 refine ⟨_, rfl, ?_⟩
                 replace HO_117004 := rB HO_117004 hb
                 replace HO_131001 := rB HO_131001 hb
                 replace HO145 := rB HO145 hb
                 replace BK104 := kB BK104 hb
                 replace BK105 := kB BK105 hb
                 replace BK106 := kB BK106 hb
                 replace BK111 := kB BK111 hb
                 replace BK116 := kB BK116 hb
                 replace BK130 := kB BK130 hb
                 replace BK135 := kB BK135 hb
                 replace BK142 := kB BK142 hb
                 replace HB := bS HB hb
                 refine hK.out _ _ ⟨bc BK116 0, bc BK116 1, bc BK116 2, bc BK116 3, bc BK116 4, bc BK142 0, bc BK142 1⟩ (fun hHeld => ?_)
                 clear hK K
                 refine normA (N := some 151) ?_
                 refine pA 10 152 HT_ ?_
                 refine oneA (i := 11) (N := some 153) HT_ (fun K hK => ?_)
                 refine value_ (w1 := ?_) (v := ?_) (by rfl) rfl ?_ ?_
                 rotate_left 2
                 ·go_simp
                  constructor
                  ·rfl
                  ·rfl
                 refine hK.out _ _ ⟨(blk_cell (blk_alloc BK116.out _) 0).trans rfl, (blk_cell (blk_alloc BK116.out _) 1).trans rfl, (blk_cell (blk_alloc BK116.out _) 2).trans rfl, (blk_cell (blk_alloc BK116.out _) 3).trans rfl, (blk_cell (blk_alloc BK116.out _) 4).trans rfl, (blk_cell (blk_alloc BK142.out _) 0).trans rfl, (blk_cell (blk_alloc BK142.out _) 1).trans rfl⟩ (fun hHeld => ?_)
                 clear hK K
                 refine normA (N := some 153) ?_
                 refine oneA (i := 12) (N := some 154) HT_ (fun K hK => ?_)
                 refine Kd.R_append_step k47 (w0 := w) w.heap.size (by rfl) (.tmp 143) (.tmp 153) 31 47 (.agg #[(.int .i64 0), (.int .i64 0), (.int .i64 0), (.int .i64 0)]) 32 rfl Tryz.underlying31 info47 rfl (by decide) (by omega) u117004 x117004_1 (⟨(⟨t146, t147⟩ : S30), (⟨t148, t149⟩ : S30)⟩ : S47) [.int .i64 t146, .int .i64 t147, .int .i64 t148, .int .i64 t149] (fun k_ => some k_ ≠ (.slice Ao136 y143.length co136 : Value).ownBlock) (fun _ => False) rfl rfl ?aP (fun _ hk => hk.elim) ?aF ?aO ?aB ?aS ?aL ?_
                 (case aP => exact k47_mkM _ _ _ (⟨(⟨t146, t147⟩ : S30), (⟨t148, t149⟩ : S30)⟩ : S47))
                 (case aB => exact (bX HB))
                 (case aF => exact (fun k_ hk => Kd.fresh' (Kd.R_lt (rX HO145.out)) k_ hk))
                 (case aO => exact (rX HO_117004.out))
                 (case aS => exact (below_size (bX HB)))
                 (case aL => have := LMc111.out; omega)
                 intro v151 w142 ho hb hg hat
                 rw [← Ny150.out] at ho
                 have n0_ := Aside0.mk (Kd.R_over' (rX HO_131001.out) (Kd.R_typed (rX HO_117004.out)) (by decide) hg)
                 have n1_ := Aside0.mk (blk_grown (g := gb104) (o := .cells #[.int .u8 a2_0, .int .u8 a2_1] 26 (0, 0)) (kX BK104.out) hg (Kd.R_ne HO_117004.out BK104.out (by decide)))
                 have n2_ := Aside0.mk (blk_grown (g := gb105) (o := .cells #[.int .i64 (wrap64 (90 + (Int.tmod (wrap64 (a2_0)) 11))), .int .i64 100] 67 (0, 0)) (kX BK105.out) hg (Kd.R_ne HO_117004.out BK105.out (by decide)))
                 have n3_ := Aside0.mk (blk_grown (g := gb106) (o := .cells #[.int .i64 (wrap64 (100 + (Int.tmod (wrap64 (a2_1)) 11))), .int .i64 100] 67 (0, 0)) (kX BK106.out) hg (Kd.R_ne HO_117004.out BK106.out (by decide)))
                 have n4_ := Aside0.mk (blk_grown (g := gb111) (o := .cells #[.int .i64 t107, .int .i64 t108, .int .i64 t109, .int .i64 t110, .slice Ao136 y143.length co136] 33 (0, 0)) (kX BK111.out) hg (Kd.R_ne HO_117004.out BK111.out (by decide)))
                 have n5_ := Aside0.mk (blk_grown (g := gb116) (o := .cells #[.int .i64 t112, .int .i64 t113, .int .i64 t114, .int .i64 t115, u117004] 33 (0, 0)) (kX BK116.out) hg (Kd.R_ne HO_117004.out BK116.out (by decide)))
                 have n6_ := Aside0.mk (blk_grown (g := gb130) (o := .cells #[.int .i64 t125, .slice (some ad134) t126.length co52] 58 (0, 0)) (kX BK130.out) hg (Kd.R_ne HO_117004.out BK130.out (by decide)))
                 have n7_ := Aside0.mk (blk_grown (g := gb135) (o := .cells #[.int .i64 ((rd_T55 t126 0).f1.f0), .int .i64 ((rd_T55 t126 0).f1.f1)] 30 (0, 0)) (kX BK135.out) hg (Kd.R_ne HO_117004.out BK135.out (by decide)))
                 have n8_ := Aside0.mk (blk_grown (g := gb142) (o := .cells #[.int .i64 t140, .int .i64 t141] 30 (0, 0)) (kX BK142.out) hg (Kd.R_ne HO_117004.out BK142.out (by decide)))
                 have n9_ := Aside0.mk (Kd.R_after (ok := (fun _ => True)) (rX (Kd.R_mono HO145.out (fun _ hk => ⟨trivial, hk⟩))) hg hat)
                 have n10_ := Aside0.mk (hb)
                 have n11_ := Aside0.mk (ho)
                 clear HO_131001
                 clear BK104
                 clear BK105
                 clear BK106
                 clear BK111
                 clear BK116
                 clear BK130
                 clear BK135
                 clear BK142
                 clear HO145
                 clear HB
                 clear HO_117004
                 have HO_131001 := n0_
                 have BK104 := n1_
                 have BK105 := n2_
                 have BK106 := n3_
                 have BK111 := n4_
                 have BK116 := n5_
                 have BK130 := n6_
                 have BK135 := n7_
                 have BK142 := n8_
                 have HO145 := n9_
                 have HB := n10_
                 have HO152 := n11_
                 clear n0_ n1_ n2_ n3_ n4_ n5_ n6_ n7_ n8_ n9_ n10_ n11_
                 clear ho hb hg hat
                 obtain ⟨Ao143, co143, eo143⟩ := Kd.R_slice HO152.out
                 (first | subst eo143 | (injection eo143 with f1_ f2_ f3_; have f4_ := f1_.symm; have f5_ := f3_.symm; clear f1_ f2_ f3_; subst f4_; subst f5_))
                 refine hK.out _ _ ⟨bc BK116 0, bc BK116 1, bc BK116 2, bc BK116 3, bc BK116 4, bc BK142 0, bc BK142 1⟩ (fun hHeld => ?_)
                 clear hK K
                 refine normA (N := some 154) ?_
                 refine pA 13 155 HT_ ?_
                 refine last_ (i := 14) (N := none) #[true, true, true, true, true, true, true, true, true, true, true, true, true, true, true] rfl rfl (one_of HT_.out (by kernel_rfl)) (by decide) (fun K hK => ?_)
                 have hs144 : w142.cell? ⟨gb116, 4, none⟩ = some (u117004) := bc BK116 4
                 have hfs144 := blk_frozen BK116.out 4
                 have hns144_0 := NB104_116.out
                 have hns144_1 := NB105_116.out
                 have hns144_2 := NB106_116.out
                 have hns144_3 := NB111_116.out
                 have hns144_5 := NB130_116.out
                 have hns144_6 := NB135_116.out
                 have hns144_7 := NB142_116.out
                 have hms144_0 := NB116_104.out
                 have hms144_1 := NB116_105.out
                 have hms144_2 := NB116_106.out
                 have hms144_3 := NB116_111.out
                 have hms144_5 := NB116_130.out
                 have hms144_6 := NB116_135.out
                 have hms144_7 := NB116_142.out
                 refine skip_ (w1 := ?_) (by rfl) rfl ?_ ?_
                 rotate_left
                 ·go_simp
                  rfl
                 refine hK.out _ _ ?_
                 clear hK K
                 refine done_ (done_of HT_.out (by kernel_rfl)) ?_
                 try go_wp2
                 go_roundg kj67
                 case measure => have := HK1.out; have := HJ31.out; have := HJ39.out; have := HJ67.out; omega
                 case rel => exact ⟨(wrap64 (x11_1 + 1)), (y143), (y150), (.slice Ao136 y143.length co136), (.slice Ao143 y150.length co143), eR, H', ⟨by have := HK1.out; have := HJ31.out; have := HJ39.out; have := HJ67.out; omega⟩, ⟨by (with_reducible repeat (first | apply Kd.R_alloc | apply Kd.R_drewN | apply Kd.R_drew)); exact Kd.R_mono (Kd.R_far (p := ⟨gb116, 4, none⟩) (Kd.R_types HO145.out BK116.out (by decide)) (fun _ hk => hk.2) (.slice Ao143 y150.length co143)) (fun _ hk => hk.1.2)⟩, ⟨by (with_reducible repeat (first | apply Kd.R_alloc | apply Kd.R_drewN | apply Kd.R_drew)); exact Kd.R_mono (Kd.R_far (p := ⟨gb116, 4, none⟩) (Kd.R_types HO152.out BK116.out (by decide)) (fun _ hk => hk.2) (.slice Ao143 y150.length co143)) (fun _ hk => hk.1)⟩, ⟨by (with_reducible repeat (first | refine blk_drewN ?_ _ | refine blk_drew ?_ | refine blk_alloc ?_ _)); refine blk_far ?_ NB104_116.out _; (with_reducible repeat (first | refine blk_drewN ?_ _ | refine blk_drew ?_ | refine blk_alloc ?_ _)); exact BK104.out⟩, ⟨by (with_reducible repeat (first | refine blk_drewN ?_ _ | refine blk_drew ?_ | refine blk_alloc ?_ _)); refine blk_far ?_ NB105_116.out _; (with_reducible repeat (first | refine blk_drewN ?_ _ | refine blk_drew ?_ | refine blk_alloc ?_ _)); exact BK105.out⟩, ⟨by (with_reducible repeat (first | refine blk_drewN ?_ _ | refine blk_drew ?_ | refine blk_alloc ?_ _)); refine blk_far ?_ NB106_116.out _; (with_reducible repeat (first | refine blk_drewN ?_ _ | refine blk_drew ?_ | refine blk_alloc ?_ _)); exact BK106.out⟩, ⟨by (with_reducible repeat (first | refine blk_drewN ?_ _ | refine blk_drew ?_ | refine blk_alloc ?_ _)); refine blk_far ?_ NB111_116.out _; (with_reducible repeat (first | refine blk_drewN ?_ _ | refine blk_drew ?_ | refine blk_alloc ?_ _)); exact BK111.out⟩, ⟨by (with_reducible repeat (first | refine blk_drewN ?_ _ | refine blk_drew ?_ | refine blk_alloc ?_ _)); refine blk_put (cs := #[.int .i64 t112, .int .i64 t113, .int .i64 t114, .int .i64 t115, u117004]) ?_ 4 _ rfl; (with_reducible repeat (first | refine blk_drewN ?_ _ | refine blk_drew ?_ | refine blk_alloc ?_ _)); exact BK116.out⟩, ⟨bX HB⟩⟩
                ·rw [if_neg c111] at H
                 exact absurd H (by simp)
               ·rw [if_neg c108] at H
                exact absurd H (by simp)
           ·rw [if_neg c66] at H
            exact absurd H (by simp)
       ·rw [if_neg c36] at H
        exact absurd H (by simp)
      ·rw [if_neg c35] at H
       exact absurd H (by simp)
     ·replace c34 := Bool.eq_false_iff.mpr c34
      subst c34
      have H1 : ((z23_.f t107 t108 t109 t110 x112004_1).bind fun bt153 => ((z23_.f t112 t113 t114 t115 x117004_1).bind fun bt157 => ((z10_.f t112 t113 t114 t115 x117004_1 t107 t108 t109 t110 x112004_1).bind fun bt161 => (if bt153.2.2 = 0 then (if bt157.2.2 = 0 then (if bt161.2 = 0 then (if bt157.1 = bt157.2.1 then ((z32_.f kj31 bt157.1 bt153.1 bt153.2.1).bind fun t163 => (if t163 = true then (if bt161.1 = 3 then ((z3_.f).bind fun t164 => (z0_.j4 kj31 t164)) else (z0_.j4 kj31 false)) else (z0_.j4 kj31 false))) else (z0_.j4 kj31 false)) else (z0_.j4 kj31 false)) else (z0_.j4 kj31 false)) else (z0_.j4 kj31 false))))) = some true := by rw [if_neg (show ¬ (false = true) by decide)] at H; exact H
      clear H
      have H := H1
      clear H1
      replace H := bindA H
      obtain ⟨⟨t153, t154, t155⟩, A145, H⟩ := H
      try dsimp only at H
      replace H := bindA H
      obtain ⟨⟨t157, t158, t159⟩, A146, H⟩ := H
      try dsimp only at H
      replace H := bindA H
      obtain ⟨⟨t161, t162⟩, A147, H⟩ := H
      try dsimp only at H
      have HC148 := Aside0.mk H
      clear H
      obtain ⟨hnb149, hnc149⟩ := nn NB111_104
      obtain ⟨hnb150, hnc150⟩ := nn NB111_105
      obtain ⟨hnb151, hnc151⟩ := nn NB111_106
      obtain ⟨hnb152, hnc152⟩ := nn NB111_116
      obtain ⟨hcz153_0, hcz153_1, hcz153_2, hcz153_3, hcz153_4, hfz153_0, hfz153_1, hfz153_2, hfz153_3, hfz153_4⟩ := cc5 BK111
      obtain ⟨Ao154, co154, eo154⟩ := Kd.R_slice HO_112004.out
      subst eo154
      go_upto_region 22 with (first | ((with_reducible refine gate_callee (f := 13) rfl ?_); refine goesA (some 158) Tryz.func13 #[.agg #[.int .i64 t107, .int .i64 t108, .int .i64 t109, .int .i64 t110, .slice Ao154 x112004_1.length co154]] ?_; (with_reducible refine (z23_.calls t107 t108 t109 t110 _ _ x112004_1 t153 t154 t155 _ ?side1 ?side2 A145.out).mono ?_); (case side1 => exact sX (Kd.R_reads' HO_112004.out).2.2); (case side2 => exact (Kd.R_reads' HO_112004.out).2.1); rintro e w155 ⟨rfl, hb⟩; refine ⟨_, rfl, ?_⟩; replace HO_112004 := rB HO_112004 hb; replace HO_117004 := rB HO_117004 hb; replace BK104 := kB BK104 hb; replace BK105 := kB BK105 hb; replace BK106 := kB BK106 hb; replace BK111 := kB BK111 hb; replace BK116 := kB BK116 hb; replace HB := bS HB hb) | ((with_reducible refine gate_dst (N := 19) rfl ?_); (try (refine gate_guard (by rfl) ?_; dsimp only)); refine boxA (N := 19) (cs := #[.int .i64 0, .int .i64 0]) (t := 30) ?_; intro gb156 hg w156 hbox hb; have BK156 := Aside0.mk (hbox); have GE156 := bG HB hg; have NB104_156 := kN BK104 hg; have NB156_104 := kM BK104 hg; have NB105_156 := kN BK105 hg; have NB156_105 := kM BK105 hg; have NB106_156 := kN BK106 hg; have NB156_106 := kM BK106 hg; have NB111_156 := kN BK111 hg; have NB156_111 := kM BK111 hg; have NB116_156 := kN BK116 hg; have NB156_116 := kM BK116 hg; replace HO_112004 := rB HO_112004 hb; replace HO_117004 := rB HO_117004 hb; replace BK104 := kB BK104 hb; replace BK105 := kB BK105 hb; replace BK106 := kB BK106 hb; replace BK111 := kB BK111 hb; replace BK116 := kB BK116 hb; replace HB := bS HB hb; clear hb hbox hg; obtain ⟨hnb157, hnc157⟩ := nn NB156_104; obtain ⟨hnb158, hnc158⟩ := nn NB156_105; obtain ⟨hnb159, hnc159⟩ := nn NB156_106; obtain ⟨hnb160, hnc160⟩ := nn NB156_111; obtain ⟨hnb161, hnc161⟩ := nn NB156_116; obtain ⟨hcz162_0, hcz162_1, hfz162_0, hfz162_1⟩ := cc2 BK156; obtain ⟨hnb163, hnc163⟩ := nn NB116_104; obtain ⟨hnb164, hnc164⟩ := nn NB116_105; obtain ⟨hnb165, hnc165⟩ := nn NB116_106; obtain ⟨hcz166_0, hcz166_1, hcz166_2, hcz166_3, hcz166_4, hfz166_0, hfz166_1, hfz166_2, hfz166_3, hfz166_4⟩ := cc5 BK116; obtain ⟨Ao167, co167, eo167⟩ := Kd.R_slice HO_117004.out; subst eo167) | ((with_reducible refine gate_callee (f := 13) rfl ?_); refine goesA (some 163) Tryz.func13 #[.agg #[.int .i64 t112, .int .i64 t113, .int .i64 t114, .int .i64 t115, .slice Ao167 x117004_1.length co167]] ?_; (with_reducible refine (z23_.calls t112 t113 t114 t115 _ _ x117004_1 t157 t158 t159 _ ?side1 ?side2 A146.out).mono ?_); (case side1 => refine (Kd.R_reads' (e := 47) (base := w.heap.size) (ok := fun k_ => some k_ ≠ (.slice Ao154 x112004_1.length co154 : Value).ownBlock) (n := x117004_1.length) (c := co167) ?_).2.2; exact (rX (Kd.R_mono (Kd.R_far (p := ⟨gb156, 1, none⟩) (Kd.R_far (p := ⟨gb156, 0, none⟩) (Kd.R_types HO_117004.out BK156.out (by decide)) (fun _ hk => hk.2) (.int .i64 t153)) (fun _ hk => hk.2) (.int .i64 t154)) (fun _ h_ => h_.1)))); (case side2 => exact (Kd.R_reads' HO_117004.out).2.1); rintro e w168 ⟨rfl, hb⟩; refine ⟨_, rfl, ?_⟩; replace HO_112004 := Aside0.mk (Kd.R_below (rX (Kd.R_mono (Kd.R_far (p := ⟨gb156, 1, none⟩) (Kd.R_far (p := ⟨gb156, 0, none⟩) (Kd.R_types HO_112004.out BK156.out (by decide)) (fun _ hk => hk.2) (.int .i64 t153)) (fun _ hk => hk.2) (.int .i64 t154)) (fun _ h_ => h_.1))) hb); replace HO_117004 := Aside0.mk (Kd.R_below (rX (Kd.R_mono (Kd.R_far (p := ⟨gb156, 1, none⟩) (Kd.R_far (p := ⟨gb156, 0, none⟩) (Kd.R_types HO_117004.out BK156.out (by decide)) (fun _ hk => hk.2) (.int .i64 t153)) (fun _ hk => hk.2) (.int .i64 t154)) (fun _ h_ => h_.1))) hb); replace BK104 := Aside0.mk (blk_below (kF BK104 NB104_156) hb); replace BK105 := Aside0.mk (blk_below (kF BK105 NB105_156) hb); replace BK106 := Aside0.mk (blk_below (kF BK106 NB106_156) hb); replace BK111 := Aside0.mk (blk_below (kF BK111 NB111_156) hb); replace BK116 := Aside0.mk (blk_below (kF BK116 NB116_156) hb); replace BK156 := Aside0.mk (blk_below (g := gb156) (o := .cells #[.int .i64 t153, .int .i64 t154] 30 (0, 0)) (kP BK156) hb); replace HB := bS HB hb) | ((with_reducible refine gate_dst (N := 21) rfl ?_); (try (refine gate_guard (by rfl) ?_; dsimp only)); refine boxA (N := 21) (cs := #[.int .i64 0, .int .i64 0]) (t := 30) ?_; intro gb160 hg w169 hbox hb; have BK160 := Aside0.mk (hbox); have GE160 := bG HB hg; have NB104_160 := kN BK104 hg; have NB160_104 := kM BK104 hg; have NB105_160 := kN BK105 hg; have NB160_105 := kM BK105 hg; have NB106_160 := kN BK106 hg; have NB160_106 := kM BK106 hg; have NB111_160 := kN BK111 hg; have NB160_111 := kM BK111 hg; have NB116_160 := kN BK116 hg; have NB160_116 := kM BK116 hg; have NB156_160 := kN BK156 hg; have NB160_156 := kM BK156 hg; replace HO_112004 := rB HO_112004 hb; replace HO_117004 := rB HO_117004 hb; replace BK104 := kB BK104 hb; replace BK105 := kB BK105 hb; replace BK106 := kB BK106 hb; replace BK111 := kB BK111 hb; replace BK116 := kB BK116 hb; replace BK156 := kB BK156 hb; replace HB := bS HB hb; clear hb hbox hg; obtain ⟨hnb170, hnc170⟩ := nn NB160_104; obtain ⟨hnb171, hnc171⟩ := nn NB160_105; obtain ⟨hnb172, hnc172⟩ := nn NB160_106; obtain ⟨hnb173, hnc173⟩ := nn NB160_111; obtain ⟨hnb174, hnc174⟩ := nn NB160_116; obtain ⟨hnb175, hnc175⟩ := nn NB160_156; obtain ⟨hcz176_0, hcz176_1, hfz176_0, hfz176_1⟩ := cc2 BK160; obtain ⟨hcz177_0, hcz177_1, hcz177_2, hcz177_3, hcz177_4, hfz177_0, hfz177_1, hfz177_2, hfz177_3, hfz177_4⟩ := cc5 BK116; obtain ⟨hcz178_0, hcz178_1, hcz178_2, hcz178_3, hcz178_4, hfz178_0, hfz178_1, hfz178_2, hfz178_3, hfz178_4⟩ := cc5 BK111) | ((with_reducible refine gate_callee (f := 23) rfl ?_); refine goesA (some 169) Tryz.func23 #[.agg #[.int .i64 t112, .int .i64 t113, .int .i64 t114, .int .i64 t115, .slice Ao167 x117004_1.length co167], .agg #[.int .i64 t107, .int .i64 t108, .int .i64 t109, .int .i64 t110, .slice Ao154 x112004_1.length co154]] ?_; (with_reducible refine (z10_.calls t112 t113 t114 t115 _ _ x117004_1 t107 t108 t109 t110 _ _ x112004_1 t161 t162 _ ?side1 ?side2 ?side3 ?side4 A147.out).mono ?_); (case side1 => refine (Kd.R_reads' (e := 47) (base := w.heap.size) (ok := fun k_ => some k_ ≠ (.slice Ao154 x112004_1.length co154 : Value).ownBlock) (n := x117004_1.length) (c := co167) ?_).2.2; exact (rX (Kd.R_mono (Kd.R_far (p := ⟨gb160, 1, none⟩) (Kd.R_far (p := ⟨gb160, 0, none⟩) (Kd.R_types HO_117004.out BK160.out (by decide)) (fun _ hk => hk.2) (.int .i64 t157)) (fun _ hk => hk.2) (.int .i64 t158)) (fun _ h_ => h_.1)))); (case side2 => exact (Kd.R_reads' HO_117004.out).2.1); (case side3 => refine (Kd.R_reads' (e := 47) (base := w.heap.size) (ok := fun k_ => some k_ ≠ (.slice Ao167 x117004_1.length co167 : Value).ownBlock) (n := x112004_1.length) (c := co154) ?_).2.2; exact (rX (Kd.R_mono (Kd.R_far (p := ⟨gb160, 1, none⟩) (Kd.R_far (p := ⟨gb160, 0, none⟩) (Kd.R_types HO_112004.out BK160.out (by decide)) (fun _ hk => hk.2) (.int .i64 t157)) (fun _ hk => hk.2) (.int .i64 t158)) (fun _ h_ => h_.1)))); (case side4 => exact (Kd.R_reads' HO_112004.out).2.1); rintro e w179 ⟨rfl, hb⟩; refine ⟨_, rfl, ?_⟩; replace HO_112004 := Aside0.mk (Kd.R_below (rX (Kd.R_mono (Kd.R_far (p := ⟨gb160, 1, none⟩) (Kd.R_far (p := ⟨gb160, 0, none⟩) (Kd.R_types HO_112004.out BK160.out (by decide)) (fun _ hk => hk.2) (.int .i64 t157)) (fun _ hk => hk.2) (.int .i64 t158)) (fun _ h_ => h_.1))) hb); replace HO_117004 := Aside0.mk (Kd.R_below (rX (Kd.R_mono (Kd.R_far (p := ⟨gb160, 1, none⟩) (Kd.R_far (p := ⟨gb160, 0, none⟩) (Kd.R_types HO_117004.out BK160.out (by decide)) (fun _ hk => hk.2) (.int .i64 t157)) (fun _ hk => hk.2) (.int .i64 t158)) (fun _ h_ => h_.1))) hb); replace BK104 := Aside0.mk (blk_below (kF BK104 NB104_160) hb); replace BK105 := Aside0.mk (blk_below (kF BK105 NB105_160) hb); replace BK106 := Aside0.mk (blk_below (kF BK106 NB106_160) hb); replace BK111 := Aside0.mk (blk_below (kF BK111 NB111_160) hb); replace BK116 := Aside0.mk (blk_below (kF BK116 NB116_160) hb); replace BK156 := Aside0.mk (blk_below (kF BK156 NB156_160) hb); replace BK160 := Aside0.mk (blk_below (g := gb160) (o := .cells #[.int .i64 t157, .int .i64 t158] 30 (0, 0)) (kP BK160) hb); replace HB := bS HB hb))
      (try simp only [Act.put, List.setIfInBounds_toArray, List.set_cons_zero, List.set_cons_succ])
      go_cut [6] (fun v6 wc => ∃ (kq : Nat) (x6_147 : Bool), v6 = .bool x6_147 ∧ Aside0 (z0_.j4 kq x6_147 = some true) ∧ Aside0 (kq ≤ kj31) ∧ Aside0 (Kd.R k47 47 wc w.heap.size (fun k_ => some k_ ≠ ((.slice Ao167 x117004_1.length co167) : Value).ownBlock) (.slice Ao154 x112004_1.length co154) x112004_1) ∧ Aside0 (Kd.R k47 47 wc w.heap.size (fun k_ => some k_ ≠ ((.slice Ao154 x112004_1.length co154) : Value).ownBlock) (.slice Ao167 x117004_1.length co167) x117004_1) ∧ Aside0 (wc.heap[gb104]? = some (.cells #[.int .u8 a2_0, .int .u8 a2_1] 26 (0, 0))) ∧ Aside0 (wc.heap[gb105]? = some (.cells #[.int .i64 (wrap64 (90 + (Int.tmod (wrap64 (a2_0)) 11))), .int .i64 100] 67 (0, 0))) ∧ Aside0 (wc.heap[gb106]? = some (.cells #[.int .i64 (wrap64 (100 + (Int.tmod (wrap64 (a2_1)) 11))), .int .i64 100] 67 (0, 0))) ∧ Aside0 (wc.heap[gb111]? = some (.cells #[.int .i64 t107, .int .i64 t108, .int .i64 t109, .int .i64 t110, (.slice Ao154 x112004_1.length co154)] 33 (0, 0))) ∧ Aside0 (wc.heap[gb116]? = some (.cells #[.int .i64 t112, .int .i64 t113, .int .i64 t114, .int .i64 t115, (.slice Ao167 x117004_1.length co167)] 33 (0, 0))) ∧ Aside0 (wc.heap[gb156]? = some (.cells #[.int .i64 t153, .int .i64 t154] 30 (0, 0))) ∧ Aside0 (wc.heap[gb160]? = some (.cells #[.int .i64 t157, .int .i64 t158] 30 (0, 0))) ∧ Aside0 (Below w.heap.size w wc))
      case first =>
       have H := HC148.out
       clear HC148
       by_cases c180 : t155 = 0
       ·rw [if_pos c180] at H
        have c180b0 : (t155 == 0) = true := beq_iff_eq.mpr c180
        have c180b1 : (t155 != 0) = false := bne_eq_false_iff_eq.mpr c180
        clear c180
        (first | rw [c180b0] | (simp only [i64_w, i32_w]; rw [c180b0]) | skip)
        by_cases c181 : t159 = 0
        ·rw [if_pos c181] at H
         have c181b0 : (t159 == 0) = true := beq_iff_eq.mpr c181
         have c181b1 : (t159 != 0) = false := bne_eq_false_iff_eq.mpr c181
         clear c181
         by_cases c182 : t162 = 0
         ·rw [if_pos c182] at H
          have c182b0 : (t162 == 0) = true := beq_iff_eq.mpr c182
          have c182b1 : (t162 != 0) = false := bne_eq_false_iff_eq.mpr c182
          clear c182
          by_cases c183 : t157 = t158
          ·rw [if_pos c183] at H
           have c183b0 : (t157 == t158) = true := beq_iff_eq.mpr c183
           have c183b1 : (t157 != t158) = false := bne_eq_false_iff_eq.mpr c183
           clear c183
           replace H := bindA H
           obtain ⟨t163, A184, H⟩ := H
           try dsimp only at H
           by_cases c185 : t163 = true
           ·subst c185
            have H1 : (if t161 = 3 then ((z3_.f).bind fun t164 => (z0_.j4 kj31 t164)) else (z0_.j4 kj31 false)) = some true := by rw [if_pos rfl] at H; exact H
            clear H
            have H := H1
            clear H1
            by_cases c186 : t161 = 3
            ·rw [if_pos c186] at H
             have c186b0 : (t161 == 3) = true := beq_iff_eq.mpr c186
             have c186b1 : (t161 != 3) = false := bne_eq_false_iff_eq.mpr c186
             clear c186
             replace H := bindA H
             obtain ⟨t164, A187, H⟩ := H
             try dsimp only at H
             have H' := Aside0.mk H
             clear H
             obtain ⟨hnb188, hnc188⟩ := nn NB160_104
             obtain ⟨hnb189, hnc189⟩ := nn NB160_105
             obtain ⟨hnb190, hnc190⟩ := nn NB160_106
             obtain ⟨hnb191, hnc191⟩ := nn NB160_111
             obtain ⟨hnb192, hnc192⟩ := nn NB160_116
             obtain ⟨hnb193, hnc193⟩ := nn NB160_156
             obtain ⟨hcz194_0, hcz194_1, hfz194_0, hfz194_1⟩ := cc2 BK160
             obtain ⟨hnb195, hnc195⟩ := nn NB156_104
             obtain ⟨hnb196, hnc196⟩ := nn NB156_105
             obtain ⟨hnb197, hnc197⟩ := nn NB156_106
             obtain ⟨hnb198, hnc198⟩ := nn NB156_111
             obtain ⟨hnb199, hnc199⟩ := nn NB156_116
             obtain ⟨hcz200_0, hcz200_1, hfz200_0, hfz200_1⟩ := cc2 BK156
             go_wp2_with (first | (go_at_call 22; (with_reducible refine (z32_.calls kj31 t157 t153 t154 true _ A184.out).mono ?_); rintro e w201 ⟨rfl, hb⟩; replace HO_112004 := rB HO_112004 hb; replace HO_117004 := rB HO_117004 hb; replace BK104 := kB BK104 hb; replace BK105 := kB BK105 hb; replace BK106 := kB BK106 hb; replace BK111 := kB BK111 hb; replace BK116 := kB BK116 hb; replace BK156 := kB BK156 hb; replace BK160 := kB BK160 hb; replace HB := bS HB hb) | (go_at_call 9; (with_reducible refine (z3_.calls  t164 _ A187.out (Tabs.below HT.out (bX HB))).mono ?_); rintro e w202 ⟨rfl, hb⟩; replace HO_112004 := rB HO_112004 hb; replace HO_117004 := rB HO_117004 hb; replace BK104 := kB BK104 hb; replace BK105 := kB BK105 hb; replace BK106 := kB BK106 hb; replace BK111 := kB BK111 hb; replace BK116 := kB BK116 hb; replace BK156 := kB BK156 hb; replace BK160 := kB BK160 hb; replace HB := bS HB hb))
             go_meet
             case rel => exact ⟨_, (t164), eR, H', ⟨by have := HK1.out; have := HJ31.out; first | omega | exact Nat.le_refl _⟩, ⟨rX HO_112004.out⟩, ⟨rX HO_117004.out⟩, ⟨kX BK104.out⟩, ⟨kX BK105.out⟩, ⟨kX BK106.out⟩, ⟨kX BK111.out⟩, ⟨kX BK116.out⟩, ⟨kX BK156.out⟩, ⟨kX BK160.out⟩, ⟨bX HB⟩⟩
            ·rw [if_neg c186] at H
             have c186b0 : (t161 == 3) = false := beq_eq_false_iff_ne.mpr c186
             have c186b1 : (t161 != 3) = true := bne_iff_ne.mpr c186
             exact (z0_.j4_dead H).elim
           ·replace c185 := Bool.eq_false_iff.mpr c185
            subst c185
            have H1 : (z0_.j4 kj31 false) = some true := by rw [if_neg (show ¬ (false = true) by decide)] at H; exact H
            clear H
            have H := H1
            clear H1
            exact (z0_.j4_dead H).elim
          ·rw [if_neg c183] at H
           have c183b0 : (t157 == t158) = false := beq_eq_false_iff_ne.mpr c183
           have c183b1 : (t157 != t158) = true := bne_iff_ne.mpr c183
           exact (z0_.j4_dead H).elim
         ·rw [if_neg c182] at H
          have c182b0 : (t162 == 0) = false := beq_eq_false_iff_ne.mpr c182
          have c182b1 : (t162 != 0) = true := bne_iff_ne.mpr c182
          exact (z0_.j4_dead H).elim
        ·rw [if_neg c181] at H
         have c181b0 : (t159 == 0) = false := beq_eq_false_iff_ne.mpr c181
         have c181b1 : (t159 != 0) = true := bne_iff_ne.mpr c181
         exact (z0_.j4_dead H).elim
       ·rw [if_neg c180] at H
        have c180b0 : (t155 == 0) = false := beq_eq_false_iff_ne.mpr c180
        have c180b1 : (t155 != 0) = true := bne_iff_ne.mpr c180
        (first | rw [c180b0] | (simp only [i64_w, i32_w]; rw [c180b0]) | skip)
        exact (z0_.j4_dead H).elim
      case rest =>
       clear HC148
       try clear p2
       try clear p6
       try clear p64
       try clear c180b0
       try clear c180b1
       try clear c181b0
       try clear c181b1
       try clear c182b0
       try clear c182b1
       try clear c183b0
       try clear c183b1
       try clear c186b0
       try clear c186b1
       try clear hcz153_0 hcz153_1 hcz153_2 hcz153_3 hcz153_4 hfz153_0 hfz153_1 hfz153_2 hfz153_3 hfz153_4
       try clear hcz162_0 hcz162_1 hfz162_0 hfz162_1
       try clear hcz166_0 hcz166_1 hcz166_2 hcz166_3 hcz166_4 hfz166_0 hfz166_1 hfz166_2 hfz166_3 hfz166_4
       try clear hcz176_0 hcz176_1 hfz176_0 hfz176_1
       try clear hcz177_0 hcz177_1 hcz177_2 hcz177_3 hcz177_4 hfz177_0 hfz177_1 hfz177_2 hfz177_3 hfz177_4
       try clear hcz178_0 hcz178_1 hcz178_2 hcz178_3 hcz178_4 hfz178_0 hfz178_1 hfz178_2 hfz178_3 hfz178_4
       try clear hcz194_0 hcz194_1 hfz194_0 hfz194_1
       try clear hcz200_0 hcz200_1 hfz200_0 hfz200_1
       try clear hcz209_0 hcz209_1 hfz209_0 hfz209_1
       try clear hcz215_0 hcz215_1 hfz215_0 hfz215_1
       try clear hcz223_0 hcz223_1 hfz223_0 hfz223_1
       try clear hcz229_0 hcz229_1 hfz229_0 hfz229_1
       try clear hcz237_0 hcz237_1 hfz237_0 hfz237_1
       obtain ⟨kq, x6_147, rfl, HA, HJ147, HO_112004, HO_117004, BK104, BK105, BK106, BK111, BK116, BK156, BK160, HB⟩ := hcut
       cases kq with
       | zero => exact absurd HA.out (by simp [z0_.j4])
       | succ kj147 =>
        have H := HA.out
        clear HA
        simp only [z0_.j4] at H
        obtain rfl := Option.some.inj H
        go_wp2
        go_ret
        exact ⟨eqA, bX HB⟩
end PWef
end Go.Proofs.YtgdkmadcegleiaaGreatDoor
namespace Go.Proofs.YtgdkmadcegleiaaGreatDoor
namespace PWef
open X Z
attribute [local go_sem] max2_int min2_int max_two min_two max_three min_three max_four min_four   -- for this text's walks alone
end PWef
end Go.Proofs.YtgdkmadcegleiaaGreatDoor
namespace Go.Proofs.YtgdkmadcegleiaaGreatDoor
namespace Wef
open X Z Arc PWef
structure Q where
  lo : Int
  hi : Int
  n : Int
  f : Int
def Good (q : Q) : Prop := 0 ≤ q.lo ∧ q.lo ≤ q.n ∧ q.n ≤ q.hi ∧ q.hi ≤ 1000 ∧ 0 ≤ q.f ∧ q.f ≤ 100
def xg (q : Q) : Gap := ⟨⟨q.lo, q.hi⟩, ⟨q.f, q.f + 1⟩⟩
def yg (q : Q) : Gap := ⟨⟨q.n, q.n⟩, ⟨q.f + 1, q.f + 1⟩⟩
theorem rd_map (h : Q → Gap) (l : List Q) (j : Nat) (hj : j < l.length) : rdg (l.map h) j = h (l[j]'hj) := by
  unfold rdg rd_T47
  rw [Int.toNat_natCast, List.getD_eq_getElem?_getD, List.getElem?_eq_getElem (by rw [List.length_map]; exact hj), List.getElem_map]
  rfl
theorem low_x (q : Q) : con 73 1000 50 (xg q) = mn (q.lo * 50) (q.f * 1000) := rfl
theorem high_x (q : Q) : con 74 900 40 (xg q) = mn (q.hi * 40) ((q.f + 1) * 900) := rfl
theorem low_y (q : Q) : con 73 950 45 (yg q) = mn (q.n * 45) ((q.f + 1) * 950) := rfl
theorem fine_x {q : Q} (h : Good q) : Fine 73 (xg q) ∧ Fine 74 (xg q) := by
  obtain ⟨h0, h1, h2, h3, h4, h5⟩ := h
  constructor
  · show 0 ≤ q.lo ∧ q.lo ≤ 1000 ∧ 0 ≤ q.f ∧ q.f ≤ 1000
    omega
  · show 0 ≤ q.hi ∧ q.hi ≤ 1000 ∧ 0 ≤ q.f + 1 ∧ q.f + 1 ≤ 1000
    omega
theorem fine_y {q : Q} (h : Good q) : Fine 73 (yg q) ∧ Fine 74 (yg q) := by
  obtain ⟨h0, h1, h2, h3, h4, h5⟩ := h
  constructor
  · show 0 ≤ q.n ∧ q.n ≤ 1000 ∧ 0 ≤ q.f + 1 ∧ q.f + 1 ≤ 1000
    omega
  · show 0 ≤ q.n ∧ q.n ≤ 1000 ∧ 0 ≤ q.f + 1 ∧ q.f + 1 ≤ 1000
    omega
theorem pre_le {c c' : Nat → Int} {a b : Int} : ∀ n : Nat, (∀ j, j < n → c j * a ≤ c' j * b) → pre c n * a ≤ pre c' n * b := by
  intro n
  induction n with
  | zero => intro _; simp [pre]
  | succ n ih =>
    intro h
    have h1 := ih (fun j hj => h j (by omega))
    have h2 := h n (by omega)
    show (pre c n + c n) * a ≤ (pre c' n + c' n) * b
    rw [Int.add_mul, Int.add_mul]
    exact Int.add_le_add h1 h2
theorem gap_x {q : Q} (h : Good q) : gapBad (xg q) = false := by
  obtain ⟨h0, h1, h2, h3, h4, h5⟩ := h
  show (!(spanB q.lo q.hi 0 1000) || !(spanB q.f (q.f + 1) 0 500)) = false
  unfold spanB
  simp only [Bool.or_eq_false_iff, Bool.not_eq_false', Bool.and_eq_true, decide_eq_true_eq]
  omega
theorem gap_y {q : Q} (h : Good q) : gapBad (yg q) = false := by
  obtain ⟨h0, h1, h2, h3, h4, h5⟩ := h
  show (!(spanB q.n q.n 0 1000) || !(spanB (q.f + 1) (q.f + 1) 0 500)) = false
  unfold spanB
  simp only [Bool.or_eq_false_iff, Bool.not_eq_false', Bool.and_eq_true, decide_eq_true_eq]
  omega
theorem any_map (h : Q → Gap) (l : List Q) (hg : ∀ q ∈ l, gapBad (h q) = false) : (l.map h).any gapBad = false := by
  rw [List.any_eq_false]
  intro x hx
  obtain ⟨q, hq, rfl⟩ := List.mem_map.1 hx
  rw [hg q hq]
  decide
theorem check_y (l : List Gap) (hl : l.length ≤ 40) (hb : l.any gapBad = false) : Y.z5_.f 950 950 45 45 l = some 0 := by
  unfold Y.z5_.f PRck.z5_.f
  have e1 : X.z18_.f 950 950 1 5000 = some true := by decide +kernel
  have e2 : X.z18_.f 45 45 1 5000 = some true := by decide +kernel
  rw [e1, e2]
  simp only [Option.bind_some, if_true]
  simp only [PRck.z5_.j0]
  have e3 : decide ((45 : Int) ≥ 950) = false := by decide
  have e4 : Yc.z22_.f l 50 = some false := by
    unfold Yc.z22_.f
    rw [if_pos rfl, hb]
  rw [e3, if_neg (by decide), if_neg (by omega)]
  rw [e4]
  rfl
theorem Opens_of {f0 f1 n0 n1 a b : Int} {l : List Gap} (hc : Y.z5_.f f0 f1 n0 n1 l = some 0) (ho : Y.z12_.f f0 f1 n0 n1 l = some (a, b)) : z23_.f f0 f1 n0 n1 l = some (a, b, 0) := by
  show PRst.z23_.f f0 f1 n0 n1 l = _
  unfold PRst.z23_.f
  show (Y.z5_.f f0 f1 n0 n1 l).bind _ = _
  rw [hc]
  simp only [Option.bind_some, if_true]
  show (Y.z12_.f f0 f1 n0 n1 l).bind _ = _
  rw [ho]
  rfl
theorem case1 {q : Q} (h : Good q) : mn (q.lo * 50) (q.f * 1000) * (950 * 45) ≤ mn (q.n * 45) ((q.f + 1) * 950) * (1000 * 50) := by
  obtain ⟨h0, h1, h2, h3, h4, h5⟩ := h
  unfold mn
  split <;> split <;> omega
theorem case2 {q : Q} (h : Good q) : mn (q.n * 45) ((q.f + 1) * 950) * (900 * 40) ≤ mn (q.hi * 40) ((q.f + 1) * 900) * (950 * 45) := by
  obtain ⟨h0, h1, h2, h3, h4, h5⟩ := h
  unfold mn
  split <;> split <;> omega
theorem both (l : List Q) (hl : l.length ≤ 10) (hg : ∀ q ∈ l, Good q) : ∃ a b t : Int,
    z23_.f 900 1000 40 50 (l.map xg) = some (a, b, 0) ∧ z23_.f 950 950 45 45 (l.map yg) = some (t, t, 0) ∧ a ≤ t ∧ t ≤ b ∧
    z10_.f 950 950 45 45 (l.map yg) 900 1000 40 50 (l.map xg) = some (3, 0) := by
  have hx : Y.z5_.f 900 1000 40 50 (l.map xg) = some 0 := check_ok _ (by rw [List.length_map]; omega) (any_map xg l (fun q hq => gap_x (hg q hq)))
  have hy : Y.z5_.f 950 950 45 45 (l.map yg) = some 0 := check_y _ (by rw [List.length_map]; omega) (any_map yg l (fun q hq => gap_y (hg q hq)))
  have gx : ∀ j : Nat, j < (l.map xg).length → ∃ q, Good q ∧ rdg (l.map xg) j = xg q ∧ rdg (l.map yg) j = yg q := by
    intro j hj
    rw [List.length_map] at hj
    exact ⟨l[j], hg _ (List.getElem_mem hj), rd_map xg l j hj, rd_map yg l j hj⟩
  obtain ⟨⟨u1, v1, e1, a1, a2, a3, a4, a5⟩, ⟨u2, v2, e2, b1, b2, b3, b4, b5⟩, ox⟩ := opens_con (f0 := 900) (f1 := 1000) (n0 := 40) (n1 := 50) (by omega) (by omega) (by omega) (by omega) (by omega) (by omega) (by omega) (by omega) (l.map xg)
    (fun j => con 73 1000 50 (rdg (l.map xg) j)) (fun j => con 74 900 40 (rdg (l.map xg) j)) (by rw [List.length_map]; omega)
    (fun j hj => by obtain ⟨q, h, ex, _⟩ := gx j hj; exact ⟨ex ▸ (fine_x h).1, rfl⟩) (fun j hj => by obtain ⟨q, h, ex, _⟩ := gx j hj; exact ⟨ex ▸ (fine_x h).2, rfl⟩)
  obtain ⟨⟨u3, v3, e3, c1, c2, c3, c4, c5⟩, ⟨u4, v4, e4, d1, d2, d3, d4, d5⟩, oy⟩ := opens_con (f0 := 950) (f1 := 950) (n0 := 45) (n1 := 45) (by omega) (by omega) (by omega) (by omega) (by omega) (by omega) (by omega) (by omega) (l.map yg)
    (fun j => con 73 950 45 (rdg (l.map yg) j)) (fun j => con 73 950 45 (rdg (l.map yg) j)) (by rw [List.length_map]; omega)
    (fun j hj => by obtain ⟨q, h, _, ey⟩ := gx j (by rw [List.length_map] at *; exact hj); exact ⟨ey ▸ (fine_y h).1, rfl⟩) (fun j hj => by obtain ⟨q, h, _, ey⟩ := gx j (by rw [List.length_map] at *; exact hj); exact ⟨ey ▸ (fine_y h).2, by rw [ey]; rfl⟩)
  rw [List.length_map] at a5 b5 c5 d5 ox oy
  have le1 : pre (fun j => con 73 1000 50 (rdg (l.map xg) j)) l.length * (950 * 45) ≤ pre (fun j => con 73 950 45 (rdg (l.map yg) j)) l.length * (1000 * 50) :=
    pre_le _ (fun j hj => by
      obtain ⟨q, h, ex, ey⟩ := gx j (by rw [List.length_map]; exact hj)
      show con _ _ _ (rdg (l.map xg) j) * _ ≤ con _ _ _ (rdg (l.map yg) j) * _
      rw [ex, ey, low_x, low_y]
      exact case1 h)
  have le2 : pre (fun j => con 73 950 45 (rdg (l.map yg) j)) l.length * (900 * 40) ≤ pre (fun j => con 74 900 40 (rdg (l.map xg) j)) l.length * (950 * 45) :=
    pre_le _ (fun j hj => by
      obtain ⟨q, h, ex, ey⟩ := gx j (by rw [List.length_map]; exact hj)
      show con _ _ _ (rdg (l.map yg) j) * _ ≤ con _ _ _ (rdg (l.map xg) j) * _
      rw [ex, ey, high_x, low_y]
      exact case2 h)
  generalize pre (fun j => con 73 1000 50 (rdg (l.map xg) j)) l.length = S1 at *
  generalize pre (fun j => con 74 900 40 (rdg (l.map xg) j)) l.length = S3 at *
  generalize pre (fun j => con 73 950 45 (rdg (l.map yg) j)) l.length = S2 at *
  clear gx hg hl
  generalize l.map xg = X at *
  generalize l.map yg = Y at *
  refine ⟨_, _, _, Opens_of hx ox, Opens_of hy oy, D_le (by decide) (by decide) le1, D_le (by decide) (by decide) le2, ?_⟩
  obtain ⟨r1, m1, m2⟩ := compare_le c1 c2 c3 c4 (f := 950) (n := 45) (by omega) (by omega) (by omega) (by omega) c5 b1 b2 b3 b4 (f' := 900) (n' := 40) (by omega) (by omega) (by omega) (by omega) b5 le2
  obtain ⟨r2, m3, m4⟩ := compare_le a1 a2 a3 a4 (f := 1000) (n := 50) (by omega) (by omega) (by omega) (by omega) a5 d1 d2 d3 d4 (f' := 950) (n' := 45) (by omega) (by omega) (by omega) (by omega) d5 le1
  unfold z10_.f
  rw [if_pos ⟨hy, hx⟩]
  unfold PCmp.z10_.f
  have w1 : wrap64 ((0 : Int) + 1) = 1 := by decide +kernel
  have w2 : wrap64 ((1 : Int) + 1) = 2 := by decide +kernel
  have hy' : Yp.z5_.f 950 950 45 45 Y = some 0 := hy
  obtain ⟨k, hk⟩ : ∃ k : Nat, 4 = k + 1 + 1 + 1 := ⟨1, rfl⟩
  rw [hk, PCmp.z10_.l0, if_pos (by decide), hy']
  simp only [Option.bind_some, if_true]
  rw [w1, PCmp.z10_.l0, if_pos (by decide), hy']
  simp only [Option.bind_some, if_true]
  rw [w2, PCmp.z10_.l0, if_neg (by decide)]
  have eL : Yp.z28_.f = some (73, 74) := rfl
  have eM : Yp.z29_.f = some (74, 73) := rfl
  rw [eL, eM]
  simp only [Option.bind_some]
  rw [e3, e2]
  simp only [Option.bind_some]
  rw [m1]
  simp only [Option.bind_some]
  rw [if_neg m2, e1, e4]
  simp only [Option.bind_some]
  rw [m3]
  simp only [Option.bind_some]
  rw [if_neg m4]
def BytesL (l : List Int) : Prop := ∀ x ∈ l, 0 ≤ x ∧ x ≤ 255
theorem rd_byte {l : List Int} (h : BytesL l) {j : Int} (h0 : 0 ≤ j) (h1 : j < l.length) : 0 ≤ rd l j ∧ rd l j ≤ 255 := by
  have : rd l j ∈ l := by
    unfold rd
    rw [List.getD_eq_getElem?_getD, List.getElem?_eq_getElem (show j.toNat < l.length by omega)]
    exact List.getElem_mem _
  exact h _ this
theorem byte_f {l : List Int} (h : BytesL l) {i : Int} (hi : 0 ≤ i) : ∃ b, z42_.f l i = some b ∧ 0 ≤ b ∧ b ≤ 255 := by
  unfold z42_.f
  by_cases hl : (l.length : Int) = 0
  · rw [if_pos hl]
    exact ⟨0, rfl, by omega, by omega⟩
  · rw [if_neg hl, Int.tmod_eq_emod_of_nonneg hi]
    have h0 : 0 ≤ i % (l.length : Int) := Int.emod_nonneg _ hl
    have h1 : i % (l.length : Int) < l.length := Int.emod_lt_of_pos _ (by omega)
    rw [if_pos h0, if_pos h1]
    obtain ⟨r0, r1⟩ := rd_byte h h0 h1
    exact ⟨rd l (i % (l.length : Int)), by rw [w64 (by omega) (by omega)], r0, r1⟩
theorem in_f {n a b : Int} (h0 : a ≤ n) (h1 : n ≤ b) (k : Nat) (hk : 1 ≤ k) : z32_.f k n a b = some true := by
  obtain ⟨k, rfl⟩ := Nat.exists_eq_add_of_le' hk
  unfold z32_.f
  rw [if_pos h0, decide_eq_true h1]
  rfl
theorem true_n {arc ln mo b : Int} (a0 : 20 ≤ arc) (a1 : arc ≤ 300) (l0 : 90 ≤ ln) (l1 : ln ≤ 100) (m0 : 100 ≤ mo) (m1 : mo ≤ 110) (b0 : 0 ≤ b) (b1 : b ≤ 255) :
    ∃ n, wrap64 (Int.tdiv (wrap64 (arc * (wrap64 ((wrap64 (10 * ln)) + (wrap64 (Int.tdiv (wrap64 ((wrap64 (b * 10)) * (wrap64 (mo - ln)))) 255)))))) 1000) = n ∧ arc * ln / 100 ≤ n ∧ n ≤ (arc * mo + 99) / 100 := by
  have p1 : 0 ≤ b * 10 * (mo - ln) := Int.mul_nonneg (by omega) (by omega)
  have p2 : b * 10 * (mo - ln) ≤ 255 * 10 * (mo - ln) := Int.mul_le_mul_of_nonneg_right (by omega) (by omega)
  rw [w64 (x := b * 10) (by omega) (by omega), w64 (x := mo - ln) (by omega) (by omega)]
  generalize b * 10 * (mo - ln) = z at *
  rw [w64 (x := z) (by omega) (by omega), Int.tdiv_eq_ediv_of_nonneg p1, w64 (x := z / 255) (by omega) (by omega), w64 (x := 10 * ln) (by omega) (by omega), w64 (x := 10 * ln + z / 255) (by omega) (by omega)]
  obtain ⟨ra, hra⟩ : ∃ ra, 10 * ln + z / 255 = ra := ⟨_, rfl⟩
  have r0 : 10 * ln ≤ ra := by omega
  have r1 : ra ≤ 10 * mo := by omega
  rw [hra]
  clear hra p1 p2
  have q0 : arc * (10 * ln) ≤ arc * ra := Int.mul_le_mul_of_nonneg_left r0 (by omega)
  have q1 : arc * ra ≤ arc * (10 * mo) := Int.mul_le_mul_of_nonneg_left r1 (by omega)
  have q2 : 0 ≤ arc * ln := Int.mul_nonneg (by omega) (by omega)
  have q3 : arc * mo ≤ 300 * 110 := Int.mul_le_mul a1 m1 (by omega) (by omega)
  rw [Int.mul_left_comm] at q0 q1
  generalize arc * ln = x at *
  generalize arc * mo = y at *
  generalize arc * ra = s at *
  rw [w64 (x := s) (by omega) (by omega), Int.tdiv_eq_ediv_of_nonneg (by omega), w64 (x := s / 1000) (by omega) (by omega)]
  exact ⟨s / 1000, rfl, by omega, by omega⟩
theorem nums {c ln mo : Int} (c0 : 0 ≤ c) (c1 : c ≤ 255) (l0 : 90 ≤ ln) (l1 : ln ≤ 100) (m0 : 100 ≤ mo) (m1 : mo ≤ 110) : 0 ≤ (20 + c) * ln / 100 ∧ ((20 + c) * mo + 99) / 100 ≤ 1000 ∧ wrap64 (20 + wrap64 c) = 20 + c ∧ 20 ≤ 20 + c ∧ 20 + c ≤ 300 := by
  have s0 : 0 ≤ (20 + c) * ln := Int.mul_nonneg (by omega) (by omega)
  have s1 : (20 + c) * mo ≤ 275 * 110 := Int.mul_le_mul (by omega) m1 (by omega) (by omega)
  refine ⟨by omega, by omega, ?_, by omega, by omega⟩
  rw [w64 (x := c) (by omega) (by omega), w64 (by omega) (by omega)]
theorem foot {b : Int} (d2 : 0 ≤ b) (d3 : b ≤ 255) : wrap64 (Int.tdiv b 20) = b / 20 ∧ wrap64 (b / 20 + 1) = b / 20 + 1 ∧ 0 ≤ b / 20 ∧ b / 20 ≤ 100 := by
  rw [Int.tdiv_eq_ediv_of_nonneg d2]
  exact ⟨w64 (by omega) (by omega), w64 (by omega) (by omega), by omega, by omega⟩
section
variable {x0 x1 : List Int} {ln mo : Int}
theorem loop (h0 : BytesL x0) (h1 : BytesL x1) (l0 : 90 ≤ ln) (l1 : ln ≤ 100) (m0 : 100 ≤ mo) (m1 : mo ≤ 110) (T : Nat) (hT0 : T ≤ 10) (hT1 : T ≤ x0.length) (hT2 : ¬ (T < x0.length ∧ T < 10)) :
    ∀ (m k i : Nat) (l : List Q), i + m = T → 4 * m + 4 ≤ k → l.length = i → (∀ q ∈ l, Good q) →
    z0_.l0 k x0 x1 (i : Int) ln 100 mo 100 900 1000 40 50 (l.map xg) 950 950 45 45 (l.map yg) = some true := by
  intro m
  induction m with
  | zero =>
    intro k i l hi hk hl hg
    obtain ⟨k, rfl⟩ := Nat.exists_eq_add_of_le' (show 4 ≤ k by omega)
    obtain ⟨a, b, t, ox, oy, lt, gt, oc⟩ := both l (by omega) hg
    obtain rfl : i = T := by omega
    have hj : z0_.j1 (k + 2 + 1) x0 x1 (i : Int) false ln 100 mo 100 900 1000 40 50 (l.map xg) 950 950 45 45 (l.map yg) = some true := by
      generalize l.map xg = X at *
      generalize l.map yg = Y at *
      rw [z0_.j1, if_neg (by decide), ox]
      simp only [Option.bind_some]
      rw [oy]
      simp only [Option.bind_some]
      rw [oc]
      simp only [Option.bind_some, if_true]
      rw [in_f lt gt _ (by omega)]
      simp only [Option.bind_some, if_true]
      show (some true).bind _ = _
      rfl
    show z0_.l0 (k + 2 + 1 + 1) _ _ _ _ _ _ _ _ _ _ _ _ _ _ _ _ _ = _
    rw [z0_.l0]
    by_cases hlt : (i : Int) < (x0.length : Int)
    · rw [if_pos hlt, decide_eq_false (by omega)]
      exact hj
    · rw [if_neg hlt]
      exact hj
  | succ m ih =>
    intro k i l hi hk hl hg
    obtain ⟨k, rfl⟩ := Nat.exists_eq_add_of_le' (show 4 ≤ k by omega)
    have hi6 : (0 : Int) ≤ i := by omega
    have hi1 : (i : Int) < (x0.length : Int) := by omega
    have hi10 : (i : Int) < 10 := by omega
    have hw : wrap64 ((i : Int) + 1) = ((i + 1 : Nat) : Int) := w64 (by omega) (by omega)
    have i4 : i + 1 + m = T := by omega
    have i5 : 4 * m + 4 ≤ k := by omega
    have i7 : l.length < 4398046511104 := by omega
    have i8 : (0 : Int) ≤ ((i + 1 : Nat) : Int) := by omega
    obtain ⟨c0, c1⟩ := rd_byte h0 hi6 hi1
    obtain ⟨b1, e1, d0, d1⟩ := byte_f h1 hi6
    obtain ⟨b2, e2, d2, d3⟩ := byte_f h1 i8
    have hn := fun a0 a1 => true_n (arc := 20 + rd x0 (i : Int)) (b := b1) a0 a1 l0 l1 m0 m1 d0 d1
    have ew := fun a0 a1 => wet_f (arc := 20 + rd x0 (i : Int)) a0 a1 l0 l1 m0 m1 60 (by decide)
    generalize hr : rd x0 (i : Int) = c at *
    obtain ⟨t0, t1, ha, t2, t3⟩ := nums c0 c1 l0 l1 m0 m1
    obtain ⟨fb, fb1, f0, f1⟩ := foot d2 d3
    obtain ⟨n, en, n0, n1⟩ := hn t2 t3
    have ew := ew t2 t3
    clear hn
    generalize b2 / 20 = ft at *
    generalize 20 + c = arc at *
    generalize arc * ln / 100 = rlo at *
    generalize (arc * mo + 99) / 100 = rhi at *
    have := ih k (i + 1) (l ++ [⟨rlo, rhi, n, ft⟩]) i4 i5 (by rw [List.length_append, hl]; rfl) (fun q hq => by
      rcases List.mem_append.1 hq with h | h
      · exact hg q h
      · obtain rfl := List.mem_singleton.1 h
        exact ⟨t0, n0, n1, t1, f0, f1⟩)
    rw [List.map_append, List.map_append] at this
    have lx : (l.map xg).length < 4398046511104 := by rw [List.length_map]; exact i7
    have ly : (l.map yg).length < 4398046511104 := by rw [List.length_map]; exact i7
    clear ih hg
    generalize l.map xg = X at *
    generalize l.map yg = Y at *
    have ew' : z6_.f 400 [⟨⟨0, 0⟩, ⟨arc, arc⟩⟩] ln 100 mo 100 = some ((400 * mo + 99) / 100, [⟨⟨0, 0⟩, ⟨rlo, rhi⟩⟩], 0) := ew
    show z0_.l0 (k + 3 + 1) _ _ _ _ _ _ _ _ _ _ _ _ _ _ _ _ _ = _
    rw [z0_.l0, if_pos hi1, decide_eq_true hi10, z0_.j1, if_pos rfl, if_pos hi6, if_pos hi1, hr, ha]
    unfold z1_.f
    simp only [Option.bind_some]
    rw [ew']
    simp only [Option.bind_some, if_true]
    rw [if_pos (by simp), if_pos (by simp)]
    have ej : (!(((rd_T55 [(⟨⟨0, 0⟩, ⟨rlo, rhi⟩⟩ : Fc)] 0).f0.f0) == 0) || (!(((rd_T55 [(⟨⟨0, 0⟩, ⟨rlo, rhi⟩⟩ : Fc)] 0).f0.f1) == 0))) = false := rfl
    rw [ej, z0_.j2, if_neg (by decide), if_pos (by simp), e1]
    simp only [Option.bind_some]
    rw [en]
    have g1 : (rd_T55 [(⟨⟨0, 0⟩, ⟨rlo, rhi⟩⟩ : Fc)] 0).f1.f0 = rlo := rfl
    have g2 : (rd_T55 [(⟨⟨0, 0⟩, ⟨rlo, rhi⟩⟩ : Fc)] 0).f1.f1 = rhi := rfl
    rw [g1, g2, in_f n0 n1 _ (Nat.succ_le_succ (Nat.zero_le _))]
    simp only [Option.bind_some, if_true]
    rw [decide_eq_false (Int.not_lt.2 t1), z0_.j3, if_neg (by decide), hw, e2]
    simp only [Option.bind_some]
    unfold z1_.f
    simp only [Option.bind_some]
    rw [fb, fb1, if_pos lx, if_pos ly]
    exact this
end
theorem law (x0 x1 : List Int) (h0 : BytesL x0) (h1 : BytesL x1) (b0 b1 : Int) (h00 : 0 ≤ b0) (h01 : b0 ≤ 255) (h10 : 0 ≤ b1) (h11 : b1 ≤ 255) (k : Nat) (hk : 60 ≤ k) : z0_.f k x0 x1 b0 b1 = some true := by
  unfold z0_.f z1_.f
  simp only [Option.bind_some]
  rw [w64 (x := b0) (by omega) (by omega), w64 (x := b1) (by omega) (by omega), Int.tmod_eq_emod_of_nonneg h00, Int.tmod_eq_emod_of_nonneg h10, w64 (x := 90 + b0 % 11) (by omega) (by omega), w64 (x := 100 + b1 % 11) (by omega) (by omega)]
  obtain ⟨T, hT0, hT1, hT2⟩ : ∃ T : Nat, T ≤ 10 ∧ T ≤ x0.length ∧ ¬ (T < x0.length ∧ T < 10) := by
    by_cases h : x0.length ≤ 10
    · exact ⟨x0.length, h, Nat.le_refl _, by omega⟩
    · exact ⟨10, Nat.le_refl _, by omega, by omega⟩
  exact loop h0 h1 (by omega) (by omega) (by omega) (by omega) T hT0 hT1 hT2 T k 0 [] (by omega) (by omega) rfl (fun q hq => by cases hq)
end Wef
end Go.Proofs.YtgdkmadcegleiaaGreatDoor
namespace Go.Proofs.YtgdkmadcegleiaaGreatDoor
namespace Horn
open Go.Shelf Go.ChangeShapes Go.WideShapes Go.ChangeAt Go.Lib
section
variable {H : Type} {enc : TypeId × Value → H} {P : Program} {w : World} {base : Nat} {spare : Nat → Bool} {held : Bool}
theorem trod_array2 {t e : TypeId} {fuel : Nat} {c0 c1 : Value} {x : DataW H × List MemPlace} (ht : P.underlying t = some (.array 2 e)) (hce : P.cellsOf e = 1)
    (h : DataW.trod enc P w base spare held fuel t [c0, c1] = some x) :
    ∃ y0 y1 n, x = (.agg [y0.1, y1.1], y0.2 ++ y1.2) ∧ DataW.trod enc P w base spare held n e [c0] = some y0 ∧ DataW.trod enc P w base spare held n e [c1] = some y1 := by
  cases fuel with
  | zero => simp [DataW.trod] at h
  | succ n =>
    unfold DataW.trod at h
    rw [ht] at h
    have r2 : List.range 2 = [0, 1] := rfl
    simp [r2, hce] at h
    obtain ⟨_, h⟩ := h
    cases h0 : DataW.trod enc P w base spare held n e [c0] with
    | none => simp [h0] at h
    | some y0 =>
      cases h1 : DataW.trod enc P w base spare held n e [c1] with
      | none => simp [h0, h1] at h
      | some y1 =>
        simp [h0, h1] at h
        exact ⟨y0, y1, n, h.symm, h0, h1⟩
end
def Pairs (w : World) (A : Option Addr) (l : List (Int × Int)) : Prop :=
  0 < l.length → ∃ ad, A = some ad ∧ ∀ j x, l[j]? = some x → w.cell? (ad.add (j * 2)) = some (.int .u8 x.1) ∧ w.cell? (ad.add (j * 2 + 1)) = some (.int .u8 x.2)
def Bytes2 (l : List (Int × Int)) : Prop := ∀ x ∈ l, 0 ≤ x.1 ∧ x.1 ≤ 255 ∧ 0 ≤ x.2 ∧ x.2 ≤ 255
end Horn
end Go.Proofs.YtgdkmadcegleiaaGreatDoor
namespace Go.Proofs.YtgdkmadcegleiaaGreatDoor
namespace Horn
open Go.Shelf Go.ChangeShapes Go.WideShapes Go.ChangeAt Go.Lib
def U8s (w : World) (A : Option Addr) (l : List Int) : Prop := 0 < l.length → ∃ ad, A = some ad ∧ ∀ j x, l[j]? = some x → w.cell? (ad.add j) = some (.int .u8 x)
def BytesU (l : List Int) : Prop := ∀ x ∈ l, 0 ≤ x ∧ x ≤ 255
set_option maxRecDepth 100000 in
theorem open_u8s {H : Type} {enc : TypeId × Value → H} {W : World} {b0 : Nat} {sp : Nat → Bool} {held : Bool} {v : Value} {d : DataW H} {ps : List MemPlace}
    (hval : Value.okWide Tryz.prog W .any b0 65 v) (hd : DataW.Trod enc Tryz.prog W 0 sp held 65 v d ps) :
    ∃ (A : Option Addr) (c : Nat) (l : List Int), v = .slice A l.length c ∧ l.length ≤ c ∧ l.length ≤ 9223372036854775807 ∧ U8s W A l ∧ BytesU l := by
  obtain ⟨a0, n0, c0, rfl⟩ := okWide_slice Tryz.underlying65 hval
  obtain ⟨fuel, hf⟩ := hd
  have hc : Tryz.prog.cellsOf 5 = 1 := by kernel_rfl
  rcases open_ints Tryz.underlying65 Tryz.underlying5 hc hf with ⟨hcs, _⟩ | ⟨a, len, cap, zs, hcs, _, hle, hmax, hall, _, hcell, hwf⟩
  · simp [Value.cells] at hcs
    obtain ⟨rfl, rfl, rfl⟩ := hcs
    exact ⟨none, 0, [], rfl, Nat.le_refl _, by simp, fun h => absurd h (by simp), fun x hx => by simp at hx⟩
  · simp [Value.cells] at hcs
    obtain ⟨rfl, rfl, rfl⟩ := hcs
    have hz : n0 ≤ zs.length := by
      rw [hall]
      split <;> omega
    refine ⟨some a, c0, zs.take n0, by rw [List.length_take, Nat.min_eq_left hz], by rw [List.length_take]; omega, by rw [List.length_take]; simp only [maxLen] at hmax; omega, fun _ => ⟨a, rfl, fun j x hx => ?_⟩, fun x hx => ?_⟩
    · have hj : j < n0 := by
        have := (List.getElem?_eq_some_iff.1 hx).1
        rw [List.length_take] at this
        omega
      rw [List.getElem?_take, if_pos hj] at hx
      rw [hcell j (by omega), List.getD_eq_getElem?_getD, hx]
      rfl
    · have h := hwf x (List.mem_of_mem_take hx)
      have k := bounds_u8 h
      omega
end Horn
end Go.Proofs.YtgdkmadcegleiaaGreatDoor
namespace Go.Proofs.YtgdkmadcegleiaaGreatDoor
namespace Wef
open X Z Arc PWef
theorem u8s_C {W : World} {A : Option Addr} {l : List Int} (hm : l.length ≤ 9223372036854775807) (hP : Horn.U8s W A l) : Kd.C (Kd.int .u8) W A l.length l := by
  refine ⟨rfl, hm, fun h => ?_⟩
  obtain ⟨ad, e, hc⟩ := hP h
  refine ⟨ad, e, fun j p hj => ?_⟩
  refine ⟨[.int .u8 p], rfl, rfl, fun i u hu => ?_⟩
  match i with
  | 0 =>
    obtain rfl : Value.int .u8 p = u := Option.some.inj hu
    have := hc j p hj
    show W.cell? (ad.add (j * 1 + 0)) = _
    rw [Nat.mul_one, Nat.add_zero]
    exact this
  | i + 1 => simp at hu
theorem law_calls {W : World} {A A' : Option Addr} {c c' n0 n1 : Nat} {l l' : List Int} (hT : Tabs W) (hc : l.length ≤ c) (hm : l.length ≤ 9223372036854775807) (hP : Horn.U8s W A l) (hB : Horn.BytesU l)
    (hc' : l'.length ≤ c') (hm' : l'.length ≤ 9223372036854775807) (hP' : Horn.U8s W A' l') (hB' : Horn.BytesU l') (h0 : n0 < 256) (h1 : n1 < 256) :
    Calls Tryz.prog 5 #[.slice A l.length c, .slice A' l'.length c', .agg #[.int .u8 (n0 : Int), .int .u8 (n1 : Int)]] W fun e w' => e = .returned (.bool true) ∧ Below W.heap.size W w' := by
  obtain ⟨k, hk⟩ : ∃ k : Nat, 60 ≤ k := ⟨60, Nat.le_refl _⟩
  exact z0_.calls k A c l A' c' l' (n0 : Int) (n1 : Int) W (u8s_C hm hP) hc (u8s_C hm' hP') hc' (law l l' hB hB' (n0 : Int) (n1 : Int) (by omega) (by omega) (by omega) (by omega) k hk) hT
end Wef
end Go.Proofs.YtgdkmadcegleiaaGreatDoor
namespace Go.Proofs.YtgdkmadcegleiaaGreatDoor
namespace topWetFan
open Go.Shelf Go.ChangeShapes Go.WideShapes Go.ChangeAt Go.Lib
open X Horn
theorem own : ownKnob Tryz.prog.godebug = none := by kernel_rfl
theorem laidOut : laidOutB Tryz.prog = true := by kernel_rfl
theorem list2 : ∀ (l : List Value), l.length = 2 → ∃ a0 a1, l = [a0, a1]
  | [a0, a1], _ => ⟨a0, a1, rfl⟩
noncomputable def laidWorld (os : Os) : World :=
  let w0 := World.holding Tryz.prog os ⟨#[], #[], []⟩
  let put (h : Array Obj) (g : Nat) (cs : Array Value) : Array Obj := h.modify g fun
    | .cells _ t frozen => .cells cs t frozen
    | o => o
  let h1 := put w0.heap 0 (Lib.firstTab.map fun z => Value.int .u8 z).toArray
  let h2 := put h1 1 ((List.range 16).flatMap fun i => [Value.int .u8 (Lib.accLo i), Value.int .u8 (Lib.accHi i)]).toArray
  { w0 with heap := h2 }
theorem laid_met (os : Os) (args : Array Value) : laidMet Tryz.prog Rows.topWetFanRow.laid ((laidWorld os).forCall (fun _ _ => 0) ⟨#[], args, []⟩).memory :=
  (LaidIn.of_run (l := Rows.topWetFanRow.laid) [0, 1] 8 (by kernel_rfl) (by kernel_rfl) (by kernel_rfl) (by kernel_rfl)).met
theorem first_eq : (Rows.laid_unicode_utf8_first : DataW Unit) = Lib.firstData := by kernel_rfl
theorem accept_eq : (Rows.laid_unicode_utf8_acceptRanges : DataW Unit) = Lib.acceptData := by kernel_rfl
theorem reads_first {W : World} (hL : laidMet Tryz.prog Rows.topWetFanRow.laid W) : VarReads Tryz.prog W "unicode/utf8.first" Lib.firstData := by
  rw [← first_eq]
  exact Lib.laidMet.reads hL (.tail _ (.head _))
theorem reads_accept {W : World} (hL : laidMet Tryz.prog Rows.topWetFanRow.laid W) : VarReads Tryz.prog W "unicode/utf8.acceptRanges" Lib.acceptData := by
  rw [← accept_eq]
  exact Lib.laidMet.reads hL (.head _)
abbrev spec : OpenSpec := OpenSpec.ofChange Rows.topWetFanSpec
theorem witness_row (os : Os) {H : Type} (enc : TypeId × Value → H) :
    spec.preRow enc Tryz.prog Tryz.f5 Rows.topWetFanRow.domain false Rows.topWetFanRow.laid ((laidWorld os).forCall (fun _ _ => 0) ⟨#[], #[.slice none 0 0, .slice none 0 0, .agg #[.int .u8 0, .int .u8 0]], []⟩).memory #[.slice none 0 0, .slice none 0 0, .agg #[.int .u8 0, .int .u8 0]] := by
  have hw : (DataW.whole enc Tryz.prog ((laidWorld os).forCall (fun _ _ => 0) ⟨#[], #[.slice none 0 0, .slice none 0 0, .agg #[.int .u8 0, .int .u8 0]], []⟩).memory Tryz.f5.params.toList spec.vars false (#[.slice none 0 0, .slice none 0 0, .agg #[.int .u8 0, .int .u8 0]] : Array Value).toList 8).map (fun x => (x.1, x.2.1)) =
      some ([.nil, .nil, .agg [.lit (.int .u8 0), .lit (.int .u8 0)]], []) := by kernel_rfl
  obtain ⟨⟨x1, x2, x3⟩, hx, hx1⟩ := Option.map_eq_some_iff.1 hw
  simp only [Prod.mk.injEq] at hx1
  obtain ⟨rfl, rfl⟩ := hx1
  exact OpenSpec.preRow_of_cond 8 hx (by kernel_rfl) (fun k hk => by cases hk) (by kernel_rfl) (laid_met os _)
set_option maxRecDepth 100000 in
set_option maxHeartbeats 2000000 in
theorem lifted (os : Os) (started : os.Started) (H : Type) (enc : TypeId × Value → H) (F : Stop.Interp) :
    ReturnsInHanded {} Tryz.checked os 5 .any (spec.preRow enc Tryz.prog Tryz.f5 Rows.topWetFanRow.domain false Rows.topWetFanRow.laid) ((spec.at F).post enc Tryz.prog Tryz.f5 false true false false) := by
  refine returnsInHanded_of_row (C := Tryz.checked) (s := spec) own started (by kernel_rfl) Tryz.func5
    (witness_row_atRef (enc := enc) (C := Tryz.checked) false (laidWorld os) #[.slice none 0 0, .slice none 0 0, .agg #[.int .u8 0, .int .u8 0]] rfl (by kernel_rfl) (by kernel_rfl) (by kernel_rfl) (witness_row os enc)) ?_
  intro W base args ds gs before hval0 hW _ _ _ hL _ _
  have hval : ∀ (j : Nat) t v, Tryz.f5.params[j]? = some t → args[j]? = some v → Value.okWide Tryz.prog W .any base t v := hval0
  have hW' := hW
  obtain ⟨p, q, hA0, hV0, rfl, _, _⟩ := hW
  have hA : DataW.TrodAll enc Tryz.prog W 0 (fun _ => true) true Tryz.f5.params.toList args.toList ds p := hA0
  rw [Tryz.params5] at hA hval
  obtain ⟨v0, v1, v2, d0, d1, d2, pp0, pp1, pp2, rfl, rfl, rfl, t0, t1, t2⟩ := trodAll_three hA
  obtain ⟨rfl, rfl⟩ := trodVars_none hV0
  have t0k := t0
  obtain ⟨A0, c0, l0, rfl, hlc0, hlm0, hP0, hB0⟩ := Horn.open_u8s (hval 0 65 v0 rfl rfl) t0
  have t1k := t1
  obtain ⟨A1, c1, l1, rfl, hlc1, hlm1, hP1, hB1⟩ := Horn.open_u8s (hval 1 65 v1 rfl rfl) t1
  have t2k := t2
  obtain ⟨cs2, rfl, hsz2, _⟩ : ∃ cs, v2 = .agg cs ∧ cs.size = Tryz.prog.cellsOf 26 ∧ Row.okWide Tryz.prog W .any base 26 cs := by
    have := hval 2 26 v2 rfl rfl
    simpa [Value.okWide, Tryz.underlying26] using this
  rw [show Tryz.prog.cellsOf 26 = 2 from by kernel_rfl] at hsz2
  obtain ⟨l2⟩ := cs2
  obtain ⟨c0, c1, rfl⟩ := list2 l2 hsz2
  obtain ⟨fuel2, hf2⟩ := t2
  obtain ⟨y0, y1, m2, hx2, hy0, hy1⟩ := trod_array2 Tryz.underlying26 (show Tryz.prog.cellsOf 5 = 1 from by kernel_rfl) hf2
  obtain ⟨x0, e0, rfl, w0⟩ := DataW.trod_int Tryz.underlying5 hy0
  obtain ⟨x1, e1, rfl, w1⟩ := DataW.trod_int Tryz.underlying5 hy1
  simp at e0 e1
  subst e0 e1
  simp only [Prod.mk.injEq] at hx2
  obtain ⟨rfl, rfl⟩ := hx2
  clear hA0 hV0 hval0
  simp only [List.append_nil] at hW' t0k t1k t2k
  have htab : Tabs W :=
    utf8Tabs_of_reads (ρ := Tryz.lays260_ren) Tryz.lays260 ⟨by kernel_rfl, by kernel_rfl, by kernel_rfl, by kernel_rfl, by kernel_rfl, by kernel_rfl, by kernel_rfl⟩
      (reads_first hL) (reads_accept hL)
  have k0 := bounds_u8 w0
  obtain ⟨n0, rfl⟩ := Int.eq_ofNat_of_zero_le k0.1
  have h0 : n0 < 256 := by omega
  have k1 := bounds_u8 w1
  obtain ⟨n1, rfl⟩ := Int.eq_ofNat_of_zero_le k1.1
  have h1 : n1 < 256 := by omega
  refine (Wef.law_calls htab hlc0 hlm0 hP0 hB0 hlc1 hlm1 hP1 hB1 h0 h1).mono ?_
  rintro e W' ⟨rfl, bel⟩
  have e1 : (spec.at F).fn H ([d0, d1, .agg [.lit (.int .u8 n0), .lit (.int .u8 n1)]] ++ []) = { results := [.lit (.bool true)], args := [d0, d1, .agg [.lit (.int .u8 n0), .lit (.int .u8 n1)]] } := rfl
  refine ⟨_, rfl, _, _, _, [], (pp0 ++ (pp1 ++ [])), [], hW', ?_, ?_, ?_, bel.frame _, fun h => by cases h⟩
  · rw [e1]; exact trodAll_mk1 (shut_bool Tryz.underlying4 _)
  · rw [e1]; exact trodAll_mk3 (Below.trod laidOut (by kernel_rfl) (of_decide_eq_true (by kernel_rfl)) t0k bel (fun x hx => DataW.TrodAll.lt (trodAll_mk1 t0k) x hx)) (Below.trod laidOut (by kernel_rfl) (of_decide_eq_true (by kernel_rfl)) t1k bel (fun x hx => DataW.TrodAll.lt (trodAll_mk1 t1k) x hx)) (Below.trod laidOut (by kernel_rfl) (of_decide_eq_true (by kernel_rfl)) t2k bel (fun x hx => by cases hx))
  · rw [e1]; rfl
theorem over : Rows.TopWetFanSaid :=
  OpenClaim.holds_of_cond 5 Tryz.f5 rfl rfl rfl rfl rfl rfl rfl ⟨rfl, rfl, rfl, rfl, rfl⟩ rfl rfl rfl rfl rfl (by kernel_rfl) Tryz.func5 (by kernel_rfl)
    (of_decide_eq_true (by kernel_rfl)) (by unfold Func.isWrapper; first | (rw [if_pos (by decide +kernel)]; kernel_rfl) | (rw [if_neg (by decide +kernel)]; exact ⟨rfl, rfl⟩))
    (fun os started H enc _ F0 => by rw [OpenClaim.pre_eq_preRow]; exact lifted os started H enc F0)
end topWetFan
end Go.Proofs.YtgdkmadcegleiaaGreatDoor
section
namespace Go.Proofs.YtgdkmadcegleiaaGreatDoor
open Go
theorem topWetFan_card : Rows.TopWetFanCardSaid :=
  Claim7.holds_tied_plain_at .later [] [.data, .pinned] true (true, "82de06f7255eb502618943862a66e4787df31cbe1188102f901122773568cc1d") false
    topWetFan.over (fun _ h => by cases h) (by kernel_rfl) (fun _ h => by cases h) topWetFan_row_tie rfl ⟨rfl, rfl⟩ (by kernel_rfl) rfl
    (fun f fn hf hfn => by
      obtain rfl : f = 5 := Option.some.inj ((show Tryz.prog.funcNamed "panache/panachetop.TopWetFan" = some 5 by kernel_rfl).symm.trans hf) |>.symm
      obtain rfl : fn = Tryz.f5 := (Option.some.inj (Tryz.func5.symm.trans hfn)).symm
      exact ⟨by kernel_rfl, fun j t ht => by
        rw [Tryz.params5] at ht
        have h3 : t = 65 ∨ t = 26 := by
          rcases j with _ | _ | _ | j
          · have e : t = 65 := by simpa using ht.symm
            simp [e]
          · have e : t = 65 := by simpa using ht.symm
            simp [e]
          · have e : t = 26 := by simpa using ht.symm
            simp [e]
          · simp at ht
        rcases h3 with rfl | rfl
        · exact (show Tryz.prog.wantsStandIn 65 = false by kernel_rfl)
        · exact (show Tryz.prog.wantsStandIn 26 = false by kernel_rfl)⟩)
    (by kernel_rfl)
#print axioms topWetFan_card
end Go.Proofs.YtgdkmadcegleiaaGreatDoor
end
