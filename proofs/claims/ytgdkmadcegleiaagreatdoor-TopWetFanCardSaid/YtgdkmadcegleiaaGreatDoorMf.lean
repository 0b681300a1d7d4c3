/- Part 6 of this claim's texts, put together by a program of its author: PCmpx2, PCmpx, WefExt, WefPure, PWefx0, PWefx1, PWefx2. -/
import Derived.Test.YtgdkmadcegleiaaGreatDoorMb
import Derived.Test.YtgdkmadcegleiaaGreatDoorMe
import Derived.Test.YtgdkmadcegleiaaGreatDoorProg
import Derived.Below
import Derived.Deep.Draws
import Derived.Deep.AppendLies
import Derived.Maps.AppendAt
import Derived.OwnWalk
import Derived.Laws.BytesArg
import Derived.Laws.MakeOwn
import Derived.Laws.OwnMore
import Derived.Deep.OwnRows
import Derived.Tactics
import Derived.Lib.ConvBytes
import Derived.Laws.Slices
import Derived.WalkKit
import Derived.KernelRfl
import Derived.RowKit3
import Derived.Deep.LoopGhost
import Derived.Deep.QuietTactic
import Derived.BigQuiet
import Derived.WideLaws
import Derived.Deep.DeepCutAuto
import Derived.Deep.CutBlock
import Derived.Deep.RegionHeld3
import Derived.Laws.Rows
import Derived.Lib.AppendStr
import Derived.ArgAppend
import Derived.Laws.IdiomCopy
import Derived.OrdersHeld
import Derived.Laws.BitsLemmas
import Derived.RowKit
import Derived.Test.YtgdkmadcegleiaaGreatDoorMa
open Go.RowKit Go.Proofs.YtgdkmadcegleiaaGreatDoorW.PrintWords Go.Proofs.YtgdkmadcegleiaaGreatDoorW.PrintLast Go.Proofs.YtgdkmadcegleiaaGreatDoorW.PrintMore
set_option linter.unusedVariables false
set_option linter.unusedSimpArgs false
attribute [local go_sem] max2_int min2_int max_two min_two max_three min_three max_four min_four
namespace Go.Proofs.YtgdkmadcegleiaaGreatDoor
namespace PCmp
open Sq X Yp
attribute [local go_sem] run_store_func max2_int min2_int max_two min_two max_three min_three max_four min_four   -- for this text's walks alone
def z10_.l0 : Nat → Int → Int → Int → Int → Int → List (S47) → Int → Int → Int → Int → List (S47) → Option (Int × Int)
 | 0, _, _, _, _, _, _, _, _, _, _, _ => none
 | k + 1, x12, x111000, x111001, x111002, x111003, x111004, x112000, x112001, x112002, x112003, x112004 => if x12 < 2 then ((z5_.f x111000 x111001 x111002 x111003 x111004).bind fun t113 => (if t113 = 0 then (z10_.l0 k (wrap64 (x12 + 1)) x111000 x111001 x111002 x111003 x111004 x112000 x112001 x112002 x112003 x112004) else (some (0, t113)))) else ((z28_.f).bind fun bt114 => ((z8_.f bt114.1 bt114.2 x111000 x111001 x111002 x111003 x111004).bind fun bt116 => ((z29_.f).bind fun bt120 => ((z8_.f bt120.1 bt120.2 x112000 x112001 x112002 x112003 x112004).bind fun bt122 => ((z51_.f bt116.1 bt116.2.1 bt116.2.2.1 bt116.2.2.2 bt122.1 bt122.2.1 bt122.2.2.1 bt122.2.2.2).bind fun t126 => (if t126 > 0 then (some (1, 0)) else ((z28_.f).bind fun bt127 => ((z8_.f bt127.1 bt127.2 x112000 x112001 x112002 x112003 x112004).bind fun bt129 => ((z29_.f).bind fun bt133 => ((z8_.f bt133.1 bt133.2 x111000 x111001 x111002 x111003 x111004).bind fun bt135 => ((z51_.f bt129.1 bt129.2.1 bt129.2.2.1 bt129.2.2.2 bt135.1 bt135.2.1 bt135.2.2.1 bt135.2.2.2).bind fun t139 => (if t139 > 0 then (some (2, 0)) else (some (3, 0))))))))))))))
def z10_.f (k : Nat) (a0_0 : Int) (a0_1 : Int) (a0_2 : Int) (a0_3 : Int) (l0_4 : List (S47)) (a1_0 : Int) (a1_1 : Int) (a1_2 : Int) (a1_3 : Int) (l1_4 : List (S47)) : Option (Int × Int) := z10_.l0 k 0 a0_0 a0_1 a0_2 a0_3 l0_4 a1_0 a1_1 a1_2 a1_3 l1_4
def z10_.T8 : Bool × List (List Nat × List Nat) := (true, [([], []), ([], []), ([0, 1, 0], [0, 1]), ([2], []), ([], []), ([3, 4, 3], [3, 4]), ([2, 5, 5], [2, 5]), ([6], [6]), ([7, 6], [7])])
def z10_.B8 : List Nat := [0, 0, 3, 7, 0, 31, 63, 127, 255]
theorem z10_.tab8 : rtab .any (opsOf Tryz.f23 8) = z10_.T8 := by kernel_rfl
theorem z10_.bits8 : waitsOk z10_.T8.2 z10_.B8 = true := by kernel_rfl
def z10_.T10 : Bool × List (List Nat × List Nat) := (true, [([], []), ([], []), ([0, 1, 0], [0, 1]), ([2], []), ([], []), ([3, 4, 3], [3, 4]), ([2, 5, 5], [2, 5]), ([6], [6]), ([7, 6], [7])])
def z10_.B10 : List Nat := [0, 0, 3, 7, 0, 31, 63, 127, 255]
theorem z10_.tab10 : rtab .any (opsOf Tryz.f23 10) = z10_.T10 := by kernel_rfl
theorem z10_.bits10 : waitsOk z10_.T10.2 z10_.B10 = true := by kernel_rfl
set_option maxHeartbeats 8000000 in
set_option maxRecDepth 100000 in
theorem z10_.calls (k : Nat) (a0_0 : Int) (a0_1 : Int) (a0_2 : Int) (a0_3 : Int) (A0_4 : Option Addr) (c0_4 : Nat) (l0_4 : List (S47)) (a1_0 : Int) (a1_1 : Int) (a1_2 : Int) (a1_3 : Int) (A1_4 : Option Addr) (c1_4 : Nat) (l1_4 : List (S47)) (r1 : Int) (r2 : Int) (w : World) (hr0_4 : Kd.C k47 w A0_4 l0_4.length l0_4) (hc0_4 : l0_4.length ≤ c0_4) (hr1_4 : Kd.C k47 w A1_4 l1_4.length l1_4) (hc1_4 : l1_4.length ≤ c1_4) (hA : z5_.f a0_0 a0_1 a0_2 a0_3 l0_4 = some 0) (hB : z5_.f a1_0 a1_1 a1_2 a1_3 l1_4 = some 0) (h : z10_.f k a0_0 a0_1 a0_2 a0_3 l0_4 a1_0 a1_1 a1_2 a1_3 l1_4 = some (r1, r2)) :
  Calls Tryz.prog 23 #[.agg #[.int .i64 a0_0, .int .i64 a0_1, .int .i64 a0_2, .int .i64 a0_3, .slice A0_4 l0_4.length c0_4], .agg #[.int .i64 a1_0, .int .i64 a1_1, .int .i64 a1_2, .int .i64 a1_3, .slice A1_4 l1_4.length c1_4]] w fun e w' => e = .returned (.tuple #[.int .i64 r1, .int .i64 r2]) ∧ Below w.heap.size w w' := by
 have hu33 := Tryz.underlying33
 have HR0_4 := Aside0.mk hr0_4
 have HC0_4 := Aside0.mk hc0_4
 clear hr0_4 hc0_4
 have HR1_4 := Aside0.mk hr1_4
 have HC1_4 := Aside0.mk hc1_4
 clear hr1_4 hc1_4
 have hu100 := Tryz.underlying100
 have HCA := Aside0.mk hA
 have HCB := Aside0.mk hB
 clear hA hB
 have HB := Aside0.mk (Below.refl w.heap.size w)
 have H : (z10_.l0 k 0 a0_0 a0_1 a0_2 a0_3 l0_4 a1_0 a1_1 a1_2 a1_3 l1_4) = some (r1, r2) := h
 clear h
 have H' := Aside0.mk H
 clear H
 go_enter Tryz.func23, Tryz.ntmps23
 go_wp2_with (first | ((with_reducible refine gate_dst (N := 2) rfl ?_); refine boxA (N := 2) (cs := #[.int .i64 a0_0, .int .i64 a0_1, .int .i64 a0_2, .int .i64 a0_3, .slice A0_4 l0_4.length c0_4]) (t := 33) ?_; intro gb110 hg w3 hbox hb; have BK110 := Aside0.mk (hbox); have GE110 := bG HB hg; replace HB := bS HB hb; clear hb hbox hg) | ((with_reducible refine gate_dst (N := 3) rfl ?_); refine boxA (N := 3) (cs := #[.int .i64 a1_0, .int .i64 a1_1, .int .i64 a1_2, .int .i64 a1_3, .slice A1_4 l1_4.length c1_4]) (t := 33) ?_; intro gb111 hg w4 hbox hb; have BK111 := Aside0.mk (hbox); have GE111 := bG HB hg; have NB110_111 := kN BK110 hg; have NB111_110 := kM BK110 hg; replace BK110 := kB BK110 hb; replace HB := bS HB hb; clear hb hbox hg; obtain ⟨hnb5, hnc5⟩ := nn NB110_111; obtain ⟨hcz6_0, hcz6_1, hcz6_2, hcz6_3, hcz6_4, hfz6_0, hfz6_1, hfz6_2, hfz6_3, hfz6_4⟩ := cc5 BK110; obtain ⟨hcz7_0, hcz7_1, hcz7_2, hcz7_3, hcz7_4, hfz7_0, hfz7_1, hfz7_2, hfz7_3, hfz7_4⟩ := cc5 BK111))
 go_loopg [12] k (fun kq v12 w' => ∃ (x12_1 : Int), v12 = .int .i64 x12_1 ∧ Aside0 (x12_1 = 0 ∨ x12_1 = 1 ∨ x12_1 = 2) ∧ Aside0 (z10_.l0 kq x12_1 a0_0 a0_1 a0_2 a0_3 l0_4 a1_0 a1_1 a1_2 a1_3 l1_4 = some (r1, r2)) ∧ Aside0 (kq ≤ k) ∧ Aside0 (w'.heap[gb110]? = some (.cells #[.int .i64 a0_0, .int .i64 a0_1, .int .i64 a0_2, .int .i64 a0_3, (.slice A0_4 l0_4.length c0_4)] 33 (0, 0))) ∧ Aside0 (w'.heap[gb111]? = some (.cells #[.int .i64 a1_0, .int .i64 a1_1, .int .i64 a1_2, .int .i64 a1_3, (.slice A1_4 l1_4.length c1_4)] 33 (0, 0))) ∧ Aside0 (Below w.heap.size w w'))
 case atStart => exact ⟨(0), eR, ⟨.inl rfl⟩, H', ⟨Nat.le_refl _⟩, ⟨kX BK110.out⟩, ⟨kX BK111.out⟩, ⟨bX HB⟩⟩
 case round =>
  clear H'
  try clear p2
  try clear hcz6_0 hcz6_1 hcz6_2 hcz6_3 hcz6_4 hfz6_0 hfz6_1 hfz6_2 hfz6_3 hfz6_4
  try clear hcz7_0 hcz7_1 hcz7_2 hcz7_3 hcz7_4 hfz7_0 hfz7_1 hfz7_2 hfz7_3 hfz7_4
  obtain ⟨x12_1, rfl, HX, HA, HK1, BK110, BK111, HB⟩ := hrel
  cases gk with
  | zero => exact absurd HA.out (by simp [z10_.l0])
  | succ k1 =>
   have H := HA.out
   clear HA
   simp only [z10_.l0] at H
   by_cases c8 : x12_1 < 2
   ·rw [if_pos c8] at H
    have c8b0 : decide (x12_1 < 2) = true := decide_eq_true c8
    clear c8
    replace H := bindA H
    obtain ⟨t113, A9, H⟩ := H
    try dsimp only at H
    by_cases c10 : t113 = 0
    ·rw [if_pos c10] at H
     have c10b0 : (t113 == 0) = true := beq_iff_eq.mpr c10
     have c10b1 : (t113 != 0) = false := bne_eq_false_iff_eq.mpr c10
     clear c10
     have H' := Aside0.mk H
     clear H
     obtain ⟨hnb11, hnc11⟩ := nn NB110_111
     obtain ⟨hcz12_0, hcz12_1, hcz12_2, hcz12_3, hcz12_4, hfz12_0, hfz12_1, hfz12_2, hfz12_3, hfz12_4⟩ := cc5 BK110
     obtain ⟨q0, q1, q2, q3, Aq, cq, lq, HQ, HQR, HQC, hix⟩ : ∃ (q0 q1 q2 q3 : Int) (Aq : Option Addr) (cq : Nat) (lq : List S47), Aside0 (z5_.f q0 q1 q2 q3 lq = some 0) ∧ Aside0 (Kd.C k47 w Aq lq.length lq) ∧ Aside0 (lq.length ≤ cq) ∧ (∀ W, (Instr.index 100 (.agg #[.int .i64 a0_0, .int .i64 a0_1, .int .i64 a0_2, .int .i64 a0_3, .slice A0_4 l0_4.length c0_4, .int .i64 a1_0, .int .i64 a1_1, .int .i64 a1_2, .int .i64 a1_3, .slice A1_4 l1_4.length c1_4]) (.int .i64 x12_1)).run Tryz.prog W = .ok (.agg #[.int .i64 q0, .int .i64 q1, .int .i64 q2, .int .i64 q3, .slice Aq lq.length cq]) W) := by
      rcases HX.out with rfl | rfl | rfl
      ·exact ⟨a0_0, a0_1, a0_2, a0_3, A0_4, c0_4, l0_4, HCA, HR0_4, HC0_4, fun W => by kernel_rfl⟩
      ·exact ⟨a1_0, a1_1, a1_2, a1_3, A1_4, c1_4, l1_4, HCB, HR1_4, HC1_4, fun W => by kernel_rfl⟩
      ·exact absurd c8b0 (by decide)
     go_wp2_with (first | ((with_reducible refine gate_dst (N := 7) rfl ?_); refine boxA (N := 7) (cs := #[.int .i64 0, .int .i64 0, .int .i64 0, .int .i64 0, .slice none 0 0]) (t := 33) ?_; intro gb112 hg w13 hbox hb; have BK112 := Aside0.mk (hbox); have GE112 := bG HB hg; have NB110_112 := kN BK110 hg; have NB112_110 := kM BK110 hg; have NB111_112 := kN BK111 hg; have NB112_111 := kM BK111 hg; replace BK110 := kB BK110 hb; replace BK111 := kB BK111 hb; replace HB := bS HB hb; clear hb hbox hg; obtain ⟨hnb14, hnc14⟩ := nn NB112_110; obtain ⟨hnb15, hnc15⟩ := nn NB112_111; obtain ⟨hcz16_0, hcz16_1, hcz16_2, hcz16_3, hcz16_4, hfz16_0, hfz16_1, hfz16_2, hfz16_3, hfz16_4⟩ := cc5 BK112) | ((with_reducible refine gate_callee (f := 24) rfl ?_); refine goesA (some 16) Tryz.func24 #[.agg #[.int .i64 q0, .int .i64 q1, .int .i64 q2, .int .i64 q3, .slice Aq lq.length cq]] ?_; (with_reducible refine (z5_.calls q0 q1 q2 q3 _ _ lq 0 _ ?side1 ?side2 HQ.out).mono ?_); (case side1 => exact Kd.C_below HQR.out (bX HB)); (case side2 => exact HQC.out); rintro e w17 ⟨rfl, hb⟩; refine ⟨_, rfl, ?_⟩; have n0_ := Aside0.mk (blk_below (kF BK110 NB110_112) hb); have n1_ := Aside0.mk (blk_below (kF BK111 NB111_112) hb); have n2_ := Aside0.mk (blk_below (g := gb112) (o := .cells #[.int .i64 q0, .int .i64 q1, .int .i64 q2, .int .i64 q3, .slice Aq lq.length cq] 33 (0, 0)) (by (with_reducible repeat (first | refine blk_drewN ?_ _ | refine blk_drew ?_ | refine blk_alloc ?_ _)); refine blk_put (cs := #[.int .i64 q0, .int .i64 q1, .int .i64 q2, .int .i64 q3, .slice none 0 0]) ?_ 4 _ rfl; (with_reducible repeat (first | refine blk_drewN ?_ _ | refine blk_drew ?_ | refine blk_alloc ?_ _)); refine blk_put (cs := #[.int .i64 q0, .int .i64 q1, .int .i64 q2, .int .i64 0, .slice none 0 0]) ?_ 3 _ rfl; (with_reducible repeat (first | refine blk_drewN ?_ _ | refine blk_drew ?_ | refine blk_alloc ?_ _)); refine blk_put (cs := #[.int .i64 q0, .int .i64 q1, .int .i64 0, .int .i64 0, .slice none 0 0]) ?_ 2 _ rfl; (with_reducible repeat (first | refine blk_drewN ?_ _ | refine blk_drew ?_ | refine blk_alloc ?_ _)); refine blk_put (cs := #[.int .i64 q0, .int .i64 0, .int .i64 0, .int .i64 0, .slice none 0 0]) ?_ 1 _ rfl; (with_reducible repeat (first | refine blk_drewN ?_ _ | refine blk_drew ?_ | refine blk_alloc ?_ _)); refine blk_put (cs := #[.int .i64 0, .int .i64 0, .int .i64 0, .int .i64 0, .slice none 0 0]) ?_ 0 _ rfl; (with_reducible repeat (first | refine blk_drewN ?_ _ | refine blk_drew ?_ | refine blk_alloc ?_ _)); exact BK112.out) hb); have n3_ := bS HB hb; clear BK110; clear BK111; clear BK112; clear HB; have BK110 := n0_; have BK111 := n1_; have BK112 := n2_; have HB := n3_; clear n0_ n1_ n2_ n3_))
     go_roundg k1
     case measure => have := HK1.out; omega
     case rel => exact ⟨(wrap64 (x12_1 + 1)), eR, ⟨by have hx := HX.out; have h2 := of_decide_eq_true c8b0; have h3 : wrap64 (x12_1 + 1) = x12_1 + 1 := (by unfold wrap64; omega); rw [h3]; omega⟩, H', ⟨by have := HK1.out; omega⟩, ⟨kX BK110.out⟩, ⟨kX BK111.out⟩, ⟨bX HB⟩⟩
    ·exact absurd (Option.some.inj (A9.out.symm.trans HCA.out)) c10
   ·rw [if_neg c8] at H
    have c8b0 : decide (x12_1 < 2) = false := decide_eq_false c8
    clear c8
    replace H := bindA H
    obtain ⟨⟨t114, t115⟩, A25, H⟩ := H
    try dsimp only at H
    replace H := bindA H
    obtain ⟨⟨t116, t117, t118, t119⟩, A26, H⟩ := H
    try dsimp only at H
    replace H := bindA H
    obtain ⟨⟨t120, t121⟩, A27, H⟩ := H
    try dsimp only at H
    replace H := bindA H
    obtain ⟨⟨t122, t123, t124, t125⟩, A28, H⟩ := H
    try dsimp only at H
    replace H := bindA H
    obtain ⟨t126, A29, H⟩ := H
    try dsimp only at H
    by_cases c30 : t126 > 0
    ·rw [if_pos c30] at H
     have c30b0 : decide (0 < t126) = true := decide_eq_true c30
     clear c30
     simp only [Option.some.injEq, Prod.mk.injEq] at H
     obtain ⟨rfl, rfl⟩ := H
     try go_wp2
     replace BK110 := Aside0.mk (blk_drew BK110.out)
     replace BK111 := Aside0.mk (blk_drew BK111.out)
     replace HB := Aside0.mk (below_drew1 HB.out)
     refine start_ (n := 9) (S := fun w' => w'.cell? ⟨gb110, 0, none⟩ = some (.int .i64 a0_0) ∧ w'.cell? ⟨gb110, 1, none⟩ = some (.int .i64 a0_1) ∧ w'.cell? ⟨gb110, 2, none⟩ = some (.int .i64 a0_2) ∧ w'.cell? ⟨gb110, 3, none⟩ = some (.int .i64 a0_3) ∧ w'.cell? ⟨gb110, 4, none⟩ = some (.slice A0_4 l0_4.length c0_4) ∧ w'.cell? ⟨gb111, 0, none⟩ = some (.int .i64 a1_0) ∧ w'.cell? ⟨gb111, 1, none⟩ = some (.int .i64 a1_1) ∧ w'.cell? ⟨gb111, 2, none⟩ = some (.int .i64 a1_2) ∧ w'.cell? ⟨gb111, 3, none⟩ = some (.int .i64 a1_3) ∧ w'.cell? ⟨gb111, 4, none⟩ = some (.slice A1_4 l1_4.length c1_4)) (ds := []) #[false, false, false, false, false, false, false, false, false] (by kernel_rfl) rfl rfl ⟨bc BK110 0, bc BK110 1, bc BK110 2, bc BK110 3, bc BK110 4, bc BK111 0, bc BK111 1, bc BK111 2, bc BK111 3, bc BK111 4⟩ (fun hHeld => ?_); refine with_tabW z10_.tab8 z10_.bits8 (fun HT_ HW_ => ?_)
     generalize wr.drew = w31 at BK110 BK111 HB hHeld ⊢
     refine tA 1 23 HT_ HW_ hHeld ?_
     refine tA 4 26 HT_ HW_ hHeld ?_
     refine oneA (i := 0) (N := some 22) HT_ (fun K hK => ?_)
     refine goesB Tryz.func46 #[] ?_
     with_reducible refine (z28_.calls  t114 t115 _ A25.out).mono ?_
     rintro e w32 ⟨rfl, hb⟩
     refine ⟨_, rfl, ?_⟩
     replace BK110 := kB BK110 hb
     replace BK111 := kB BK111 hb
     replace HB := bS HB hb
     refine hK.out _ _ ⟨bc BK110 0, bc BK110 1, bc BK110 2, bc BK110 3, bc BK110 4, bc BK111 0, bc BK111 1, bc BK111 2, bc BK111 3, bc BK111 4⟩ (fun hHeld => ?_)
     clear hK K
     refine normA (N := some 22) ?_
     refine oneA (i := 2) (N := some 24) HT_ (fun K hK => ?_)
     refine goesB Tryz.func47 #[.agg #[(fnV t114), (fnV t115)], .agg #[.int .i64 a0_0, .int .i64 a0_1, .int .i64 a0_2, .int .i64 a0_3, .slice A0_4 l0_4.length c0_4]] ?_
     with_reducible refine (z8_.calls t114 t115 a0_0 a0_1 a0_2 a0_3 _ _ l0_4 t116 t117 t118 t119 _ ?side1 ?side2 A26.out).mono ?_
     (case side1 => exact sX (Kd.C_below HR0_4.out HB.out))
     (case side2 => exact HC0_4.out)
     rintro e w33 ⟨rfl, hb⟩
     refine ⟨_, rfl, ?_⟩
     replace BK110 := kB BK110 hb
     replace BK111 := kB BK111 hb
     replace HB := bS HB hb
     refine hK.out _ _ ⟨bc BK110 0, bc BK110 1, bc BK110 2, bc BK110 3, bc BK110 4, bc BK111 0, bc BK111 1, bc BK111 2, bc BK111 3, bc BK111 4⟩ (fun hHeld => ?_)
     clear hK K
     refine normA (N := some 24) ?_
     refine oneA (i := 3) (N := some 25) HT_ (fun K hK => ?_)
     refine goesB Tryz.func49 #[] ?_
     with_reducible refine (z29_.calls  t120 t121 _ A27.out).mono ?_
     rintro e w34 ⟨rfl, hb⟩
     refine ⟨_, rfl, ?_⟩
     replace BK110 := kB BK110 hb
     replace BK111 := kB BK111 hb
     replace HB := bS HB hb
     refine hK.out _ _ ⟨bc BK110 0, bc BK110 1, bc BK110 2, bc BK110 3, bc BK110 4, bc BK111 0, bc BK111 1, bc BK111 2, bc BK111 3, bc BK111 4⟩ (fun hHeld => ?_)
     clear hK K
     refine normA (N := some 25) ?_
     refine oneA (i := 5) (N := some 27) HT_ (fun K hK => ?_)
     refine goesB Tryz.func47 #[.agg #[(fnV t120), (fnV t121)], .agg #[.int .i64 a1_0, .int .i64 a1_1, .int .i64 a1_2, .int .i64 a1_3, .slice A1_4 l1_4.length c1_4]] ?_
     with_reducible refine (z8_.calls t120 t121 a1_0 a1_1 a1_2 a1_3 _ _ l1_4 t122 t123 t124 t125 _ ?side1 ?side2 A28.out).mono ?_
     (case side1 => exact sX (Kd.C_below HR1_4.out HB.out))
     (case side2 => exact HC1_4.out)
     rintro e w35 ⟨rfl, hb⟩
     refine ⟨_, rfl, ?_⟩
     replace BK110 := kB BK110 hb
     replace BK111 := kB BK111 hb
     replace HB := bS HB hb
     refine hK.out _ _ ⟨bc BK110 0, bc BK110 1, bc BK110 2, bc BK110 3, bc BK110 4, bc BK111 0, bc BK111 1, bc BK111 2, bc BK111 3, bc BK111 4⟩ (fun hHeld => ?_)
     clear hK K
     refine normA (N := some 27) ?_
     refine oneA (i := 6) (N := some 28) HT_ (fun K hK => ?_)
     refine goesB Tryz.func48 #[.agg #[.int .i64 t116, .int .i64 t117, .int .i64 t118, .int .i64 t119], .agg #[.int .i64 t122, .int .i64 t123, .int .i64 t124, .int .i64 t125]] ?_
     with_reducible refine (z51_.calls t116 t117 t118 t119 t122 t123 t124 t125 t126 _ A29.out).mono ?_
     rintro e w36 ⟨rfl, hb⟩
     refine ⟨_, rfl, ?_⟩
     replace BK110 := kB BK110 hb
     replace BK111 := kB BK111 hb
     replace HB := bS HB hb
     refine hK.out _ _ ⟨bc BK110 0, bc BK110 1, bc BK110 2, bc BK110 3, bc BK110 4, bc BK111 0, bc BK111 1, bc BK111 2, bc BK111 3, bc BK111 4⟩ (fun hHeld => ?_)
     clear hK K
     refine normA (N := some 28) ?_
     refine pA 7 29 HT_ ?_
     refine pA 8 21 HT_ ?_
     refine done_ (done_of HT_.out (by kernel_rfl)) ?_
     try go_wp2
     go_ret2
     exact ⟨eqA, bX HB⟩
    ·rw [if_neg c30] at H
     have c30b0 : decide (0 < t126) = false := decide_eq_false c30
     clear c30
     replace H := bindA H
     obtain ⟨⟨t127, t128⟩, A37, H⟩ := H
     try dsimp only at H
     replace H := bindA H
     obtain ⟨⟨t129, t130, t131, t132⟩, A38, H⟩ := H
     try dsimp only at H
     replace H := bindA H
     obtain ⟨⟨t133, t134⟩, A39, H⟩ := H
     try dsimp only at H
     replace H := bindA H
     obtain ⟨⟨t135, t136, t137, t138⟩, A40, H⟩ := H
     try dsimp only at H
     replace H := bindA H
     obtain ⟨t139, A41, H⟩ := H
     try dsimp only at H
     by_cases c42 : t139 > 0
     ·rw [if_pos c42] at H
      have c42b0 : decide (0 < t139) = true := decide_eq_true c42
      clear c42
      simp only [Option.some.injEq, Prod.mk.injEq] at H
      obtain ⟨rfl, rfl⟩ := H
      try go_wp2
      replace BK110 := Aside0.mk (blk_drew BK110.out)
      replace BK111 := Aside0.mk (blk_drew BK111.out)
      replace HB := Aside0.mk (below_drew1 HB.out)
      refine start_ (n := 9) (S := fun w' => w'.cell? ⟨gb110, 0, none⟩ = some (.int .i64 a0_0) ∧ w'.cell? ⟨gb110, 1, none⟩ = some (.int .i64 a0_1) ∧ w'.cell? ⟨gb110, 2, none⟩ = some (.int .i64 a0_2) ∧ w'.cell? ⟨gb110, 3, none⟩ = some (.int .i64 a0_3) ∧ w'.cell? ⟨gb110, 4, none⟩ = some (.slice A0_4 l0_4.length c0_4) ∧ w'.cell? ⟨gb111, 0, none⟩ = some (.int .i64 a1_0) ∧ w'.cell? ⟨gb111, 1, none⟩ = some (.int .i64 a1_1) ∧ w'.cell? ⟨gb111, 2, none⟩ = some (.int .i64 a1_2) ∧ w'.cell? ⟨gb111, 3, none⟩ = some (.int .i64 a1_3) ∧ w'.cell? ⟨gb111, 4, none⟩ = some (.slice A1_4 l1_4.length c1_4)) (ds := []) #[false, false, false, false, false, false, false, false, false] (by kernel_rfl) rfl rfl ⟨bc BK110 0, bc BK110 1, bc BK110 2, bc BK110 3, bc BK110 4, bc BK111 0, bc BK111 1, bc BK111 2, bc BK111 3, bc BK111 4⟩ (fun hHeld => ?_); refine with_tabW z10_.tab8 z10_.bits8 (fun HT_ HW_ => ?_)
      generalize wr.drew = w43 at BK110 BK111 HB hHeld ⊢
      refine tA 1 23 HT_ HW_ hHeld ?_
      refine tA 4 26 HT_ HW_ hHeld ?_
      refine oneA (i := 0) (N := some 22) HT_ (fun K hK => ?_)
      refine goesB Tryz.func46 #[] ?_
      with_reducible refine (z28_.calls  t114 t115 _ A25.out).mono ?_
      rintro e w44 ⟨rfl, hb⟩
      refine ⟨_, rfl, ?_⟩
      replace BK110 := kB BK110 hb
      replace BK111 := kB BK111 hb
      replace HB := bS HB hb
      refine hK.out _ _ ⟨bc BK110 0, bc BK110 1, bc BK110 2, bc BK110 3, bc BK110 4, bc BK111 0, bc BK111 1, bc BK111 2, bc BK111 3, bc BK111 4⟩ (fun hHeld => ?_)
      clear hK K
      refine normA (N := some 22) ?_
      refine oneA (i := 2) (N := some 24) HT_ (fun K hK => ?_)
      refine goesB Tryz.func47 #[.agg #[(fnV t114), (fnV t115)], .agg #[.int .i64 a0_0, .int .i64 a0_1, .int .i64 a0_2, .int .i64 a0_3, .slice A0_4 l0_4.length c0_4]] ?_
      with_reducible refine (z8_.calls t114 t115 a0_0 a0_1 a0_2 a0_3 _ _ l0_4 t116 t117 t118 t119 _ ?side1 ?side2 A26.out).mono ?_
      (case side1 => exact sX (Kd.C_below HR0_4.out HB.out))
      (case side2 => exact HC0_4.out)
      rintro e w45 ⟨rfl, hb⟩
      refine ⟨_, rfl, ?_⟩
      replace BK110 := kB BK110 hb
      replace BK111 := kB BK111 hb
      replace HB := bS HB hb
      refine hK.out _ _ ⟨bc BK110 0, bc BK110 1, bc BK110 2, bc BK110 3, bc BK110 4, bc BK111 0, bc BK111 1, bc BK111 2, bc BK111 3, bc BK111 4⟩ (fun hHeld => ?_)
      clear hK K
      refine normA (N := some 24) ?_
      refine oneA (i := 3) (N := some 25) HT_ (fun K hK => ?_)
      refine goesB Tryz.func49 #[] ?_
      with_reducible refine (z29_.calls  t120 t121 _ A27.out).mono ?_
      rintro e w46 ⟨rfl, hb⟩
      refine ⟨_, rfl, ?_⟩
      replace BK110 := kB BK110 hb
      replace BK111 := kB BK111 hb
      replace HB := bS HB hb
      refine hK.out _ _ ⟨bc BK110 0, bc BK110 1, bc BK110 2, bc BK110 3, bc BK110 4, bc BK111 0, bc BK111 1, bc BK111 2, bc BK111 3, bc BK111 4⟩ (fun hHeld => ?_)
      clear hK K
      refine normA (N := some 25) ?_
      refine oneA (i := 5) (N := some 27) HT_ (fun K hK => ?_)
      refine goesB Tryz.func47 #[.agg #[(fnV t120), (fnV t121)], .agg #[.int .i64 a1_0, .int .i64 a1_1, .int .i64 a1_2, .int .i64 a1_3, .slice A1_4 l1_4.length c1_4]] ?_
      with_reducible refine (z8_.calls t120 t121 a1_0 a1_1 a1_2 a1_3 _ _ l1_4 t122 t123 t124 t125 _ ?side1 ?side2 A28.out).mono ?_
      (case side1 => exact sX (Kd.C_below HR1_4.out HB.out))
      (case side2 => exact HC1_4.out)
      rintro e w47 ⟨rfl, hb⟩
      refine ⟨_, rfl, ?_⟩
      replace BK110 := kB BK110 hb
      replace BK111 := kB BK111 hb
      replace HB := bS HB hb
      refine hK.out _ _ ⟨bc BK110 0, bc BK110 1, bc BK110 2, bc BK110 3, bc BK110 4, bc BK111 0, bc BK111 1, bc BK111 2, bc BK111 3, bc BK111 4⟩ (fun hHeld => ?_)
      clear hK K
      refine normA (N := some 27) ?_
      refine oneA (i := 6) (N := some 28) HT_ (fun K hK => ?_)
      refine goesB Tryz.func48 #[.agg #[.int .i64 t116, .int .i64 t117, .int .i64 t118, .int .i64 t119], .agg #[.int .i64 t122, .int .i64 t123, .int .i64 t124, .int .i64 t125]] ?_
      with_reducible refine (z51_.calls t116 t117 t118 t119 t122 t123 t124 t125 t126 _ A29.out).mono ?_
      rintro e w48 ⟨rfl, hb⟩
      refine ⟨_, rfl, ?_⟩
      replace BK110 := kB BK110 hb
      replace BK111 := kB BK111 hb
      replace HB := bS HB hb
      refine hK.out _ _ ⟨bc BK110 0, bc BK110 1, bc BK110 2, bc BK110 3, bc BK110 4, bc BK111 0, bc BK111 1, bc BK111 2, bc BK111 3, bc BK111 4⟩ (fun hHeld => ?_)
      clear hK K
      refine normA (N := some 28) ?_
      refine pA 7 29 HT_ ?_
      refine pA 8 21 HT_ ?_
      refine done_ (done_of HT_.out (by kernel_rfl)) ?_
      try go_wp2
      replace BK110 := Aside0.mk (blk_drew BK110.out)
      replace BK111 := Aside0.mk (blk_drew BK111.out)
      replace HB := Aside0.mk (below_drew1 HB.out)
      refine start_ (n := 9) (S := fun w' => w'.cell? ⟨gb111, 0, none⟩ = some (.int .i64 a1_0) ∧ w'.cell? ⟨gb111, 1, none⟩ = some (.int .i64 a1_1) ∧ w'.cell? ⟨gb111, 2, none⟩ = some (.int .i64 a1_2) ∧ w'.cell? ⟨gb111, 3, none⟩ = some (.int .i64 a1_3) ∧ w'.cell? ⟨gb111, 4, none⟩ = some (.slice A1_4 l1_4.length c1_4) ∧ w'.cell? ⟨gb110, 0, none⟩ = some (.int .i64 a0_0) ∧ w'.cell? ⟨gb110, 1, none⟩ = some (.int .i64 a0_1) ∧ w'.cell? ⟨gb110, 2, none⟩ = some (.int .i64 a0_2) ∧ w'.cell? ⟨gb110, 3, none⟩ = some (.int .i64 a0_3) ∧ w'.cell? ⟨gb110, 4, none⟩ = some (.slice A0_4 l0_4.length c0_4)) (ds := []) #[false, false, false, false, false, false, false, false, false] (by kernel_rfl) rfl rfl ⟨bc BK111 0, bc BK111 1, bc BK111 2, bc BK111 3, bc BK111 4, bc BK110 0, bc BK110 1, bc BK110 2, bc BK110 3, bc BK110 4⟩ (fun hHeld => ?_); refine with_tabW z10_.tab10 z10_.bits10 (fun HT_ HW_ => ?_)
      generalize w48.drew = w49 at BK110 BK111 HB hHeld ⊢
      refine tA 1 32 HT_ HW_ hHeld ?_
      refine tA 4 35 HT_ HW_ hHeld ?_
      refine oneA (i := 0) (N := some 31) HT_ (fun K hK => ?_)
      refine goesB Tryz.func46 #[] ?_
      with_reducible refine (z28_.calls  t127 t128 _ A37.out).mono ?_
      rintro e w50 ⟨rfl, hb⟩
      refine ⟨_, rfl, ?_⟩
      replace BK110 := kB BK110 hb
      replace BK111 := kB BK111 hb
      replace HB := bS HB hb
      refine hK.out _ _ ⟨bc BK111 0, bc BK111 1, bc BK111 2, bc BK111 3, bc BK111 4, bc BK110 0, bc BK110 1, bc BK110 2, bc BK110 3, bc BK110 4⟩ (fun hHeld => ?_)
      clear hK K
      refine normA (N := some 31) ?_
      refine oneA (i := 2) (N := some 33) HT_ (fun K hK => ?_)
      refine goesB Tryz.func47 #[.agg #[(fnV t127), (fnV t128)], .agg #[.int .i64 a1_0, .int .i64 a1_1, .int .i64 a1_2, .int .i64 a1_3, .slice A1_4 l1_4.length c1_4]] ?_
      with_reducible refine (z8_.calls t127 t128 a1_0 a1_1 a1_2 a1_3 _ _ l1_4 t129 t130 t131 t132 _ ?side1 ?side2 A38.out).mono ?_
      (case side1 => exact sX (Kd.C_below HR1_4.out HB.out))
      (case side2 => exact HC1_4.out)
      rintro e w51 ⟨rfl, hb⟩
      refine ⟨_, rfl, ?_⟩
      replace BK110 := kB BK110 hb
      replace BK111 := kB BK111 hb
      replace HB := bS HB hb
      refine hK.out _ _ ⟨bc BK111 0, bc BK111 1, bc BK111 2, bc BK111 3, bc BK111 4, bc BK110 0, bc BK110 1, bc BK110 2, bc BK110 3, bc BK110 4⟩ (fun hHeld => ?_)
      clear hK K
      refine normA (N := some 33) ?_
      refine oneA (i := 3) (N := some 34) HT_ (fun K hK => ?_)
      refine goesB Tryz.func49 #[] ?_
      with_reducible refine (z29_.calls  t133 t134 _ A39.out).mono ?_
      rintro e w52 ⟨rfl, hb⟩
      refine ⟨_, rfl, ?_⟩
      replace BK110 := kB BK110 hb
      replace BK111 := kB BK111 hb
      replace HB := bS HB hb
      refine hK.out _ _ ⟨bc BK111 0, bc BK111 1, bc BK111 2, bc BK111 3, bc BK111 4, bc BK110 0, bc BK110 1, bc BK110 2, bc BK110 3, bc BK110 4⟩ (fun hHeld => ?_)
      clear hK K
      refine normA (N := some 34) ?_
      refine oneA (i := 5) (N := some 36) HT_ (fun K hK => ?_)
      refine goesB Tryz.func47 #[.agg #[(fnV t133), (fnV t134)], .agg #[.int .i64 a0_0, .int .i64 a0_1, .int .i64 a0_2, .int .i64 a0_3, .slice A0_4 l0_4.length c0_4]] ?_
      with_reducible refine (z8_.calls t133 t134 a0_0 a0_1 a0_2 a0_3 _ _ l0_4 t135 t136 t137 t138 _ ?side1 ?side2 A40.out).mono ?_
      (case side1 => exact sX (Kd.C_below HR0_4.out HB.out))
      (case side2 => exact HC0_4.out)
      rintro e w53 ⟨rfl, hb⟩
      refine ⟨_, rfl, ?_⟩
      replace BK110 := kB BK110 hb
      replace BK111 := kB BK111 hb
      replace HB := bS HB hb
      refine hK.out _ _ ⟨bc BK111 0, bc BK111 1, bc BK111 2, bc BK111 3, bc BK111 4, bc BK110 0, bc BK110 1, bc BK110 2, bc BK110 3, bc BK110 4⟩ (fun hHeld => ?_)
      clear hK K
      refine normA (N := some 36) ?_
      refine oneA (i := 6) (N := some 37) HT_ (fun K hK => ?_)
      refine goesB Tryz.func48 #[.agg #[.int .i64 t129, .int .i64 t130, .int .i64 t131, .int .i64 t132], .agg #[.int .i64 t135, .int .i64 t136, .int .i64 t137, .int .i64 t138]] ?_
      with_reducible refine (z51_.calls t129 t130 t131 t132 t135 t136 t137 t138 t139 _ A41.out).mono ?_
      rintro e w54 ⟨rfl, hb⟩
      refine ⟨_, rfl, ?_⟩
      replace BK110 := kB BK110 hb
      replace BK111 := kB BK111 hb
      replace HB := bS HB hb
      refine hK.out _ _ ⟨bc BK111 0, bc BK111 1, bc BK111 2, bc BK111 3, bc BK111 4, bc BK110 0, bc BK110 1, bc BK110 2, bc BK110 3, bc BK110 4⟩ (fun hHeld => ?_)
      clear hK K
      refine normA (N := some 37) ?_
      refine pA 7 38 HT_ ?_
      refine pA 8 30 HT_ ?_
      refine done_ (done_of HT_.out (by kernel_rfl)) ?_
      try go_wp2
      go_ret2
      exact ⟨eqA, bX HB⟩
     ·rw [if_neg c42] at H
      have c42b0 : decide (0 < t139) = false := decide_eq_false c42
      clear c42
      simp only [Option.some.injEq, Prod.mk.injEq] at H
      obtain ⟨rfl, rfl⟩ := H
      try go_wp2
      replace BK110 := Aside0.mk (blk_drew BK110.out)
      replace BK111 := Aside0.mk (blk_drew BK111.out)
      replace HB := Aside0.mk (below_drew1 HB.out)
      refine start_ (n := 9) (S := fun w' => w'.cell? ⟨gb110, 0, none⟩ = some (.int .i64 a0_0) ∧ w'.cell? ⟨gb110, 1, none⟩ = some (.int .i64 a0_1) ∧ w'.cell? ⟨gb110, 2, none⟩ = some (.int .i64 a0_2) ∧ w'.cell? ⟨gb110, 3, none⟩ = some (.int .i64 a0_3) ∧ w'.cell? ⟨gb110, 4, none⟩ = some (.slice A0_4 l0_4.length c0_4) ∧ w'.cell? ⟨gb111, 0, none⟩ = some (.int .i64 a1_0) ∧ w'.cell? ⟨gb111, 1, none⟩ = some (.int .i64 a1_1) ∧ w'.cell? ⟨gb111, 2, none⟩ = some (.int .i64 a1_2) ∧ w'.cell? ⟨gb111, 3, none⟩ = some (.int .i64 a1_3) ∧ w'.cell? ⟨gb111, 4, none⟩ = some (.slice A1_4 l1_4.length c1_4)) (ds := []) #[false, false, false, false, false, false, false, false, false] (by kernel_rfl) rfl rfl ⟨bc BK110 0, bc BK110 1, bc BK110 2, bc BK110 3, bc BK110 4, bc BK111 0, bc BK111 1, bc BK111 2, bc BK111 3, bc BK111 4⟩ (fun hHeld => ?_); refine with_tabW z10_.tab8 z10_.bits8 (fun HT_ HW_ => ?_)
      generalize wr.drew = w55 at BK110 BK111 HB hHeld ⊢
      refine tA 1 23 HT_ HW_ hHeld ?_
      refine tA 4 26 HT_ HW_ hHeld ?_
      refine oneA (i := 0) (N := some 22) HT_ (fun K hK => ?_)
      refine goesB Tryz.func46 #[] ?_
      with_reducible refine (z28_.calls  t114 t115 _ A25.out).mono ?_
      rintro e w56 ⟨rfl, hb⟩
      refine ⟨_, rfl, ?_⟩
      replace BK110 := kB BK110 hb
      replace BK111 := kB BK111 hb
      replace HB := bS HB hb
      refine hK.out _ _ ⟨bc BK110 0, bc BK110 1, bc BK110 2, bc BK110 3, bc BK110 4, bc BK111 0, bc BK111 1, bc BK111 2, bc BK111 3, bc BK111 4⟩ (fun hHeld => ?_)
      clear hK K
      refine normA (N := some 22) ?_
      refine oneA (i := 2) (N := some 24) HT_ (fun K hK => ?_)
      refine goesB Tryz.func47 #[.agg #[(fnV t114), (fnV t115)], .agg #[.int .i64 a0_0, .int .i64 a0_1, .int .i64 a0_2, .int .i64 a0_3, .slice A0_4 l0_4.length c0_4]] ?_
      with_reducible refine (z8_.calls t114 t115 a0_0 a0_1 a0_2 a0_3 _ _ l0_4 t116 t117 t118 t119 _ ?side1 ?side2 A26.out).mono ?_
      (case side1 => exact sX (Kd.C_below HR0_4.out HB.out))
      (case side2 => exact HC0_4.out)
      rintro e w57 ⟨rfl, hb⟩
      refine ⟨_, rfl, ?_⟩
      replace BK110 := kB BK110 hb
      replace BK111 := kB BK111 hb
      replace HB := bS HB hb
      refine hK.out _ _ ⟨bc BK110 0, bc BK110 1, bc BK110 2, bc BK110 3, bc BK110 4, bc BK111 0, bc BK111 1, bc BK111 2, bc BK111 3, bc BK111 4⟩ (fun hHeld => ?_)
      clear hK K
      refine normA (N := some 24) ?_
      refine oneA (i := 3) (N := some 25) HT_ (fun K hK => ?_)
      refine goesB Tryz.func49 #[] ?_
      with_reducible refine (z29_.calls  t120 t121 _ A27.out).mono ?_
      rintro e w58 ⟨rfl, hb⟩
      refine ⟨_, rfl, ?_⟩
      replace BK110 := kB BK110 hb
      replace BK111 := kB BK111 hb
      replace HB := bS HB hb
      refine hK.out _ _ ⟨bc BK110 0, bc BK110 1, bc BK110 2, bc BK110 3, bc BK110 4, bc BK111 0, bc BK111 1, bc BK111 2, bc BK111 3, bc BK111 4⟩ (fun hHeld => ?_)
      clear hK K
      refine normA (N := some 25) ?_
      refine oneA (i := 5) (N := some 27) HT_ (fun K hK => ?_)
      refine goesB Tryz.func47 #[.agg #[(fnV t120), (fnV t121)], .agg #[.int .i64 a1_0, .int .i64 a1_1, .int .i64 a1_2, .int .i64 a1_3, .slice A1_4 l1_4.length c1_4]] ?_
      with_reducible refine (z8_.calls t120 t121 a1_0 a1_1 a1_2 a1_3 _ _ l1_4 t122 t123 t124 t125 _ ?side1 ?side2 A28.out).mono ?_
      (case side1 => exact sX (Kd.C_below HR1_4.out HB.out))
      (case side2 => exact HC1_4.out)
      rintro e w59 ⟨rfl, hb⟩
      refine ⟨_, rfl, ?_⟩
      replace BK110 := kB BK110 hb
      replace BK111 := kB BK111 hb
      replace HB := bS HB hb
      refine hK.out _ _ ⟨bc BK110 0, bc BK110 1, bc BK110 2, bc BK110 3, bc BK110 4, bc BK111 0, bc BK111 1, bc BK111 2, bc BK111 3, bc BK111 4⟩ (fun hHeld => ?_)
      clear hK K
      refine normA (N := some 27) ?_
      refine oneA (i := 6) (N := some 28) HT_ (fun K hK => ?_)
      refine goesB Tryz.func48 #[.agg #[.int .i64 t116, .int .i64 t117, .int .i64 t118, .int .i64 t119], .agg #[.int .i64 t122, .int .i64 t123, .int .i64 t124, .int .i64 t125]] ?_
      with_reducible refine (z51_.calls t116 t117 t118 t119 t122 t123 t124 t125 t126 _ A29.out).mono ?_
      rintro e w60 ⟨rfl, hb⟩
      refine ⟨_, rfl, ?_⟩
      replace BK110 := kB BK110 hb
      replace BK111 := kB BK111 hb
      replace HB := bS HB hb
      refine hK.out _ _ ⟨bc BK110 0, bc BK110 1, bc BK110 2, bc BK110 3, bc BK110 4, bc BK111 0, bc BK111 1, bc BK111 2, bc BK111 3, bc BK111 4⟩ (fun hHeld => ?_)
      clear hK K
      refine normA (N := some 28) ?_
      refine pA 7 29 HT_ ?_
      refine pA 8 21 HT_ ?_
      refine done_ (done_of HT_.out (by kernel_rfl)) ?_
      try go_wp2
      replace BK110 := Aside0.mk (blk_drew BK110.out)
      replace BK111 := Aside0.mk (blk_drew BK111.out)
      replace HB := Aside0.mk (below_drew1 HB.out)
      refine start_ (n := 9) (S := fun w' => w'.cell? ⟨gb111, 0, none⟩ = some (.int .i64 a1_0) ∧ w'.cell? ⟨gb111, 1, none⟩ = some (.int .i64 a1_1) ∧ w'.cell? ⟨gb111, 2, none⟩ = some (.int .i64 a1_2) ∧ w'.cell? ⟨gb111, 3, none⟩ = some (.int .i64 a1_3) ∧ w'.cell? ⟨gb111, 4, none⟩ = some (.slice A1_4 l1_4.length c1_4) ∧ w'.cell? ⟨gb110, 0, none⟩ = some (.int .i64 a0_0) ∧ w'.cell? ⟨gb110, 1, none⟩ = some (.int .i64 a0_1) ∧ w'.cell? ⟨gb110, 2, none⟩ = some (.int .i64 a0_2) ∧ w'.cell? ⟨gb110, 3, none⟩ = some (.int .i64 a0_3) ∧ w'.cell? ⟨gb110, 4, none⟩ = some (.slice A0_4 l0_4.length c0_4)) (ds := []) #[false, false, false, false, false, false, false, false, false] (by kernel_rfl) rfl rfl ⟨bc BK111 0, bc BK111 1, bc BK111 2, bc BK111 3, bc BK111 4, bc BK110 0, bc BK110 1, bc BK110 2, bc BK110 3, bc BK110 4⟩ (fun hHeld => ?_); refine with_tabW z10_.tab10 z10_.bits10 (fun HT_ HW_ => ?_)
      generalize w60.drew = w61 at BK110 BK111 HB hHeld ⊢
      refine tA 1 32 HT_ HW_ hHeld ?_
      refine tA 4 35 HT_ HW_ hHeld ?_
      refine oneA (i := 0) (N := some 31) HT_ (fun K hK => ?_)
      refine goesB Tryz.func46 #[] ?_
      with_reducible refine (z28_.calls  t127 t128 _ A37.out).mono ?_
      rintro e w62 ⟨rfl, hb⟩
      refine ⟨_, rfl, ?_⟩
      replace BK110 := kB BK110 hb
      replace BK111 := kB BK111 hb
      replace HB := bS HB hb
      refine hK.out _ _ ⟨bc BK111 0, bc BK111 1, bc BK111 2, bc BK111 3, bc BK111 4, bc BK110 0, bc BK110 1, bc BK110 2, bc BK110 3, bc BK110 4⟩ (fun hHeld => ?_)
      clear hK K
      refine normA (N := some 31) ?_
      refine oneA (i := 2) (N := some 33) HT_ (fun K hK => ?_)
      refine goesB Tryz.func47 #[.agg #[(fnV t127), (fnV t128)], .agg #[.int .i64 a1_0, .int .i64 a1_1, .int .i64 a1_2, .int .i64 a1_3, .slice A1_4 l1_4.length c1_4]] ?_
      with_reducible refine (z8_.calls t127 t128 a1_0 a1_1 a1_2 a1_3 _ _ l1_4 t129 t130 t131 t132 _ ?side1 ?side2 A38.out).mono ?_
      (case side1 => exact sX (Kd.C_below HR1_4.out HB.out))
      (case side2 => exact HC1_4.out)
      rintro e w63 ⟨rfl, hb⟩
      refine ⟨_, rfl, ?_⟩
      replace BK110 := kB BK110 hb
      replace BK111 := kB BK111 hb
      replace HB := bS HB hb
      refine hK.out _ _ ⟨bc BK111 0, bc BK111 1, bc BK111 2, bc BK111 3, bc BK111 4, bc BK110 0, bc BK110 1, bc BK110 2, bc BK110 3, bc BK110 4⟩ (fun hHeld => ?_)
      clear hK K
      refine normA (N := some 33) ?_
      refine oneA (i := 3) (N := some 34) HT_ (fun K hK => ?_)
      refine goesB Tryz.func49 #[] ?_
      with_reducible refine (z29_.calls  t133 t134 _ A39.out).mono ?_
      rintro e w64 ⟨rfl, hb⟩
      refine ⟨_, rfl, ?_⟩
      replace BK110 := kB BK110 hb
      replace BK111 := kB BK111 hb
      replace HB := bS HB hb
      refine hK.out _ _ ⟨bc BK111 0, bc BK111 1, bc BK111 2, bc BK111 3, bc BK111 4, bc BK110 0, bc BK110 1, bc BK110 2, bc BK110 3, bc BK110 4⟩ (fun hHeld => ?_)
      clear hK K
      refine normA (N := some 34) ?_
      refine oneA (i := 5) (N := some 36) HT_ (fun K hK => ?_)
      refine goesB Tryz.func47 #[.agg #[(fnV t133), (fnV t134)], .agg #[.int .i64 a0_0, .int .i64 a0_1, .int .i64 a0_2, .int .i64 a0_3, .slice A0_4 l0_4.length c0_4]] ?_
      with_reducible refine (z8_.calls t133 t134 a0_0 a0_1 a0_2 a0_3 _ _ l0_4 t135 t136 t137 t138 _ ?side1 ?side2 A40.out).mono ?_
      (case side1 => exact sX (Kd.C_below HR0_4.out HB.out))
      (case side2 => exact HC0_4.out)
      rintro e w65 ⟨rfl, hb⟩
      refine ⟨_, rfl, ?_⟩
      replace BK110 := kB BK110 hb
      replace BK111 := kB BK111 hb
      replace HB := bS HB hb
      refine hK.out _ _ ⟨bc BK111 0, bc BK111 1, bc BK111 2, bc BK111 3, bc BK111 4, bc BK110 0, bc BK110 1, bc BK110 2, bc BK110 3, bc BK110 4⟩ (fun hHeld => ?_)
      clear hK K
      refine normA (N := some 36) ?_
      refine oneA (i := 6) (N := some 37) HT_ (fun K hK => ?_)
      refine goesB Tryz.func48 #[.agg #[.int .i64 t129, .int .i64 t130, .int .i64 t131, .int .i64 t132], .agg #[.int .i64 t135, .int .i64 t136, .int .i64 t137, .int .i64 t138]] ?_
      with_reducible refine (z51_.calls t129 t130 t131 t132 t135 t136 t137 t138 t139 _ A41.out).mono ?_
      rintro e w66 ⟨rfl, hb⟩
      refine ⟨_, rfl, ?_⟩
      replace BK110 := kB BK110 hb
      replace BK111 := kB BK111 hb
      replace HB := bS HB hb
      refine hK.out _ _ ⟨bc BK111 0, bc BK111 1, bc BK111 2, bc BK111 3, bc BK111 4, bc BK110 0, bc BK110 1, bc BK110 2, bc BK110 3, bc BK110 4⟩ (fun hHeld => ?_)
      clear hK K
      refine normA (N := some 37) ?_
      refine pA 7 38 HT_ ?_
      refine pA 8 30 HT_ ?_
      refine done_ (done_of HT_.out (by kernel_rfl)) ?_
      try go_wp2
      go_ret2
      exact ⟨eqA, bX HB⟩
end PCmp
end Go.Proofs.YtgdkmadcegleiaaGreatDoor
namespace Go.Proofs.YtgdkmadcegleiaaGreatDoor
namespace PCmp
open X Yp
attribute [local go_sem] max2_int min2_int max_two min_two max_three min_three max_four min_four   -- for this text's walks alone
end PCmp
end Go.Proofs.YtgdkmadcegleiaaGreatDoor
namespace Go.Proofs.YtgdkmadcegleiaaGreatDoor
namespace Z
open X
abbrev z6_.f := PWet.z6_.f 60
theorem z6_.calls : type_of% (PWet.z6_.calls 60) := PWet.z6_.calls 60
def z10_.f (a0_0 a0_1 a0_2 a0_3 : Int) (l0_4 : List S47) (a1_0 a1_1 a1_2 a1_3 : Int) (l1_4 : List S47) : Option (Int × Int) :=
  if Yp.z5_.f a0_0 a0_1 a0_2 a0_3 l0_4 = some 0 ∧ Yp.z5_.f a1_0 a1_1 a1_2 a1_3 l1_4 = some 0 then PCmp.z10_.f 4 a0_0 a0_1 a0_2 a0_3 l0_4 a1_0 a1_1 a1_2 a1_3 l1_4 else none
theorem z10_.calls (a0_0 a0_1 a0_2 a0_3 : Int) (A0_4 : Option Addr) (c0_4 : Nat) (l0_4 : List S47) (a1_0 a1_1 a1_2 a1_3 : Int) (A1_4 : Option Addr) (c1_4 : Nat) (l1_4 : List S47) (r1 r2 : Int) (w : World)
    (hr0_4 : Kd.C k47 w A0_4 l0_4.length l0_4) (hc0_4 : l0_4.length ≤ c0_4) (hr1_4 : Kd.C k47 w A1_4 l1_4.length l1_4) (hc1_4 : l1_4.length ≤ c1_4) (h : z10_.f a0_0 a0_1 a0_2 a0_3 l0_4 a1_0 a1_1 a1_2 a1_3 l1_4 = some (r1, r2)) :
    Calls Tryz.prog 23 #[.agg #[.int .i64 a0_0, .int .i64 a0_1, .int .i64 a0_2, .int .i64 a0_3, .slice A0_4 l0_4.length c0_4], .agg #[.int .i64 a1_0, .int .i64 a1_1, .int .i64 a1_2, .int .i64 a1_3, .slice A1_4 l1_4.length c1_4]] w fun e w' => e = .returned (.tuple #[.int .i64 r1, .int .i64 r2]) ∧ Below w.heap.size w w' := by
  unfold z10_.f at h
  split at h
  · rename_i hh
    exact PCmp.z10_.calls 4 a0_0 a0_1 a0_2 a0_3 A0_4 c0_4 l0_4 a1_0 a1_1 a1_2 a1_3 A1_4 c1_4 l1_4 r1 r2 w hr0_4 hc0_4 hr1_4 hc1_4 hh.1 hh.2 h
  · exact absurd h (by simp)
end Z
end Go.Proofs.YtgdkmadcegleiaaGreatDoor
namespace Go.Proofs.YtgdkmadcegleiaaGreatDoor
namespace Wef
open X Z Arc
abbrev rdg := rd_T47
def pk (d x y : Int) : Int := if d = 73 then x else y
theorem low_pk {d : Int} (h : d = 73 ∨ d = 74) (x y : Int) : z17_.f d x y = some (pk d x y) := by
  rcases h with rfl | rfl <;> rfl
def con (d far near : Int) (g : Gap) : Int := mn (pk d g.f0.f0 g.f0.f1 * near) (pk d g.f1.f0 g.f1.f1 * far)
def Fine (d : Int) (g : Gap) : Prop := 0 ≤ pk d g.f0.f0 g.f0.f1 ∧ pk d g.f0.f0 g.f0.f1 ≤ 1000 ∧ 0 ≤ pk d g.f1.f0 g.f1.f1 ∧ pk d g.f1.f0 g.f1.f1 ≤ 1000
def pre (c : Nat → Int) : Nat → Int
  | 0 => 0
  | n + 1 => pre c n + c n
theorem add_con {d0 d1 far near : Int} (hd : d0 = 73 ∨ d0 = 74) (hf0 : 0 ≤ far) (hf1 : far ≤ 5000) (hn0 : 0 ≤ near) (hn1 : near ≤ 5000) (g : Gap) (hg : Fine d0 g) (k : Nat) (s0 s1 : Int) (h0 : 0 ≤ s0) (h1 : s0 ≤ 1000000) (h2 : 0 ≤ s1) (h3 : s1 ≤ 1000000) :
    ∃ u v, PRiv.z19_.f (k + 1) d0 d1 s0 s1 far near g.f0.f0 g.f0.f1 g.f1.f0 g.f1.f1 = some (u, v, far, near) ∧ s0 ≤ u ∧ u ≤ s0 + 1000 ∧ s1 ≤ v ∧ v ≤ s1 + 1000 ∧ u * near + v * far = s0 * near + s1 * far + con d0 far near g := by
  obtain ⟨b0, b1, b2, b3⟩ := hg
  unfold PRiv.z19_.f PRiv.z19_.j0 con
  rw [low_pk hd, low_pk hd]
  generalize pk d0 g.f0.f0 g.f0.f1 = a at *
  generalize pk d0 g.f1.f0 g.f1.f1 = b at *
  simp only [Option.bind_some]
  have p1 : 0 ≤ a * near := Int.mul_nonneg b0 hn0
  have p2 : a * near ≤ 1000 * 5000 := Int.mul_le_mul b1 hn1 hn0 (by omega)
  have p3 : 0 ≤ b * far := Int.mul_nonneg b2 hf0
  have p4 : b * far ≤ 1000 * 5000 := Int.mul_le_mul b3 hf1 hf0 (by omega)
  have q1 : (s0 + a) * near = s0 * near + a * near := Int.add_mul _ _ _
  have q2 : (s1 + b) * far = s1 * far + b * far := Int.add_mul _ _ _
  rw [w64 (x := a * near) (by omega) (by omega), w64 (x := b * far) (by omega) (by omega), w64 (x := s0 + a) (by omega) (by omega), w64 (x := s1 + b) (by omega) (by omega)]
  by_cases h : a * near ≤ b * far
  · rw [if_pos h]
    refine ⟨_, _, rfl, by omega, by omega, by omega, by omega, ?_⟩
    rw [q1]
    unfold mn
    split <;> omega
  · rw [if_neg h]
    refine ⟨_, _, rfl, by omega, by omega, by omega, by omega, ?_⟩
    rw [q2]
    unfold mn
    split <;> omega
theorem open_con {d0 d1 far near : Int} (hd : d0 = 73 ∨ d0 = 74) (hf0 : 0 ≤ far) (hf1 : far ≤ 5000) (hn0 : 0 ≤ near) (hn1 : near ≤ 5000) (l : List Gap) (c : Nat → Int) (hl : l.length ≤ 40) (hc : ∀ j : Nat, j < l.length → Fine d0 (rdg l j) ∧ con d0 far near (rdg l j) = c j) :
    ∀ (m k i : Nat) (s0 s1 : Int), i + m = l.length → m + 2 ≤ k → 0 ≤ s0 → s0 ≤ 1000 * i → 0 ≤ s1 → s1 ≤ 1000 * i → s0 * near + s1 * far = pre c i →
    ∃ u v, PRiv.z8_.l0 k l (l.length : Int) (i : Int) d0 d1 s0 s1 far near = some (u, v, far, near) ∧ 0 ≤ u ∧ u ≤ 40000 ∧ 0 ≤ v ∧ v ≤ 40000 ∧ u * near + v * far = pre c l.length := by
  intro m
  induction m with
  | zero =>
    intro k i s0 s1 hi hk h0 h1 h2 h3 he
    obtain ⟨k, rfl⟩ := Nat.exists_eq_add_of_le' (show 1 ≤ k by omega)
    obtain rfl : i = l.length := by omega
    refine ⟨s0, s1, ?_, h0, by omega, h2, by omega, he⟩
    unfold PRiv.z8_.l0
    rw [if_neg (by omega)]
  | succ m ih =>
    intro k i s0 s1 hi hk h0 h1 h2 h3 he
    obtain ⟨k, rfl⟩ := Nat.exists_eq_add_of_le' (show 2 ≤ k by omega)
    obtain ⟨hg, hcon⟩ := hc i (by omega)
    obtain ⟨u, v, e, u0, u1, v0, v1, hs⟩ := add_con (d1 := d1) hd hf0 hf1 hn0 hn1 (rdg l i) hg k s0 s1 h0 (by omega) h2 (by omega)
    have hp : u * near + v * far = pre c (i + 1) := by
      rw [hs, he, hcon]
      rfl
    clear hs he hcon hg hc
    have hi1 : (i : Int) < (l.length : Int) := by clear hp ih e; omega
    have hw : wrap64 ((i : Int) + 1) = ((i + 1 : Nat) : Int) := by clear hp ih e; exact w64 (by omega) (by omega)
    have i1 : u ≤ 1000 * ((i + 1 : Nat) : Int) := by clear hp ih e hw; omega
    have i2 : v ≤ 1000 * ((i + 1 : Nat) : Int) := by clear hp ih e hw; omega
    have i0 : (0 : Int) ≤ u := by clear hp ih e hw; omega
    have i3 : (0 : Int) ≤ v := by clear hp ih e hw; omega
    have i4 : i + 1 + m = l.length := by clear hp ih e hw; omega
    have i5 : m + 2 ≤ k + 1 := by clear hp ih e hw; omega
    have i6 : (0 : Int) ≤ (i : Int) := by clear hp ih e hw; omega
    have := ih (k + 1) (i + 1) u v i4 i5 i0 i1 i3 i2 hp
    clear hp ih
    show ∃ u v, PRiv.z8_.l0 (k + 1 + 1) _ _ _ _ _ _ _ _ _ = _ ∧ _
    unfold PRiv.z8_.l0
    rw [if_pos hi1, if_pos i6, if_pos hi1, e, hw]
    exact this
def D (num den : Int) : Int := mn 360 (4068 * num / (71 * den))
theorem D_le {a b x y : Int} (hb : 0 < b) (hy : 0 < y) (h : a * y ≤ x * b) : D a b ≤ D x y := by
  have h1 : 4068 * a / (71 * b) ≤ 4068 * x / (71 * y) := by
    rw [Int.le_ediv_iff_mul_le (by omega)]
    have h2 : 4068 * a / (71 * b) * (71 * b) ≤ 4068 * a := Int.ediv_mul_le _ (by omega)
    have h3 : 4068 * a / (71 * b) * (71 * b) * y ≤ 4068 * a * y := Int.mul_le_mul_of_nonneg_right h2 (by omega)
    have h4 : 4068 * a * y ≤ 4068 * x * b := by
      rw [Int.mul_assoc, Int.mul_assoc]
      exact Int.mul_le_mul_of_nonneg_left h (by omega)
    generalize 4068 * a / (71 * b) = q at *
    have h5 : q * (71 * y) * b ≤ 4068 * x * b := by
      have e : q * (71 * y) * b = q * (71 * b) * y := by
        rw [Int.mul_assoc q, Int.mul_assoc q, Int.mul_assoc 71 y b, Int.mul_assoc 71 b y, Int.mul_comm y b]
      omega
    exact Int.le_of_mul_le_mul_right h5 hb
  unfold D mn
  split <;> split <;> omega
theorem degrees_D {u v far near S : Int} (h0 : 0 ≤ u) (h1 : u ≤ 40000) (h2 : 0 ≤ v) (h3 : v ≤ 40000) (hf0 : 1 ≤ far) (hf1 : far ≤ 1000) (hn0 : 1 ≤ near) (hn1 : near ≤ 50) (hs : u * near + v * far = S) : PRiv.z53_.f u v far near = some (D S (far * near)) := by
  unfold PRiv.z53_.f PRiv.z24_.f
  simp only [Option.bind_some]
  have p1 : 0 ≤ u * near := Int.mul_nonneg h0 (by omega)
  have p2 : u * near ≤ 40000 * 50 := Int.mul_le_mul h1 hn1 (by omega) (by omega)
  have p3 : 0 ≤ v * far := Int.mul_nonneg h2 (by omega)
  have p4 : v * far ≤ 40000 * 1000 := Int.mul_le_mul h3 hf1 (by omega) (by omega)
  have p5 : 1 * 1 ≤ far * near := Int.mul_le_mul hf0 hn0 (by omega) (by omega)
  have p6 : far * near ≤ 1000 * 50 := Int.mul_le_mul hf1 hn1 (by omega) (by omega)
  unfold D
  generalize u * near = x at *
  generalize v * far = y at *
  generalize far * near = z at *
  subst hs
  rw [w64 (x := x) (by omega) (by omega), w64 (x := y) (by omega) (by omega), w64 (x := x + y) (by omega) (by omega), w64 (x := z) (by omega) (by omega), w64 (x := 71 * z) (by omega) (by omega), if_neg (by omega), w64 (x := 4068 * (x + y)) (by omega) (by omega)]
  have q0 : 0 ≤ 4068 * (x + y) / (71 * z) := Int.ediv_nonneg (by omega) (by omega)
  have q1 : 4068 * (x + y) / (71 * z) ≤ 4068 * (x + y) := Int.ediv_le_self _ (by omega)
  rw [Int.tdiv_eq_ediv_of_nonneg (by omega), w64 (x := 4068 * (x + y) / (71 * z)) (by omega) (by omega)]
theorem opens_con {f0 f1 n0 n1 : Int} (hf0 : 1 ≤ f0) (hf1 : f0 ≤ 1000) (hf2 : 1 ≤ f1) (hf3 : f1 ≤ 1000) (hn0 : 1 ≤ n0) (hn1 : n0 ≤ 50) (hn2 : 1 ≤ n1) (hn3 : n1 ≤ 50) (l : List Gap) (c c' : Nat → Int) (hl : l.length ≤ 40)
    (hc : ∀ j : Nat, j < l.length → Fine 73 (rdg l j) ∧ con 73 f1 n1 (rdg l j) = c j) (hc' : ∀ j : Nat, j < l.length → Fine 74 (rdg l j) ∧ con 74 f0 n0 (rdg l j) = c' j) :
    (∃ u v, Yp.z8_.f 73 74 f0 f1 n0 n1 l = some (u, v, f1, n1) ∧ 0 ≤ u ∧ u ≤ 40000 ∧ 0 ≤ v ∧ v ≤ 40000 ∧ u * n1 + v * f1 = pre c l.length) ∧
    (∃ u v, Yp.z8_.f 74 73 f0 f1 n0 n1 l = some (u, v, f0, n0) ∧ 0 ≤ u ∧ u ≤ 40000 ∧ 0 ≤ v ∧ v ≤ 40000 ∧ u * n0 + v * f0 = pre c' l.length) ∧
    Y.z12_.f f0 f1 n0 n1 l = some (D (pre c l.length) (f1 * n1), D (pre c' l.length) (f0 * n0)) := by
  have z0 : (0 : Int) * n1 + 0 * f1 = pre c 0 := by simp [pre]
  have z1 : (0 : Int) * n0 + 0 * f0 = pre c' 0 := by simp [pre]
  obtain ⟨u, v, e, a0, a1, a2, a3, a4⟩ := open_con (d0 := 73) (d1 := 74) (.inl rfl) (by omega) (by omega) (by omega) (by omega) l c hl hc l.length (l.length + 10) 0 0 0 (by omega) (by omega) (by omega) (by omega) (by omega) (by omega) z0
  obtain ⟨u', v', e', b0, b1, b2, b3, b4⟩ := open_con (d0 := 74) (d1 := 73) (.inr rfl) (by omega) (by omega) (by omega) (by omega) l c' hl hc' l.length (l.length + 10) 0 0 0 (by omega) (by omega) (by omega) (by omega) (by omega) (by omega) z1
  have g1 : z17_.f 74 f0 f1 = some f1 := rfl
  have g2 : z17_.f 74 n0 n1 = some n1 := rfl
  have g3 : z17_.f 73 f0 f1 = some f0 := rfl
  have g4 : z17_.f 73 n0 n1 = some n0 := rfl
  have o1 : PRiv.z8_.f (l.length + 10) 73 74 f0 f1 n0 n1 l = some (u, v, f1, n1) := by
    unfold PRiv.z8_.f
    rw [g1, g2]
    exact e
  have o2 : PRiv.z8_.f (l.length + 10) 74 73 f0 f1 n0 n1 l = some (u', v', f0, n0) := by
    unfold PRiv.z8_.f
    rw [g3, g4]
    exact e'
  refine ⟨⟨u, v, o1, a0, a1, a2, a3, a4⟩, ⟨u', v', o2, b0, b1, b2, b3, b4⟩, ?_⟩
  unfold Y.z12_.f PRiv.z12_.f PRiv.z28_.f PRiv.z29_.f
  simp only [Option.bind_some]
  rw [o1, o2]
  simp only [Option.bind_some]
  rw [degrees_D a0 a1 a2 a3 hf2 hf3 hn2 hn3 a4, degrees_D b0 b1 b2 b3 hf0 hf1 hn0 hn1 b4]
  rfl
theorem cmp_le {a b : Int} (h : a ≤ b) : ∃ r, PCmp.z67_.f a b = some r ∧ ¬ r > 0 := by
  unfold PCmp.z67_.f PCmp.z30_.f
  simp only [Option.bind_some, bne_self_eq_false, Bool.false_eq_true, if_false]
  by_cases h1 : a < b
  · rw [if_pos h1]; exact ⟨-1, rfl, by decide⟩
  · rw [if_neg h1, if_neg (by omega)]; exact ⟨0, rfl, by decide⟩
theorem compare_le {u v f n u' v' f' n' S S' : Int} (h0 : 0 ≤ u) (h1 : u ≤ 40000) (h2 : 0 ≤ v) (h3 : v ≤ 40000) (hf0 : 1 ≤ f) (hf1 : f ≤ 1000) (hn0 : 1 ≤ n) (hn1 : n ≤ 50) (hs : u * n + v * f = S)
    (h0' : 0 ≤ u') (h1' : u' ≤ 40000) (h2' : 0 ≤ v') (h3' : v' ≤ 40000) (hf0' : 1 ≤ f') (hf1' : f' ≤ 1000) (hn0' : 1 ≤ n') (hn1' : n' ≤ 50) (hs' : u' * n' + v' * f' = S') (hle : S * (f' * n') ≤ S' * (f * n)) :
    ∃ r, PCmp.z51_.f u v f n u' v' f' n' = some r ∧ ¬ r > 0 := by
  have p1 : 0 ≤ u * n := Int.mul_nonneg h0 (by omega)
  have p2 : u * n ≤ 40000 * 50 := Int.mul_le_mul h1 hn1 (by omega) (by omega)
  have p3 : 0 ≤ v * f := Int.mul_nonneg h2 (by omega)
  have p4 : v * f ≤ 40000 * 1000 := Int.mul_le_mul h3 hf1 (by omega) (by omega)
  have p5 : 1 * 1 ≤ f * n := Int.mul_le_mul hf0 hn0 (by omega) (by omega)
  have p6 : f * n ≤ 1000 * 50 := Int.mul_le_mul hf1 hn1 (by omega) (by omega)
  have p1' : 0 ≤ u' * n' := Int.mul_nonneg h0' (by omega)
  have p2' : u' * n' ≤ 40000 * 50 := Int.mul_le_mul h1' hn1' (by omega) (by omega)
  have p3' : 0 ≤ v' * f' := Int.mul_nonneg h2' (by omega)
  have p4' : v' * f' ≤ 40000 * 1000 := Int.mul_le_mul h3' hf1' (by omega) (by omega)
  have p5' : 1 * 1 ≤ f' * n' := Int.mul_le_mul hf0' hn0' (by omega) (by omega)
  have p6' : f' * n' ≤ 1000 * 50 := Int.mul_le_mul hf1' hn1' (by omega) (by omega)
  unfold PCmp.z51_.f
  show ∃ r, ((PRiv.z24_.f u v f n).bind _) = some r ∧ _
  unfold PRiv.z24_.f
  simp only [Option.bind_some]
  show ∃ r, ((PRiv.z24_.f u' v' f' n').bind _) = some r ∧ _
  unfold PRiv.z24_.f
  simp only [Option.bind_some]
  generalize u * n = x at *
  generalize v * f = y at *
  generalize f * n = z at *
  generalize u' * n' = x' at *
  generalize v' * f' = y' at *
  generalize f' * n' = z' at *
  subst hs hs'
  have m1 : 0 ≤ (x + y) * z' := Int.mul_nonneg (by omega) (by omega)
  have m2 : (x + y) * z' ≤ 42000000 * 50000 := Int.mul_le_mul (by omega) (by omega) (by omega) (by omega)
  have m3 : 0 ≤ (x' + y') * z := Int.mul_nonneg (by omega) (by omega)
  have m4 : (x' + y') * z ≤ 42000000 * 50000 := Int.mul_le_mul (by omega) (by omega) (by omega) (by omega)
  rw [w64 (x := x) (by omega) (by omega), w64 (x := y) (by omega) (by omega), w64 (x := x + y) (by omega) (by omega), w64 (x := z) (by omega) (by omega), w64 (x := x') (by omega) (by omega), w64 (x := y') (by omega) (by omega), w64 (x := x' + y') (by omega) (by omega), w64 (x := z') (by omega) (by omega),
    w64 (x := (x + y) * z') (by omega) (by omega), w64 (x := (x' + y') * z) (by omega) (by omega)]
  obtain ⟨r, e, h⟩ := cmp_le hle
  rw [e]
  exact ⟨r, rfl, h⟩
theorem wet1_f {n num : Int} (h0 : 0 ≤ n) (h1 : n ≤ 1000) (h2 : 0 ≤ num) (h3 : num ≤ 200) : z66_.f n num 100 = some (n * num / 100) := by
  unfold z66_.f
  have p1 : 0 ≤ n * num := Int.mul_nonneg h0 h2
  have p2 : n * num ≤ 1000 * 200 := Int.mul_le_mul h1 h3 h2 (by omega)
  generalize n * num = x at *
  rw [if_neg (by decide), w64 (x := x) (by omega) (by omega), Int.tdiv_eq_ediv_of_nonneg p1, w64 (x := x / 100) (by omega) (by omega)]
theorem wet2_f {n num : Int} (h0 : 0 ≤ n) (h1 : n ≤ 1000) (h2 : 0 ≤ num) (h3 : num ≤ 200) : z54_.f n num 100 = some ((n * num + 99) / 100) := by
  unfold z54_.f
  have p1 : 0 ≤ n * num := Int.mul_nonneg h0 h2
  have p2 : n * num ≤ 1000 * 200 := Int.mul_le_mul h1 h3 h2 (by omega)
  generalize n * num = x at *
  rw [if_neg (by decide), w64 (x := x) (by omega) (by omega), w64 (x := x + 100) (by omega) (by omega), w64 (x := x + 100 - 1) (by omega) (by omega), Int.tdiv_eq_ediv_of_nonneg (by omega), w64 (x := (x + 100 - 1) / 100) (by omega) (by omega)]
  congr 1
  omega
theorem wet3_f {lo hi ln mo : Int} (a0 : 0 ≤ lo) (a1 : lo ≤ 1000) (b0 : 0 ≤ hi) (b1 : hi ≤ 1000) (l0 : 0 ≤ ln) (l1 : ln ≤ 200) (m0 : 0 ≤ mo) (m1 : mo ≤ 200) : z37_.f lo hi ln 100 mo 100 = some (lo * ln / 100, (hi * mo + 99) / 100) := by
  unfold z37_.f
  rw [wet1_f a0 a1 l0 l1, wet2_f b0 b1 m0 m1]
  rfl
abbrev Fc := S55
theorem isWet_f {num : Int} (h0 : 1 ≤ num) (h1 : num ≤ 200) (k : Nat) (hk : 1 ≤ k) : PWet.z15_.f k num 100 = some true := by
  obtain ⟨k, rfl⟩ := Nat.exists_eq_add_of_le' hk
  unfold PWet.z15_.f
  have e1 : z2_.f 1 1000 [100] = some true := by decide +kernel
  have e2 : z2_.f 1 (wrap64 (2 * 100)) [num] = some true := by
    rw [w64 (by omega) (by omega)]
    unfold z2_.f
    simp [h0, h1]
  rw [e1]
  simp only [Option.bind_some, if_true]
  rw [e2]
  rfl
theorem wet_f {arc ln mo : Int} (a0 : 20 ≤ arc) (a1 : arc ≤ 300) (l0 : 90 ≤ ln) (l1 : ln ≤ 100) (m0 : 100 ≤ mo) (m1 : mo ≤ 110) (k : Nat) (hk : 10 ≤ k) :
    PWet.z6_.f k 400 [⟨⟨0, 0⟩, ⟨arc, arc⟩⟩] ln 100 mo 100 = some ((400 * mo + 99) / 100, [⟨⟨0, 0⟩, ⟨arc * ln / 100, (arc * mo + 99) / 100⟩⟩], 0) := by
  obtain ⟨k, rfl⟩ := Nat.exists_eq_add_of_le' hk
  unfold PWet.z6_.f
  have ec : z43_.f 400 [⟨⟨0, 0⟩, ⟨arc, arc⟩⟩] = some 0 := by
    unfold z43_.f pcheckF
    have : [(⟨⟨0, 0⟩, ⟨arc, arc⟩⟩ : Fc)].any (faceBad 400) = false := by
      simp only [List.any_cons, List.any_nil, Bool.or_false, faceBad, spanB]
      simp only [Bool.or_eq_false_iff, Bool.not_eq_false', Bool.and_eq_true, decide_eq_true_eq, decide_eq_false_iff_not]
      omega
    rw [if_pos (by decide), if_neg (by simp), this]
    rfl
  rw [ec]
  simp only [Option.bind_some, if_true]
  rw [isWet_f (by omega) (by omega) _ (by omega)]
  simp only [Option.bind_some, if_true]
  rw [isWet_f (by omega) (by omega) _ (by omega)]
  simp only [Option.bind_some, if_true]
  rw [w64 (x := ln * 100) (by omega) (by omega), w64 (x := mo * 100) (by omega) (by omega), decide_eq_false (by omega)]
  rw [PWet.z6_.j0, if_neg (by decide), wet2_f (by omega) (by omega) (by omega) (by omega)]
  simp only [Option.bind_some]
  rw [if_neg (by omega)]
  have r1 : arc * 90 ≤ arc * ln := Int.mul_le_mul_of_nonneg_left l0 (by omega)
  have e1 := wet3_f (lo := 0) (hi := 0) (ln := ln) (mo := mo) (by omega) (by omega) (by omega) (by omega) (by omega) (by omega) (by omega) (by omega)
  have e2 := wet3_f (lo := arc) (hi := arc) (ln := ln) (mo := mo) (by omega) (by omega) (by omega) (by omega) (by omega) (by omega) (by omega) (by omega)
  rw [Int.zero_mul, Int.zero_mul] at e1
  have c1 : (0 : Int) / 100 = 0 := by decide
  have c2 : ((0 : Int) + 99) / 100 = 0 := by decide
  rw [c1, c2] at e1
  show PWet.z6_.l0 (k + 8 + 1) _ _ _ _ _ _ _ _ _ _ = _
  rw [PWet.z6_.l0, if_pos (by simp), if_pos (by simp), if_pos (by simp)]
  show ((z37_.f 0 0 ln 100 mo 100).bind _) = _
  rw [e1]
  simp only [Option.bind_some]
  show ((z37_.f arc arc ln 100 mo 100).bind _) = _
  rw [e2]
  simp only [Option.bind_some]
  rw [if_neg (by omega), if_pos (by simp)]
  have hw : wrap64 ((0 : Int) + 1) = 1 := by decide +kernel
  rw [hw]
  show PWet.z6_.l0 (k + 7 + 1) _ _ _ _ _ _ _ _ _ _ = _
  rw [PWet.z6_.l0, if_neg (by simp)]
  rfl
end Wef
end Go.Proofs.YtgdkmadcegleiaaGreatDoor
namespace Go.Proofs.YtgdkmadcegleiaaGreatDoor
namespace PWef
open X Z
attribute [local go_sem] max2_int min2_int max_two min_two max_three min_three max_four min_four   -- for this text's walks alone
def errW : Option Int → Value
  | none => .nilIface
  | some c => .iface 0 (.int .i64 c)
theorem errW_none : errW none = .nilIface := rfl
theorem errW_some (c : Int) : errW (some c) = .iface 0 (.int .i64 c) := rfl
theorem info47 : (Tryz.prog.info? 47).map (fun i => (i.zero, i.size, i.bytes)) = some (some (.agg #[(.int .i64 0), (.int .i64 0), (.int .i64 0), (.int .i64 0)]), 4, 32) := by kernel_rfl
theorem info55 : (Tryz.prog.info? 55).map (fun i => (i.zero, i.size, i.bytes)) = some (some (.agg #[(.int .i64 0), (.int .i64 0), (.int .i64 0), (.int .i64 0)]), 4, 32) := by kernel_rfl
end PWef
end Go.Proofs.YtgdkmadcegleiaaGreatDoor
namespace Go.Proofs.YtgdkmadcegleiaaGreatDoor
namespace PWef
open Sq X Z
attribute [local go_sem] max2_int min2_int max_two min_two max_three min_three max_four min_four   -- for this text's walks alone
theorem eqA30 (d : Nat) (w : World) (x0 y0 : Int) (x1 y1 : Int) :
  (Op.equalIn (d + 2) 30 (.agg #[.int .i64 x0, .int .i64 x1]) (.agg #[.int .i64 y0, .int .i64 y1])).run Tryz.prog w = .ok (x0 == y0 && (x1 == y1)) w := by
 refine eqA_of Tryz.underlying30 (by kernel_rfl) ?_
 refine eqf_cons (by rfl) (by go_simp; rfl) (by go_simp; rfl) (by go_simp) ?_
 exact eqf_last (by rfl) (by go_simp; rfl) (by go_simp; rfl) (by go_simp)
end PWef
end Go.Proofs.YtgdkmadcegleiaaGreatDoor
namespace Go.Proofs.YtgdkmadcegleiaaGreatDoor
namespace PWef
open Sq X Z
attribute [local go_sem] max2_int min2_int max_two min_two max_three min_three max_four min_four   -- for this text's walks alone
def z1_.f (a0 : Int) (a1 : Int) : Option (Int × Int) := some (a0, a1)
set_option maxHeartbeats 8000000 in
set_option maxRecDepth 100000 in
theorem z1_.calls (a0 : Int) (a1 : Int) (r1 : Int) (r2 : Int) (w : World) (h : z1_.f a0 a1 = some (r1, r2)) :
  Calls Tryz.prog 15 #[.int .i64 a0, .int .i64 a1] w fun e w' => e = .returned (.agg #[.int .i64 r1, .int .i64 r2]) ∧ Below w.heap.size w w' := by
 have hu30 := Tryz.underlying30
 have HB := Aside0.mk (Below.refl w.heap.size w)
 have H : (some (a0, a1)) = some (r1, r2) := h
 clear h
 simp only [Option.some.injEq, Prod.mk.injEq] at H
 obtain ⟨rfl, rfl⟩ := H
 go_enter Tryz.func15, Tryz.ntmps15
 go_wp2_with (first | ((with_reducible refine gate_dst (N := 4) rfl ?_); refine boxA (N := 4) (cs := #[.int .i64 0, .int .i64 0]) (t := 30) ?_; intro gb101 hg w3 hbox hb; have BK101 := Aside0.mk (hbox); have GE101 := bG HB hg; replace HB := bS HB hb; clear hb hbox hg; obtain ⟨hcz4_0, hcz4_1, hfz4_0, hfz4_1⟩ := cc2 BK101))
 refine bodyPost_ret (results_cell_row rfl _ _ gb101 30 #[.int .i64 a0, .int .i64 a1] (0, 0) _ rfl (kP BK101) Tryz.underlying30 rfl (by kernel_rfl)) rfl ?_
 exact ⟨eqA, bX HB⟩
def z42_.f (l0 : List Int) (a1 : Int) : Option (Int) := if (l0.length : Int) = 0 then (some 0) else (if 0 ≤ (Int.tmod a1 (l0.length : Int)) then (if (Int.tmod a1 (l0.length : Int)) < (l0.length : Int) then (some (wrap64 (rd l0 (Int.tmod a1 (l0.length : Int))))) else (none)) else (none))
set_option maxHeartbeats 8000000 in
set_option maxRecDepth 100000 in
theorem z42_.calls (A0 : Option Addr) (c0 : Nat) (l0 : List Int) (a1 : Int) (r : Int) (w : World) (hr0 : Kd.C (Kd.int .u8) w A0 l0.length l0) (hc0 : l0.length ≤ c0) (h : z42_.f l0 a1 = some r) :
  Calls Tryz.prog 21 #[.slice A0 l0.length c0, .int .i64 a1] w fun e w' => e = .returned (.int .i64 r) ∧ Drawn0 w w' := by
 have HR0 := Aside0.mk hr0
 have HC0 := Aside0.mk hc0
 clear hr0 hc0
 have H : (if (l0.length : Int) = 0 then (some 0) else (if 0 ≤ (Int.tmod a1 (l0.length : Int)) then (if (Int.tmod a1 (l0.length : Int)) < (l0.length : Int) then (some (wrap64 (rd l0 (Int.tmod a1 (l0.length : Int))))) else (none)) else (none))) = some r := h
 clear h
 by_cases c3 : (l0.length : Int) = 0
 ·rw [if_pos c3] at H
  have c3b0 : ((l0.length : Int) == 0) = true := beq_iff_eq.mpr c3
  have c3b1 : ((l0.length : Int) != 0) = false := bne_eq_false_iff_eq.mpr c3
  clear c3
  obtain rfl := Option.some.inj H
  go_enter Tryz.func21, Tryz.ntmps21
  go_wp2
  go_ret
  exact ⟨by first | rfl | (simp; done) | (simp [*]; done), by repeat (first | exact Drawn0.refl _ | apply Drawn0.step)⟩
 ·rw [if_neg c3] at H
  have c3b0 : ((l0.length : Int) == 0) = false := beq_eq_false_iff_ne.mpr c3
  have c3b1 : ((l0.length : Int) != 0) = true := bne_iff_ne.mpr c3
  have c3b2 : ¬ (l0 = []) := fun h_ => c3 (by rw [h_]; rfl)
  obtain ⟨ji4, hji4⟩ : ∃ j_ : Int, (Int.tmod a1 (l0.length : Int)) = j_ := ⟨_, rfl⟩
  replace H : (if 0 ≤ (ji4) then (if (ji4) < (l0.length : Int) then (some (wrap64 (rd l0 (ji4)))) else (none)) else (none)) = some r := by first | (rw [hji4] at H; exact H) | (simp only [hji4] at H ⊢; exact H)
  by_cases c5 : 0 ≤ (ji4)
  ·rw [if_pos c5] at H
   have c5b0 : decide (0 ≤ (ji4)) = true := decide_eq_true c5
   clear c5
   by_cases c6 : (ji4) < (l0.length : Int)
   ·rw [if_pos c6] at H
    have c6b0 : decide ((ji4) < (l0.length : Int)) = true := decide_eq_true c6
    clear c6
    obtain rfl := Option.some.inj H
    have p102 : 0 ≤ ((ji4) : Int) := of_decide_eq_true (by first | (with_reducible assumption) | assumption)
    have q102 : (ji4) < (l0.length : Int) := of_decide_eq_true (by first | (with_reducible assumption) | assumption)
    obtain ⟨ad102, e102, hx102_0⟩ := Kd.at_int HR0.out (ji4) p102 q102
    cases e102
    replace p102 := eq_true p102
    replace q102 := eq_true q102
    go_enter Tryz.func21, Tryz.ntmps21
    go_wp2
    go_ret
    exact ⟨by first | rfl | (simp; done) | (simp only [← hji4] <;> (first | rfl | simp)) | (simp [*]; done), by repeat (first | exact Drawn0.refl _ | apply Drawn0.step)⟩
   ·rw [if_neg c6] at H
    exact absurd H (by simp)
  ·rw [if_neg c5] at H
   exact absurd H (by simp)
def z32_.j0 : Nat → Bool → Option (Bool)
 | 0, _ => none
 | k + 1, x4 => some x4
def z32_.f (k : Nat) (a0 : Int) (a1_0 : Int) (a1_1 : Int) : Option (Bool) := if a0 ≥ a1_0 then (z32_.j0 k (decide (a0 ≤ a1_1))) else (z32_.j0 k false)
set_option maxHeartbeats 8000000 in
set_option maxRecDepth 100000 in
theorem z32_.calls (k : Nat) (a0 : Int) (a1_0 : Int) (a1_1 : Int) (r : Bool) (w : World) (h : z32_.f k a0 a1_0 a1_1 = some r) :
  Calls Tryz.prog 22 #[.int .i64 a0, .agg #[.int .i64 a1_0, .int .i64 a1_1]] w fun e w' => e = .returned (.bool r) ∧ Below w.heap.size w w' := by
 have hu30 := Tryz.underlying30
 have HB := Aside0.mk (Below.refl w.heap.size w)
 have H : (if a0 ≥ a1_0 then (z32_.j0 k (decide (a0 ≤ a1_1))) else (z32_.j0 k false)) = some r := h
 clear h
 have HC3 := Aside0.mk H
 clear H
 go_enter Tryz.func22, Tryz.ntmps22
 go_upto_region 1 with (first | ((with_reducible refine gate_dst (N := 3) rfl ?_); refine boxA (N := 3) (cs := #[.int .i64 a1_0, .int .i64 a1_1]) (t := 30) ?_; intro gb103 hg w4 hbox hb; have BK103 := Aside0.mk (hbox); have GE103 := bG HB hg; replace HB := bS HB hb; clear hb hbox hg))
 (try simp only [Act.put, List.setIfInBounds_toArray, List.set_cons_zero, List.set_cons_succ])
 go_cut [4] (fun v4 wc => ∃ (kq : Nat) (x4_2 : Bool), v4 = .bool x4_2 ∧ Aside0 (z32_.j0 kq x4_2 = some r) ∧ Aside0 (kq ≤ k) ∧ Aside0 (wc.heap[gb103]? = some (.cells #[.int .i64 a1_0, .int .i64 a1_1] 30 (0, 0))) ∧ Aside0 (Below w.heap.size w wc))
 case first =>
  have H := HC3.out
  clear HC3
  by_cases c5 : a0 ≥ a1_0
  ·rw [if_pos c5] at H
   have c5b0 : decide (a1_0 ≤ a0) = true := decide_eq_true c5
   clear c5
   (first | rw [c5b0] | (simp only [i64_w, i32_w]; rw [c5b0]) | skip)
   have H' := Aside0.mk H
   clear H
   obtain ⟨hcz6_0, hcz6_1, hfz6_0, hfz6_1⟩ := cc2 BK103
   go_wp2
   go_meet
   case rel => exact ⟨_, (decide (a0 ≤ a1_1)), eR, H', ⟨by first | omega | exact Nat.le_refl _⟩, ⟨kX BK103.out⟩, ⟨bX HB⟩⟩
  ·rw [if_neg c5] at H
   have c5b0 : decide (a1_0 ≤ a0) = false := decide_eq_false c5
   clear c5
   (first | rw [c5b0] | (simp only [i64_w, i32_w]; rw [c5b0]) | skip)
   have H' := Aside0.mk H
   clear H
   obtain ⟨hcz7_0, hcz7_1, hfz7_0, hfz7_1⟩ := cc2 BK103
   go_wp2
   go_meet
   case rel => exact ⟨_, (false), eR, H', ⟨by first | omega | exact Nat.le_refl _⟩, ⟨kX BK103.out⟩, ⟨bX HB⟩⟩
 case rest =>
  clear HC3
  try clear p2
  try clear c5b0
  try clear hcz6_0 hcz6_1 hfz6_0 hfz6_1
  try clear hcz7_0 hcz7_1 hfz7_0 hfz7_1
  obtain ⟨kq, x4_2, rfl, HA, HJ2, BK103, HB⟩ := hcut
  cases kq with
  | zero => exact absurd HA.out (by simp [z32_.j0])
  | succ kj2 =>
   have H := HA.out
   clear HA
   simp only [z32_.j0] at H
   obtain rfl := Option.some.inj H
   go_wp2
   go_ret
   exact ⟨eqA, bX HB⟩
end PWef
end Go.Proofs.YtgdkmadcegleiaaGreatDoor
