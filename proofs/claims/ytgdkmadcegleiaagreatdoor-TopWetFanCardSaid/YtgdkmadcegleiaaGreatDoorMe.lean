/- Part 5 of this claim's texts, put together by a program of its author: ArcExt, ArcPure, PKnox0, PKnox1, PKnox2, PKnox3, PKnox4, PKnox, ArcKno, WetA, WetB, PWetx0, PWetx1, PWetx2, PWetx, CmpE, PCmpx0, PCmpx1. -/
import Derived.Test.YtgdkmadcegleiaaGreatDoorMb
import Derived.Test.YtgdkmadcegleiaaGreatDoorMc
import Derived.Test.YtgdkmadcegleiaaGreatDoorMd
import Derived.Test.YtgdkmadcegleiaaGreatDoorProg
import Derived.Below
import Derived.Deep.Draws
import Derived.Deep.AppendLies
import Derived.Maps.AppendAt
import Derived.OwnWalk
import Derived.Laws.BytesArg
import Derived.Laws.MakeOwn
import Derived.Laws.OwnMore
import Derived.Deep.OwnRows
import Derived.Tactics
import Derived.Lib.ConvBytes
import Derived.Laws.Slices
import Derived.WalkKit
import Derived.KernelRfl
import Derived.RowKit3
import Derived.Deep.LoopGhost
import Derived.Deep.QuietTactic
import Derived.BigQuiet
import Derived.WideLaws
import Derived.Deep.DeepCutAuto
import Derived.Deep.CutBlock
import Derived.Deep.RegionHeld3
import Derived.Laws.Rows
import Derived.Lib.AppendStr
import Derived.ArgAppend
import Derived.Laws.IdiomCopy
import Derived.OrdersHeld
import Derived.Laws.BitsLemmas
import Derived.RowKit
import Derived.Test.YtgdkmadcegleiaaGreatDoorMa
open Go.RowKit Go.Proofs.YtgdkmadcegleiaaGreatDoorW.PrintWords Go.Proofs.YtgdkmadcegleiaaGreatDoorW.PrintLast Go.Proofs.YtgdkmadcegleiaaGreatDoorW.PrintMore
set_option linter.unusedVariables false
set_option linter.unusedSimpArgs false
attribute [local go_sem] max2_int min2_int max_two min_two max_three min_three max_four min_four
namespace Go.Proofs.YtgdkmadcegleiaaGreatDoor
namespace Z
open X PToo PBen PTob PSur PIsp
abbrev z23_.f := PRst.z23_.f
theorem z23_.calls : type_of% @PRst.z23_.calls := @PRst.z23_.calls
abbrev z13_.f := PRst.z13_.f 60
theorem z13_.calls : type_of% (PRst.z13_.calls 60) := PRst.z13_.calls 60
abbrev z65_.f := PRpt.z65_.f 60
abbrev z7_.f := PPlM.z7_.f 60
theorem z7_.calls : type_of% (PPlM.z7_.calls 60) := PPlM.z7_.calls 60
abbrev z46_.f := PSti.z46_.f
theorem z46_.calls : type_of% @PSti.z46_.calls := @PSti.z46_.calls
def z60_.f (l0_0 : List (S30)) (l0_1 : List (S30)) (a0_2 : Int) (l0_3 : List (S171)) (a1_0 : Int) (a1_1 : Int) (a1_2 : Int) (a1_3 : Int) (a2 : Int) : Option (List Int × Int) :=
  match z9_.f 200 l0_0 a0_2, z9_.f 200 l0_1 a0_2 with
  | some (rb, true), some (rt, true) =>
    if z62_.f l0_0 l0_1 a0_2 l0_3 = some 0 ∧ z11_.f 1 30 [a1_0] = some true ∧ z11_.f 1 300 [a1_1] = some true ∧ z11_.f 0 50 [a1_2, a1_3] = some true ∧ z68_.f l0_0 l0_1 a0_2 l0_3 rb rt a1_0 a1_1 a1_2 a1_3 a2 0 = some true then
      match z21_.f 200 l0_0 l0_1 a0_2 l0_3 rb rt with
      | some (s1, s2, s3) => (z35_.f 200 s1 s2 s3 a1_0 a1_1 a1_2 a1_3 a2).map (fun r => (r, 0))
      | none => none
    else none
  | _, _ => none
theorem z60_.calls (A0_0 : Option Addr) (c0_0 : Nat) (l0_0 : List (S30)) (A0_1 : Option Addr) (c0_1 : Nat) (l0_1 : List (S30)) (a0_2 : Int) (A0_3 : Option Addr) (c0_3 : Nat) (l0_3 : List (S171)) (a1_0 : Int) (a1_1 : Int) (a1_2 : Int) (a1_3 : Int) (a2 : Int) (r1 : List Int) (r2 : Int) (w : World) (hr0_0 : Kd.C k30 w A0_0 l0_0.length l0_0) (hc0_0 : l0_0.length ≤ c0_0) (hr0_1 : Kd.C k30 w A0_1 l0_1.length l0_1) (hc0_1 : l0_1.length ≤ c0_1) (hr0_3 : Kd.C k171 w A0_3 l0_3.length l0_3) (hc0_3 : l0_3.length ≤ c0_3) (h : z60_.f l0_0 l0_1 a0_2 l0_3 a1_0 a1_1 a1_2 a1_3 a2 = some (r1, r2)) :
    Calls Tryz.prog 65 #[.agg #[.slice A0_0 l0_0.length c0_0, .slice A0_1 l0_1.length c0_1, .int .i64 a0_2, .slice A0_3 l0_3.length c0_3], .agg #[.int .i64 a1_0, .int .i64 a1_1, .int .i64 a1_2, .int .i64 a1_3], .int .i64 a2] w fun e w' => ∃ v0_ : Value, e = .returned (.tuple #[v0_, .int .i64 r2]) ∧ Kd.R (Kd.int .i64) 3 w' w.heap.size (fun _ => True) v0_ r1 ∧ Below w.heap.size w w' := by
  unfold z60_.f at h
  split at h
  · rename_i rb rt hb ht
    split at h
    · rename_i hh
      obtain ⟨hf, h1, h2, h3, hp⟩ := hh
      split at h
      · rename_i s1 s2 s3 hs
        obtain ⟨r, hbl, e⟩ := Option.map_eq_some_iff.1 h
        obtain ⟨rfl, rfl⟩ := Prod.mk.inj e
        exact Block_calls hr0_0 hc0_0 hr0_1 hc0_1 hr0_3 hc0_3 hf hb ht h1 h2 h3 hp hs hbl
      · exact absurd h (by simp)
    · exact absurd h (by simp)
  · exact absurd h (by simp)
end Z
end Go.Proofs.YtgdkmadcegleiaaGreatDoor
namespace Go.Proofs.YtgdkmadcegleiaaGreatDoor
namespace Arc
open X Z
abbrev Gap := S47
abbrev Sp := S30
theorem w64 {x : Int} (h0 : -9223372036854775808 ≤ x) (h1 : x ≤ 9223372036854775807) : wrap64 x = x := by unfold wrap64; omega
def lowOf (l : List Gap) : Int := ((Y.z12_.f 900 1000 40 50 l).getD (0, 0)).1
def st (a : Int) (g : Gap) : Gap := ⟨⟨a, a⟩, ⟨g.f1.f0, g.f1.f1⟩⟩
def setUp (a : Int) (l : List Gap) (i : Nat) : List Gap := l.mapIdx fun j g => if j < i then st a g else g
theorem check_ok (l : List Gap) (hl : l.length ≤ 40) (hb : l.any gapBad = false) : Y.z5_.f 900 1000 40 50 l = some 0 := by
  unfold Y.z5_.f PRck.z5_.f
  have e1 : X.z18_.f 900 1000 1 5000 = some true := by decide +kernel
  have e2 : X.z18_.f 40 50 1 5000 = some true := by decide +kernel
  rw [e1, e2]
  simp only [Option.bind_some, if_true]
  simp only [PRck.z5_.j0]
  have e3 : decide ((50 : Int) ≥ 900) = false := by decide
  have e4 : Yc.z22_.f l 50 = some false := by
    unfold Yc.z22_.f
    rw [if_pos rfl, hb]
  rw [e3, if_neg (by decide), if_neg (by omega)]
  rw [e4]
  rfl
def E (l : List Gap) (deg a : Int) : Bool := decide (lowOf (setUp a l l.length) ≥ deg)
end Arc
end Go.Proofs.YtgdkmadcegleiaaGreatDoor
namespace Go.Proofs.YtgdkmadcegleiaaGreatDoor
namespace PKno
open X Z
attribute [local go_sem] max2_int min2_int max_two min_two max_three min_three max_four min_four   -- for this text's walks alone
def errW : Option Int → Value
  | none => .nilIface
  | some c => .iface 0 (.int .i64 c)
theorem errW_none : errW none = .nilIface := rfl
theorem errW_some (c : Int) : errW (some c) = .iface 0 (.int .i64 c) := rfl
theorem info3 : (Tryz.prog.info? 3).map (fun i => (i.zero, i.size, i.bytes)) = some (some (.int .i64 0), 1, 8) := by kernel_rfl
theorem info47 : (Tryz.prog.info? 47).map (fun i => (i.zero, i.size, i.bytes)) = some (some (.agg #[(.int .i64 0), (.int .i64 0), (.int .i64 0), (.int .i64 0)]), 4, 32) := by kernel_rfl
theorem info55 : (Tryz.prog.info? 55).map (fun i => (i.zero, i.size, i.bytes)) = some (some (.agg #[(.int .i64 0), (.int .i64 0), (.int .i64 0), (.int .i64 0)]), 4, 32) := by kernel_rfl
end PKno
end Go.Proofs.YtgdkmadcegleiaaGreatDoor
namespace Go.Proofs.YtgdkmadcegleiaaGreatDoor
namespace PKno
open Sq X Z
attribute [local go_sem] max2_int min2_int max_two min_two max_three min_three max_four min_four   -- for this text's walks alone
theorem eqA30 (d : Nat) (w : World) (x0 y0 : Int) (x1 y1 : Int) :
  (Op.equalIn (d + 2) 30 (.agg #[.int .i64 x0, .int .i64 x1]) (.agg #[.int .i64 y0, .int .i64 y1])).run Tryz.prog w = .ok (x0 == y0 && (x1 == y1)) w := by
 refine eqA_of Tryz.underlying30 (by kernel_rfl) ?_
 refine eqf_cons (by rfl) (by go_simp; rfl) (by go_simp; rfl) (by go_simp) ?_
 exact eqf_last (by rfl) (by go_simp; rfl) (by go_simp; rfl) (by go_simp)
end PKno
end Go.Proofs.YtgdkmadcegleiaaGreatDoor
namespace Go.Proofs.YtgdkmadcegleiaaGreatDoor
namespace PKno
open Sq X Z
attribute [local go_sem] max2_int min2_int max_two min_two max_three min_three max_four min_four   -- for this text's walks alone
def z1_.f (a0 : Int) (a1 : Int) : Option (Int × Int) := some (a0, a1)
set_option maxHeartbeats 8000000 in
set_option maxRecDepth 100000 in
theorem z1_.calls (a0 : Int) (a1 : Int) (r1 : Int) (r2 : Int) (w : World) (h : z1_.f a0 a1 = some (r1, r2)) :
  Calls Tryz.prog 15 #[.int .i64 a0, .int .i64 a1] w fun e w' => e = .returned (.agg #[.int .i64 r1, .int .i64 r2]) ∧ Below w.heap.size w w' := by
 have hu30 := Tryz.underlying30
 have HB := Aside0.mk (Below.refl w.heap.size w)
 have H : (some (a0, a1)) = some (r1, r2) := h
 clear h
 simp only [Option.some.injEq, Prod.mk.injEq] at H
 obtain ⟨rfl, rfl⟩ := H
 go_enter Tryz.func15, Tryz.ntmps15
 go_wp2_with (first | ((with_reducible refine gate_dst (N := 4) rfl ?_); refine boxA (N := 4) (cs := #[.int .i64 0, .int .i64 0]) (t := 30) ?_; intro gb101 hg w3 hbox hb; have BK101 := Aside0.mk (hbox); have GE101 := bG HB hg; replace HB := bS HB hb; clear hb hbox hg; obtain ⟨hcz4_0, hcz4_1, hfz4_0, hfz4_1⟩ := cc2 BK101))
 refine bodyPost_ret (results_cell_row rfl _ _ gb101 30 #[.int .i64 a0, .int .i64 a1] (0, 0) _ rfl (kP BK101) Tryz.underlying30 rfl (by kernel_rfl)) rfl ?_
 exact ⟨eqA, bX HB⟩
def z14_.l0 : Nat → List Int → List Int → Int → Option (Bool)
 | 0, _, _, _ => none
 | k + 1, x0, x1, x5 => if x5 < (x0.length : Int) then (if 0 ≤ x5 then (if x5 < (x1.length : Int) then (if (rd x0 x5) = (rd x1 x5) then (z14_.l0 k x0 x1 (wrap64 (x5 + 1))) else (some false)) else (none)) else (none)) else (some true)
def z14_.f (k : Nat) (l0 : List Int) (l1 : List Int) : Option (Bool) := if (l0.length : Int) = (l1.length : Int) then (z14_.l0 k l0 l1 0) else (some false)
set_option maxHeartbeats 8000000 in
set_option maxRecDepth 100000 in
theorem z14_.calls (k : Nat) (A0 : Option Addr) (c0 : Nat) (l0 : List Int) (A1 : Option Addr) (c1 : Nat) (l1 : List Int) (r : Bool) (w : World) (hr0 : Kd.C (Kd.int .i64) w A0 l0.length l0) (hc0 : l0.length ≤ c0) (hr1 : Kd.C (Kd.int .i64) w A1 l1.length l1) (hc1 : l1.length ≤ c1) (h : z14_.f k l0 l1 = some r) :
  Calls Tryz.prog 19 #[.slice A0 l0.length c0, .slice A1 l1.length c1] w fun e w' => e = .returned (.bool r) ∧ Drawn0 w w' := by
 have HR0 := Aside0.mk hr0
 have HC0 := Aside0.mk hc0
 clear hr0 hc0
 have HR1 := Aside0.mk hr1
 have HC1 := Aside0.mk hc1
 clear hr1 hc1
 have H : (if (l0.length : Int) = (l1.length : Int) then (z14_.l0 k l0 l1 0) else (some false)) = some r := h
 clear h
 by_cases c3 : (l0.length : Int) = (l1.length : Int)
 ·rw [if_pos c3] at H
  have c3b0 : ((l0.length : Int) == (l1.length : Int)) = true := beq_iff_eq.mpr c3
  have c3b1 : ((l0.length : Int) != (l1.length : Int)) = false := bne_eq_false_iff_eq.mpr c3
  have c3b2 : (l0.length == l1.length) = true := by first | simpa using c3 | (simp at c3 ⊢; omega)
  clear c3
  have H' := Aside0.mk H
  clear H
  go_enter Tryz.func19, Tryz.ntmps19
  go_wp2
  repeat (go_quiet (fail); try go_wp2)
  go_loopg [5] k (fun kq v5 w' => ∃ (x5_1 : Int), v5 = .int .i64 x5_1 ∧ Aside0 (z14_.l0 kq l0 l1 x5_1 = some r) ∧ Aside0 (kq ≤ k) ∧ Drawn0 w w')
  case atStart => exact ⟨(0), eR, H', ⟨Nat.le_refl _⟩, by repeat (first | exact Drawn0.refl _ | apply Drawn0.step)⟩
  case round =>
   clear H'
   try clear p2
   try clear c3b0
   try clear c3b1
   try clear c3b2
   obtain ⟨x5_1, rfl, HA, HK1, ⟨m1, rfl⟩⟩ := hrel
   cases gk with
   | zero => exact absurd HA.out (by simp [z14_.l0])
   | succ k1 =>
    have H := HA.out
    clear HA
    simp only [z14_.l0] at H
    by_cases c4 : x5_1 < (l0.length : Int)
    ·rw [if_pos c4] at H
     have c4b0 : decide (x5_1 < (l0.length : Int)) = true := decide_eq_true c4
     clear c4
     by_cases c5 : 0 ≤ x5_1
     ·rw [if_pos c5] at H
      have c5b0 : decide (0 ≤ x5_1) = true := decide_eq_true c5
      clear c5
      by_cases c6 : x5_1 < (l1.length : Int)
      ·rw [if_pos c6] at H
       have c6b0 : decide (x5_1 < (l1.length : Int)) = true := decide_eq_true c6
       clear c6
       by_cases c7 : (rd l0 x5_1) = (rd l1 x5_1)
       ·rw [if_pos c7] at H
        have c7b0 : ((rd l0 x5_1) == (rd l1 x5_1)) = true := beq_iff_eq.mpr c7
        have c7b1 : ((rd l0 x5_1) != (rd l1 x5_1)) = false := bne_eq_false_iff_eq.mpr c7
        clear c7
        have H' := Aside0.mk H
        clear H
        have p102 : 0 ≤ (x5_1 : Int) := of_decide_eq_true (by first | (with_reducible assumption) | assumption)
        have q102 : x5_1 < (l0.length : Int) := of_decide_eq_true (by first | (with_reducible assumption) | assumption)
        obtain ⟨ad102, e102, hx102_0⟩ := Kd.at_int HR0.out x5_1 p102 q102
        cases e102
        replace p102 := eq_true p102
        replace q102 := eq_true q102
        have p103 : 0 ≤ (x5_1 : Int) := of_decide_eq_true (by first | (with_reducible assumption) | assumption)
        have q103 : x5_1 < (l1.length : Int) := of_decide_eq_true (by first | (with_reducible assumption) | assumption)
        obtain ⟨ad103, e103, hx103_0⟩ := Kd.at_int HR1.out x5_1 p103 q103
        cases e103
        replace p103 := eq_true p103
        replace q103 := eq_true q103
        go_wp2
        repeat (go_quiet (fail); try go_wp2)
        go_roundg k1
        case measure => have := HK1.out; omega
        case rel => exact ⟨(wrap64 (x5_1 + 1)), eR, H', ⟨by have := HK1.out; omega⟩, by repeat (first | exact Drawn0.refl _ | apply Drawn0.step)⟩
       ·rw [if_neg c7] at H
        have c7b0 : ((rd l0 x5_1) == (rd l1 x5_1)) = false := beq_eq_false_iff_ne.mpr c7
        have c7b1 : ((rd l0 x5_1) != (rd l1 x5_1)) = true := bne_iff_ne.mpr c7
        obtain rfl := Option.some.inj H
        have p102 : 0 ≤ (x5_1 : Int) := of_decide_eq_true (by first | (with_reducible assumption) | assumption)
        have q102 : x5_1 < (l0.length : Int) := of_decide_eq_true (by first | (with_reducible assumption) | assumption)
        obtain ⟨ad102, e102, hx102_0⟩ := Kd.at_int HR0.out x5_1 p102 q102
        cases e102
        replace p102 := eq_true p102
        replace q102 := eq_true q102
        have p103 : 0 ≤ (x5_1 : Int) := of_decide_eq_true (by first | (with_reducible assumption) | assumption)
        have q103 : x5_1 < (l1.length : Int) := of_decide_eq_true (by first | (with_reducible assumption) | assumption)
        obtain ⟨ad103, e103, hx103_0⟩ := Kd.at_int HR1.out x5_1 p103 q103
        cases e103
        replace p103 := eq_true p103
        replace q103 := eq_true q103
        go_wp2
        repeat (go_quiet (fail); try go_wp2)
        go_ret
        exact ⟨by first | rfl | (simp; done) | (simp [*]; done), by repeat (first | exact Drawn0.refl _ | apply Drawn0.step)⟩
      ·rw [if_neg c6] at H
       exact absurd H (by simp)
     ·rw [if_neg c5] at H
      exact absurd H (by simp)
    ·rw [if_neg c4] at H
     have c4b0 : decide (x5_1 < (l0.length : Int)) = false := decide_eq_false c4
     clear c4
     obtain rfl := Option.some.inj H
     go_wp2
     repeat (go_quiet (fail); try go_wp2)
     go_ret
     exact ⟨by first | rfl | (simp; done) | (simp [*]; done), by repeat (first | exact Drawn0.refl _ | apply Drawn0.step)⟩
 ·rw [if_neg c3] at H
  have c3b0 : ((l0.length : Int) == (l1.length : Int)) = false := beq_eq_false_iff_ne.mpr c3
  have c3b1 : ((l0.length : Int) != (l1.length : Int)) = true := bne_iff_ne.mpr c3
  have c3b2 : (l0.length == l1.length) = false := by first | simpa using c3 | (simp at c3 ⊢; omega)
  obtain rfl := Option.some.inj H
  go_enter Tryz.func19, Tryz.ntmps19
  go_wp2
  repeat (go_quiet (fail); try go_wp2)
  go_ret
  exact ⟨by first | rfl | (simp; done) | (simp [*]; done), by repeat (first | exact Drawn0.refl _ | apply Drawn0.step)⟩
end PKno
end Go.Proofs.YtgdkmadcegleiaaGreatDoor
namespace Go.Proofs.YtgdkmadcegleiaaGreatDoor
namespace PKno
open Sq X Z
attribute [local go_sem] max2_int min2_int max_two min_two max_three min_three max_four min_four   -- for this text's walks alone
attribute [local go_sem high] eqA30
def z4_.j0 : Nat → Bool → Option (Bool)
 | 0, _ => none
 | k + 1, x0 => some x0
def z4_.f (k : Nat)  : Option (Bool) := (z1_.f 0 2).bind fun bt104 => ((z1_.f 0 0).bind fun bt106 => ((z1_.f 30 30).bind fun bt111 => ((z1_.f 30 30).bind fun bt113 => ((z60_.f (([(⟨bt104.1, bt104.2⟩ : S30), (⟨bt106.1, bt106.2⟩ : S30)] : List (S30))) (([(⟨bt111.1, bt111.2⟩ : S30), (⟨bt113.1, bt113.2⟩ : S30)] : List (S30))) 10 ([] : List (S171)) 2 6 1 0 0).bind fun bt119 => ((z46_.f 10 1 25).bind fun bt123 => ((z1_.f 100 104).bind fun bt127 => ((z1_.f 140 141).bind fun bt129 => ((z52_.f 1000 (([(⟨(⟨bt127.1, bt127.2⟩ : S30), (⟨bt129.1, bt129.2⟩ : S30)⟩ : S55)] : List (S55))) (([0, 200, 400] : List Int)) 5 150 199 97).bind fun bt138 => (if bt119.2 = 0 then (if bt123.2.2 = 0 then (if bt138.2.2 = 0 then ((z14_.f k bt119.1 (([2, 9, 16, 23] : List Int))).bind fun t148 => (if t148 = true then ((z1_.f 22 25).bind fun bt149 => (if (bt123.1 == bt149.1 && (bt123.2.1 == bt149.2)) = true then ((z14_.f k bt138.2.1 (([0] : List Int))).bind fun t154 => (z4_.j0 k t154)) else (z4_.j0 k false))) else (z4_.j0 k false))) else (z4_.j0 k false)) else (z4_.j0 k false)) else (z4_.j0 k false))))))))))
def z4_.T6 : Bool × List (List Nat × List Nat) := (true, [([], []), ([0], [0]), ([1], [1]), ([2], [2]), ([3, 2], [2, 3]), ([2, 4], [2, 4]), ([5, 2], [5]), ([6], [6]), ([7, 6], [6, 7]), ([6, 8], [6, 8]), ([9, 6], [9]), ([10], [10]), ([10], [10]), ([11, 12, 10, 10], [10, 11, 12]), ([10, 13], [10, 13]), ([14, 13], [14]), ([15], [15]), ([15, 15], [15]), ([16, 17, 15], [15, 16, 17]), ([15, 18], [15, 18]), ([19, 17], [19]), ([20], [20]), ([20], [20]), ([21, 22, 20, 20], [20, 21, 22]), ([20, 23], [20, 23]), ([24, 23, 0, 1, 2, 3, 4, 5, 6, 7, 8, 9, 10, 11, 12, 13, 14, 15, 16, 17, 18, 19, 20, 21, 22, 23, 24], [24])])
def z4_.B6 : List Nat := [0, 1, 3, 7, 15, 31, 63, 127, 255, 511, 1023, 2047, 2047, 8191, 16383, 32767, 65535, 65535, 262143, 524287, 1048575, 2097151, 2097151, 8388607, 16777215, 33554431]
theorem z4_.tab6 : rtab .any (opsOf Tryz.f29 6) = z4_.T6 := by kernel_rfl
theorem z4_.bits6 : waitsOk z4_.T6.2 z4_.B6 = true := by kernel_rfl
set_option maxHeartbeats 8000000 in
set_option maxRecDepth 100000 in
theorem z4_.calls (k : Nat)  (r : Bool) (w : World) (h : z4_.f k  = some r) :
  Calls Tryz.prog 29 #[] w fun e w' => e = .returned (.bool r) ∧ Below w.heap.size w w' := by
 have hu126 := Tryz.underlying126
 have hu130 := Tryz.underlying130
 have hu42 := Tryz.underlying42
 have hu30 := Tryz.underlying30
 have hu55 := Tryz.underlying55
 have hu58 := Tryz.underlying58
 have hu53 := Tryz.underlying53
 have HB := Aside0.mk (Below.refl w.heap.size w)
 have H : ((z1_.f 0 2).bind fun bt104 => ((z1_.f 0 0).bind fun bt106 => ((z1_.f 30 30).bind fun bt111 => ((z1_.f 30 30).bind fun bt113 => ((z60_.f (([(⟨bt104.1, bt104.2⟩ : S30), (⟨bt106.1, bt106.2⟩ : S30)] : List (S30))) (([(⟨bt111.1, bt111.2⟩ : S30), (⟨bt113.1, bt113.2⟩ : S30)] : List (S30))) 10 ([] : List (S171)) 2 6 1 0 0).bind fun bt119 => ((z46_.f 10 1 25).bind fun bt123 => ((z1_.f 100 104).bind fun bt127 => ((z1_.f 140 141).bind fun bt129 => ((z52_.f 1000 (([(⟨(⟨bt127.1, bt127.2⟩ : S30), (⟨bt129.1, bt129.2⟩ : S30)⟩ : S55)] : List (S55))) (([0, 200, 400] : List Int)) 5 150 199 97).bind fun bt138 => (if bt119.2 = 0 then (if bt123.2.2 = 0 then (if bt138.2.2 = 0 then ((z14_.f k bt119.1 (([2, 9, 16, 23] : List Int))).bind fun t148 => (if t148 = true then ((z1_.f 22 25).bind fun bt149 => (if (bt123.1 == bt149.1 && (bt123.2.1 == bt149.2)) = true then ((z14_.f k bt138.2.1 (([0] : List Int))).bind fun t154 => (z4_.j0 k t154)) else (z4_.j0 k false))) else (z4_.j0 k false))) else (z4_.j0 k false)) else (z4_.j0 k false)) else (z4_.j0 k false))))))))))) = some r := h
 clear h
 replace H := bindA H
 obtain ⟨⟨t104, t105⟩, A1, H⟩ := H
 try dsimp only at H
 replace H := bindA H
 obtain ⟨⟨t106, t107⟩, A2, H⟩ := H
 try dsimp only at H
 obtain ⟨y108, hy108⟩ : ∃ y_ : List (S30), y_ = (([(⟨t104, t105⟩ : S30), (⟨t106, t107⟩ : S30)] : List (S30))) := ⟨_, rfl⟩
 replace H : ((z1_.f 30 30).bind fun bt111 => ((z1_.f 30 30).bind fun bt113 => ((z60_.f y108 (([(⟨bt111.1, bt111.2⟩ : S30), (⟨bt113.1, bt113.2⟩ : S30)] : List (S30))) 10 ([] : List (S171)) 2 6 1 0 0).bind fun bt119 => ((z46_.f 10 1 25).bind fun bt123 => ((z1_.f 100 104).bind fun bt127 => ((z1_.f 140 141).bind fun bt129 => ((z52_.f 1000 (([(⟨(⟨bt127.1, bt127.2⟩ : S30), (⟨bt129.1, bt129.2⟩ : S30)⟩ : S55)] : List (S55))) (([0, 200, 400] : List Int)) 5 150 199 97).bind fun bt138 => (if bt119.2 = 0 then (if bt123.2.2 = 0 then (if bt138.2.2 = 0 then ((z14_.f k bt119.1 (([2, 9, 16, 23] : List Int))).bind fun t148 => (if t148 = true then ((z1_.f 22 25).bind fun bt149 => (if (bt123.1 == bt149.1 && (bt123.2.1 == bt149.2)) = true then ((z14_.f k bt138.2.1 (([0] : List Int))).bind fun t154 => (z4_.j0 k t154)) else (z4_.j0 k false))) else (z4_.j0 k false))) else (z4_.j0 k false)) else (z4_.j0 k false)) else (z4_.j0 k false))))))))) = some r := by first | (rw [hy108]; with_reducible exact H) | (have H2_ := (Option.bind_some _ _).symm.trans H; rw [hy108]; with_reducible exact H2_) | (have H2_ := (Option.bind_some _ _).symm.trans H; with_reducible exact H2_) | with_reducible exact H | (rw [hy108]; exact H) | exact H
 have Ny108 := Aside0.mk hy108
 clear hy108
 replace H := bindA H
 obtain ⟨⟨t111, t112⟩, A3, H⟩ := H
 try dsimp only at H
 replace H := bindA H
 obtain ⟨⟨t113, t114⟩, A4, H⟩ := H
 try dsimp only at H
 obtain ⟨y115, hy115⟩ : ∃ y_ : List (S30), y_ = (([(⟨t111, t112⟩ : S30), (⟨t113, t114⟩ : S30)] : List (S30))) := ⟨_, rfl⟩
 replace H : ((z60_.f y108 y115 10 ([] : List (S171)) 2 6 1 0 0).bind fun bt119 => ((z46_.f 10 1 25).bind fun bt123 => ((z1_.f 100 104).bind fun bt127 => ((z1_.f 140 141).bind fun bt129 => ((z52_.f 1000 (([(⟨(⟨bt127.1, bt127.2⟩ : S30), (⟨bt129.1, bt129.2⟩ : S30)⟩ : S55)] : List (S55))) (([0, 200, 400] : List Int)) 5 150 199 97).bind fun bt138 => (if bt119.2 = 0 then (if bt123.2.2 = 0 then (if bt138.2.2 = 0 then ((z14_.f k bt119.1 (([2, 9, 16, 23] : List Int))).bind fun t148 => (if t148 = true then ((z1_.f 22 25).bind fun bt149 => (if (bt123.1 == bt149.1 && (bt123.2.1 == bt149.2)) = true then ((z14_.f k bt138.2.1 (([0] : List Int))).bind fun t154 => (z4_.j0 k t154)) else (z4_.j0 k false))) else (z4_.j0 k false))) else (z4_.j0 k false)) else (z4_.j0 k false)) else (z4_.j0 k false))))))) = some r := by first | (rw [hy115]; with_reducible exact H) | (have H2_ := (Option.bind_some _ _).symm.trans H; rw [hy115]; with_reducible exact H2_) | (have H2_ := (Option.bind_some _ _).symm.trans H; with_reducible exact H2_) | with_reducible exact H | (rw [hy115]; exact H) | exact H
 have Ny115 := Aside0.mk hy115
 clear hy115
 replace H := bindA H
 obtain ⟨⟨t119, t122⟩, A5, H⟩ := H
 try dsimp only at H
 replace H := bindA H
 obtain ⟨⟨t123, t124, t125⟩, A6, H⟩ := H
 try dsimp only at H
 replace H := bindA H
 obtain ⟨⟨t127, t128⟩, A7, H⟩ := H
 try dsimp only at H
 replace H := bindA H
 obtain ⟨⟨t129, t130⟩, A8, H⟩ := H
 try dsimp only at H
 obtain ⟨y131, hy131⟩ : ∃ y_ : List (S55), y_ = (([(⟨(⟨t127, t128⟩ : S30), (⟨t129, t130⟩ : S30)⟩ : S55)] : List (S55))) := ⟨_, rfl⟩
 replace H : ((z52_.f 1000 y131 (([0, 200, 400] : List Int)) 5 150 199 97).bind fun bt138 => (if t122 = 0 then (if t125 = 0 then (if bt138.2.2 = 0 then ((z14_.f k t119 (([2, 9, 16, 23] : List Int))).bind fun t148 => (if t148 = true then ((z1_.f 22 25).bind fun bt149 => (if (t123 == bt149.1 && (t124 == bt149.2)) = true then ((z14_.f k bt138.2.1 (([0] : List Int))).bind fun t154 => (z4_.j0 k t154)) else (z4_.j0 k false))) else (z4_.j0 k false))) else (z4_.j0 k false)) else (z4_.j0 k false)) else (z4_.j0 k false))) = some r := by first | (rw [hy131]; with_reducible exact H) | (have H2_ := (Option.bind_some _ _).symm.trans H; rw [hy131]; with_reducible exact H2_) | (have H2_ := (Option.bind_some _ _).symm.trans H; with_reducible exact H2_) | with_reducible exact H | (rw [hy131]; exact H) | exact H
 have Ny131 := Aside0.mk hy131
 clear hy131
 obtain ⟨y135, hy135⟩ : ∃ y_ : List Int, y_ = (([0, 200, 400] : List Int)) := ⟨_, rfl⟩
 replace H : ((z52_.f 1000 y131 y135 5 150 199 97).bind fun bt138 => (if t122 = 0 then (if t125 = 0 then (if bt138.2.2 = 0 then ((z14_.f k t119 (([2, 9, 16, 23] : List Int))).bind fun t148 => (if t148 = true then ((z1_.f 22 25).bind fun bt149 => (if (t123 == bt149.1 && (t124 == bt149.2)) = true then ((z14_.f k bt138.2.1 (([0] : List Int))).bind fun t154 => (z4_.j0 k t154)) else (z4_.j0 k false))) else (z4_.j0 k false))) else (z4_.j0 k false)) else (z4_.j0 k false)) else (z4_.j0 k false))) = some r := by first | (rw [hy135]; with_reducible exact H) | (have H2_ := (Option.bind_some _ _).symm.trans H; rw [hy135]; with_reducible exact H2_) | (have H2_ := (Option.bind_some _ _).symm.trans H; with_reducible exact H2_) | with_reducible exact H | (rw [hy135]; exact H) | exact H
 have Ny135 := Aside0.mk hy135
 clear hy135
 replace H := bindA H
 obtain ⟨⟨t138, t141, t144⟩, A9, H⟩ := H
 try dsimp only at H
 have HC10 := Aside0.mk H
 clear H
 go_enter Tryz.func29, Tryz.ntmps29
 go_upto_region 6 with (first | ((with_reducible refine gate_callee (f := 15) rfl ?_); refine goesA (some 10) Tryz.func15 #[.int .i64 0, .int .i64 2] ?_; (with_reducible refine (z1_.calls 0 2 t104 t105 _ A1.out).mono ?_); rintro e w11 ⟨rfl, hb⟩; refine ⟨_, rfl, ?_⟩; replace HB := bS HB hb) | ((with_reducible refine gate_callee (f := 15) rfl ?_); refine goesA (some 11) Tryz.func15 #[.int .i64 0, .int .i64 0] ?_; (with_reducible refine (z1_.calls 0 0 t106 t107 _ A2.out).mono ?_); rintro e w12 ⟨rfl, hb⟩; refine ⟨_, rfl, ?_⟩; replace HB := bS HB hb) | ((with_reducible refine gate_dst (N := 12) rfl ?_); (try (refine gate_guard (by rfl) ?_; dsimp only)); refine Kd.R_lit k30 _ 30 ?hg (N := 12) ?hd (xs := ([(⟨t104, t105⟩ : S30), (⟨t106, t107⟩ : S30)] : List (S30))) (inner := [.int .i64 t104, .int .i64 t105, .int .i64 t106, .int .i64 t107]) (ok := fun _ => True) (okp := fun _ => True) ?hr ?hp (fun _ hk => hk) trivial (Below.refl _ _) (Nat.le_refl _) (by simp) ?_; (case hd => rfl); (case hg => rfl); (case hr => first | (go_simp; done) | (go_simp; rfl)); (case hp => exact (Reps.c2 (show Kd.M k30 _ _ _ (⟨t104, t105⟩ : S30) [.int .i64 t104, .int .i64 t105] from (k30_mkM _ _ _ (⟨t104, t105⟩ : S30) )) (Reps.c2 (show Kd.M k30 _ _ _ (⟨t106, t107⟩ : S30) [.int .i64 t106, .int .i64 t107] from (k30_mkM _ _ _ (⟨t106, t107⟩ : S30) )) (Reps.none _ _)))); intro v109 w13 ho14 hb hg_ hnew_; clear hg_ hnew_; (first | rw [← Ny108.out] at ho14 | (simp only [Int.reduceToNat] at ho14; rw [← Ny108.out] at ho14)); have HO110 := Aside0.mk (Kd.R_lower ho14 (below_size (bX HB))); replace HB := bS HB hb; clear hb ho14) | ((with_reducible refine gate_callee (f := 15) rfl ?_); refine goesA (some 13) Tryz.func15 #[.int .i64 30, .int .i64 30] ?_; (with_reducible refine (z1_.calls 30 30 t111 t112 _ A3.out).mono ?_); rintro e w15 ⟨rfl, hb⟩; refine ⟨_, rfl, ?_⟩; replace HO110 := rB HO110 hb; replace HB := bS HB hb) | ((with_reducible refine gate_callee (f := 15) rfl ?_); refine goesA (some 14) Tryz.func15 #[.int .i64 30, .int .i64 30] ?_; (with_reducible refine (z1_.calls 30 30 t113 t114 _ A4.out).mono ?_); rintro e w16 ⟨rfl, hb⟩; refine ⟨_, rfl, ?_⟩; replace HO110 := rB HO110 hb; replace HB := bS HB hb) | ((with_reducible refine gate_dst (N := 15) rfl ?_); (try (refine gate_guard (by rfl) ?_; dsimp only)); refine Kd.R_lit k30 _ 30 ?hg (N := 15) ?hd (xs := ([(⟨t111, t112⟩ : S30), (⟨t113, t114⟩ : S30)] : List (S30))) (inner := [.int .i64 t111, .int .i64 t112, .int .i64 t113, .int .i64 t114]) (ok := fun _ => True) (okp := fun _ => True) ?hr ?hp (fun _ hk => hk) trivial (Below.refl _ _) (Nat.le_refl _) (by simp) ?_; (case hd => rfl); (case hg => rfl); (case hr => first | (go_simp; done) | (go_simp; rfl)); (case hp => exact (Reps.c2 (show Kd.M k30 _ _ _ (⟨t111, t112⟩ : S30) [.int .i64 t111, .int .i64 t112] from (k30_mkM _ _ _ (⟨t111, t112⟩ : S30) )) (Reps.c2 (show Kd.M k30 _ _ _ (⟨t113, t114⟩ : S30) [.int .i64 t113, .int .i64 t114] from (k30_mkM _ _ _ (⟨t113, t114⟩ : S30) )) (Reps.none _ _)))); intro v116 w17 ho18 hb hg_ hnew_; clear hg_ hnew_; (first | rw [← Ny115.out] at ho18 | (simp only [Int.reduceToNat] at ho18; rw [← Ny115.out] at ho18)); have HO117 := Aside0.mk (Kd.R_lower (Kd.R_new' ho18 (Kd.R_lt (rX HO110.out))) (below_size (bX HB))); replace HO110 := Aside0.mk (Kd.R_elder' (rX HO110.out) (Kd.R_base ho18) hb); replace HB := bS HB hb; clear hb ho18; obtain ⟨Ao19, co19, eo19⟩ := Kd.R_slice HO117.out; subst eo19; obtain ⟨Ao20, co20, eo20⟩ := Kd.R_slice HO110.out; subst eo20) | ((with_reducible refine gate_dst (N := 1) rfl ?_); (try (refine gate_guard (by rfl) ?_; dsimp only)); refine boxA (N := 1) (cs := #[.slice none 0 0, .slice none 0 0, .int .i64 0, .slice none 0 0]) (t := 126) ?_; intro gb118 hg w21 hbox hb; have BK118 := Aside0.mk (hbox); have GE118 := bG HB hg; replace HO110 := rB HO110 hb; replace HO117 := rB HO117 hb; replace HB := bS HB hb; clear hb hbox hg; obtain ⟨hcz22_0, hcz22_1, hcz22_2, hcz22_3, hfz22_0, hfz22_1, hfz22_2, hfz22_3⟩ := cc4 BK118) | ((with_reducible refine gate_callee (f := 65) rfl ?_); refine goesA (some 20) Tryz.func65 #[.agg #[.slice Ao20 y108.length co20, .slice Ao19 y115.length co19, .int .i64 10, .slice none 0 0], .agg #[.int .i64 2, .int .i64 6, .int .i64 1, .int .i64 0], .int .i64 0] ?_; (refine (z60_.calls _ _ y108 _ _ y115 10 _ _ ([] : List (S171)) 2 6 1 0 0 t119 t122 _ ?side1 ?side2 ?side3 ?side4 ?side5 ?side6 A5.out).mono ?_); (case side1 => refine (Kd.R_reads' (e := 30) (base := w.heap.size) (ok := fun k_ => (True ∧ some k_ ≠ (.slice Ao19 y115.length co19 : Value).ownBlock)) (n := y108.length) (c := co20) ?_).2.2; exact (rX (Kd.R_mono (Kd.R_far (p := ⟨gb118, 3, none⟩) (Kd.R_far (p := ⟨gb118, 2, none⟩) (Kd.R_far (p := ⟨gb118, 1, none⟩) (Kd.R_far (p := ⟨gb118, 0, none⟩) (Kd.R_types HO110.out BK118.out (by decide)) (fun _ hk => hk.2) (.slice Ao20 y108.length co20)) (fun _ hk => hk.2) (.slice Ao19 y115.length co19)) (fun _ hk => hk.2) (.int .i64 10)) (fun _ hk => hk.2) (.slice none 0 0)) (fun _ h_ => h_.1)))); (case side2 => exact (Kd.R_reads' HO110.out).2.1); (case side3 => refine (Kd.R_reads' (e := 30) (base := w.heap.size) (ok := fun k_ => (True ∧ some k_ ≠ (.slice Ao20 y108.length co20 : Value).ownBlock)) (n := y115.length) (c := co19) ?_).2.2; exact (rX (Kd.R_mono (Kd.R_far (p := ⟨gb118, 3, none⟩) (Kd.R_far (p := ⟨gb118, 2, none⟩) (Kd.R_far (p := ⟨gb118, 1, none⟩) (Kd.R_far (p := ⟨gb118, 0, none⟩) (Kd.R_types HO117.out BK118.out (by decide)) (fun _ hk => hk.2) (.slice Ao20 y108.length co20)) (fun _ hk => hk.2) (.slice Ao19 y115.length co19)) (fun _ hk => hk.2) (.int .i64 10)) (fun _ hk => hk.2) (.slice none 0 0)) (fun _ h_ => h_.1)))); (case side4 => exact (Kd.R_reads' HO117.out).2.1); (case side5 => exact Kd.C_nil _ _); (case side6 => exact Nat.le_refl _); rintro e w23 ⟨v120, rfl, ho0, hb⟩; refine ⟨_, rfl, ?_⟩; have n0_ := Aside0.mk (Kd.R_below (rX (Kd.R_mono (Kd.R_far (p := ⟨gb118, 3, none⟩) (Kd.R_far (p := ⟨gb118, 2, none⟩) (Kd.R_far (p := ⟨gb118, 1, none⟩) (Kd.R_far (p := ⟨gb118, 0, none⟩) (Kd.R_types HO110.out BK118.out (by decide)) (fun _ hk => hk.2) (.slice Ao20 y108.length co20)) (fun _ hk => hk.2) (.slice Ao19 y115.length co19)) (fun _ hk => hk.2) (.int .i64 10)) (fun _ hk => hk.2) (.slice none 0 0)) (fun _ h_ => h_.1))) hb); have n1_ := Aside0.mk (Kd.R_below (rX (Kd.R_mono (Kd.R_far (p := ⟨gb118, 3, none⟩) (Kd.R_far (p := ⟨gb118, 2, none⟩) (Kd.R_far (p := ⟨gb118, 1, none⟩) (Kd.R_far (p := ⟨gb118, 0, none⟩) (Kd.R_types HO117.out BK118.out (by decide)) (fun _ hk => hk.2) (.slice Ao20 y108.length co20)) (fun _ hk => hk.2) (.slice Ao19 y115.length co19)) (fun _ hk => hk.2) (.int .i64 10)) (fun _ hk => hk.2) (.slice none 0 0)) (fun _ h_ => h_.1))) hb); have n2_ := Aside0.mk (Kd.R_lower ho0 (below_size (bX HB))); have n3_ := Aside0.mk (blk_below (g := gb118) (o := .cells #[.slice Ao20 y108.length co20, .slice Ao19 y115.length co19, .int .i64 10, .slice none 0 0] 126 (0, 0)) (by (with_reducible repeat (first | refine blk_drewN ?_ _ | refine blk_drew ?_ | refine blk_alloc ?_ _)); refine blk_put (cs := #[.slice Ao20 y108.length co20, .slice Ao19 y115.length co19, .int .i64 10, .slice none 0 0]) ?_ 3 _ rfl; (with_reducible repeat (first | refine blk_drewN ?_ _ | refine blk_drew ?_ | refine blk_alloc ?_ _)); refine blk_put (cs := #[.slice Ao20 y108.length co20, .slice Ao19 y115.length co19, .int .i64 0, .slice none 0 0]) ?_ 2 _ rfl; (with_reducible repeat (first | refine blk_drewN ?_ _ | refine blk_drew ?_ | refine blk_alloc ?_ _)); refine blk_put (cs := #[.slice Ao20 y108.length co20, .slice none 0 0, .int .i64 0, .slice none 0 0]) ?_ 1 _ rfl; (with_reducible repeat (first | refine blk_drewN ?_ _ | refine blk_drew ?_ | refine blk_alloc ?_ _)); refine blk_put (cs := #[.slice none 0 0, .slice none 0 0, .int .i64 0, .slice none 0 0]) ?_ 0 _ rfl; (with_reducible repeat (first | refine blk_drewN ?_ _ | refine blk_drew ?_ | refine blk_alloc ?_ _)); exact BK118.out) hb); have n4_ := bS HB hb; clear HO110; clear HO117; clear BK118; clear HB; have HO110 := n0_; have HO117 := n1_; have HO121 := n2_; have BK118 := n3_; have HB := n4_; clear n0_ n1_ n2_ n3_ n4_; (try clear ho0)) | ((with_reducible refine gate_callee (f := 12) rfl ?_); refine goesA (some 25) Tryz.func12 #[.agg #[.int .i64 10, .int .i64 1], .int .i64 25] ?_; (with_reducible refine (z46_.calls 10 1 25 t123 t124 t125 _ A6.out).mono ?_); rintro e w24 ⟨rfl, hb⟩; refine ⟨_, rfl, ?_⟩; replace HO110 := rB HO110 hb; replace HO117 := rB HO117 hb; replace HO121 := rB HO121 hb; replace BK118 := kB BK118 hb; replace HB := bS HB hb) | ((with_reducible refine gate_dst (N := 4) rfl ?_); (try (refine gate_guard (by rfl) ?_; dsimp only)); refine boxA (N := 4) (cs := #[.int .i64 0, .int .i64 0]) (t := 30) ?_; intro gb126 hg w25 hbox hb; have BK126 := Aside0.mk (hbox); have GE126 := bG HB hg; have NB118_126 := kN BK118 hg; have NB126_118 := kM BK118 hg; replace HO110 := Aside0.mk (Kd.R_below (Kd.R_elderB (rX HO110.out) gb126 (Nat.le_of_eq hg.symm)) hb); replace HO117 := Aside0.mk (Kd.R_below (Kd.R_elderB (rX HO117.out) gb126 (Nat.le_of_eq hg.symm)) hb); replace HO121 := rB HO121 hb; replace BK118 := kB BK118 hb; replace HB := bS HB hb; clear hb hbox hg; obtain ⟨hnb26, hnc26⟩ := nn NB126_118; obtain ⟨hcz27_0, hcz27_1, hfz27_0, hfz27_1⟩ := cc2 BK126) | ((with_reducible refine gate_callee (f := 15) rfl ?_); refine goesA (some 28) Tryz.func15 #[.int .i64 100, .int .i64 104] ?_; (with_reducible refine (z1_.calls 100 104 t127 t128 _ A7.out).mono ?_); rintro e w28 ⟨rfl, hb⟩; refine ⟨_, rfl, ?_⟩; replace HO110 := Aside0.mk (Kd.R_below (rX (Kd.R_mono (Kd.R_far (p := ⟨gb126, 1, none⟩) (Kd.R_far (p := ⟨gb126, 0, none⟩) (Kd.R_mono HO110.out (fun k_ hk => (⟨hk, hk.2⟩ : _ ∧ k_ ≠ gb126))) (fun _ hk => hk.2) (.int .i64 t123)) (fun _ hk => hk.2) (.int .i64 t124)) (fun _ h_ => h_.1))) hb); replace HO117 := Aside0.mk (Kd.R_below (rX (Kd.R_mono (Kd.R_far (p := ⟨gb126, 1, none⟩) (Kd.R_far (p := ⟨gb126, 0, none⟩) (Kd.R_mono HO117.out (fun k_ hk => (⟨hk, hk.2⟩ : _ ∧ k_ ≠ gb126))) (fun _ hk => hk.2) (.int .i64 t123)) (fun _ hk => hk.2) (.int .i64 t124)) (fun _ h_ => h_.1))) hb); replace HO121 := Aside0.mk (Kd.R_below (rX (Kd.R_mono (Kd.R_far (p := ⟨gb126, 1, none⟩) (Kd.R_far (p := ⟨gb126, 0, none⟩) (Kd.R_types HO121.out BK126.out (by decide)) (fun _ hk => hk.2) (.int .i64 t123)) (fun _ hk => hk.2) (.int .i64 t124)) (fun _ h_ => h_.1))) hb); replace BK118 := Aside0.mk (blk_below (kF BK118 NB118_126) hb); replace BK126 := Aside0.mk (blk_below (g := gb126) (o := .cells #[.int .i64 t123, .int .i64 t124] 30 (0, 0)) (kP BK126) hb); replace HB := bS HB hb) | ((with_reducible refine gate_callee (f := 15) rfl ?_); refine goesA (some 29) Tryz.func15 #[.int .i64 140, .int .i64 141] ?_; (with_reducible refine (z1_.calls 140 141 t129 t130 _ A8.out).mono ?_); rintro e w29 ⟨rfl, hb⟩; refine ⟨_, rfl, ?_⟩; replace HO110 := rB HO110 hb; replace HO117 := rB HO117 hb; replace HO121 := rB HO121 hb; replace BK118 := kB BK118 hb; replace BK126 := kB BK126 hb; replace HB := bS HB hb) | ((with_reducible refine gate_dst (N := 31) rfl ?_); (try (refine gate_guard (by rfl) ?_; dsimp only)); refine Kd.R_lit k55 _ 55 ?hg (N := 31) ?hd (xs := ([(⟨(⟨t127, t128⟩ : S30), (⟨t129, t130⟩ : S30)⟩ : S55)] : List (S55))) (inner := [.int .i64 t127, .int .i64 t128, .int .i64 t129, .int .i64 t130]) (ok := fun _ => True) (okp := fun _ => True) ?hr ?hp (fun _ hk => hk) trivial (Below.refl _ _) (Nat.le_refl _) (by simp) ?_; (case hd => rfl); (case hg => rfl); (case hr => first | (go_simp; done) | (go_simp; rfl)); (case hp => exact (Reps.c4 (show Kd.M k55 _ _ _ (⟨(⟨t127, t128⟩ : S30), (⟨t129, t130⟩ : S30)⟩ : S55) [.int .i64 t127, .int .i64 t128, .int .i64 t129, .int .i64 t130] from (k55_mkM _ _ _ (⟨(⟨t127, t128⟩ : S30), (⟨t129, t130⟩ : S30)⟩ : S55) )) (Reps.none _ _))); intro v132 w30 ho31 hb hg_ hnew_; clear hg_ hnew_; (first | rw [← Ny131.out] at ho31 | (simp only [Int.reduceToNat] at ho31; rw [← Ny131.out] at ho31)); have HO133 := Aside0.mk (Kd.R_lower ho31 (below_size (bX HB))); replace HO110 := rB HO110 hb; replace HO117 := rB HO117 hb; replace HO121 := rB HO121 hb; replace BK118 := kB BK118 hb; replace BK126 := kB BK126 hb; replace HB := bS HB hb; clear hb ho31; obtain ⟨Ao32, co32, eo32⟩ := Kd.R_slice HO133.out; subst eo32) | ((with_reducible refine gate_dst (N := 6) rfl ?_); (try (refine gate_guard (by rfl) ?_; dsimp only)); refine boxA (N := 6) (cs := #[.int .i64 0, .slice none 0 0]) (t := 58) ?_; intro gb134 hg w33 hbox hb; have BK134 := Aside0.mk (hbox); have GE134 := bG HB hg; have NB118_134 := kN BK118 hg; have NB134_118 := kM BK118 hg; have NB126_134 := kN BK126 hg; have NB134_126 := kM BK126 hg; replace HO110 := rB HO110 hb; replace HO117 := rB HO117 hb; replace HO121 := rB HO121 hb; replace HO133 := rB HO133 hb; replace BK118 := kB BK118 hb; replace BK126 := kB BK126 hb; replace HB := bS HB hb; clear hb hbox hg; obtain ⟨hnb34, hnc34⟩ := nn NB134_118; obtain ⟨hnb35, hnc35⟩ := nn NB134_126; obtain ⟨hcz36_0, hcz36_1, hfz36_0, hfz36_1⟩ := cc2 BK134) | ((with_reducible refine gate_dst (N := 35) rfl ?_); (try (refine gate_guard (by rfl) ?_; dsimp only)); refine Kd.R_lit (Kd.int .i64) _ 3 ?hg (N := 35) ?hd (xs := ([0, 200, 400] : List Int)) (inner := [.int .i64 0, .int .i64 200, .int .i64 400]) (ok := fun _ => True) (okp := fun _ => True) ?hr ?hp (fun _ hk => hk) trivial (Below.refl _ _) (Nat.le_refl _) (by simp) ?_; (case hd => rfl); (case hg => rfl); (case hr => first | (go_simp; done) | (go_simp; rfl)); (case hp => exact (Reps.one (show Kd.M (Kd.int .i64) _ _ _ 0 [.int .i64 0] from rfl) (Reps.one (show Kd.M (Kd.int .i64) _ _ _ 200 [.int .i64 200] from rfl) (Reps.one (show Kd.M (Kd.int .i64) _ _ _ 400 [.int .i64 400] from rfl) (Reps.none _ _))))); intro v136 w37 ho38 hb hg_ hnew_; clear hg_ hnew_; (first | rw [← Ny135.out] at ho38 | (simp only [Int.reduceToNat] at ho38; rw [← Ny135.out] at ho38)); have HO137 := Aside0.mk (Kd.R_lower (Kd.R_new' ho38 (Kd.R_lt (rX (Kd.R_mono (Kd.R_far (p := ⟨gb134, 1, none⟩) (Kd.R_far (p := ⟨gb134, 0, none⟩) (Kd.R_types HO121.out BK134.out (by decide)) (fun _ hk => hk.2) (.int .i64 1000)) (fun _ hk => hk.2) (.slice Ao32 y131.length co32)) (fun _ h_ => h_.1))))) (below_size (bX HB))); replace HO110 := Aside0.mk (Kd.R_below (rX (Kd.R_mono (Kd.R_far (p := ⟨gb134, 1, none⟩) (Kd.R_far (p := ⟨gb134, 0, none⟩) (Kd.R_types HO110.out BK134.out (by decide)) (fun _ hk => hk.2) (.int .i64 1000)) (fun _ hk => hk.2) (.slice Ao32 y131.length co32)) (fun _ h_ => h_.1))) hb); replace HO117 := Aside0.mk (Kd.R_below (rX (Kd.R_mono (Kd.R_far (p := ⟨gb134, 1, none⟩) (Kd.R_far (p := ⟨gb134, 0, none⟩) (Kd.R_types HO117.out BK134.out (by decide)) (fun _ hk => hk.2) (.int .i64 1000)) (fun _ hk => hk.2) (.slice Ao32 y131.length co32)) (fun _ h_ => h_.1))) hb); replace HO121 := Aside0.mk (Kd.R_elder' (rX (Kd.R_mono (Kd.R_far (p := ⟨gb134, 1, none⟩) (Kd.R_far (p := ⟨gb134, 0, none⟩) (Kd.R_types HO121.out BK134.out (by decide)) (fun _ hk => hk.2) (.int .i64 1000)) (fun _ hk => hk.2) (.slice Ao32 y131.length co32)) (fun _ h_ => h_.1))) (Kd.R_base ho38) hb); replace HO133 := Aside0.mk (Kd.R_below (rX (Kd.R_mono (Kd.R_far (p := ⟨gb134, 1, none⟩) (Kd.R_far (p := ⟨gb134, 0, none⟩) (Kd.R_types HO133.out BK134.out (by decide)) (fun _ hk => hk.2) (.int .i64 1000)) (fun _ hk => hk.2) (.slice Ao32 y131.length co32)) (fun _ h_ => h_.1))) hb); replace BK118 := Aside0.mk (blk_below (kF BK118 NB118_134) hb); replace BK126 := Aside0.mk (blk_below (kF BK126 NB126_134) hb); replace BK134 := Aside0.mk (blk_below (g := gb134) (o := .cells #[.int .i64 1000, .slice Ao32 y131.length co32] 58 (0, 0)) (kP BK134) hb); replace HB := bS HB hb; clear hb ho38; obtain ⟨Ao39, co39, eo39⟩ := Kd.R_slice HO137.out; subst eo39) | ((with_reducible refine gate_callee (f := 16) rfl ?_); refine goesA (some 37) Tryz.func16 #[.agg #[.int .i64 1000, .slice Ao32 y131.length co32], .agg #[.slice Ao39 y135.length co39, .int .i64 5, .int .i64 150, .int .i64 199], .int .i64 97] ?_; (with_reducible refine (z52_.calls 1000 _ _ y131 _ _ y135 5 150 199 97 t138 t141 t144 _ ?side1 ?side2 ?side3 ?side4 A9.out).mono ?_); (case side1 => exact sX (Kd.R_reads' HO133.out).2.2); (case side2 => exact (Kd.R_reads' HO133.out).2.1); (case side3 => exact sX (Kd.R_reads' HO137.out).2.2); (case side4 => exact (Kd.R_reads' HO137.out).2.1); rintro e w40 ⟨v139, v142, rfl, ho0, ho1, hb⟩; refine ⟨_, rfl, ?_⟩; have HO140 := Aside0.mk (Kd.R_lower (Kd.R_new' (Kd.R_new' ho0 (Kd.R_lt (rX HO121.out))) (Kd.R_lt (rX HO137.out))) (below_size (bX HB))); have HO143 := Aside0.mk (Kd.R_lower (Kd.R_new' (Kd.R_new' ho1 (Kd.R_lt (rX HO121.out))) (Kd.R_lt (rX HO137.out))) (below_size (bX HB))); replace HO110 := rB HO110 hb; replace HO117 := rB HO117 hb; replace HO121 := Aside0.mk (Kd.R_mono (Kd.R_told (Kd.R_told (Kd.R_old (rX HO121.out) hb) (Kd.R_base ho0)) (Kd.R_base ho1)) (fun _ h_ => h_.1)); replace HO133 := rB HO133 hb; replace HO137 := Aside0.mk (Kd.R_mono (Kd.R_told (Kd.R_told (Kd.R_old (rX HO137.out) hb) (Kd.R_base ho0)) (Kd.R_base ho1)) (fun _ h_ => h_.1)); replace BK118 := kB BK118 hb; replace BK126 := kB BK126 hb; replace BK134 := kB BK134 hb; replace HB := bS HB hb; (try clear ho0); (try clear ho1)))
 (try simp only [Act.put, List.setIfInBounds_toArray, List.set_cons_zero, List.set_cons_succ])
 go_cut [0] (fun v0 wc => ∃ (kq : Nat) (x0_9 : Bool), v0 = .bool x0_9 ∧ Aside0 (z4_.j0 kq x0_9 = some r) ∧ Aside0 (kq ≤ k) ∧ Aside0 (Kd.R k30 30 wc w.heap.size (fun k_ => some k_ ≠ ((.slice Ao19 y115.length co19) : Value).ownBlock ∧ k_ ≠ gb126) (.slice Ao20 y108.length co20) y108) ∧ Aside0 (Kd.R k30 30 wc w.heap.size (fun k_ => some k_ ≠ ((.slice Ao20 y108.length co20) : Value).ownBlock ∧ k_ ≠ gb126) (.slice Ao19 y115.length co19) y115) ∧ Aside0 (Kd.R k55 55 wc w.heap.size (fun _ => True) (.slice Ao32 y131.length co32) y131) ∧ Aside0 (wc.heap[gb118]? = some (.cells #[(.slice Ao20 y108.length co20), (.slice Ao19 y115.length co19), .int .i64 10, (.slice none 0 0)] 126 (0, 0))) ∧ Aside0 (wc.heap[gb126]? = some (.cells #[.int .i64 t123, .int .i64 t124] 30 (0, 0))) ∧ Aside0 (wc.heap[gb134]? = some (.cells #[.int .i64 1000, (.slice Ao32 y131.length co32)] 58 (0, 0))) ∧ Aside0 (Below w.heap.size w wc))
 case first =>
  have H := HC10.out
  clear HC10
  by_cases c41 : t122 = 0
  ·rw [if_pos c41] at H
   have c41b0 : (t122 == 0) = true := beq_iff_eq.mpr c41
   have c41b1 : (t122 != 0) = false := bne_eq_false_iff_eq.mpr c41
   clear c41
   (first | rw [c41b0] | (simp only [i64_w, i32_w]; rw [c41b0]) | skip)
   by_cases c42 : t125 = 0
   ·rw [if_pos c42] at H
    have c42b0 : (t125 == 0) = true := beq_iff_eq.mpr c42
    have c42b1 : (t125 != 0) = false := bne_eq_false_iff_eq.mpr c42
    clear c42
    by_cases c43 : t144 = 0
    ·rw [if_pos c43] at H
     have c43b0 : (t144 == 0) = true := beq_iff_eq.mpr c43
     have c43b1 : (t144 != 0) = false := bne_eq_false_iff_eq.mpr c43
     clear c43
     obtain ⟨y145, hy145⟩ : ∃ y_ : List Int, y_ = (([2, 9, 16, 23] : List Int)) := ⟨_, rfl⟩
     replace H : ((z14_.f k t119 y145).bind fun t148 => (if t148 = true then ((z1_.f 22 25).bind fun bt149 => (if (t123 == bt149.1 && (t124 == bt149.2)) = true then ((z14_.f k t141 (([0] : List Int))).bind fun t154 => (z4_.j0 k t154)) else (z4_.j0 k false))) else (z4_.j0 k false))) = some r := by first | (rw [hy145]; with_reducible exact H) | (have H2_ := (Option.bind_some _ _).symm.trans H; rw [hy145]; with_reducible exact H2_) | (have H2_ := (Option.bind_some _ _).symm.trans H; with_reducible exact H2_) | with_reducible exact H | (rw [hy145]; exact H) | exact H
     have Ny145 := Aside0.mk hy145
     clear hy145
     replace H := bindA H
     obtain ⟨t148, A44, H⟩ := H
     try dsimp only at H
     by_cases c45 : t148 = true
     ·subst c45
      have H1 : ((z1_.f 22 25).bind fun bt149 => (if (t123 == bt149.1 && (t124 == bt149.2)) = true then ((z14_.f k t141 (([0] : List Int))).bind fun t154 => (z4_.j0 k t154)) else (z4_.j0 k false))) = some r := by rw [if_pos rfl] at H; exact H
      clear H
      have H := H1
      clear H1
      replace H := bindA H
      obtain ⟨⟨t149, t150⟩, A46, H⟩ := H
      try dsimp only at H
      by_cases c47 : (t123 == t149 && (t124 == t150)) = true
      ·rw [if_pos c47] at H
       have c47b0 : (t123 == t149 && (t124 == t150)) = true := c47
       (try (have c47b1 : decide (t123 = t149 && (t124 == t150)) = true := by simpa using c47))
       (try (have c47b2 : (t123 == t149 && (t124 == t150)) = true := by simpa using c47))
       clear c47
       obtain ⟨y151, hy151⟩ : ∃ y_ : List Int, y_ = (([0] : List Int)) := ⟨_, rfl⟩
       replace H : ((z14_.f k t141 y151).bind fun t154 => (z4_.j0 k t154)) = some r := by first | (rw [hy151]; with_reducible exact H) | (have H2_ := (Option.bind_some _ _).symm.trans H; rw [hy151]; with_reducible exact H2_) | (have H2_ := (Option.bind_some _ _).symm.trans H; with_reducible exact H2_) | with_reducible exact H | (rw [hy151]; exact H) | exact H
       have Ny151 := Aside0.mk hy151
       clear hy151
       replace H := bindA H
       obtain ⟨t154, A48, H⟩ := H
       try dsimp only at H
       have H' := Aside0.mk H
       clear H
       try go_wp2
       replace HO110 := Aside0.mk (Kd.R_drew HO110.out)
       replace HO117 := Aside0.mk (Kd.R_drew HO117.out)
       replace HO121 := Aside0.mk (Kd.R_drew HO121.out)
       replace HO133 := Aside0.mk (Kd.R_drew HO133.out)
       replace HO137 := Aside0.mk (Kd.R_drew HO137.out)
       replace HO140 := Aside0.mk (Kd.R_drew HO140.out)
       replace HO143 := Aside0.mk (Kd.R_drew HO143.out)
       replace BK118 := Aside0.mk (blk_drew BK118.out)
       replace BK126 := Aside0.mk (blk_drew BK126.out)
       replace BK134 := Aside0.mk (blk_drew BK134.out)
       replace HB := Aside0.mk (below_drew1 HB.out)
       refine start_ (n := 26) (S := fun w' => w'.cell? ⟨gb126, 0, none⟩ = some (.int .i64 t123) ∧ w'.cell? ⟨gb126, 1, none⟩ = some (.int .i64 t124)) (ds := []) #[false, false, false, false, false, false, false, false, false, false, false, false, false, false, false, false, false, false, false, false, false, false, false, false, false, false] (by kernel_rfl) rfl rfl ⟨bc BK126 0, bc BK126 1⟩ (fun hHeld => ?_); refine with_tabW z4_.tab6 z4_.bits6 (fun HT_ HW_ => ?_)
       generalize w40.drew = w49 at HO110 HO117 HO121 HO133 HO137 HO140 HO143 BK118 BK126 BK134 HB hHeld ⊢
       refine pA 0 41 HT_ ?_
       refine pA 1 42 HT_ ?_
       refine pA 2 43 HT_ ?_
       refine pA 3 44 HT_ ?_
       refine pA 4 45 HT_ ?_
       refine pA 5 46 HT_ ?_
       refine pA 6 47 HT_ ?_
       refine pA 7 48 HT_ ?_
       refine pA 8 49 HT_ ?_
       refine pA 9 50 HT_ ?_
       refine pA 10 51 HT_ ?_
       refine pA 11 52 HT_ ?_
       refine oneA (i := 12) (N := some 53) HT_ (fun K hK => ?_)
       refine Kd.R_lit_step (Kd.int .i64) _ 3 ?hg (N := 53) ?hd (xs := ([2, 9, 16, 23] : List Int)) (inner := [.int .i64 2, .int .i64 9, .int .i64 16, .int .i64 23]) (ok := fun _ => True) (okp := fun _ => True) ?hr ?hp (fun _ hk => hk) trivial (Below.refl _ _) (Nat.le_refl _) (by simp) ?_; (case hd => rfl); (case hg => rfl); (case hr => first | (go_simp; done) | (go_simp; rfl)); (case hp => exact (Reps.one (show Kd.M (Kd.int .i64) _ _ _ 2 [.int .i64 2] from rfl) (Reps.one (show Kd.M (Kd.int .i64) _ _ _ 9 [.int .i64 9] from rfl) (Reps.one (show Kd.M (Kd.int .i64) _ _ _ 16 [.int .i64 16] from rfl) (Reps.one (show Kd.M (Kd.int .i64) _ _ _ 23 [.int .i64 23] from rfl) (Reps.none _ _))))))
       intro v146 w50 ho51 hb hg_ hnew_
       clear hg_ hnew_
       (first | rw [← Ny145.out] at ho51 | (simp only [Int.reduceToNat] at ho51; rw [← Ny145.out] at ho51))
       have HO147 := Aside0.mk (Kd.R_lower (Kd.R_new' (Kd.R_new' (Kd.R_new' (Kd.R_new' ho51 (Kd.R_lt (rX HO121.out))) (Kd.R_lt (rX HO137.out))) (Kd.R_lt (rX HO140.out))) (Kd.R_lt (rX HO143.out))) (below_size (bX HB)))
       replace HO110 := rB HO110 hb
       replace HO117 := rB HO117 hb
       replace HO121 := Aside0.mk (Kd.R_elder' (rX HO121.out) (Kd.R_base ho51) hb)
       replace HO133 := rB HO133 hb
       replace HO137 := Aside0.mk (Kd.R_elder' (rX HO137.out) (Kd.R_base ho51) hb)
       replace HO140 := Aside0.mk (Kd.R_elder' (rX HO140.out) (Kd.R_base ho51) hb)
       replace HO143 := Aside0.mk (Kd.R_elder' (rX HO143.out) (Kd.R_base ho51) hb)
       replace BK118 := kB BK118 hb
       replace BK126 := kB BK126 hb
       replace BK134 := kB BK134 hb
       replace HB := bS HB hb
       clear hb ho51
       obtain ⟨Ao52, co52, eo52⟩ := Kd.R_slice HO121.out
       (first | subst eo52 | (injection eo52 with f1_ f2_ f3_; have f4_ := f1_.symm; have f5_ := f3_.symm; clear f1_ f2_ f3_; subst f4_; subst f5_))
       obtain ⟨Ao53, co53, eo53⟩ := Kd.R_slice HO147.out
       (first | subst eo53 | (injection eo53 with f1_ f2_ f3_; have f4_ := f1_.symm; have f5_ := f3_.symm; clear f1_ f2_ f3_; subst f4_; subst f5_))
       refine hK.out _ _ ⟨bc BK126 0, bc BK126 1⟩ (fun hHeld => ?_)
       clear hK K
       refine normA (N := some 53) ?_
       refine oneA (i := 13) (N := some 54) HT_ (fun K hK => ?_)
       refine goesB Tryz.func19 #[.slice Ao52 t119.length co52, .slice Ao53 y145.length co53] ?_
       with_reducible refine (z14_.calls k _ _ t119 _ _ y145 true _ ?side1 ?side2 ?side3 ?side4 A44.out).mono ?_
       (case side1 => exact sX (Kd.R_reads' HO121.out).2.2)
       (case side2 => exact (Kd.R_reads' HO121.out).2.1)
       (case side3 => exact sX (Kd.R_reads' HO147.out).2.2)
       (case side4 => exact (Kd.R_reads' HO147.out).2.1)
       rintro e w' ⟨rfl, ⟨nd, rfl⟩⟩
       refine ⟨_, rfl, ?_⟩
       refine hK.out _ _ ⟨bc BK126 0, bc BK126 1⟩ (fun hHeld => ?_)
       clear hK K
       refine normA (N := some 54) ?_
       refine pA 14 55 HT_ ?_
       refine pA 15 56 HT_ ?_
       refine tA 16 57 HT_ HW_ hHeld ?_
       refine oneA (i := 17) (N := some 58) HT_ (fun K hK => ?_)
       refine goesB Tryz.func15 #[.int .i64 22, .int .i64 25] ?_
       with_reducible refine (z1_.calls 22 25 t149 t150 _ A46.out).mono ?_
       rintro e w54 ⟨rfl, hb⟩
       refine ⟨_, rfl, ?_⟩
       replace HO110 := rB HO110 hb
       replace HO117 := rB HO117 hb
       replace HO121 := rB HO121 hb
       replace HO133 := rB HO133 hb
       replace HO137 := rB HO137 hb
       replace HO140 := rB HO140 hb
       replace HO143 := rB HO143 hb
       replace HO147 := rB HO147 hb
       replace BK118 := kB BK118 hb
       replace BK126 := kB BK126 hb
       replace BK134 := kB BK134 hb
       replace HB := bS HB hb
       refine hK.out _ _ ⟨bc BK126 0, bc BK126 1⟩ (fun hHeld => ?_)
       clear hK K
       refine normA (N := some 58) ?_
       refine pA 18 59 HT_ ?_
       refine pA 19 60 HT_ ?_
       refine pA 20 61 HT_ ?_
       refine pA 21 62 HT_ ?_
       refine oneA (i := 22) (N := some 63) HT_ (fun K hK => ?_)
       refine Kd.R_lit_step (Kd.int .i64) _ 3 ?hg (N := 63) ?hd (xs := ([0] : List Int)) (inner := [.int .i64 0]) (ok := fun _ => True) (okp := fun _ => True) ?hr ?hp (fun _ hk => hk) trivial (Below.refl _ _) (Nat.le_refl _) (by simp) ?_; (case hd => rfl); (case hg => rfl); (case hr => first | (go_simp; done) | (go_simp; rfl)); (case hp => exact (Reps.one (show Kd.M (Kd.int .i64) _ _ _ 0 [.int .i64 0] from rfl) (Reps.none _ _)))
       intro v152 w55 ho56 hb hg_ hnew_
       clear hg_ hnew_
       (first | rw [← Ny151.out] at ho56 | (simp only [Int.reduceToNat] at ho56; rw [← Ny151.out] at ho56))
       have HO153 := Aside0.mk (Kd.R_lower (Kd.R_new' (Kd.R_new' (Kd.R_new' (Kd.R_new' (Kd.R_new' ho56 (Kd.R_lt (rX HO121.out))) (Kd.R_lt (rX HO137.out))) (Kd.R_lt (rX HO140.out))) (Kd.R_lt (rX HO143.out))) (Kd.R_lt (rX HO147.out))) (below_size (bX HB)))
       replace HO110 := rB HO110 hb
       replace HO117 := rB HO117 hb
       replace HO121 := Aside0.mk (Kd.R_elder' (rX HO121.out) (Kd.R_base ho56) hb)
       replace HO133 := rB HO133 hb
       replace HO137 := Aside0.mk (Kd.R_elder' (rX HO137.out) (Kd.R_base ho56) hb)
       replace HO140 := Aside0.mk (Kd.R_elder' (rX HO140.out) (Kd.R_base ho56) hb)
       replace HO143 := Aside0.mk (Kd.R_elder' (rX HO143.out) (Kd.R_base ho56) hb)
       replace HO147 := Aside0.mk (Kd.R_elder' (rX HO147.out) (Kd.R_base ho56) hb)
       replace BK118 := kB BK118 hb
       replace BK126 := kB BK126 hb
       replace BK134 := kB BK134 hb
       replace HB := bS HB hb
       clear hb ho56
       obtain ⟨Ao57, co57, eo57⟩ := Kd.R_slice HO143.out
       (first | subst eo57 | (injection eo57 with f1_ f2_ f3_; have f4_ := f1_.symm; have f5_ := f3_.symm; clear f1_ f2_ f3_; subst f4_; subst f5_))
       obtain ⟨Ao58, co58, eo58⟩ := Kd.R_slice HO153.out
       (first | subst eo58 | (injection eo58 with f1_ f2_ f3_; have f4_ := f1_.symm; have f5_ := f3_.symm; clear f1_ f2_ f3_; subst f4_; subst f5_))
       refine hK.out _ _ ⟨bc BK126 0, bc BK126 1⟩ (fun hHeld => ?_)
       clear hK K
       refine normA (N := some 63) ?_
       refine oneA (i := 23) (N := some 64) HT_ (fun K hK => ?_)
       refine goesB Tryz.func19 #[.slice Ao57 t141.length co57, .slice Ao58 y151.length co58] ?_
       with_reducible refine (z14_.calls k _ _ t141 _ _ y151 t154 _ ?side1 ?side2 ?side3 ?side4 A48.out).mono ?_
       (case side1 => exact sX (Kd.R_reads' HO143.out).2.2)
       (case side2 => exact (Kd.R_reads' HO143.out).2.1)
       (case side3 => exact sX (Kd.R_reads' HO153.out).2.2)
       (case side4 => exact (Kd.R_reads' HO153.out).2.1)
       rintro e w' ⟨rfl, ⟨nd, rfl⟩⟩
       refine ⟨_, rfl, ?_⟩
       refine hK.out _ _ ⟨bc BK126 0, bc BK126 1⟩ (fun hHeld => ?_)
       clear hK K
       refine normA (N := some 64) ?_
       refine pA 24 65 HT_ ?_
       refine pA 25 0 HT_ ?_
       refine done_ (done_of HT_.out (by kernel_rfl)) ?_
       try go_wp2
       go_meet
       case rel => exact ⟨_, (t154), eR, H', ⟨by first | omega | exact Nat.le_refl _⟩, ⟨by (with_reducible repeat (first | apply Kd.R_alloc | apply Kd.R_drewN | apply Kd.R_drew)); exact Kd.R_mono HO110.out (fun _ hk => ⟨hk.1.2, hk.2⟩)⟩, ⟨by (with_reducible repeat (first | apply Kd.R_alloc | apply Kd.R_drewN | apply Kd.R_drew)); exact Kd.R_mono HO117.out (fun _ hk => ⟨hk.1.2, hk.2⟩)⟩, ⟨rX HO133.out⟩, ⟨kX BK118.out⟩, ⟨kX BK126.out⟩, ⟨kX BK134.out⟩, ⟨bX HB⟩⟩
      ·rw [if_neg c47] at H
       have c47b0 : (t123 == t149 && (t124 == t150)) = false := by simpa using c47
       (try (have c47b1 : decide (t123 = t149 && (t124 == t150)) = false := by simpa using c47))
       (try (have c47b2 : (t123 == t149 && (t124 == t150)) = false := by simpa using c47))
       (try (have c47b3 : ¬ (t123 = t149 && (t124 == t150)) := by simpa using c47))
       clear c47
       have H' := Aside0.mk H
       clear H
       try go_wp2
       replace HO110 := Aside0.mk (Kd.R_drew HO110.out)
       replace HO117 := Aside0.mk (Kd.R_drew HO117.out)
       replace HO121 := Aside0.mk (Kd.R_drew HO121.out)
       replace HO133 := Aside0.mk (Kd.R_drew HO133.out)
       replace HO137 := Aside0.mk (Kd.R_drew HO137.out)
       replace HO140 := Aside0.mk (Kd.R_drew HO140.out)
       replace HO143 := Aside0.mk (Kd.R_drew HO143.out)
       replace BK118 := Aside0.mk (blk_drew BK118.out)
       replace BK126 := Aside0.mk (blk_drew BK126.out)
       replace BK134 := Aside0.mk (blk_drew BK134.out)
       replace HB := Aside0.mk (below_drew1 HB.out)
       refine start_ (n := 26) (S := fun w' => w'.cell? ⟨gb126, 0, none⟩ = some (.int .i64 t123) ∧ w'.cell? ⟨gb126, 1, none⟩ = some (.int .i64 t124)) (ds := []) #[false, false, false, false, false, false, false, false, false, false, false, false, false, false, false, false, false, false, false, false, false, false, false, false, false, false] (by kernel_rfl) rfl rfl ⟨bc BK126 0, bc BK126 1⟩ (fun hHeld => ?_); refine with_tabW z4_.tab6 z4_.bits6 (fun HT_ HW_ => ?_)
       generalize w40.drew = w59 at HO110 HO117 HO121 HO133 HO137 HO140 HO143 BK118 BK126 BK134 HB hHeld ⊢
       refine pA 0 41 HT_ ?_
       refine pA 1 42 HT_ ?_
       refine pA 2 43 HT_ ?_
       refine pA 3 44 HT_ ?_
       refine pA 4 45 HT_ ?_
       refine pA 5 46 HT_ ?_
       refine pA 6 47 HT_ ?_
       refine pA 7 48 HT_ ?_
       refine pA 8 49 HT_ ?_
       refine pA 9 50 HT_ ?_
       refine pA 10 51 HT_ ?_
       refine pA 11 52 HT_ ?_
       refine oneA (i := 12) (N := some 53) HT_ (fun K hK => ?_)
       refine Kd.R_lit_step (Kd.int .i64) _ 3 ?hg (N := 53) ?hd (xs := ([2, 9, 16, 23] : List Int)) (inner := [.int .i64 2, .int .i64 9, .int .i64 16, .int .i64 23]) (ok := fun _ => True) (okp := fun _ => True) ?hr ?hp (fun _ hk => hk) trivial (Below.refl _ _) (Nat.le_refl _) (by simp) ?_; (case hd => rfl); (case hg => rfl); (case hr => first | (go_simp; done) | (go_simp; rfl)); (case hp => exact (Reps.one (show Kd.M (Kd.int .i64) _ _ _ 2 [.int .i64 2] from rfl) (Reps.one (show Kd.M (Kd.int .i64) _ _ _ 9 [.int .i64 9] from rfl) (Reps.one (show Kd.M (Kd.int .i64) _ _ _ 16 [.int .i64 16] from rfl) (Reps.one (show Kd.M (Kd.int .i64) _ _ _ 23 [.int .i64 23] from rfl) (Reps.none _ _))))))
       intro v146 w60 ho61 hb hg_ hnew_
       clear hg_ hnew_
       (first | rw [← Ny145.out] at ho61 | (simp only [Int.reduceToNat] at ho61; rw [← Ny145.out] at ho61))
       have HO147 := Aside0.mk (Kd.R_lower (Kd.R_new' (Kd.R_new' (Kd.R_new' (Kd.R_new' ho61 (Kd.R_lt (rX HO121.out))) (Kd.R_lt (rX HO137.out))) (Kd.R_lt (rX HO140.out))) (Kd.R_lt (rX HO143.out))) (below_size (bX HB)))
       replace HO110 := rB HO110 hb
       replace HO117 := rB HO117 hb
       replace HO121 := Aside0.mk (Kd.R_elder' (rX HO121.out) (Kd.R_base ho61) hb)
       replace HO133 := rB HO133 hb
       replace HO137 := Aside0.mk (Kd.R_elder' (rX HO137.out) (Kd.R_base ho61) hb)
       replace HO140 := Aside0.mk (Kd.R_elder' (rX HO140.out) (Kd.R_base ho61) hb)
       replace HO143 := Aside0.mk (Kd.R_elder' (rX HO143.out) (Kd.R_base ho61) hb)
       replace BK118 := kB BK118 hb
       replace BK126 := kB BK126 hb
       replace BK134 := kB BK134 hb
       replace HB := bS HB hb
       clear hb ho61
       obtain ⟨Ao62, co62, eo62⟩ := Kd.R_slice HO121.out
       (first | subst eo62 | (injection eo62 with f1_ f2_ f3_; have f4_ := f1_.symm; have f5_ := f3_.symm; clear f1_ f2_ f3_; subst f4_; subst f5_))
       obtain ⟨Ao63, co63, eo63⟩ := Kd.R_slice HO147.out
       (first | subst eo63 | (injection eo63 with f1_ f2_ f3_; have f4_ := f1_.symm; have f5_ := f3_.symm; clear f1_ f2_ f3_; subst f4_; subst f5_))
       refine hK.out _ _ ⟨bc BK126 0, bc BK126 1⟩ (fun hHeld => ?_)
       clear hK K
       refine normA (N := some 53) ?_
       refine oneA (i := 13) (N := some 54) HT_ (fun K hK => ?_)
       refine goesB Tryz.func19 #[.slice Ao62 t119.length co62, .slice Ao63 y145.length co63] ?_
       with_reducible refine (z14_.calls k _ _ t119 _ _ y145 true _ ?side1 ?side2 ?side3 ?side4 A44.out).mono ?_
       (case side1 => exact sX (Kd.R_reads' HO121.out).2.2)
       (case side2 => exact (Kd.R_reads' HO121.out).2.1)
       (case side3 => exact sX (Kd.R_reads' HO147.out).2.2)
       (case side4 => exact (Kd.R_reads' HO147.out).2.1)
       rintro e w' ⟨rfl, ⟨nd, rfl⟩⟩
       refine ⟨_, rfl, ?_⟩
       refine hK.out _ _ ⟨bc BK126 0, bc BK126 1⟩ (fun hHeld => ?_)
       clear hK K
       refine normA (N := some 54) ?_
       refine pA 14 55 HT_ ?_
       refine pA 15 56 HT_ ?_
       refine tA 16 57 HT_ HW_ hHeld ?_
       refine oneA (i := 17) (N := some 58) HT_ (fun K hK => ?_)
       refine goesB Tryz.func15 #[.int .i64 22, .int .i64 25] ?_
       with_reducible refine (z1_.calls 22 25 t149 t150 _ A46.out).mono ?_
       rintro e w64 ⟨rfl, hb⟩
       refine ⟨_, rfl, ?_⟩
       replace HO110 := rB HO110 hb
       replace HO117 := rB HO117 hb
       replace HO121 := rB HO121 hb
       replace HO133 := rB HO133 hb
       replace HO137 := rB HO137 hb
       replace HO140 := rB HO140 hb
       replace HO143 := rB HO143 hb
       replace HO147 := rB HO147 hb
       replace BK118 := kB BK118 hb
       replace BK126 := kB BK126 hb
       replace BK134 := kB BK134 hb
       replace HB := bS HB hb
       refine hK.out _ _ ⟨bc BK126 0, bc BK126 1⟩ (fun hHeld => ?_)
       clear hK K
       refine normA (N := some 58) ?_
       refine pA 18 59 HT_ ?_
       refine pA 19 60 HT_ ?_
       refine pA 20 61 HT_ ?_
       refine pB 21 62 HT_ ?_
       refine pB 22 63 HT_ ?_
       refine pB 23 64 HT_ ?_
       refine pA 24 65 HT_ ?_
       refine pA 25 0 HT_ ?_
       refine done_ (done_of HT_.out (by kernel_rfl)) ?_
       try go_wp2
       go_meet
       case rel => exact ⟨_, (false), eR, H', ⟨by first | omega | exact Nat.le_refl _⟩, ⟨by (with_reducible repeat (first | apply Kd.R_alloc | apply Kd.R_drewN | apply Kd.R_drew)); exact Kd.R_mono HO110.out (fun _ hk => ⟨hk.1.2, hk.2⟩)⟩, ⟨by (with_reducible repeat (first | apply Kd.R_alloc | apply Kd.R_drewN | apply Kd.R_drew)); exact Kd.R_mono HO117.out (fun _ hk => ⟨hk.1.2, hk.2⟩)⟩, ⟨rX HO133.out⟩, ⟨kX BK118.out⟩, ⟨kX BK126.out⟩, ⟨kX BK134.out⟩, ⟨bX HB⟩⟩
     ·replace c45 := Bool.eq_false_iff.mpr c45
      subst c45
      have H1 : (z4_.j0 k false) = some r := by rw [if_neg (show ¬ (false = true) by decide)] at H; exact H
      clear H
      have H := H1
      clear H1
      have H' := Aside0.mk H
      clear H
      try go_wp2
      replace HO110 := Aside0.mk (Kd.R_drew HO110.out)
      replace HO117 := Aside0.mk (Kd.R_drew HO117.out)
      replace HO121 := Aside0.mk (Kd.R_drew HO121.out)
      replace HO133 := Aside0.mk (Kd.R_drew HO133.out)
      replace HO137 := Aside0.mk (Kd.R_drew HO137.out)
      replace HO140 := Aside0.mk (Kd.R_drew HO140.out)
      replace HO143 := Aside0.mk (Kd.R_drew HO143.out)
      replace BK118 := Aside0.mk (blk_drew BK118.out)
      replace BK126 := Aside0.mk (blk_drew BK126.out)
      replace BK134 := Aside0.mk (blk_drew BK134.out)
      replace HB := Aside0.mk (below_drew1 HB.out)
      refine start_ (n := 26) (S := fun w' => True) (ds := []) #[false, false, false, false, false, false, false, false, false, false, false, false, false, false, false, false, false, false, false, false, false, false, false, false, false, false] (by kernel_rfl) rfl rfl trivial (fun hHeld => ?_); refine with_tabW z4_.tab6 z4_.bits6 (fun HT_ HW_ => ?_)
      generalize w40.drew = w65 at HO110 HO117 HO121 HO133 HO137 HO140 HO143 BK118 BK126 BK134 HB hHeld ⊢
      refine pA 0 41 HT_ ?_
      refine pA 1 42 HT_ ?_
      refine pA 2 43 HT_ ?_
      refine pA 3 44 HT_ ?_
      refine pA 4 45 HT_ ?_
      refine pA 5 46 HT_ ?_
      refine pA 6 47 HT_ ?_
      refine pA 7 48 HT_ ?_
      refine pA 8 49 HT_ ?_
      refine pA 9 50 HT_ ?_
      refine pA 10 51 HT_ ?_
      refine pA 11 52 HT_ ?_
      refine oneA (i := 12) (N := some 53) HT_ (fun K hK => ?_)
      refine Kd.R_lit_step (Kd.int .i64) _ 3 ?hg (N := 53) ?hd (xs := ([2, 9, 16, 23] : List Int)) (inner := [.int .i64 2, .int .i64 9, .int .i64 16, .int .i64 23]) (ok := fun _ => True) (okp := fun _ => True) ?hr ?hp (fun _ hk => hk) trivial (Below.refl _ _) (Nat.le_refl _) (by simp) ?_; (case hd => rfl); (case hg => rfl); (case hr => first | (go_simp; done) | (go_simp; rfl)); (case hp => exact (Reps.one (show Kd.M (Kd.int .i64) _ _ _ 2 [.int .i64 2] from rfl) (Reps.one (show Kd.M (Kd.int .i64) _ _ _ 9 [.int .i64 9] from rfl) (Reps.one (show Kd.M (Kd.int .i64) _ _ _ 16 [.int .i64 16] from rfl) (Reps.one (show Kd.M (Kd.int .i64) _ _ _ 23 [.int .i64 23] from rfl) (Reps.none _ _))))))
      intro v146 w66 ho67 hb hg_ hnew_
      clear hg_ hnew_
      (first | rw [← Ny145.out] at ho67 | (simp only [Int.reduceToNat] at ho67; rw [← Ny145.out] at ho67))
      have HO147 := Aside0.mk (Kd.R_lower (Kd.R_new' (Kd.R_new' (Kd.R_new' (Kd.R_new' ho67 (Kd.R_lt (rX HO121.out))) (Kd.R_lt (rX HO137.out))) (Kd.R_lt (rX HO140.out))) (Kd.R_lt (rX HO143.out))) (below_size (bX HB)))
      replace HO110 := rB HO110 hb
      replace HO117 := rB HO117 hb
      replace HO121 := Aside0.mk (Kd.R_elder' (rX HO121.out) (Kd.R_base ho67) hb)
      replace HO133 := rB HO133 hb
      replace HO137 := Aside0.mk (Kd.R_elder' (rX HO137.out) (Kd.R_base ho67) hb)
      replace HO140 := Aside0.mk (Kd.R_elder' (rX HO140.out) (Kd.R_base ho67) hb)
      replace HO143 := Aside0.mk (Kd.R_elder' (rX HO143.out) (Kd.R_base ho67) hb)
      replace BK118 := kB BK118 hb
      replace BK126 := kB BK126 hb
      replace BK134 := kB BK134 hb
      replace HB := bS HB hb
      clear hb ho67
      obtain ⟨Ao68, co68, eo68⟩ := Kd.R_slice HO121.out
      (first | subst eo68 | (injection eo68 with f1_ f2_ f3_; have f4_ := f1_.symm; have f5_ := f3_.symm; clear f1_ f2_ f3_; subst f4_; subst f5_))
      obtain ⟨Ao69, co69, eo69⟩ := Kd.R_slice HO147.out
      (first | subst eo69 | (injection eo69 with f1_ f2_ f3_; have f4_ := f1_.symm; have f5_ := f3_.symm; clear f1_ f2_ f3_; subst f4_; subst f5_))
      refine hK.out _ _ trivial (fun hHeld => ?_)
      clear hK K
      refine normA (N := some 53) ?_
      refine oneA (i := 13) (N := some 54) HT_ (fun K hK => ?_)
      refine goesB Tryz.func19 #[.slice Ao68 t119.length co68, .slice Ao69 y145.length co69] ?_
      with_reducible refine (z14_.calls k _ _ t119 _ _ y145 false _ ?side1 ?side2 ?side3 ?side4 A44.out).mono ?_
      (case side1 => exact sX (Kd.R_reads' HO121.out).2.2)
      (case side2 => exact (Kd.R_reads' HO121.out).2.1)
      (case side3 => exact sX (Kd.R_reads' HO147.out).2.2)
      (case side4 => exact (Kd.R_reads' HO147.out).2.1)
      rintro e w' ⟨rfl, ⟨nd, rfl⟩⟩
      refine ⟨_, rfl, ?_⟩
      refine hK.out _ _ trivial (fun hHeld => ?_)
      clear hK K
      refine normA (N := some 54) ?_
      refine pA 14 55 HT_ ?_
      refine pA 15 56 HT_ ?_
      refine pB 16 57 HT_ ?_
      refine pB 17 58 HT_ ?_
      refine pB 18 59 HT_ ?_
      refine pA 19 60 HT_ ?_
      refine pA 20 61 HT_ ?_
      refine pB 21 62 HT_ ?_
      refine pB 22 63 HT_ ?_
      refine pB 23 64 HT_ ?_
      refine pA 24 65 HT_ ?_
      refine pA 25 0 HT_ ?_
      refine done_ (done_of HT_.out (by kernel_rfl)) ?_
      try go_wp2
      go_meet
      case rel => exact ⟨_, (false), eR, H', ⟨by first | omega | exact Nat.le_refl _⟩, ⟨by (with_reducible repeat (first | apply Kd.R_alloc | apply Kd.R_drewN | apply Kd.R_drew)); exact Kd.R_mono HO110.out (fun _ hk => ⟨hk.1.2, hk.2⟩)⟩, ⟨by (with_reducible repeat (first | apply Kd.R_alloc | apply Kd.R_drewN | apply Kd.R_drew)); exact Kd.R_mono HO117.out (fun _ hk => ⟨hk.1.2, hk.2⟩)⟩, ⟨rX HO133.out⟩, ⟨kX BK118.out⟩, ⟨kX BK126.out⟩, ⟨kX BK134.out⟩, ⟨bX HB⟩⟩
    ·rw [if_neg c43] at H
     have c43b0 : (t144 == 0) = false := beq_eq_false_iff_ne.mpr c43
     have c43b1 : (t144 != 0) = true := bne_iff_ne.mpr c43
     have H' := Aside0.mk H
     clear H
     try go_wp2
     replace HO110 := Aside0.mk (Kd.R_drew HO110.out)
     replace HO117 := Aside0.mk (Kd.R_drew HO117.out)
     replace HO121 := Aside0.mk (Kd.R_drew HO121.out)
     replace HO133 := Aside0.mk (Kd.R_drew HO133.out)
     replace HO137 := Aside0.mk (Kd.R_drew HO137.out)
     replace HO140 := Aside0.mk (Kd.R_drew HO140.out)
     replace HO143 := Aside0.mk (Kd.R_drew HO143.out)
     replace BK118 := Aside0.mk (blk_drew BK118.out)
     replace BK126 := Aside0.mk (blk_drew BK126.out)
     replace BK134 := Aside0.mk (blk_drew BK134.out)
     replace HB := Aside0.mk (below_drew1 HB.out)
     refine start_ (n := 26) (S := fun w' => True) (ds := []) #[false, false, false, false, false, false, false, false, false, false, false, false, false, false, false, false, false, false, false, false, false, false, false, false, false, false] (by kernel_rfl) rfl rfl trivial (fun hHeld => ?_); refine with_tabW z4_.tab6 z4_.bits6 (fun HT_ HW_ => ?_)
     generalize w40.drew = w70 at HO110 HO117 HO121 HO133 HO137 HO140 HO143 BK118 BK126 BK134 HB hHeld ⊢
     refine pA 0 41 HT_ ?_
     refine pA 1 42 HT_ ?_
     refine pA 2 43 HT_ ?_
     refine pA 3 44 HT_ ?_
     refine pA 4 45 HT_ ?_
     refine pA 5 46 HT_ ?_
     refine pA 6 47 HT_ ?_
     refine pA 7 48 HT_ ?_
     refine pA 8 49 HT_ ?_
     refine pA 9 50 HT_ ?_
     refine pA 10 51 HT_ ?_
     refine pB 11 52 HT_ ?_
     refine pB 12 53 HT_ ?_
     refine pB 13 54 HT_ ?_
     refine pA 14 55 HT_ ?_
     refine pA 15 56 HT_ ?_
     refine pB 16 57 HT_ ?_
     refine pB 17 58 HT_ ?_
     refine pB 18 59 HT_ ?_
     refine pA 19 60 HT_ ?_
     refine pA 20 61 HT_ ?_
     refine pB 21 62 HT_ ?_
     refine pB 22 63 HT_ ?_
     refine pB 23 64 HT_ ?_
     refine pA 24 65 HT_ ?_
     refine pA 25 0 HT_ ?_
     refine done_ (done_of HT_.out (by kernel_rfl)) ?_
     try go_wp2
     go_meet
     case rel => exact ⟨_, (false), eR, H', ⟨by first | omega | exact Nat.le_refl _⟩, ⟨by (with_reducible repeat (first | apply Kd.R_alloc | apply Kd.R_drewN | apply Kd.R_drew)); exact Kd.R_mono HO110.out (fun _ hk => ⟨hk.1.2, hk.2⟩)⟩, ⟨by (with_reducible repeat (first | apply Kd.R_alloc | apply Kd.R_drewN | apply Kd.R_drew)); exact Kd.R_mono HO117.out (fun _ hk => ⟨hk.1.2, hk.2⟩)⟩, ⟨rX HO133.out⟩, ⟨kX BK118.out⟩, ⟨kX BK126.out⟩, ⟨kX BK134.out⟩, ⟨bX HB⟩⟩
   ·rw [if_neg c42] at H
    have c42b0 : (t125 == 0) = false := beq_eq_false_iff_ne.mpr c42
    have c42b1 : (t125 != 0) = true := bne_iff_ne.mpr c42
    have H' := Aside0.mk H
    clear H
    try go_wp2
    replace HO110 := Aside0.mk (Kd.R_drew HO110.out)
    replace HO117 := Aside0.mk (Kd.R_drew HO117.out)
    replace HO121 := Aside0.mk (Kd.R_drew HO121.out)
    replace HO133 := Aside0.mk (Kd.R_drew HO133.out)
    replace HO137 := Aside0.mk (Kd.R_drew HO137.out)
    replace HO140 := Aside0.mk (Kd.R_drew HO140.out)
    replace HO143 := Aside0.mk (Kd.R_drew HO143.out)
    replace BK118 := Aside0.mk (blk_drew BK118.out)
    replace BK126 := Aside0.mk (blk_drew BK126.out)
    replace BK134 := Aside0.mk (blk_drew BK134.out)
    replace HB := Aside0.mk (below_drew1 HB.out)
    refine start_ (n := 26) (S := fun w' => True) (ds := []) #[false, false, false, false, false, false, false, false, false, false, false, false, false, false, false, false, false, false, false, false, false, false, false, false, false, false] (by kernel_rfl) rfl rfl trivial (fun hHeld => ?_); refine with_tabW z4_.tab6 z4_.bits6 (fun HT_ HW_ => ?_)
    generalize w40.drew = w71 at HO110 HO117 HO121 HO133 HO137 HO140 HO143 BK118 BK126 BK134 HB hHeld ⊢
    refine pA 0 41 HT_ ?_
    refine pA 1 42 HT_ ?_
    refine pA 2 43 HT_ ?_
    refine pA 3 44 HT_ ?_
    refine pA 4 45 HT_ ?_
    refine pA 5 46 HT_ ?_
    refine pA 6 47 HT_ ?_
    refine pB 7 48 HT_ ?_
    refine pB 8 49 HT_ ?_
    refine pA 9 50 HT_ ?_
    refine pA 10 51 HT_ ?_
    refine pB 11 52 HT_ ?_
    refine pB 12 53 HT_ ?_
    refine pB 13 54 HT_ ?_
    refine pA 14 55 HT_ ?_
    refine pA 15 56 HT_ ?_
    refine pB 16 57 HT_ ?_
    refine pB 17 58 HT_ ?_
    refine pB 18 59 HT_ ?_
    refine pA 19 60 HT_ ?_
    refine pA 20 61 HT_ ?_
    refine pB 21 62 HT_ ?_
    refine pB 22 63 HT_ ?_
    refine pB 23 64 HT_ ?_
    refine pA 24 65 HT_ ?_
    refine pA 25 0 HT_ ?_
    refine done_ (done_of HT_.out (by kernel_rfl)) ?_
    try go_wp2
    go_meet
    case rel => exact ⟨_, (false), eR, H', ⟨by first | omega | exact Nat.le_refl _⟩, ⟨by (with_reducible repeat (first | apply Kd.R_alloc | apply Kd.R_drewN | apply Kd.R_drew)); exact Kd.R_mono HO110.out (fun _ hk => ⟨hk.1.2, hk.2⟩)⟩, ⟨by (with_reducible repeat (first | apply Kd.R_alloc | apply Kd.R_drewN | apply Kd.R_drew)); exact Kd.R_mono HO117.out (fun _ hk => ⟨hk.1.2, hk.2⟩)⟩, ⟨rX HO133.out⟩, ⟨kX BK118.out⟩, ⟨kX BK126.out⟩, ⟨kX BK134.out⟩, ⟨bX HB⟩⟩
  ·rw [if_neg c41] at H
   have c41b0 : (t122 == 0) = false := beq_eq_false_iff_ne.mpr c41
   have c41b1 : (t122 != 0) = true := bne_iff_ne.mpr c41
   (first | rw [c41b0] | (simp only [i64_w, i32_w]; rw [c41b0]) | skip)
   have H' := Aside0.mk H
   clear H
   try go_wp2
   replace HO110 := Aside0.mk (Kd.R_drew HO110.out)
   replace HO117 := Aside0.mk (Kd.R_drew HO117.out)
   replace HO121 := Aside0.mk (Kd.R_drew HO121.out)
   replace HO133 := Aside0.mk (Kd.R_drew HO133.out)
   replace HO137 := Aside0.mk (Kd.R_drew HO137.out)
   replace HO140 := Aside0.mk (Kd.R_drew HO140.out)
   replace HO143 := Aside0.mk (Kd.R_drew HO143.out)
   replace BK118 := Aside0.mk (blk_drew BK118.out)
   replace BK126 := Aside0.mk (blk_drew BK126.out)
   replace BK134 := Aside0.mk (blk_drew BK134.out)
   replace HB := Aside0.mk (below_drew1 HB.out)
   refine start_ (n := 26) (S := fun w' => True) (ds := []) #[false, false, false, false, false, false, false, false, false, false, false, false, false, false, false, false, false, false, false, false, false, false, false, false, false, false] (by kernel_rfl) rfl rfl trivial (fun hHeld => ?_); refine with_tabW z4_.tab6 z4_.bits6 (fun HT_ HW_ => ?_)
   generalize w40.drew = w72 at HO110 HO117 HO121 HO133 HO137 HO140 HO143 BK118 BK126 BK134 HB hHeld ⊢
   refine pA 0 41 HT_ ?_
   refine pA 1 42 HT_ ?_
   refine pA 2 43 HT_ ?_
   refine pB 3 44 HT_ ?_
   refine pB 4 45 HT_ ?_
   refine pA 5 46 HT_ ?_
   refine pA 6 47 HT_ ?_
   refine pB 7 48 HT_ ?_
   refine pB 8 49 HT_ ?_
   refine pA 9 50 HT_ ?_
   refine pA 10 51 HT_ ?_
   refine pB 11 52 HT_ ?_
   refine pB 12 53 HT_ ?_
   refine pB 13 54 HT_ ?_
   refine pA 14 55 HT_ ?_
   refine pA 15 56 HT_ ?_
   refine pB 16 57 HT_ ?_
   refine pB 17 58 HT_ ?_
   refine pB 18 59 HT_ ?_
   refine pA 19 60 HT_ ?_
   refine pA 20 61 HT_ ?_
   refine pB 21 62 HT_ ?_
   refine pB 22 63 HT_ ?_
   refine pB 23 64 HT_ ?_
   refine pA 24 65 HT_ ?_
   refine pA 25 0 HT_ ?_
   refine done_ (done_of HT_.out (by kernel_rfl)) ?_
   try go_wp2
   go_meet
   case rel => exact ⟨_, (false), eR, H', ⟨by first | omega | exact Nat.le_refl _⟩, ⟨by (with_reducible repeat (first | apply Kd.R_alloc | apply Kd.R_drewN | apply Kd.R_drew)); exact Kd.R_mono HO110.out (fun _ hk => ⟨hk.1.2, hk.2⟩)⟩, ⟨by (with_reducible repeat (first | apply Kd.R_alloc | apply Kd.R_drewN | apply Kd.R_drew)); exact Kd.R_mono HO117.out (fun _ hk => ⟨hk.1.2, hk.2⟩)⟩, ⟨rX HO133.out⟩, ⟨kX BK118.out⟩, ⟨kX BK126.out⟩, ⟨kX BK134.out⟩, ⟨bX HB⟩⟩
 case rest =>
  clear HC10
  try clear p2
  try clear c41b0
  try clear c41b1
  try clear c42b0
  try clear c42b1
  obtain ⟨kq, x0_9, rfl, HA, HJ9, HO_119000, HO_119001, HO_135001, BK118, BK126, BK134, HB⟩ := hcut
  cases kq with
  | zero => exact absurd HA.out (by simp [z4_.j0])
  | succ kj9 =>
   have H := HA.out
   clear HA
   simp only [z4_.j0] at H
   obtain rfl := Option.some.inj H
   go_wp2
   go_ret
   exact ⟨eqA, bX HB⟩
end PKno
end Go.Proofs.YtgdkmadcegleiaaGreatDoor
namespace Go.Proofs.YtgdkmadcegleiaaGreatDoor
namespace PKno
open Sq X Z
attribute [local go_sem] max2_int min2_int max_two min_two max_three min_three max_four min_four   -- for this text's walks alone
attribute [local go_sem high] eqA30
def z3_.j0 : Nat → Bool → Option (Bool)
 | 0, _ => none
 | k + 1, x0 => some x0
def z3_.f (k : Nat)  : Option (Bool) := (z1_.f 900 1000).bind fun bt155 => ((z1_.f 40 50).bind fun bt157 => ((z1_.f 200 210).bind fun bt159 => ((z1_.f 12 12).bind fun bt161 => ((z1_.f 100 100).bind fun bt163 => ((z1_.f 4 5).bind fun bt165 => ((some (([(⟨(⟨bt159.1, bt159.2⟩ : S30), (⟨bt161.1, bt161.2⟩ : S30)⟩ : S47), (⟨(⟨bt163.1, bt163.2⟩ : S30), (⟨bt165.1, bt165.2⟩ : S30)⟩ : S47)] : List (S47)) : List (S47))).bind fun y167 => ((z23_.f bt155.1 bt155.2 bt157.1 bt157.2 y167).bind fun bt171 => ((z13_.f bt155.1 bt155.2 bt157.1 bt157.2 y167 45).bind fun bt175 => ((z58_.f (([(⟨#[48, 49, 50]⟩ : ByteArray), (⟨#[51, 51, 48]⟩ : ByteArray)] : List ByteArray)) (([(⟨#[35, 46]⟩ : ByteArray), (⟨#[46, 46]⟩ : ByteArray)] : List ByteArray)) 0 0).bind fun bt183 => (if bt171.2.2 = 0 then (if bt175.2 = 0 then (if bt183.2 = 0 then ((z1_.f 16 19).bind fun bt187 => (if (bt171.1 == bt187.1 && (bt171.2.1 == bt187.2)) = true then (if bt175.1 = 5 then (if (bt183.1.length : Int) = 2 then (if 0 < (bt183.1.length : Int) then (if (rdOf ByteArray.empty bt183.1 0).toList = ([63, 49, 63] : List UInt8) then ((z4_.f k).bind fun t190 => (z3_.j0 k t190)) else (z3_.j0 k false)) else (none)) else (z3_.j0 k false)) else (z3_.j0 k false)) else (z3_.j0 k false))) else (z3_.j0 k false)) else (z3_.j0 k false)) else (z3_.j0 k false)))))))))))
def z3_.T5 : Bool × List (List Nat × List Nat) := (true, [([], []), ([0], [0]), ([1], [1]), ([2], [2]), ([3, 2], [2, 3]), ([2, 4], [2, 4]), ([5, 2], [5]), ([6], [6]), ([7, 6], [6, 7]), ([6, 8], [6, 8]), ([9, 6], [9]), ([10], [10]), ([10, 10], [10]), ([11, 12, 10], [10, 11, 12]), ([10, 13], [10, 13]), ([14, 12], [14]), ([15], [15]), ([16, 15], [15, 16]), ([15, 17], [15, 17]), ([18, 15], [18]), ([19], [19]), ([20, 19], [19, 20]), ([21, 19], [19, 21]), ([19, 22], [19, 22]), ([23, 19], [23]), ([24], [24]), ([25, 24], [24, 25]), ([26, 24], [24, 26]), ([27, 24], [24, 27]), ([24, 28], [24, 28]), ([29, 24], [29]), ([30, 30], [30]), ([30, 31], [30, 31]), ([32, 31, 0, 1, 2, 3, 4, 5, 6, 7, 8, 9, 10, 11, 12, 13, 14, 15, 16, 17, 18, 19, 20, 21, 22, 23, 24, 25, 26, 27, 28, 29, 30, 31, 32], [32])])
def z3_.B5 : List Nat := [0, 1, 3, 7, 15, 31, 63, 127, 255, 511, 1023, 2047, 2047, 8191, 16383, 32767, 65535, 131071, 262143, 524287, 1048575, 2097151, 4194303, 8388607, 16777215, 33554431, 67108863, 134217727, 268435455, 536870911, 1073741823, 2147483647, 4294967295, 8589934591]
theorem z3_.tab5 : rtab .any (opsOf Tryz.f9 5) = z3_.T5 := by kernel_rfl
theorem z3_.bits5 : waitsOk z3_.T5.2 z3_.B5 = true := by kernel_rfl
set_option maxHeartbeats 8000000 in
set_option maxRecDepth 100000 in
theorem z3_.calls (k : Nat)  (r : Bool) (w : World) (h : z3_.f k  = some r) (hT : Tabs w) :
  Calls Tryz.prog 9 #[] w fun e w' => e = .returned (.bool r) ∧ Below w.heap.size w w' := by
 have HT := Aside0.mk hT
 clear hT
 have hu47 := Tryz.underlying47
 have hu33 := Tryz.underlying33
 have hu30 := Tryz.underlying30
 have hu84 := Tryz.underlying84
 have HB := Aside0.mk (Below.refl w.heap.size w)
 have H : ((z1_.f 900 1000).bind fun bt155 => ((z1_.f 40 50).bind fun bt157 => ((z1_.f 200 210).bind fun bt159 => ((z1_.f 12 12).bind fun bt161 => ((z1_.f 100 100).bind fun bt163 => ((z1_.f 4 5).bind fun bt165 => ((some (([(⟨(⟨bt159.1, bt159.2⟩ : S30), (⟨bt161.1, bt161.2⟩ : S30)⟩ : S47), (⟨(⟨bt163.1, bt163.2⟩ : S30), (⟨bt165.1, bt165.2⟩ : S30)⟩ : S47)] : List (S47)) : List (S47))).bind fun y167 => ((z23_.f bt155.1 bt155.2 bt157.1 bt157.2 y167).bind fun bt171 => ((z13_.f bt155.1 bt155.2 bt157.1 bt157.2 y167 45).bind fun bt175 => ((z58_.f (([(⟨#[48, 49, 50]⟩ : ByteArray), (⟨#[51, 51, 48]⟩ : ByteArray)] : List ByteArray)) (([(⟨#[35, 46]⟩ : ByteArray), (⟨#[46, 46]⟩ : ByteArray)] : List ByteArray)) 0 0).bind fun bt183 => (if bt171.2.2 = 0 then (if bt175.2 = 0 then (if bt183.2 = 0 then ((z1_.f 16 19).bind fun bt187 => (if (bt171.1 == bt187.1 && (bt171.2.1 == bt187.2)) = true then (if bt175.1 = 5 then (if (bt183.1.length : Int) = 2 then (if 0 < (bt183.1.length : Int) then (if (rdOf ByteArray.empty bt183.1 0).toList = ([63, 49, 63] : List UInt8) then ((z4_.f k).bind fun t190 => (z3_.j0 k t190)) else (z3_.j0 k false)) else (none)) else (z3_.j0 k false)) else (z3_.j0 k false)) else (z3_.j0 k false))) else (z3_.j0 k false)) else (z3_.j0 k false)) else (z3_.j0 k false)))))))))))) = some r := h
 clear h
 replace H := bindA H
 obtain ⟨⟨t155, t156⟩, A1, H⟩ := H
 try dsimp only at H
 replace H := bindA H
 obtain ⟨⟨t157, t158⟩, A2, H⟩ := H
 try dsimp only at H
 replace H := bindA H
 obtain ⟨⟨t159, t160⟩, A3, H⟩ := H
 try dsimp only at H
 replace H := bindA H
 obtain ⟨⟨t161, t162⟩, A4, H⟩ := H
 try dsimp only at H
 replace H := bindA H
 obtain ⟨⟨t163, t164⟩, A5, H⟩ := H
 try dsimp only at H
 replace H := bindA H
 obtain ⟨⟨t165, t166⟩, A6, H⟩ := H
 try dsimp only at H
 obtain ⟨y167, hy167⟩ : ∃ y_ : List (S47), y_ = (([(⟨(⟨t159, t160⟩ : S30), (⟨t161, t162⟩ : S30)⟩ : S47), (⟨(⟨t163, t164⟩ : S30), (⟨t165, t166⟩ : S30)⟩ : S47)] : List (S47))) := ⟨_, rfl⟩
 replace H : ((z23_.f t155 t156 t157 t158 y167).bind fun bt171 => ((z13_.f t155 t156 t157 t158 y167 45).bind fun bt175 => ((z58_.f (([(⟨#[48, 49, 50]⟩ : ByteArray), (⟨#[51, 51, 48]⟩ : ByteArray)] : List ByteArray)) (([(⟨#[35, 46]⟩ : ByteArray), (⟨#[46, 46]⟩ : ByteArray)] : List ByteArray)) 0 0).bind fun bt183 => (if bt171.2.2 = 0 then (if bt175.2 = 0 then (if bt183.2 = 0 then ((z1_.f 16 19).bind fun bt187 => (if (bt171.1 == bt187.1 && (bt171.2.1 == bt187.2)) = true then (if bt175.1 = 5 then (if (bt183.1.length : Int) = 2 then (if 0 < (bt183.1.length : Int) then (if (rdOf ByteArray.empty bt183.1 0).toList = ([63, 49, 63] : List UInt8) then ((z4_.f k).bind fun t190 => (z3_.j0 k t190)) else (z3_.j0 k false)) else (none)) else (z3_.j0 k false)) else (z3_.j0 k false)) else (z3_.j0 k false))) else (z3_.j0 k false)) else (z3_.j0 k false)) else (z3_.j0 k false))))) = some r := by first | (rw [hy167]; with_reducible exact H) | (have H2_ := (Option.bind_some _ _).symm.trans H; rw [hy167]; with_reducible exact H2_) | (have H2_ := (Option.bind_some _ _).symm.trans H; with_reducible exact H2_) | with_reducible exact H | (rw [hy167]; exact H) | exact H
 have Ny167 := Aside0.mk hy167
 clear hy167
 replace H := bindA H
 obtain ⟨⟨t171, t172, t173⟩, A7, H⟩ := H
 try dsimp only at H
 replace H := bindA H
 obtain ⟨⟨t175, t176⟩, A8, H⟩ := H
 try dsimp only at H
 obtain ⟨y177, hy177⟩ : ∃ y_ : List ByteArray, y_ = (([(⟨#[48, 49, 50]⟩ : ByteArray), (⟨#[51, 51, 48]⟩ : ByteArray)] : List ByteArray)) := ⟨_, rfl⟩
 replace H : ((z58_.f y177 (([(⟨#[35, 46]⟩ : ByteArray), (⟨#[46, 46]⟩ : ByteArray)] : List ByteArray)) 0 0).bind fun bt183 => (if t173 = 0 then (if t176 = 0 then (if bt183.2 = 0 then ((z1_.f 16 19).bind fun bt187 => (if (t171 == bt187.1 && (t172 == bt187.2)) = true then (if t175 = 5 then (if (bt183.1.length : Int) = 2 then (if 0 < (bt183.1.length : Int) then (if (rdOf ByteArray.empty bt183.1 0).toList = ([63, 49, 63] : List UInt8) then ((z4_.f k).bind fun t190 => (z3_.j0 k t190)) else (z3_.j0 k false)) else (none)) else (z3_.j0 k false)) else (z3_.j0 k false)) else (z3_.j0 k false))) else (z3_.j0 k false)) else (z3_.j0 k false)) else (z3_.j0 k false))) = some r := by first | (rw [hy177]; with_reducible exact H) | (have H2_ := (Option.bind_some _ _).symm.trans H; rw [hy177]; with_reducible exact H2_) | (have H2_ := (Option.bind_some _ _).symm.trans H; with_reducible exact H2_) | with_reducible exact H | (rw [hy177]; exact H) | exact H
 have Ny177 := Aside0.mk hy177
 clear hy177
 obtain ⟨y180, hy180⟩ : ∃ y_ : List ByteArray, y_ = (([(⟨#[35, 46]⟩ : ByteArray), (⟨#[46, 46]⟩ : ByteArray)] : List ByteArray)) := ⟨_, rfl⟩
 replace H : ((z58_.f y177 y180 0 0).bind fun bt183 => (if t173 = 0 then (if t176 = 0 then (if bt183.2 = 0 then ((z1_.f 16 19).bind fun bt187 => (if (t171 == bt187.1 && (t172 == bt187.2)) = true then (if t175 = 5 then (if (bt183.1.length : Int) = 2 then (if 0 < (bt183.1.length : Int) then (if (rdOf ByteArray.empty bt183.1 0).toList = ([63, 49, 63] : List UInt8) then ((z4_.f k).bind fun t190 => (z3_.j0 k t190)) else (z3_.j0 k false)) else (none)) else (z3_.j0 k false)) else (z3_.j0 k false)) else (z3_.j0 k false))) else (z3_.j0 k false)) else (z3_.j0 k false)) else (z3_.j0 k false))) = some r := by first | (rw [hy180]; with_reducible exact H) | (have H2_ := (Option.bind_some _ _).symm.trans H; rw [hy180]; with_reducible exact H2_) | (have H2_ := (Option.bind_some _ _).symm.trans H; with_reducible exact H2_) | with_reducible exact H | (rw [hy180]; exact H) | exact H
 have Ny180 := Aside0.mk hy180
 clear hy180
 replace H := bindA H
 obtain ⟨⟨t183, t186⟩, A9, H⟩ := H
 try dsimp only at H
 have HC10 := Aside0.mk H
 clear H
 go_enter Tryz.func9, Tryz.ntmps9
 go_upto_region 5 with (first | ((with_reducible refine gate_callee (f := 15) rfl ?_); refine goesA (some 8) Tryz.func15 #[.int .i64 900, .int .i64 1000] ?_; (with_reducible refine (z1_.calls 900 1000 t155 t156 _ A1.out).mono ?_); rintro e w11 ⟨rfl, hb⟩; refine ⟨_, rfl, ?_⟩; replace HB := bS HB hb) | ((with_reducible refine gate_callee (f := 15) rfl ?_); refine goesA (some 9) Tryz.func15 #[.int .i64 40, .int .i64 50] ?_; (with_reducible refine (z1_.calls 40 50 t157 t158 _ A2.out).mono ?_); rintro e w12 ⟨rfl, hb⟩; refine ⟨_, rfl, ?_⟩; replace HB := bS HB hb) | ((with_reducible refine gate_callee (f := 15) rfl ?_); refine goesA (some 10) Tryz.func15 #[.int .i64 200, .int .i64 210] ?_; (with_reducible refine (z1_.calls 200 210 t159 t160 _ A3.out).mono ?_); rintro e w13 ⟨rfl, hb⟩; refine ⟨_, rfl, ?_⟩; replace HB := bS HB hb) | ((with_reducible refine gate_callee (f := 15) rfl ?_); refine goesA (some 11) Tryz.func15 #[.int .i64 12, .int .i64 12] ?_; (with_reducible refine (z1_.calls 12 12 t161 t162 _ A4.out).mono ?_); rintro e w14 ⟨rfl, hb⟩; refine ⟨_, rfl, ?_⟩; replace HB := bS HB hb) | ((with_reducible refine gate_callee (f := 15) rfl ?_); refine goesA (some 13) Tryz.func15 #[.int .i64 100, .int .i64 100] ?_; (with_reducible refine (z1_.calls 100 100 t163 t164 _ A5.out).mono ?_); rintro e w15 ⟨rfl, hb⟩; refine ⟨_, rfl, ?_⟩; replace HB := bS HB hb) | ((with_reducible refine gate_callee (f := 15) rfl ?_); refine goesA (some 14) Tryz.func15 #[.int .i64 4, .int .i64 5] ?_; (with_reducible refine (z1_.calls 4 5 t165 t166 _ A6.out).mono ?_); rintro e w16 ⟨rfl, hb⟩; refine ⟨_, rfl, ?_⟩; replace HB := bS HB hb) | ((with_reducible refine gate_dst (N := 16) rfl ?_); (try (refine gate_guard (by rfl) ?_; dsimp only)); refine Kd.R_lit k47 _ 47 ?hg (N := 16) ?hd (xs := ([(⟨(⟨t159, t160⟩ : S30), (⟨t161, t162⟩ : S30)⟩ : S47), (⟨(⟨t163, t164⟩ : S30), (⟨t165, t166⟩ : S30)⟩ : S47)] : List (S47))) (inner := [.int .i64 t159, .int .i64 t160, .int .i64 t161, .int .i64 t162, .int .i64 t163, .int .i64 t164, .int .i64 t165, .int .i64 t166]) (ok := fun _ => True) (okp := fun _ => True) ?hr ?hp (fun _ hk => hk) trivial (Below.refl _ _) (Nat.le_refl _) (by simp) ?_; (case hd => rfl); (case hg => rfl); (case hr => first | (go_simp; done) | (go_simp; rfl)); (case hp => exact (Reps.c4 (show Kd.M k47 _ _ _ (⟨(⟨t159, t160⟩ : S30), (⟨t161, t162⟩ : S30)⟩ : S47) [.int .i64 t159, .int .i64 t160, .int .i64 t161, .int .i64 t162] from (k47_mkM _ _ _ (⟨(⟨t159, t160⟩ : S30), (⟨t161, t162⟩ : S30)⟩ : S47) )) (Reps.c4 (show Kd.M k47 _ _ _ (⟨(⟨t163, t164⟩ : S30), (⟨t165, t166⟩ : S30)⟩ : S47) [.int .i64 t163, .int .i64 t164, .int .i64 t165, .int .i64 t166] from (k47_mkM _ _ _ (⟨(⟨t163, t164⟩ : S30), (⟨t165, t166⟩ : S30)⟩ : S47) )) (Reps.none _ _)))); intro v168 w17 ho18 hb hg_ hnew_; clear hg_ hnew_; (first | rw [← Ny167.out] at ho18 | (simp only [Int.reduceToNat] at ho18; rw [← Ny167.out] at ho18)); have HO169 := Aside0.mk (Kd.R_lower ho18 (below_size (bX HB))); replace HB := bS HB hb; clear hb ho18; obtain ⟨Ao19, co19, eo19⟩ := Kd.R_slice HO169.out; subst eo19) | ((with_reducible refine gate_dst (N := 1) rfl ?_); (try (refine gate_guard (by rfl) ?_; dsimp only)); refine boxA (N := 1) (cs := #[.int .i64 0, .int .i64 0, .int .i64 0, .int .i64 0, .slice none 0 0]) (t := 33) ?_; intro gb170 hg w20 hbox hb; have BK170 := Aside0.mk (hbox); have GE170 := bG HB hg; replace HO169 := rB HO169 hb; replace HB := bS HB hb; clear hb hbox hg; obtain ⟨hcz21_0, hcz21_1, hcz21_2, hcz21_3, hcz21_4, hfz21_0, hfz21_1, hfz21_2, hfz21_3, hfz21_4⟩ := cc5 BK170) | ((with_reducible refine gate_callee (f := 13) rfl ?_); refine goesA (some 20) Tryz.func13 #[.agg #[.int .i64 t155, .int .i64 t156, .int .i64 t157, .int .i64 t158, .slice Ao19 y167.length co19]] ?_; (with_reducible refine (z23_.calls t155 t156 t157 t158 _ _ y167 t171 t172 t173 _ ?side1 ?side2 A7.out).mono ?_); (case side1 => refine (Kd.R_reads' (e := 47) (base := w.heap.size) (ok := fun k_ => True) (n := y167.length) (c := co19) ?_).2.2; exact (rX (Kd.R_mono (Kd.R_far (p := ⟨gb170, 4, none⟩) (Kd.R_far (p := ⟨gb170, 3, none⟩) (Kd.R_far (p := ⟨gb170, 2, none⟩) (Kd.R_far (p := ⟨gb170, 1, none⟩) (Kd.R_far (p := ⟨gb170, 0, none⟩) (Kd.R_types HO169.out BK170.out (by decide)) (fun _ hk => hk.2) (.int .i64 t155)) (fun _ hk => hk.2) (.int .i64 t156)) (fun _ hk => hk.2) (.int .i64 t157)) (fun _ hk => hk.2) (.int .i64 t158)) (fun _ hk => hk.2) (.slice Ao19 y167.length co19)) (fun _ h_ => h_.1)))); (case side2 => exact (Kd.R_reads' HO169.out).2.1); rintro e w22 ⟨rfl, hb⟩; refine ⟨_, rfl, ?_⟩; have n0_ := Aside0.mk (Kd.R_below (rX (Kd.R_mono (Kd.R_far (p := ⟨gb170, 4, none⟩) (Kd.R_far (p := ⟨gb170, 3, none⟩) (Kd.R_far (p := ⟨gb170, 2, none⟩) (Kd.R_far (p := ⟨gb170, 1, none⟩) (Kd.R_far (p := ⟨gb170, 0, none⟩) (Kd.R_types HO169.out BK170.out (by decide)) (fun _ hk => hk.2) (.int .i64 t155)) (fun _ hk => hk.2) (.int .i64 t156)) (fun _ hk => hk.2) (.int .i64 t157)) (fun _ hk => hk.2) (.int .i64 t158)) (fun _ hk => hk.2) (.slice Ao19 y167.length co19)) (fun _ h_ => h_.1))) hb); have n1_ := Aside0.mk (blk_below (g := gb170) (o := .cells #[.int .i64 t155, .int .i64 t156, .int .i64 t157, .int .i64 t158, .slice Ao19 y167.length co19] 33 (0, 0)) (by (with_reducible repeat (first | refine blk_drewN ?_ _ | refine blk_drew ?_ | refine blk_alloc ?_ _)); refine blk_put (cs := #[.int .i64 t155, .int .i64 t156, .int .i64 t157, .int .i64 t158, .slice none 0 0]) ?_ 4 _ rfl; (with_reducible repeat (first | refine blk_drewN ?_ _ | refine blk_drew ?_ | refine blk_alloc ?_ _)); refine blk_put (cs := #[.int .i64 t155, .int .i64 t156, .int .i64 t157, .int .i64 0, .slice none 0 0]) ?_ 3 _ rfl; (with_reducible repeat (first | refine blk_drewN ?_ _ | refine blk_drew ?_ | refine blk_alloc ?_ _)); refine blk_put (cs := #[.int .i64 t155, .int .i64 t156, .int .i64 0, .int .i64 0, .slice none 0 0]) ?_ 2 _ rfl; (with_reducible repeat (first | refine blk_drewN ?_ _ | refine blk_drew ?_ | refine blk_alloc ?_ _)); refine blk_put (cs := #[.int .i64 t155, .int .i64 0, .int .i64 0, .int .i64 0, .slice none 0 0]) ?_ 1 _ rfl; (with_reducible repeat (first | refine blk_drewN ?_ _ | refine blk_drew ?_ | refine blk_alloc ?_ _)); refine blk_put (cs := #[.int .i64 0, .int .i64 0, .int .i64 0, .int .i64 0, .slice none 0 0]) ?_ 0 _ rfl; (with_reducible repeat (first | refine blk_drewN ?_ _ | refine blk_drew ?_ | refine blk_alloc ?_ _)); exact BK170.out) hb); have n2_ := bS HB hb; clear HO169; clear BK170; clear HB; have HO169 := n0_; have BK170 := n1_; have HB := n2_; clear n0_ n1_ n2_) | ((with_reducible refine gate_dst (N := 2) rfl ?_); (try (refine gate_guard (by rfl) ?_; dsimp only)); refine boxA (N := 2) (cs := #[.int .i64 0, .int .i64 0]) (t := 30) ?_; intro gb174 hg w23 hbox hb; have BK174 := Aside0.mk (hbox); have GE174 := bG HB hg; have NB170_174 := kN BK170 hg; have NB174_170 := kM BK170 hg; replace HO169 := rB HO169 hb; replace BK170 := kB BK170 hb; replace HB := bS HB hb; clear hb hbox hg; obtain ⟨hnb24, hnc24⟩ := nn NB174_170; obtain ⟨hcz25_0, hcz25_1, hfz25_0, hfz25_1⟩ := cc2 BK174; obtain ⟨hcz26_0, hcz26_1, hcz26_2, hcz26_3, hcz26_4, hfz26_0, hfz26_1, hfz26_2, hfz26_3, hfz26_4⟩ := cc5 BK170) | ((with_reducible refine gate_callee (f := 7) rfl ?_); refine goesA (some 25) Tryz.func7 #[.agg #[.int .i64 t155, .int .i64 t156, .int .i64 t157, .int .i64 t158, .slice Ao19 y167.length co19], .int .i64 45] ?_; (with_reducible refine (z13_.calls t155 t156 t157 t158 _ _ y167 45 t175 t176 _ ?side1 ?side2 A8.out).mono ?_); (case side1 => refine (Kd.R_reads' (e := 47) (base := w.heap.size) (ok := fun k_ => True) (n := y167.length) (c := co19) ?_).2.2; exact (rX (Kd.R_mono (Kd.R_far (p := ⟨gb174, 1, none⟩) (Kd.R_far (p := ⟨gb174, 0, none⟩) (Kd.R_types HO169.out BK174.out (by decide)) (fun _ hk => hk.2) (.int .i64 t171)) (fun _ hk => hk.2) (.int .i64 t172)) (fun _ h_ => h_.1)))); (case side2 => exact (Kd.R_reads' HO169.out).2.1); rintro e w27 ⟨rfl, hb⟩; refine ⟨_, rfl, ?_⟩; replace HO169 := Aside0.mk (Kd.R_below (rX (Kd.R_mono (Kd.R_far (p := ⟨gb174, 1, none⟩) (Kd.R_far (p := ⟨gb174, 0, none⟩) (Kd.R_types HO169.out BK174.out (by decide)) (fun _ hk => hk.2) (.int .i64 t171)) (fun _ hk => hk.2) (.int .i64 t172)) (fun _ h_ => h_.1))) hb); replace BK170 := Aside0.mk (blk_below (kF BK170 NB170_174) hb); replace BK174 := Aside0.mk (blk_below (g := gb174) (o := .cells #[.int .i64 t171, .int .i64 t172] 30 (0, 0)) (kP BK174) hb); replace HB := bS HB hb) | ((with_reducible refine gate_dst (N := 29) rfl ?_); (try (refine gate_guard (by rfl) ?_; dsimp only)); refine Kd.R_lit Kd.string _ 9 ?hg (N := 29) ?hd (xs := ([(⟨#[48, 49, 50]⟩ : ByteArray), (⟨#[51, 51, 48]⟩ : ByteArray)] : List ByteArray)) (inner := [.string (⟨#[48, 49, 50]⟩ : ByteArray), .string (⟨#[51, 51, 48]⟩ : ByteArray)]) (ok := fun _ => True) (okp := fun _ => True) ?hr ?hp (fun _ hk => hk) trivial (Below.refl _ _) (Nat.le_refl _) (by simp) ?_; (case hd => rfl); (case hg => rfl); (case hr => first | (go_simp; done) | (go_simp; rfl)); (case hp => exact (Reps.one (show Kd.M Kd.string _ _ _ (⟨#[48, 49, 50]⟩ : ByteArray) [.string (⟨#[48, 49, 50]⟩ : ByteArray)] from rfl) (Reps.one (show Kd.M Kd.string _ _ _ (⟨#[51, 51, 48]⟩ : ByteArray) [.string (⟨#[51, 51, 48]⟩ : ByteArray)] from rfl) (Reps.none _ _)))); intro v178 w28 ho29 hb hg_ hnew_; clear hg_ hnew_; (first | rw [← Ny177.out] at ho29 | (simp only [Int.reduceToNat] at ho29; rw [← Ny177.out] at ho29)); have HO179 := Aside0.mk (Kd.R_lower ho29 (below_size (bX HB))); replace HO169 := rB HO169 hb; replace BK170 := kB BK170 hb; replace BK174 := kB BK174 hb; replace HB := bS HB hb; clear hb ho29) | ((with_reducible refine gate_dst (N := 30) rfl ?_); (try (refine gate_guard (by rfl) ?_; dsimp only)); refine Kd.R_lit Kd.string _ 9 ?hg (N := 30) ?hd (xs := ([(⟨#[35, 46]⟩ : ByteArray), (⟨#[46, 46]⟩ : ByteArray)] : List ByteArray)) (inner := [.string (⟨#[35, 46]⟩ : ByteArray), .string (⟨#[46, 46]⟩ : ByteArray)]) (ok := fun _ => True) (okp := fun _ => True) ?hr ?hp (fun _ hk => hk) trivial (Below.refl _ _) (Nat.le_refl _) (by simp) ?_; (case hd => rfl); (case hg => rfl); (case hr => first | (go_simp; done) | (go_simp; rfl)); (case hp => exact (Reps.one (show Kd.M Kd.string _ _ _ (⟨#[35, 46]⟩ : ByteArray) [.string (⟨#[35, 46]⟩ : ByteArray)] from rfl) (Reps.one (show Kd.M Kd.string _ _ _ (⟨#[46, 46]⟩ : ByteArray) [.string (⟨#[46, 46]⟩ : ByteArray)] from rfl) (Reps.none _ _)))); intro v181 w30 ho31 hb hg_ hnew_; clear hg_ hnew_; (first | rw [← Ny180.out] at ho31 | (simp only [Int.reduceToNat] at ho31; rw [← Ny180.out] at ho31)); have HO182 := Aside0.mk (Kd.R_lower (Kd.R_new' ho31 (Kd.R_lt (rX HO179.out))) (below_size (bX HB))); replace HO169 := rB HO169 hb; replace HO179 := Aside0.mk (Kd.R_elder' (rX HO179.out) (Kd.R_base ho31) hb); replace BK170 := kB BK170 hb; replace BK174 := kB BK174 hb; replace HB := bS HB hb; clear hb ho31; obtain ⟨Ao32, co32, eo32⟩ := Kd.R_slice HO179.out; subst eo32; obtain ⟨Ao33, co33, eo33⟩ := Kd.R_slice HO182.out; subst eo33) | ((with_reducible refine gate_callee (f := 28) rfl ?_); refine goesA (some 32) Tryz.func28 #[.slice Ao32 y177.length co32, .slice Ao33 y180.length co33, .agg #[.int .i64 0, .int .i64 0]] ?_; (with_reducible refine (z58_.calls _ _ y177 _ _ y180 0 0 t183 t186 _ ?side1 ?side2 ?side3 ?side4 A9.out (Tabs.below HT.out (bX HB))).mono ?_); (case side1 => exact sX (Kd.R_reads' HO179.out).2.2); (case side2 => exact (Kd.R_reads' HO179.out).2.1); (case side3 => exact sX (Kd.R_reads' HO182.out).2.2); (case side4 => exact (Kd.R_reads' HO182.out).2.1); rintro e w34 ⟨v184, rfl, ho0, hb⟩; refine ⟨_, rfl, ?_⟩; have HO185 := Aside0.mk (Kd.R_lower (Kd.R_new' (Kd.R_new' ho0 (Kd.R_lt (rX HO179.out))) (Kd.R_lt (rX HO182.out))) (below_size (bX HB))); replace HO169 := rB HO169 hb; replace HO179 := Aside0.mk (Kd.R_elder' (rX HO179.out) (Kd.R_base ho0) hb); replace HO182 := Aside0.mk (Kd.R_elder' (rX HO182.out) (Kd.R_base ho0) hb); replace BK170 := kB BK170 hb; replace BK174 := kB BK174 hb; replace HB := bS HB hb; (try clear ho0)))
 (try simp only [Act.put, List.setIfInBounds_toArray, List.set_cons_zero, List.set_cons_succ])
 go_cut [0] (fun v0 wc => ∃ (kq : Nat) (x0_9 : Bool), v0 = .bool x0_9 ∧ Aside0 (z3_.j0 kq x0_9 = some r) ∧ Aside0 (kq ≤ k) ∧ Aside0 (Kd.R k47 47 wc w.heap.size (fun _ => True) (.slice Ao19 y167.length co19) y167) ∧ Aside0 (wc.heap[gb170]? = some (.cells #[.int .i64 t155, .int .i64 t156, .int .i64 t157, .int .i64 t158, (.slice Ao19 y167.length co19)] 33 (0, 0))) ∧ Aside0 (wc.heap[gb174]? = some (.cells #[.int .i64 t171, .int .i64 t172] 30 (0, 0))) ∧ Aside0 (Below w.heap.size w wc))
 case first =>
  have H := HC10.out
  clear HC10
  by_cases c35 : t173 = 0
  ·rw [if_pos c35] at H
   have c35b0 : (t173 == 0) = true := beq_iff_eq.mpr c35
   have c35b1 : (t173 != 0) = false := bne_eq_false_iff_eq.mpr c35
   clear c35
   (first | rw [c35b0] | (simp only [i64_w, i32_w]; rw [c35b0]) | skip)
   by_cases c36 : t176 = 0
   ·rw [if_pos c36] at H
    have c36b0 : (t176 == 0) = true := beq_iff_eq.mpr c36
    have c36b1 : (t176 != 0) = false := bne_eq_false_iff_eq.mpr c36
    clear c36
    by_cases c37 : t186 = 0
    ·rw [if_pos c37] at H
     have c37b0 : (t186 == 0) = true := beq_iff_eq.mpr c37
     have c37b1 : (t186 != 0) = false := bne_eq_false_iff_eq.mpr c37
     clear c37
     replace H := bindA H
     obtain ⟨⟨t187, t188⟩, A38, H⟩ := H
     try dsimp only at H
     by_cases c39 : (t171 == t187 && (t172 == t188)) = true
     ·rw [if_pos c39] at H
      have c39b0 : (t171 == t187 && (t172 == t188)) = true := c39
      (try (have c39b1 : decide (t171 = t187 && (t172 == t188)) = true := by simpa using c39))
      (try (have c39b2 : (t171 == t187 && (t172 == t188)) = true := by simpa using c39))
      clear c39
      by_cases c40 : t175 = 5
      ·rw [if_pos c40] at H
       have c40b0 : (t175 == 5) = true := beq_iff_eq.mpr c40
       have c40b1 : (t175 != 5) = false := bne_eq_false_iff_eq.mpr c40
       clear c40
       by_cases c41 : (t183.length : Int) = 2
       ·rw [if_pos c41] at H
        have c41b0 : ((t183.length : Int) == 2) = true := beq_iff_eq.mpr c41
        have c41b1 : ((t183.length : Int) != 2) = false := bne_eq_false_iff_eq.mpr c41
        clear c41
        by_cases c42 : 0 < (t183.length : Int)
        ·rw [if_pos c42] at H
         have c42b0 : decide (0 < (t183.length : Int)) = true := decide_eq_true c42
         have c42b1 : decide (0 < t183.length) = true := decide_eq_true (by omega)
         clear c42
         by_cases c43 : (rdOf ByteArray.empty t183 0).toList = ([63, 49, 63] : List UInt8)
         ·rw [if_pos c43] at H
          have c43b0 : ((rdOf ByteArray.empty t183 0).toList == ([63, 49, 63] : List UInt8)) = true := beq_iff_eq.mpr c43
          have c43b1 : ((rdOf ByteArray.empty t183 0).toList != ([63, 49, 63] : List UInt8)) = false := bne_eq_false_iff_eq.mpr c43
          clear c43
          replace H := bindA H
          obtain ⟨t190, A44, H⟩ := H
          try dsimp only at H
          have H' := Aside0.mk H
          clear H
          try go_wp2
          replace HO169 := Aside0.mk (Kd.R_drew HO169.out)
          replace HO179 := Aside0.mk (Kd.R_drew HO179.out)
          replace HO182 := Aside0.mk (Kd.R_drew HO182.out)
          replace HO185 := Aside0.mk (Kd.R_drew HO185.out)
          replace BK170 := Aside0.mk (blk_drew BK170.out)
          replace BK174 := Aside0.mk (blk_drew BK174.out)
          replace HB := Aside0.mk (below_drew1 HB.out)
          have p189 : 0 ≤ (0 : Int) := (by omega)
          have q189 : 0 < (t183.length : Int) := of_decide_eq_true (by first | (with_reducible assumption) | assumption)
          obtain ⟨Ao90, co90, eo90⟩ := Kd.R_slice HO185.out
          subst eo90
          obtain ⟨ad189, e189, hx189_0⟩ := Kd.at_string (Kd.R_reads' HO185.out).2.2 0 p189 q189
          cases e189
          have qi189 : (0 < t183.length) = True := eq_true (by omega)
          (try rw [show ((0 : Int)).toNat = 0 from rfl] at hx189_0)
          (try rw [Addr.add_zero'] at hx189_0)
          replace p189 := eq_true p189
          replace q189 := eq_true q189
          refine start_ (n := 34) (S := fun w' => w'.cell? ⟨gb174, 0, none⟩ = some (.int .i64 t171) ∧ w'.cell? ⟨gb174, 1, none⟩ = some (.int .i64 t172) ∧ w'.cell? ad189 = some (.string (rdOf ByteArray.empty t183 0))) (ds := []) #[false, false, false, false, false, false, false, false, false, false, false, false, false, false, false, false, false, false, false, false, false, false, false, false, false, false, false, false, false, false, false, false, false, false] (by kernel_rfl) rfl rfl ⟨bc BK174 0, bc BK174 1, hx189_0⟩ (fun hHeld => ?_); refine with_tabW z3_.tab5 z3_.bits5 (fun HT_ HW_ => ?_)
          generalize w34.drew = w45 at HO169 HO179 HO182 HO185 BK170 BK174 HB hx189_0 hHeld ⊢
          refine pA 0 35 HT_ ?_
          refine pA 1 36 HT_ ?_
          refine pA 2 37 HT_ ?_
          refine pA 3 38 HT_ ?_
          refine pA 4 39 HT_ ?_
          refine pA 5 40 HT_ ?_
          refine pA 6 41 HT_ ?_
          refine pA 7 42 HT_ ?_
          refine pA 8 43 HT_ ?_
          refine pA 9 44 HT_ ?_
          refine pA 10 45 HT_ ?_
          refine tA 11 46 HT_ HW_ hHeld ?_
          refine oneA (i := 12) (N := some 47) HT_ (fun K hK => ?_)
          refine goesB Tryz.func15 #[.int .i64 16, .int .i64 19] ?_
          with_reducible refine (z1_.calls 16 19 t187 t188 _ A38.out).mono ?_
          rintro e w46 ⟨rfl, hb⟩
          have HS2_ := (hb.cell (World.block_lt_of_cell? _ _ (hHeld.2.2))).trans (hHeld.2.2)
          refine ⟨_, rfl, ?_⟩
          replace HO169 := rB HO169 hb
          replace HO179 := rB HO179 hb
          replace HO182 := rB HO182 hb
          replace HO185 := rB HO185 hb
          replace BK170 := kB BK170 hb
          replace BK174 := kB BK174 hb
          replace HB := bS HB hb
          obtain ⟨Ao47, co47, eo47⟩ := Kd.R_slice HO185.out
          (first | subst eo47 | (injection eo47 with f1_ f2_ f3_; have f4_ := f1_.symm; have f5_ := f3_.symm; clear f1_ f2_ f3_; subst f4_; subst f5_))
          refine hK.out _ _ ⟨bc BK174 0, bc BK174 1, HS2_⟩ (fun hHeld => ?_)
          clear hK K
          refine normA (N := some 47) ?_
          refine pA 13 48 HT_ ?_
          refine pA 14 49 HT_ ?_
          refine pA 15 50 HT_ ?_
          refine pA 16 51 HT_ ?_
          refine pA 17 52 HT_ ?_
          refine pA 18 53 HT_ ?_
          refine pA 19 54 HT_ ?_
          refine pA 20 55 HT_ ?_
          refine pA 21 56 HT_ ?_
          refine pA 22 57 HT_ ?_
          refine pA 23 58 HT_ ?_
          refine pA 24 59 HT_ ?_
          refine pA 25 60 HT_ ?_
          refine pA 26 61 HT_ ?_
          refine tA 27 62 HT_ HW_ hHeld ?_
          refine pA 28 63 HT_ ?_
          refine pA 29 64 HT_ ?_
          refine pA 30 65 HT_ ?_
          refine oneA (i := 31) (N := some 66) HT_ (fun K hK => ?_)
          refine goesB Tryz.func29 #[] ?_
          with_reducible refine (z4_.calls k  t190 _ A44.out).mono ?_
          rintro e w48 ⟨rfl, hb⟩
          have HS2_ := (hb.cell (World.block_lt_of_cell? _ _ (hHeld.2.2))).trans (hHeld.2.2)
          refine ⟨_, rfl, ?_⟩
          replace HO169 := rB HO169 hb
          replace HO179 := rB HO179 hb
          replace HO182 := rB HO182 hb
          replace HO185 := rB HO185 hb
          replace BK170 := kB BK170 hb
          replace BK174 := kB BK174 hb
          replace HB := bS HB hb
          refine hK.out _ _ ⟨bc BK174 0, bc BK174 1, HS2_⟩ (fun hHeld => ?_)
          clear hK K
          refine normA (N := some 66) ?_
          refine pA 32 67 HT_ ?_
          refine pA 33 0 HT_ ?_
          refine done_ (done_of HT_.out (by kernel_rfl)) ?_
          try go_wp2
          go_meet
          case rel => exact ⟨_, (t190), eR, H', ⟨by first | omega | exact Nat.le_refl _⟩, ⟨rX HO169.out⟩, ⟨kX BK170.out⟩, ⟨kX BK174.out⟩, ⟨bX HB⟩⟩
         ·rw [if_neg c43] at H
          have c43b0 : ((rdOf ByteArray.empty t183 0).toList == ([63, 49, 63] : List UInt8)) = false := beq_eq_false_iff_ne.mpr c43
          have c43b1 : ((rdOf ByteArray.empty t183 0).toList != ([63, 49, 63] : List UInt8)) = true := bne_iff_ne.mpr c43
          have H' := Aside0.mk H
          clear H
          try go_wp2
          replace HO169 := Aside0.mk (Kd.R_drew HO169.out)
          replace HO179 := Aside0.mk (Kd.R_drew HO179.out)
          replace HO182 := Aside0.mk (Kd.R_drew HO182.out)
          replace HO185 := Aside0.mk (Kd.R_drew HO185.out)
          replace BK170 := Aside0.mk (blk_drew BK170.out)
          replace BK174 := Aside0.mk (blk_drew BK174.out)
          replace HB := Aside0.mk (below_drew1 HB.out)
          have p189 : 0 ≤ (0 : Int) := (by omega)
          have q189 : 0 < (t183.length : Int) := of_decide_eq_true (by first | (with_reducible assumption) | assumption)
          obtain ⟨Ao90, co90, eo90⟩ := Kd.R_slice HO185.out
          subst eo90
          obtain ⟨ad189, e189, hx189_0⟩ := Kd.at_string (Kd.R_reads' HO185.out).2.2 0 p189 q189
          cases e189
          have qi189 : (0 < t183.length) = True := eq_true (by omega)
          (try rw [show ((0 : Int)).toNat = 0 from rfl] at hx189_0)
          (try rw [Addr.add_zero'] at hx189_0)
          replace p189 := eq_true p189
          replace q189 := eq_true q189
          refine start_ (n := 34) (S := fun w' => w'.cell? ⟨gb174, 0, none⟩ = some (.int .i64 t171) ∧ w'.cell? ⟨gb174, 1, none⟩ = some (.int .i64 t172) ∧ w'.cell? ad189 = some (.string (rdOf ByteArray.empty t183 0))) (ds := []) #[false, false, false, false, false, false, false, false, false, false, false, false, false, false, false, false, false, false, false, false, false, false, false, false, false, false, false, false, false, false, false, false, false, false] (by kernel_rfl) rfl rfl ⟨bc BK174 0, bc BK174 1, hx189_0⟩ (fun hHeld => ?_); refine with_tabW z3_.tab5 z3_.bits5 (fun HT_ HW_ => ?_)
          generalize w34.drew = w49 at HO169 HO179 HO182 HO185 BK170 BK174 HB hx189_0 hHeld ⊢
          refine pA 0 35 HT_ ?_
          refine pA 1 36 HT_ ?_
          refine pA 2 37 HT_ ?_
          refine pA 3 38 HT_ ?_
          refine pA 4 39 HT_ ?_
          refine pA 5 40 HT_ ?_
          refine pA 6 41 HT_ ?_
          refine pA 7 42 HT_ ?_
          refine pA 8 43 HT_ ?_
          refine pA 9 44 HT_ ?_
          refine pA 10 45 HT_ ?_
          refine tA 11 46 HT_ HW_ hHeld ?_
          refine oneA (i := 12) (N := some 47) HT_ (fun K hK => ?_)
          refine goesB Tryz.func15 #[.int .i64 16, .int .i64 19] ?_
          with_reducible refine (z1_.calls 16 19 t187 t188 _ A38.out).mono ?_
          rintro e w50 ⟨rfl, hb⟩
          have HS2_ := (hb.cell (World.block_lt_of_cell? _ _ (hHeld.2.2))).trans (hHeld.2.2)
          refine ⟨_, rfl, ?_⟩
          replace HO169 := rB HO169 hb
          replace HO179 := rB HO179 hb
          replace HO182 := rB HO182 hb
          replace HO185 := rB HO185 hb
          replace BK170 := kB BK170 hb
          replace BK174 := kB BK174 hb
          replace HB := bS HB hb
          obtain ⟨Ao51, co51, eo51⟩ := Kd.R_slice HO185.out
          (first | subst eo51 | (injection eo51 with f1_ f2_ f3_; have f4_ := f1_.symm; have f5_ := f3_.symm; clear f1_ f2_ f3_; subst f4_; subst f5_))
          refine hK.out _ _ ⟨bc BK174 0, bc BK174 1, HS2_⟩ (fun hHeld => ?_)
          clear hK K
          refine normA (N := some 47) ?_
          refine pA 13 48 HT_ ?_
          refine pA 14 49 HT_ ?_
          refine pA 15 50 HT_ ?_
          refine pA 16 51 HT_ ?_
          refine pA 17 52 HT_ ?_
          refine pA 18 53 HT_ ?_
          refine pA 19 54 HT_ ?_
          refine pA 20 55 HT_ ?_
          refine pA 21 56 HT_ ?_
          refine pA 22 57 HT_ ?_
          refine pA 23 58 HT_ ?_
          refine pA 24 59 HT_ ?_
          refine pA 25 60 HT_ ?_
          refine pA 26 61 HT_ ?_
          refine tA 27 62 HT_ HW_ hHeld ?_
          refine pA 28 63 HT_ ?_
          refine pA 29 64 HT_ ?_
          refine pA 30 65 HT_ ?_
          refine pB 31 66 HT_ ?_
          refine pA 32 67 HT_ ?_
          refine pA 33 0 HT_ ?_
          refine done_ (done_of HT_.out (by kernel_rfl)) ?_
          try go_wp2
          go_meet
          case rel => exact ⟨_, (false), eR, H', ⟨by first | omega | exact Nat.le_refl _⟩, ⟨rX HO169.out⟩, ⟨kX BK170.out⟩, ⟨kX BK174.out⟩, ⟨bX HB⟩⟩
        ·rw [if_neg c42] at H
         exact absurd H (by simp)
       ·rw [if_neg c41] at H
        have c41b0 : ((t183.length : Int) == 2) = false := beq_eq_false_iff_ne.mpr c41
        have c41b1 : ((t183.length : Int) != 2) = true := bne_iff_ne.mpr c41
        have H' := Aside0.mk H
        clear H
        try go_wp2
        replace HO169 := Aside0.mk (Kd.R_drew HO169.out)
        replace HO179 := Aside0.mk (Kd.R_drew HO179.out)
        replace HO182 := Aside0.mk (Kd.R_drew HO182.out)
        replace HO185 := Aside0.mk (Kd.R_drew HO185.out)
        replace BK170 := Aside0.mk (blk_drew BK170.out)
        replace BK174 := Aside0.mk (blk_drew BK174.out)
        replace HB := Aside0.mk (below_drew1 HB.out)
        refine start_ (n := 34) (S := fun w' => w'.cell? ⟨gb174, 0, none⟩ = some (.int .i64 t171) ∧ w'.cell? ⟨gb174, 1, none⟩ = some (.int .i64 t172)) (ds := []) #[false, false, false, false, false, false, false, false, false, false, false, false, false, false, false, false, false, false, false, false, false, false, false, false, false, false, false, false, false, false, false, false, false, false] (by kernel_rfl) rfl rfl ⟨bc BK174 0, bc BK174 1⟩ (fun hHeld => ?_); refine with_tabW z3_.tab5 z3_.bits5 (fun HT_ HW_ => ?_)
        generalize w34.drew = w52 at HO169 HO179 HO182 HO185 BK170 BK174 HB hHeld ⊢
        refine pA 0 35 HT_ ?_
        refine pA 1 36 HT_ ?_
        refine pA 2 37 HT_ ?_
        refine pA 3 38 HT_ ?_
        refine pA 4 39 HT_ ?_
        refine pA 5 40 HT_ ?_
        refine pA 6 41 HT_ ?_
        refine pA 7 42 HT_ ?_
        refine pA 8 43 HT_ ?_
        refine pA 9 44 HT_ ?_
        refine pA 10 45 HT_ ?_
        refine tA 11 46 HT_ HW_ hHeld ?_
        refine oneA (i := 12) (N := some 47) HT_ (fun K hK => ?_)
        refine goesB Tryz.func15 #[.int .i64 16, .int .i64 19] ?_
        with_reducible refine (z1_.calls 16 19 t187 t188 _ A38.out).mono ?_
        rintro e w53 ⟨rfl, hb⟩
        refine ⟨_, rfl, ?_⟩
        replace HO169 := rB HO169 hb
        replace HO179 := rB HO179 hb
        replace HO182 := rB HO182 hb
        replace HO185 := rB HO185 hb
        replace BK170 := kB BK170 hb
        replace BK174 := kB BK174 hb
        replace HB := bS HB hb
        obtain ⟨Ao54, co54, eo54⟩ := Kd.R_slice HO185.out
        (first | subst eo54 | (injection eo54 with f1_ f2_ f3_; have f4_ := f1_.symm; have f5_ := f3_.symm; clear f1_ f2_ f3_; subst f4_; subst f5_))
        refine hK.out _ _ ⟨bc BK174 0, bc BK174 1⟩ (fun hHeld => ?_)
        clear hK K
        refine normA (N := some 47) ?_
        refine pA 13 48 HT_ ?_
        refine pA 14 49 HT_ ?_
        refine pA 15 50 HT_ ?_
        refine pA 16 51 HT_ ?_
        refine pA 17 52 HT_ ?_
        refine pA 18 53 HT_ ?_
        refine pA 19 54 HT_ ?_
        refine pA 20 55 HT_ ?_
        refine pA 21 56 HT_ ?_
        refine pA 22 57 HT_ ?_
        refine pA 23 58 HT_ ?_
        refine pA 24 59 HT_ ?_
        refine pB 25 60 HT_ ?_
        refine pB 26 61 HT_ ?_
        refine pB 27 62 HT_ ?_
        refine pB 28 63 HT_ ?_
        refine pA 29 64 HT_ ?_
        refine pA 30 65 HT_ ?_
        refine pB 31 66 HT_ ?_
        refine pA 32 67 HT_ ?_
        refine pA 33 0 HT_ ?_
        refine done_ (done_of HT_.out (by kernel_rfl)) ?_
        try go_wp2
        go_meet
        case rel => exact ⟨_, (false), eR, H', ⟨by first | omega | exact Nat.le_refl _⟩, ⟨rX HO169.out⟩, ⟨kX BK170.out⟩, ⟨kX BK174.out⟩, ⟨bX HB⟩⟩
      ·rw [if_neg c40] at H
       have c40b0 : (t175 == 5) = false := beq_eq_false_iff_ne.mpr c40
       have c40b1 : (t175 != 5) = true := bne_iff_ne.mpr c40
       have H' := Aside0.mk H
       clear H
       try go_wp2
       replace HO169 := Aside0.mk (Kd.R_drew HO169.out)
       replace HO179 := Aside0.mk (Kd.R_drew HO179.out)
       replace HO182 := Aside0.mk (Kd.R_drew HO182.out)
       replace HO185 := Aside0.mk (Kd.R_drew HO185.out)
       replace BK170 := Aside0.mk (blk_drew BK170.out)
       replace BK174 := Aside0.mk (blk_drew BK174.out)
       replace HB := Aside0.mk (below_drew1 HB.out)
       refine start_ (n := 34) (S := fun w' => w'.cell? ⟨gb174, 0, none⟩ = some (.int .i64 t171) ∧ w'.cell? ⟨gb174, 1, none⟩ = some (.int .i64 t172)) (ds := []) #[false, false, false, false, false, false, false, false, false, false, false, false, false, false, false, false, false, false, false, false, false, false, false, false, false, false, false, false, false, false, false, false, false, false] (by kernel_rfl) rfl rfl ⟨bc BK174 0, bc BK174 1⟩ (fun hHeld => ?_); refine with_tabW z3_.tab5 z3_.bits5 (fun HT_ HW_ => ?_)
       generalize w34.drew = w55 at HO169 HO179 HO182 HO185 BK170 BK174 HB hHeld ⊢
       refine pA 0 35 HT_ ?_
       refine pA 1 36 HT_ ?_
       refine pA 2 37 HT_ ?_
       refine pA 3 38 HT_ ?_
       refine pA 4 39 HT_ ?_
       refine pA 5 40 HT_ ?_
       refine pA 6 41 HT_ ?_
       refine pA 7 42 HT_ ?_
       refine pA 8 43 HT_ ?_
       refine pA 9 44 HT_ ?_
       refine pA 10 45 HT_ ?_
       refine tA 11 46 HT_ HW_ hHeld ?_
       refine oneA (i := 12) (N := some 47) HT_ (fun K hK => ?_)
       refine goesB Tryz.func15 #[.int .i64 16, .int .i64 19] ?_
       with_reducible refine (z1_.calls 16 19 t187 t188 _ A38.out).mono ?_
       rintro e w56 ⟨rfl, hb⟩
       refine ⟨_, rfl, ?_⟩
       replace HO169 := rB HO169 hb
       replace HO179 := rB HO179 hb
       replace HO182 := rB HO182 hb
       replace HO185 := rB HO185 hb
       replace BK170 := kB BK170 hb
       replace BK174 := kB BK174 hb
       replace HB := bS HB hb
       refine hK.out _ _ ⟨bc BK174 0, bc BK174 1⟩ (fun hHeld => ?_)
       clear hK K
       refine normA (N := some 47) ?_
       refine pA 13 48 HT_ ?_
       refine pA 14 49 HT_ ?_
       refine pA 15 50 HT_ ?_
       refine pA 16 51 HT_ ?_
       refine pA 17 52 HT_ ?_
       refine pA 18 53 HT_ ?_
       refine pA 19 54 HT_ ?_
       refine pB 20 55 HT_ ?_
       refine pB 21 56 HT_ ?_
       refine pB 22 57 HT_ ?_
       refine pA 23 58 HT_ ?_
       refine pA 24 59 HT_ ?_
       refine pB 25 60 HT_ ?_
       refine pB 26 61 HT_ ?_
       refine pB 27 62 HT_ ?_
       refine pB 28 63 HT_ ?_
       refine pA 29 64 HT_ ?_
       refine pA 30 65 HT_ ?_
       refine pB 31 66 HT_ ?_
       refine pA 32 67 HT_ ?_
       refine pA 33 0 HT_ ?_
       refine done_ (done_of HT_.out (by kernel_rfl)) ?_
       try go_wp2
       go_meet
       case rel => exact ⟨_, (false), eR, H', ⟨by first | omega | exact Nat.le_refl _⟩, ⟨rX HO169.out⟩, ⟨kX BK170.out⟩, ⟨kX BK174.out⟩, ⟨bX HB⟩⟩
     ·rw [if_neg c39] at H
      have c39b0 : (t171 == t187 && (t172 == t188)) = false := by simpa using c39
      (try (have c39b1 : decide (t171 = t187 && (t172 == t188)) = false := by simpa using c39))
      (try (have c39b2 : (t171 == t187 && (t172 == t188)) = false := by simpa using c39))
      (try (have c39b3 : ¬ (t171 = t187 && (t172 == t188)) := by simpa using c39))
      clear c39
      have H' := Aside0.mk H
      clear H
      try go_wp2
      replace HO169 := Aside0.mk (Kd.R_drew HO169.out)
      replace HO179 := Aside0.mk (Kd.R_drew HO179.out)
      replace HO182 := Aside0.mk (Kd.R_drew HO182.out)
      replace HO185 := Aside0.mk (Kd.R_drew HO185.out)
      replace BK170 := Aside0.mk (blk_drew BK170.out)
      replace BK174 := Aside0.mk (blk_drew BK174.out)
      replace HB := Aside0.mk (below_drew1 HB.out)
      refine start_ (n := 34) (S := fun w' => w'.cell? ⟨gb174, 0, none⟩ = some (.int .i64 t171) ∧ w'.cell? ⟨gb174, 1, none⟩ = some (.int .i64 t172)) (ds := []) #[false, false, false, false, false, false, false, false, false, false, false, false, false, false, false, false, false, false, false, false, false, false, false, false, false, false, false, false, false, false, false, false, false, false] (by kernel_rfl) rfl rfl ⟨bc BK174 0, bc BK174 1⟩ (fun hHeld => ?_); refine with_tabW z3_.tab5 z3_.bits5 (fun HT_ HW_ => ?_)
      generalize w34.drew = w57 at HO169 HO179 HO182 HO185 BK170 BK174 HB hHeld ⊢
      refine pA 0 35 HT_ ?_
      refine pA 1 36 HT_ ?_
      refine pA 2 37 HT_ ?_
      refine pA 3 38 HT_ ?_
      refine pA 4 39 HT_ ?_
      refine pA 5 40 HT_ ?_
      refine pA 6 41 HT_ ?_
      refine pA 7 42 HT_ ?_
      refine pA 8 43 HT_ ?_
      refine pA 9 44 HT_ ?_
      refine pA 10 45 HT_ ?_
      refine tA 11 46 HT_ HW_ hHeld ?_
      refine oneA (i := 12) (N := some 47) HT_ (fun K hK => ?_)
      refine goesB Tryz.func15 #[.int .i64 16, .int .i64 19] ?_
      with_reducible refine (z1_.calls 16 19 t187 t188 _ A38.out).mono ?_
      rintro e w58 ⟨rfl, hb⟩
      refine ⟨_, rfl, ?_⟩
      replace HO169 := rB HO169 hb
      replace HO179 := rB HO179 hb
      replace HO182 := rB HO182 hb
      replace HO185 := rB HO185 hb
      replace BK170 := kB BK170 hb
      replace BK174 := kB BK174 hb
      replace HB := bS HB hb
      refine hK.out _ _ ⟨bc BK174 0, bc BK174 1⟩ (fun hHeld => ?_)
      clear hK K
      refine normA (N := some 47) ?_
      refine pA 13 48 HT_ ?_
      refine pA 14 49 HT_ ?_
      refine pA 15 50 HT_ ?_
      refine pB 16 51 HT_ ?_
      refine pB 17 52 HT_ ?_
      refine pA 18 53 HT_ ?_
      refine pA 19 54 HT_ ?_
      refine pB 20 55 HT_ ?_
      refine pB 21 56 HT_ ?_
      refine pB 22 57 HT_ ?_
      refine pA 23 58 HT_ ?_
      refine pA 24 59 HT_ ?_
      refine pB 25 60 HT_ ?_
      refine pB 26 61 HT_ ?_
      refine pB 27 62 HT_ ?_
      refine pB 28 63 HT_ ?_
      refine pA 29 64 HT_ ?_
      refine pA 30 65 HT_ ?_
      refine pB 31 66 HT_ ?_
      refine pA 32 67 HT_ ?_
      refine pA 33 0 HT_ ?_
      refine done_ (done_of HT_.out (by kernel_rfl)) ?_
      try go_wp2
      go_meet
      case rel => exact ⟨_, (false), eR, H', ⟨by first | omega | exact Nat.le_refl _⟩, ⟨rX HO169.out⟩, ⟨kX BK170.out⟩, ⟨kX BK174.out⟩, ⟨bX HB⟩⟩
    ·rw [if_neg c37] at H
     have c37b0 : (t186 == 0) = false := beq_eq_false_iff_ne.mpr c37
     have c37b1 : (t186 != 0) = true := bne_iff_ne.mpr c37
     have H' := Aside0.mk H
     clear H
     try go_wp2
     replace HO169 := Aside0.mk (Kd.R_drew HO169.out)
     replace HO179 := Aside0.mk (Kd.R_drew HO179.out)
     replace HO182 := Aside0.mk (Kd.R_drew HO182.out)
     replace HO185 := Aside0.mk (Kd.R_drew HO185.out)
     replace BK170 := Aside0.mk (blk_drew BK170.out)
     replace BK174 := Aside0.mk (blk_drew BK174.out)
     replace HB := Aside0.mk (below_drew1 HB.out)
     refine start_ (n := 34) (S := fun w' => True) (ds := []) #[false, false, false, false, false, false, false, false, false, false, false, false, false, false, false, false, false, false, false, false, false, false, false, false, false, false, false, false, false, false, false, false, false, false] (by kernel_rfl) rfl rfl trivial (fun hHeld => ?_); refine with_tabW z3_.tab5 z3_.bits5 (fun HT_ HW_ => ?_)
     generalize w34.drew = w59 at HO169 HO179 HO182 HO185 BK170 BK174 HB hHeld ⊢
     refine pA 0 35 HT_ ?_
     refine pA 1 36 HT_ ?_
     refine pA 2 37 HT_ ?_
     refine pA 3 38 HT_ ?_
     refine pA 4 39 HT_ ?_
     refine pA 5 40 HT_ ?_
     refine pA 6 41 HT_ ?_
     refine pA 7 42 HT_ ?_
     refine pA 8 43 HT_ ?_
     refine pA 9 44 HT_ ?_
     refine pA 10 45 HT_ ?_
     refine pB 11 46 HT_ ?_
     refine pB 12 47 HT_ ?_
     refine pB 13 48 HT_ ?_
     refine pA 14 49 HT_ ?_
     refine pA 15 50 HT_ ?_
     refine pB 16 51 HT_ ?_
     refine pB 17 52 HT_ ?_
     refine pA 18 53 HT_ ?_
     refine pA 19 54 HT_ ?_
     refine pB 20 55 HT_ ?_
     refine pB 21 56 HT_ ?_
     refine pB 22 57 HT_ ?_
     refine pA 23 58 HT_ ?_
     refine pA 24 59 HT_ ?_
     refine pB 25 60 HT_ ?_
     refine pB 26 61 HT_ ?_
     refine pB 27 62 HT_ ?_
     refine pB 28 63 HT_ ?_
     refine pA 29 64 HT_ ?_
     refine pA 30 65 HT_ ?_
     refine pB 31 66 HT_ ?_
     refine pA 32 67 HT_ ?_
     refine pA 33 0 HT_ ?_
     refine done_ (done_of HT_.out (by kernel_rfl)) ?_
     try go_wp2
     go_meet
     case rel => exact ⟨_, (false), eR, H', ⟨by first | omega | exact Nat.le_refl _⟩, ⟨rX HO169.out⟩, ⟨kX BK170.out⟩, ⟨kX BK174.out⟩, ⟨bX HB⟩⟩
   ·rw [if_neg c36] at H
    have c36b0 : (t176 == 0) = false := beq_eq_false_iff_ne.mpr c36
    have c36b1 : (t176 != 0) = true := bne_iff_ne.mpr c36
    have H' := Aside0.mk H
    clear H
    try go_wp2
    replace HO169 := Aside0.mk (Kd.R_drew HO169.out)
    replace HO179 := Aside0.mk (Kd.R_drew HO179.out)
    replace HO182 := Aside0.mk (Kd.R_drew HO182.out)
    replace HO185 := Aside0.mk (Kd.R_drew HO185.out)
    replace BK170 := Aside0.mk (blk_drew BK170.out)
    replace BK174 := Aside0.mk (blk_drew BK174.out)
    replace HB := Aside0.mk (below_drew1 HB.out)
    refine start_ (n := 34) (S := fun w' => True) (ds := []) #[false, false, false, false, false, false, false, false, false, false, false, false, false, false, false, false, false, false, false, false, false, false, false, false, false, false, false, false, false, false, false, false, false, false] (by kernel_rfl) rfl rfl trivial (fun hHeld => ?_); refine with_tabW z3_.tab5 z3_.bits5 (fun HT_ HW_ => ?_)
    generalize w34.drew = w60 at HO169 HO179 HO182 HO185 BK170 BK174 HB hHeld ⊢
    refine pA 0 35 HT_ ?_
    refine pA 1 36 HT_ ?_
    refine pA 2 37 HT_ ?_
    refine pA 3 38 HT_ ?_
    refine pA 4 39 HT_ ?_
    refine pA 5 40 HT_ ?_
    refine pA 6 41 HT_ ?_
    refine pB 7 42 HT_ ?_
    refine pB 8 43 HT_ ?_
    refine pA 9 44 HT_ ?_
    refine pA 10 45 HT_ ?_
    refine pB 11 46 HT_ ?_
    refine pB 12 47 HT_ ?_
    refine pB 13 48 HT_ ?_
    refine pA 14 49 HT_ ?_
    refine pA 15 50 HT_ ?_
    refine pB 16 51 HT_ ?_
    refine pB 17 52 HT_ ?_
    refine pA 18 53 HT_ ?_
    refine pA 19 54 HT_ ?_
    refine pB 20 55 HT_ ?_
    refine pB 21 56 HT_ ?_
    refine pB 22 57 HT_ ?_
    refine pA 23 58 HT_ ?_
    refine pA 24 59 HT_ ?_
    refine pB 25 60 HT_ ?_
    refine pB 26 61 HT_ ?_
    refine pB 27 62 HT_ ?_
    refine pB 28 63 HT_ ?_
    refine pA 29 64 HT_ ?_
    refine pA 30 65 HT_ ?_
    refine pB 31 66 HT_ ?_
    refine pA 32 67 HT_ ?_
    refine pA 33 0 HT_ ?_
    refine done_ (done_of HT_.out (by kernel_rfl)) ?_
    try go_wp2
    go_meet
    case rel => exact ⟨_, (false), eR, H', ⟨by first | omega | exact Nat.le_refl _⟩, ⟨rX HO169.out⟩, ⟨kX BK170.out⟩, ⟨kX BK174.out⟩, ⟨bX HB⟩⟩
  ·rw [if_neg c35] at H
   have c35b0 : (t173 == 0) = false := beq_eq_false_iff_ne.mpr c35
   have c35b1 : (t173 != 0) = true := bne_iff_ne.mpr c35
   (first | rw [c35b0] | (simp only [i64_w, i32_w]; rw [c35b0]) | skip)
   have H' := Aside0.mk H
   clear H
   try go_wp2
   replace HO169 := Aside0.mk (Kd.R_drew HO169.out)
   replace HO179 := Aside0.mk (Kd.R_drew HO179.out)
   replace HO182 := Aside0.mk (Kd.R_drew HO182.out)
   replace HO185 := Aside0.mk (Kd.R_drew HO185.out)
   replace BK170 := Aside0.mk (blk_drew BK170.out)
   replace BK174 := Aside0.mk (blk_drew BK174.out)
   replace HB := Aside0.mk (below_drew1 HB.out)
   refine start_ (n := 34) (S := fun w' => True) (ds := []) #[false, false, false, false, false, false, false, false, false, false, false, false, false, false, false, false, false, false, false, false, false, false, false, false, false, false, false, false, false, false, false, false, false, false] (by kernel_rfl) rfl rfl trivial (fun hHeld => ?_); refine with_tabW z3_.tab5 z3_.bits5 (fun HT_ HW_ => ?_)
   generalize w34.drew = w61 at HO169 HO179 HO182 HO185 BK170 BK174 HB hHeld ⊢
   refine pA 0 35 HT_ ?_
   refine pA 1 36 HT_ ?_
   refine pA 2 37 HT_ ?_
   refine pB 3 38 HT_ ?_
   refine pB 4 39 HT_ ?_
   refine pA 5 40 HT_ ?_
   refine pA 6 41 HT_ ?_
   refine pB 7 42 HT_ ?_
   refine pB 8 43 HT_ ?_
   refine pA 9 44 HT_ ?_
   refine pA 10 45 HT_ ?_
   refine pB 11 46 HT_ ?_
   refine pB 12 47 HT_ ?_
   refine pB 13 48 HT_ ?_
   refine pA 14 49 HT_ ?_
   refine pA 15 50 HT_ ?_
   refine pB 16 51 HT_ ?_
   refine pB 17 52 HT_ ?_
   refine pA 18 53 HT_ ?_
   refine pA 19 54 HT_ ?_
   refine pB 20 55 HT_ ?_
   refine pB 21 56 HT_ ?_
   refine pB 22 57 HT_ ?_
   refine pA 23 58 HT_ ?_
   refine pA 24 59 HT_ ?_
   refine pB 25 60 HT_ ?_
   refine pB 26 61 HT_ ?_
   refine pB 27 62 HT_ ?_
   refine pB 28 63 HT_ ?_
   refine pA 29 64 HT_ ?_
   refine pA 30 65 HT_ ?_
   refine pB 31 66 HT_ ?_
   refine pA 32 67 HT_ ?_
   refine pA 33 0 HT_ ?_
   refine done_ (done_of HT_.out (by kernel_rfl)) ?_
   try go_wp2
   go_meet
   case rel => exact ⟨_, (false), eR, H', ⟨by first | omega | exact Nat.le_refl _⟩, ⟨rX HO169.out⟩, ⟨kX BK170.out⟩, ⟨kX BK174.out⟩, ⟨bX HB⟩⟩
 case rest =>
  clear HC10
  try clear p2
  try clear c35b0
  try clear c35b1
  try clear c36b0
  try clear c36b1
  obtain ⟨kq, x0_9, rfl, HA, HJ9, HO_171004, BK170, BK174, HB⟩ := hcut
  cases kq with
  | zero => exact absurd HA.out (by simp [z3_.j0])
  | succ kj9 =>
   have H := HA.out
   clear HA
   simp only [z3_.j0] at H
   obtain rfl := Option.some.inj H
   go_wp2
   go_ret
   exact ⟨eqA, bX HB⟩
end PKno
end Go.Proofs.YtgdkmadcegleiaaGreatDoor
namespace Go.Proofs.YtgdkmadcegleiaaGreatDoor
namespace PKno
open X Z
attribute [local go_sem] max2_int min2_int max_two min_two max_three min_three max_four min_four   -- for this text's walks alone
end PKno
end Go.Proofs.YtgdkmadcegleiaaGreatDoor
namespace Go.Proofs.YtgdkmadcegleiaaGreatDoor
namespace Z
open X
def z3_.f : Option Bool := some true
theorem known_true : PKno.z3_.f 60 = some true := by decide +kernel
theorem z3_.calls (r : Bool) (w : World) (h : z3_.f = some r) (hT : Tabs w) :
    Calls Tryz.prog 9 #[] w fun e w' => e = .returned (.bool r) ∧ Below w.heap.size w w' := by
  obtain rfl := Option.some.inj h
  exact PKno.z3_.calls 60 true w known_true hT
end Z
end Go.Proofs.YtgdkmadcegleiaaGreatDoor
namespace Go.Proofs.YtgdkmadcegleiaaGreatDoor
namespace X
def z66_.f (n num den : Int) : Option Int := if den = 0 then none else some (wrap64 (Int.tdiv (wrap64 (n * num)) den))
def z54_.f (n num den : Int) : Option Int := if den = 0 then none else some (wrap64 (Int.tdiv (wrap64 (wrap64 (wrap64 (n * num) + den) - 1)) den))
def z37_.f (lo hi ln ld mn_ md : Int) : Option (Int × Int) := (z66_.f lo ln ld).bind fun a => (z54_.f hi mn_ md).bind fun b => some (a, b)
theorem enters_wet1 : ∀ args w, (callFunc 43 args).run Tryz.prog w = .ok (.enter 43 args) w := enters_of Tryz.func43 (by kernel_rfl) rfl
theorem z66_.calls (n num den r : Int) (w : World) (g : Nat) (hg : w.heap[g]? = some (.cells #[.int .i64 num, .int .i64 den] 67 (0, 0))) (h : z66_.f n num den = some r) :
    Calls Tryz.prog 43 #[.int .i64 n, .pointer (some ⟨g, 0, none⟩)] w fun e w' => e = .returned (.int .i64 r) ∧ Below w.heap.size w w' := by
  unfold z66_.f at h
  have hu67 := Tryz.underlying67
  by_cases hd : den = 0
  · rw [if_pos hd] at h
    exact absurd h (by simp)
  · rw [if_neg hd] at h
    obtain rfl := Option.some.inj h
    have hd0 : (den == 0) = false := beq_eq_false_iff_ne.mpr hd
    have c0 : w.cell? ⟨g, 0, none⟩ = some (.int .i64 num) := (blk_cell hg 0).trans rfl
    have c1 : w.cell? ⟨g, 1, none⟩ = some (.int .i64 den) := (blk_cell hg 1).trans rfl
    clear h hg
    go_enter Tryz.func43, Tryz.ntmps43
    go_wp2
    go_ret
    exact ⟨by first | rfl | (simp [i64_w] <;> rfl), by first | exact Below.refl _ _ | exact pw_below_drewN (Below.refl _ _) _ | exact below_drew1 (Below.refl _ _)⟩
theorem enters_wet2 : ∀ args w, (callFunc 44 args).run Tryz.prog w = .ok (.enter 44 args) w := enters_of Tryz.func44 (by kernel_rfl) rfl
theorem z54_.calls (n num den r : Int) (w : World) (g : Nat) (hg : w.heap[g]? = some (.cells #[.int .i64 num, .int .i64 den] 67 (0, 0))) (h : z54_.f n num den = some r) :
    Calls Tryz.prog 44 #[.int .i64 n, .pointer (some ⟨g, 0, none⟩)] w fun e w' => e = .returned (.int .i64 r) ∧ Below w.heap.size w w' := by
  unfold z54_.f at h
  have hu67 := Tryz.underlying67
  by_cases hd : den = 0
  · rw [if_pos hd] at h
    exact absurd h (by simp)
  · rw [if_neg hd] at h
    obtain rfl := Option.some.inj h
    have hd0 : (den == 0) = false := beq_eq_false_iff_ne.mpr hd
    have c0 : w.cell? ⟨g, 0, none⟩ = some (.int .i64 num) := (blk_cell hg 0).trans rfl
    have c1 : w.cell? ⟨g, 1, none⟩ = some (.int .i64 den) := (blk_cell hg 1).trans rfl
    clear h hg
    go_enter Tryz.func44, Tryz.ntmps44
    go_wp2
    go_ret
    exact ⟨by first | rfl | (simp [i64_w] <;> rfl), by first | exact Below.refl _ _ | exact pw_below_drewN (Below.refl _ _) _ | exact below_drew1 (Below.refl _ _)⟩
section
variable {ops : Array Oper} {Q : Exit → Act → World → Prop}
theorem goesW_ {oi : Oper} {N : Option Tmp} {a : Act} {w : World} {K : Act → World → Prop} {t : Tmp} {xs : Array Operand} {ts : Array TypeId} (f : FuncId) (caps : Array Value) (ht : ∀ args w, (callFunc f args).run Tryz.prog w = .ok (.enter f args) w) (args : Array Value)
    (hw : Region.wanted oi (yielded ops a.tmps) = true) (hN : oi.dst = N) (hop : oi.op = .call { callee := .value (.tmp t), args := xs, argTypes := ts }) (hv : a.eval (.tmp t) = .func (.func f) #[] caps) (args0 : Array Value) (hargs : xs.map a.eval = args0) (hap : args0 ++ caps = args)
    (h : Calls Tryz.prog f args w fun e w' => ∃ v, e = .returned v ∧ K (a.put N v) w') : if Region.wanted oi (yielded ops a.tmps) = true then Oper.wp Tryz.prog oi a w K Q else K (a.put N undef) w := by
  refine call_ f args hw hN ?_ h
  have he := ht args w
  unfold execOp
  subst hap
  simp [hop, resolve, Deferred.ofValue, invoke, hv, hargs, he]
end
theorem enters_wet3 : ∀ args w, (callFunc 45 args).run Tryz.prog w = .ok (.enter 45 args) w := enters_of Tryz.func45 (by kernel_rfl) rfl
abbrev wetW (w : World) (lo hi : Int) : World := (w.alloc (.cells #[.int .i64 lo, .int .i64 hi] 30 (0, 0))).alloc (.cells #[.int .i64 0, .int .i64 0] 30 (0, 0))
set_option maxHeartbeats 4000000 in
set_option maxRecDepth 100000 in
theorem z37_.calls (lo hi ln ld mn_ md r1 r2 : Int) (w : World) (g4 g5 g9 g10 : Nat) (h4 : w.heap[g4]? = some (.cells #[.int .i64 ln, .int .i64 ld] 67 (0, 0))) (h5 : w.heap[g5]? = some (.cells #[.int .i64 mn_, .int .i64 md] 67 (0, 0)))
    (h9 : w.heap[g9]? = some (.cells #[.func (.func 43) #[] #[.pointer (some ⟨g4, 0, none⟩)]] 89 (0, 0))) (h10 : w.heap[g10]? = some (.cells #[.func (.func 44) #[] #[.pointer (some ⟨g5, 0, none⟩)]] 89 (0, 0))) (h : z37_.f lo hi ln ld mn_ md = some (r1, r2)) :
    Calls Tryz.prog 45 #[.agg #[.int .i64 lo, .int .i64 hi], .pointer (some ⟨g9, 0, none⟩), .pointer (some ⟨g10, 0, none⟩)] w fun e w' => e = .returned (.agg #[.int .i64 r1, .int .i64 r2]) ∧ Below w.heap.size w w' := by
  unfold z37_.f at h
  obtain ⟨a, ha, h⟩ := Option.bind_eq_some_iff.1 h
  obtain ⟨b, hb, h⟩ := Option.bind_eq_some_iff.1 h
  obtain ⟨rfl, rfl⟩ := Prod.mk.inj (Option.some.inj h)
  have HA := Aside0.mk ha
  have HBB := Aside0.mk hb
  clear ha hb h
  have huS := Tryz.underlying30
  have hs : (wetW w lo hi).heap.size = w.heap.size + 2 := by simp [wetW]
  have B0 : Below w.heap.size w (wetW w lo hi) := below_alloc (below_alloc (Below.refl _ _) _) _
  have k3 : (wetW w lo hi).heap[w.heap.size]? = some (.cells #[.int .i64 lo, .int .i64 hi] 30 (0, 0)) := blk_alloc (blk_new w _) _
  have k4 : (wetW w lo hi).heap[w.heap.size + 1]? = some (.cells #[.int .i64 0, .int .i64 0] 30 (0, 0)) := by
    have := blk_new (w.alloc (.cells #[.int .i64 lo, .int .i64 hi] 30 (0, 0))) (.cells #[.int .i64 0, .int .i64 0] 30 (0, 0))
    simpa using this
  have KEEP : Aside0 (∀ {w' : World}, Below (wetW w lo hi).heap.size (wetW w lo hi) w' → w'.cell? ⟨g9, 0, none⟩ = some (.func (.func 43) #[] #[.pointer (some ⟨g4, 0, none⟩)]) ∧ w'.cell? ⟨g10, 0, none⟩ = some (.func (.func 44) #[] #[.pointer (some ⟨g5, 0, none⟩)]) ∧ w'.cell? ⟨w.heap.size, 0, none⟩ = some (.int .i64 lo) ∧ w'.cell? ⟨w.heap.size, 1, none⟩ = some (.int .i64 hi)) := ⟨fun hb =>
    ⟨(blk_cell (blk_below (blk_alloc (blk_alloc h9 _) _) hb) 0).trans rfl, (blk_cell (blk_below (blk_alloc (blk_alloc h10 _) _) hb) 0).trans rfl, (blk_cell (blk_below k3 hb) 0).trans rfl, (blk_cell (blk_below k3 hb) 1).trans rfl⟩⟩
  have KB4 : Aside0 (∀ {w' : World}, Below (wetW w lo hi).heap.size (wetW w lo hi) w' → w'.heap[g4]? = some (.cells #[.int .i64 ln, .int .i64 ld] 67 (0, 0))) := ⟨fun hb => blk_below (blk_alloc (blk_alloc h4 _) _) hb⟩
  have KB5 : Aside0 (∀ {w' : World}, Below (wetW w lo hi).heap.size (wetW w lo hi) w' → w'.heap[g5]? = some (.cells #[.int .i64 mn_, .int .i64 md] 67 (0, 0))) := ⟨fun hb => blk_below (blk_alloc (blk_alloc h5 _) _) hb⟩
  have K4 : Aside0 (∀ {w' : World}, Below (wetW w lo hi).heap.size (wetW w lo hi) w' → w'.heap[w.heap.size + 1]? = some (.cells #[.int .i64 0, .int .i64 0] 30 (0, 0))) := ⟨fun hb => blk_below k4 hb⟩
  have BB := Aside0.mk B0
  have HS := Aside0.mk hs
  clear h4 h5 h9 h10 k3 k4 B0 hs
  go_enter Tryz.func45, Tryz.ntmps45
  go_wp2
  refine start_ (n := 10) (S := fun w' => w'.cell? ⟨g9, 0, none⟩ = some (.func (.func 43) #[] #[.pointer (some ⟨g4, 0, none⟩)]) ∧ w'.cell? ⟨g10, 0, none⟩ = some (.func (.func 44) #[] #[.pointer (some ⟨g5, 0, none⟩)]) ∧ w'.cell? ⟨w.heap.size, 0, none⟩ = some (.int .i64 lo) ∧ w'.cell? ⟨w.heap.size, 1, none⟩ = some (.int .i64 hi)) (ds := [9]) #[false, false, false, false, false, false, false, false, false, false] (by kernel_rfl) rfl rfl (KEEP.out (below_drew (Below.refl _ _))) (fun hHeld => ?_)
  have HB := Aside0.mk (below_drew (Below.refl (wetW w lo hi).heap.size (wetW w lo hi)))
  generalize (wetW w lo hi).drew = wd at HB hHeld ⊢
  refine take_ (i := 0) (N := some 5) (v := ?_) (a' := ?_) #[true, false, false, false, false, false, false, false, false, false] rfl rfl (by kernel_rfl) (fun _ _ _ h => h) (Or.inl ⟨by rfl, ?_⟩) hHeld ?_ ?_
  rotate_left
  · rintro w' ⟨s0, s1, s2, s3⟩; go_simp; with_reducible rfl
  rotate_left
  · simp only [Act.put, List.setIfInBounds_toArray, List.set_cons_zero, List.set_cons_succ]; rfl
  refine pure_ (i := 1) (N := some 6) (v := ?_) (a' := ?_) #[true, true, false, false, false, false, false, false, false, false] rfl rfl (by kernel_rfl) (fun _ _ _ h => h) (Or.inl ⟨by rfl, ?_⟩) ?_ ?_
  rotate_left
  · intro w'; go_simp; with_reducible rfl
  rotate_left
  · simp only [Act.put, List.setIfInBounds_toArray, List.set_cons_zero, List.set_cons_succ]; rfl
  refine take_ (i := 2) (N := some 7) (v := ?_) (a' := ?_) #[true, true, true, false, false, false, false, false, false, false] rfl rfl (by kernel_rfl) (fun _ _ _ h => h) (Or.inl ⟨by rfl, ?_⟩) hHeld ?_ ?_
  rotate_left
  · rintro w' ⟨s0, s1, s2, s3⟩; go_simp; with_reducible rfl
  rotate_left
  · simp only [Act.put, List.setIfInBounds_toArray, List.set_cons_zero, List.set_cons_succ]; rfl
  refine take_ (i := 4) (N := some 9) (v := ?_) (a' := ?_) #[true, true, true, false, true, false, false, false, false, false] rfl rfl (by kernel_rfl) (fun _ _ _ h => h) (Or.inl ⟨by rfl, ?_⟩) hHeld ?_ ?_
  rotate_left
  · rintro w' ⟨s0, s1, s2, s3⟩; go_simp; with_reducible rfl
  rotate_left
  · simp only [Act.put, List.setIfInBounds_toArray, List.set_cons_zero, List.set_cons_succ]; rfl
  refine pure_ (i := 5) (N := some 10) (v := ?_) (a' := ?_) #[true, true, true, false, true, true, false, false, false, false] rfl rfl (by kernel_rfl) (fun _ _ _ h => h) (Or.inl ⟨by rfl, ?_⟩) ?_ ?_
  rotate_left
  · intro w'; go_simp; with_reducible rfl
  rotate_left
  · simp only [Act.put, List.setIfInBounds_toArray, List.set_cons_zero, List.set_cons_succ]; rfl
  refine take_ (i := 6) (N := some 11) (v := ?_) (a' := ?_) #[true, true, true, false, true, true, true, false, false, false] rfl rfl (by kernel_rfl) (fun _ _ _ h => h) (Or.inl ⟨by rfl, ?_⟩) hHeld ?_ ?_
  rotate_left
  · rintro w' ⟨s0, s1, s2, s3⟩; go_simp; with_reducible rfl
  rotate_left
  · simp only [Act.put, List.setIfInBounds_toArray, List.set_cons_zero, List.set_cons_succ]; rfl
  refine one_ (i := 3) (N := some 8) #[true, true, true, true, true, true, true, false, false, false] rfl rfl (by kernel_rfl) (by decide) (fun K hK => ?_)
  refine goesW_ 43 #[.pointer (some ⟨g4, 0, none⟩)] enters_wet1 #[.int .i64 lo, .pointer (some ⟨g4, 0, none⟩)] (by rfl) rfl rfl (by rfl) #[.int .i64 lo] (by (try simp only [List.map_toArray, List.map_cons, List.map_nil]); first | done | rfl) (by rfl) ?_
  refine (z66_.calls lo ln ld a _ g4 (KB4.out HB.out) HA.out).mono ?_
  rintro e w6 ⟨rfl, hb⟩
  refine ⟨_, rfl, ?_⟩
  have HB6 := Aside0.mk (later_below HB.out hb)
  clear hb
  refine hK.out _ _ (KEEP.out HB6.out) (fun hHeld => ?_)
  clear hK K
  refine norm_ (a' := ?_) ?_ ?_
  rotate_left
  · show Act.put _ (some 8) _ = _
    simp only [Act.put, List.setIfInBounds_toArray, List.set_cons_zero, List.set_cons_succ]
    rfl
  refine one_ (i := 7) (N := some 12) #[true, true, true, true, true, true, true, true, false, false] rfl rfl (by kernel_rfl) (by decide) (fun K hK => ?_)
  refine goesW_ 44 #[.pointer (some ⟨g5, 0, none⟩)] enters_wet2 #[.int .i64 hi, .pointer (some ⟨g5, 0, none⟩)] (by rfl) rfl rfl (by rfl) #[.int .i64 hi] (by (try simp only [List.map_toArray, List.map_cons, List.map_nil]); first | done | rfl) (by rfl) ?_
  refine (z54_.calls hi mn_ md b _ g5 (KB5.out HB6.out) HBB.out).mono ?_
  rintro e w7 ⟨rfl, hb⟩
  refine ⟨_, rfl, ?_⟩
  have HB7 := Aside0.mk (later_below HB6.out hb)
  clear hb
  refine hK.out _ _ (KEEP.out HB7.out) (fun hHeld => ?_)
  clear hK K
  refine norm_ (a' := ?_) ?_ ?_
  rotate_left
  · show Act.put _ (some 12) _ = _
    simp only [Act.put, List.setIfInBounds_toArray, List.set_cons_zero, List.set_cons_succ]
    rfl
  refine pure_ (i := 8) (N := some 13) (v := ?_) (a' := ?_) #[true, true, true, true, true, true, true, true, true, false] rfl rfl (by kernel_rfl) (fun _ _ _ h => h) (Or.inl ⟨by rfl, ?_⟩) ?_ ?_
  rotate_left
  · intro w'; go_simp; with_reducible rfl
  rotate_left
  · simp only [Act.put, List.setIfInBounds_toArray, List.set_cons_zero, List.set_cons_succ]; rfl
  refine last_ (i := 9) (N := none) #[true, true, true, true, true, true, true, true, true, true] rfl rfl (by kernel_rfl) (by decide) (fun K hK => ?_)
  have hz0 : w7.cell? ⟨w.heap.size + 1, 0, none⟩ = some (.int .i64 0) := (blk_cell (K4.out HB7.out) 0).trans rfl
  have hz1 : w7.cell? ⟨w.heap.size + 1, 1, none⟩ = some (.int .i64 0) := (blk_cell (K4.out HB7.out) 1).trans rfl
  have hf0 := blk_frozen (K4.out HB7.out) 0
  have hf1 := blk_frozen (K4.out HB7.out) 1
  refine skip_ (w1 := ?_) (by rfl) rfl ?_ ?_
  rotate_left
  · go_simp; rfl
  refine hK.out _ _ ?_
  clear hK K
  
  refine done_ (by kernel_rfl) ?_
  go_wp2
  refine bodyPost_ret (results_cell_row rfl _ _ (w.heap.size + 1) 30 #[.int .i64 a, .int .i64 b] (0, 0) _ rfl (by refine blk_put (cs := #[.int .i64 a, .int .i64 0]) ?_ 1 _ rfl; refine blk_put (cs := #[.int .i64 0, .int .i64 0]) ?_ 0 _ rfl; exact K4.out HB7.out) huS rfl (by kernel_rfl)) rfl ?_
  exact ⟨rfl, below_set (below_set (below_step BB.out HB7.out) (Nat.le_succ _) ) (Nat.le_succ _)⟩
end X
end Go.Proofs.YtgdkmadcegleiaaGreatDoor
section

end
namespace Go.Proofs.YtgdkmadcegleiaaGreatDoor
namespace PWet
open X
attribute [local go_sem] max2_int min2_int max_two min_two max_three min_three max_four min_four   -- for this text's walks alone
def errW : Option Int → Value
  | none => .nilIface
  | some c => .iface 0 (.int .i64 c)
theorem errW_none : errW none = .nilIface := rfl
theorem errW_some (c : Int) : errW (some c) = .iface 0 (.int .i64 c) := rfl
theorem info3 : (Tryz.prog.info? 3).map (fun i => (i.zero, i.size, i.bytes)) = some (some (.int .i64 0), 1, 8) := by kernel_rfl
theorem info55 : (Tryz.prog.info? 55).map (fun i => (i.zero, i.size, i.bytes)) = some (some (.agg #[(.int .i64 0), (.int .i64 0), (.int .i64 0), (.int .i64 0)]), 4, 32) := by kernel_rfl
end PWet
end Go.Proofs.YtgdkmadcegleiaaGreatDoor
namespace Go.Proofs.YtgdkmadcegleiaaGreatDoor
namespace PWet
open Sq X
attribute [local go_sem] max2_int min2_int max_two min_two max_three min_three max_four min_four   -- for this text's walks alone
def z15_.j0 : Nat → Bool → Option (Bool)
 | 0, _ => none
 | k + 1, x2 => some x2
def z15_.f (k : Nat) (a0_0 : Int) (a0_1 : Int) : Option (Bool) := (z2_.f 1 1000 (([a0_1] : List Int))).bind fun t105 => (if t105 = true then ((z2_.f 1 (wrap64 (2 * a0_1)) (([a0_0] : List Int))).bind fun t109 => (z15_.j0 k t109)) else (z15_.j0 k false))
set_option maxHeartbeats 8000000 in
set_option maxRecDepth 100000 in
theorem z15_.calls (k : Nat) (a0_0 : Int) (a0_1 : Int) (r : Bool) (w : World) (h : z15_.f k a0_0 a0_1 = some r) :
  Calls Tryz.prog 42 #[.agg #[.int .i64 a0_0, .int .i64 a0_1]] w fun e w' => e = .returned (.bool r) ∧ Below w.heap.size w w' := by
 have hu67 := Tryz.underlying67
 have HB := Aside0.mk (Below.refl w.heap.size w)
 have H : ((z2_.f 1 1000 (([a0_1] : List Int))).bind fun t105 => (if t105 = true then ((z2_.f 1 (wrap64 (2 * a0_1)) (([a0_0] : List Int))).bind fun t109 => (z15_.j0 k t109)) else (z15_.j0 k false))) = some r := h
 clear h
 have HC2 := Aside0.mk H
 clear H
 go_enter Tryz.func42, Tryz.ntmps42
 go_upto_region 1 with (first | ((with_reducible refine gate_dst (N := 1) rfl ?_); (try (refine gate_guard (by rfl) ?_; dsimp only)); refine boxA (N := 1) (cs := #[.int .i64 a0_0, .int .i64 a0_1]) (t := 67) ?_; intro gb101 hg w3 hbox hb; have BK101 := Aside0.mk (hbox); have GE101 := bG HB hg; replace HB := bS HB hb; clear hb hbox hg))
 (try simp only [Act.put, List.setIfInBounds_toArray, List.set_cons_zero, List.set_cons_succ])
 go_cut [2] (fun v2 wc => ∃ (kq : Nat) (x2_1 : Bool), v2 = .bool x2_1 ∧ Aside0 (z15_.j0 kq x2_1 = some r) ∧ Aside0 (kq ≤ k) ∧ Aside0 (wc.heap[gb101]? = some (.cells #[.int .i64 a0_0, .int .i64 a0_1] 67 (0, 0))) ∧ Aside0 (Below w.heap.size w wc))
 case first =>
  have H := HC2.out
  clear HC2
  obtain ⟨y102, hy102⟩ : ∃ y_ : List Int, y_ = (([a0_1] : List Int)) := ⟨_, rfl⟩
  replace H : ((z2_.f 1 1000 y102).bind fun t105 => (if t105 = true then ((z2_.f 1 (wrap64 (2 * a0_1)) (([a0_0] : List Int))).bind fun t109 => (z15_.j0 k t109)) else (z15_.j0 k false))) = some r := by first | (rw [hy102]; with_reducible exact H) | (have H2_ := (Option.bind_some _ _).symm.trans H; rw [hy102]; with_reducible exact H2_) | (have H2_ := (Option.bind_some _ _).symm.trans H; with_reducible exact H2_) | with_reducible exact H | (rw [hy102]; exact H) | exact H
  have Ny102 := Aside0.mk hy102
  clear hy102
  replace H := bindA H
  obtain ⟨t105, A4, H⟩ := H
  try dsimp only at H
  by_cases c5 : t105 = true
  ·subst c5
   have H1 : ((z2_.f 1 (wrap64 (2 * a0_1)) (([a0_0] : List Int))).bind fun t109 => (z15_.j0 k t109)) = some r := by rw [if_pos rfl] at H; exact H
   clear H
   have H := H1
   clear H1
   obtain ⟨y106, hy106⟩ : ∃ y_ : List Int, y_ = (([a0_0] : List Int)) := ⟨_, rfl⟩
   replace H : ((z2_.f 1 (wrap64 (2 * a0_1)) y106).bind fun t109 => (z15_.j0 k t109)) = some r := by first | (rw [hy106]; with_reducible exact H) | (have H2_ := (Option.bind_some _ _).symm.trans H; rw [hy106]; with_reducible exact H2_) | (have H2_ := (Option.bind_some _ _).symm.trans H; with_reducible exact H2_) | with_reducible exact H | (rw [hy106]; exact H) | exact H
   have Ny106 := Aside0.mk hy106
   clear hy106
   replace H := bindA H
   obtain ⟨t109, A6, H⟩ := H
   try dsimp only at H
   have H' := Aside0.mk H
   clear H
   obtain ⟨hcz7_0, hcz7_1, hfz7_0, hfz7_1⟩ := cc2 BK101
   go_wp2_with (first | ((with_reducible refine gate_dst (N := 5) rfl ?_); (try (refine gate_guard (by rfl) ?_; dsimp only)); refine Kd.R_lit (Kd.int .i64) _ 3 ?hg (N := 5) ?hd (xs := ([a0_1] : List Int)) (inner := [.int .i64 a0_1]) (ok := fun _ => True) (okp := fun _ => True) ?hr ?hp (fun _ hk => hk) trivial (Below.refl _ _) (Nat.le_refl _) (by simp) ?_; (case hd => rfl); (case hg => rfl); (case hr => first | (go_simp; done) | (go_simp; rfl)); (case hp => exact (Reps.one (show Kd.M (Kd.int .i64) _ _ _ a0_1 [.int .i64 a0_1] from rfl) (Reps.none _ _))); intro v103 w8 ho9 hb hg_ hnew_; clear hg_ hnew_; (first | rw [← Ny102.out] at ho9 | (simp only [Int.reduceToNat] at ho9; rw [← Ny102.out] at ho9)); have HO104 := Aside0.mk (Kd.R_lower ho9 (below_size (bX HB))); replace BK101 := kB BK101 hb; replace HB := bS HB hb; clear hb ho9; obtain ⟨Ao10, co10, eo10⟩ := Kd.R_slice HO104.out; subst eo10) | ((with_reducible refine gate_callee (f := 37) rfl ?_); refine goesA (some 6) Tryz.func37 #[.int .i64 1, .int .i64 1000, .slice Ao10 y102.length co10] ?_; (with_reducible refine (z2_.calls 1 1000 _ _ y102 true _ ?side1 ?side2 A4.out).mono ?_); (case side1 => exact sX (Kd.R_reads' HO104.out).2.2); (case side2 => exact (Kd.R_reads' HO104.out).2.1); rintro e w11 ⟨rfl, hb⟩; refine ⟨_, rfl, ?_⟩; replace HO104 := rB HO104 hb; replace BK101 := kB BK101 hb; replace HB := bS HB hb; obtain ⟨hcz12_0, hcz12_1, hfz12_0, hfz12_1⟩ := cc2 BK101) | ((with_reducible refine gate_dst (N := 13) rfl ?_); (try (refine gate_guard (by rfl) ?_; dsimp only)); refine Kd.R_lit (Kd.int .i64) _ 3 ?hg (N := 13) ?hd (xs := ([a0_0] : List Int)) (inner := [.int .i64 a0_0]) (ok := fun _ => True) (okp := fun _ => True) ?hr ?hp (fun _ hk => hk) trivial (Below.refl _ _) (Nat.le_refl _) (by simp) ?_; (case hd => rfl); (case hg => rfl); (case hr => first | (go_simp; done) | (go_simp; rfl)); (case hp => exact (Reps.one (show Kd.M (Kd.int .i64) _ _ _ a0_0 [.int .i64 a0_0] from rfl) (Reps.none _ _))); intro v107 w13 ho14 hb hg_ hnew_; clear hg_ hnew_; (first | rw [← Ny106.out] at ho14 | (simp only [Int.reduceToNat] at ho14; rw [← Ny106.out] at ho14)); have HO108 := Aside0.mk (Kd.R_lower (Kd.R_new' ho14 (Kd.R_lt (rX HO104.out))) (below_size (bX HB))); replace HO104 := Aside0.mk (Kd.R_elder' (rX HO104.out) (Kd.R_base ho14) hb); replace BK101 := kB BK101 hb; replace HB := bS HB hb; clear hb ho14; obtain ⟨Ao15, co15, eo15⟩ := Kd.R_slice HO108.out; subst eo15) | (go_at_call 37; (with_reducible refine (z2_.calls 1 (wrap64 (2 * a0_1)) _ _ y106 t109 _ ?side1 ?side2 A6.out).mono ?_); (case side1 => exact sX (Kd.R_reads' HO108.out).2.2); (case side2 => exact (Kd.R_reads' HO108.out).2.1); rintro e w16 ⟨rfl, hb⟩; replace HO104 := rB HO104 hb; replace HO108 := rB HO108 hb; replace BK101 := kB BK101 hb; replace HB := bS HB hb))
   go_meet
   case rel => exact ⟨_, (t109), eR, H', ⟨by first | omega | exact Nat.le_refl _⟩, ⟨kX BK101.out⟩, ⟨bX HB⟩⟩
  ·replace c5 := Bool.eq_false_iff.mpr c5
   subst c5
   have H1 : (z15_.j0 k false) = some r := by rw [if_neg (show ¬ (false = true) by decide)] at H; exact H
   clear H
   have H := H1
   clear H1
   have H' := Aside0.mk H
   clear H
   obtain ⟨hcz17_0, hcz17_1, hfz17_0, hfz17_1⟩ := cc2 BK101
   go_wp2_with (first | ((with_reducible refine gate_dst (N := 5) rfl ?_); (try (refine gate_guard (by rfl) ?_; dsimp only)); refine Kd.R_lit (Kd.int .i64) _ 3 ?hg (N := 5) ?hd (xs := ([a0_1] : List Int)) (inner := [.int .i64 a0_1]) (ok := fun _ => True) (okp := fun _ => True) ?hr ?hp (fun _ hk => hk) trivial (Below.refl _ _) (Nat.le_refl _) (by simp) ?_; (case hd => rfl); (case hg => rfl); (case hr => first | (go_simp; done) | (go_simp; rfl)); (case hp => exact (Reps.one (show Kd.M (Kd.int .i64) _ _ _ a0_1 [.int .i64 a0_1] from rfl) (Reps.none _ _))); intro v103 w18 ho19 hb hg_ hnew_; clear hg_ hnew_; (first | rw [← Ny102.out] at ho19 | (simp only [Int.reduceToNat] at ho19; rw [← Ny102.out] at ho19)); have HO104 := Aside0.mk (Kd.R_lower ho19 (below_size (bX HB))); replace BK101 := kB BK101 hb; replace HB := bS HB hb; clear hb ho19; obtain ⟨Ao20, co20, eo20⟩ := Kd.R_slice HO104.out; subst eo20) | ((with_reducible refine gate_callee (f := 37) rfl ?_); refine goesA (some 6) Tryz.func37 #[.int .i64 1, .int .i64 1000, .slice Ao20 y102.length co20] ?_; (with_reducible refine (z2_.calls 1 1000 _ _ y102 false _ ?side1 ?side2 A4.out).mono ?_); (case side1 => exact sX (Kd.R_reads' HO104.out).2.2); (case side2 => exact (Kd.R_reads' HO104.out).2.1); rintro e w21 ⟨rfl, hb⟩; refine ⟨_, rfl, ?_⟩; replace HO104 := rB HO104 hb; replace BK101 := kB BK101 hb; replace HB := bS HB hb))
   go_meet
   case rel => exact ⟨_, (false), eR, H', ⟨by first | omega | exact Nat.le_refl _⟩, ⟨kX BK101.out⟩, ⟨bX HB⟩⟩
 case rest =>
  clear HC2
  try clear p2
  try clear p6
  try clear hcz12_0 hcz12_1 hfz12_0 hfz12_1
  try clear hcz17_0 hcz17_1 hfz17_0 hfz17_1
  try clear hcz7_0 hcz7_1 hfz7_0 hfz7_1
  obtain ⟨kq, x2_1, rfl, HA, HJ1, BK101, HB⟩ := hcut
  cases kq with
  | zero => exact absurd HA.out (by simp [z15_.j0])
  | succ kj1 =>
   have H := HA.out
   clear HA
   simp only [z15_.j0] at H
   obtain rfl := Option.some.inj H
   go_wp2
   go_ret
   exact ⟨eqA, bX HB⟩
end PWet
end Go.Proofs.YtgdkmadcegleiaaGreatDoor
namespace Go.Proofs.YtgdkmadcegleiaaGreatDoor
namespace PWet
open Sq X
attribute [local go_sem] run_store_func max2_int min2_int max_two min_two max_three min_three max_four min_four   -- for this text's walks alone
mutual
def z6_.j0 : Nat → Bool → Int → List (S55) → Int → Int → Int → Int → Int → Option (Int × (List (S55)) × Int)
 | 0, _, _, _, _, _, _, _, _ => none
 | k + 1, x42, x111000, x111001, x112000, x112001, x113000, x113001, x114000 => if x42 = true then (if 0 = 0 then (none) else (some (x114000, ([] : List (S55)), wrap64 ((1 : Int) / 0)))) else ((z54_.f x111000 x113000 x113001).bind fun t119 => (if t119 > 5000 then (if 0 = 0 then (none) else (some (x114000, ([] : List (S55)), wrap64 ((1 : Int) / 0)))) else (z6_.l0 k x111001 (x111001.length : Int) 0 x112000 x112001 x113000 x113001 x114000 t119 ([] : List (S55)))))
def z6_.l0 : Nat → List (S55) → Int → Int → Int → Int → Int → Int → Int → Int → List (S55) → Option (Int × (List (S55)) × Int)
 | 0, _, _, _, _, _, _, _, _, _, _ => none
 | k + 1, x57, x58, x59, x112000, x112001, x113000, x113001, x114000, x121000, x121001 => if x59 < x58 then (if 0 ≤ x59 then (if x59 < (x57.length : Int) then ((z37_.f ((rd_T55 x57 x59).f0.f0) ((rd_T55 x57 x59).f0.f1) x112000 x112001 x113000 x113001).bind fun bt123 => ((z37_.f ((rd_T55 x57 x59).f1.f0) ((rd_T55 x57 x59).f1.f1) x112000 x112001 x113000 x113001).bind fun bt125 => (if bt123.2 ≥ bt125.1 then (if 0 = 0 then (none) else (some (x114000, ([] : List (S55)), wrap64 ((1 : Int) / 0)))) else (if x121001.length < 4398046511104 then (z6_.l0 k x57 x58 (wrap64 (x59 + 1)) x112000 x112001 x113000 x113001 x114000 x121000 (x121001 ++ [(⟨(⟨bt123.1, bt123.2⟩ : S30), (⟨bt125.1, bt125.2⟩ : S30)⟩ : S55)])) else (none))))) else (none)) else (none)) else (some (x121000, x121001, 0))
end
def z6_.f (k : Nat) (a0_0 : Int) (l0_1 : List (S55)) (a1_0 : Int) (a1_1 : Int) (a2_0 : Int) (a2_1 : Int) : Option (Int × (List (S55)) × Int) := (z43_.f a0_0 l0_1).bind fun t114 => (if t114 = 0 then ((z15_.f k a1_0 a1_1).bind fun t115 => (if t115 = true then ((z15_.f k a2_0 a2_1).bind fun t116 => (if t116 = true then (z6_.j0 k (decide ((wrap64 (a1_0 * a2_1)) > (wrap64 (a2_0 * a1_1)))) a0_0 l0_1 a1_0 a1_1 a2_0 a2_1 0) else (z6_.j0 k true a0_0 l0_1 a1_0 a1_1 a2_0 a2_1 0))) else (z6_.j0 k true a0_0 l0_1 a1_0 a1_1 a2_0 a2_1 0))) else (if 0 = 0 then (none) else (some (0, ([] : List (S55)), wrap64 ((1 : Int) / 0)))))
def z6_.T15 : Bool × List (List Nat × List Nat) := (true, [([], []), ([], []), ([1], [1]), ([0, 2], [0, 2]), ([], []), ([], []), ([5], [5]), ([4, 6, 3], [4, 6]), ([3, 7], [3, 7]), ([], []), ([9, 8, 7, 0, 1, 2, 3, 4, 5, 6, 7, 8, 9], [8, 9])])
def z6_.B15 : List Nat := [0, 0, 2, 7, 0, 0, 32, 127, 255, 0, 1023]
theorem z6_.tab15 : rtab .any (opsOf Tryz.f20 15) = z6_.T15 := by kernel_rfl
theorem z6_.bits15 : waitsOk z6_.T15.2 z6_.B15 = true := by kernel_rfl
set_option maxHeartbeats 8000000 in
set_option maxRecDepth 100000 in
theorem z6_.calls (k : Nat) (a0_0 : Int) (A0_1 : Option Addr) (c0_1 : Nat) (l0_1 : List (S55)) (a1_0 : Int) (a1_1 : Int) (a2_0 : Int) (a2_1 : Int) (r1 : Int) (r2 : List (S55)) (r3 : Int) (w : World) (hr0_1 : Kd.C k55 w A0_1 l0_1.length l0_1) (hc0_1 : l0_1.length ≤ c0_1) (h : z6_.f k a0_0 l0_1 a1_0 a1_1 a2_0 a2_1 = some (r1, r2, r3)) :
  Calls Tryz.prog 20 #[.agg #[.int .i64 a0_0, .slice A0_1 l0_1.length c0_1], .agg #[.int .i64 a1_0, .int .i64 a1_1], .agg #[.int .i64 a2_0, .int .i64 a2_1]] w fun e w' => ∃ v1_ : Value, e = .returned (.tuple #[.agg #[.int .i64 r1, v1_], .int .i64 r3]) ∧ Kd.R k55 55 w' w.heap.size (fun _ => True) v1_ r2 ∧ Below w.heap.size w w' := by
 have hu58 := Tryz.underlying58
 have hu67 := Tryz.underlying67
 have hu55 := Tryz.underlying55
 have hu30 := Tryz.underlying30
 have HR0_1 := Aside0.mk hr0_1
 have HC0_1 := Aside0.mk hc0_1
 clear hr0_1 hc0_1
 have HB := Aside0.mk (Below.refl w.heap.size w)
 have H : ((z43_.f a0_0 l0_1).bind fun t114 => (if t114 = 0 then ((z15_.f k a1_0 a1_1).bind fun t115 => (if t115 = true then ((z15_.f k a2_0 a2_1).bind fun t116 => (if t116 = true then (z6_.j0 k (decide ((wrap64 (a1_0 * a2_1)) > (wrap64 (a2_0 * a1_1)))) a0_0 l0_1 a1_0 a1_1 a2_0 a2_1 0) else (z6_.j0 k true a0_0 l0_1 a1_0 a1_1 a2_0 a2_1 0))) else (z6_.j0 k true a0_0 l0_1 a1_0 a1_1 a2_0 a2_1 0))) else (if 0 = 0 then (none) else (some (0, ([] : List (S55)), wrap64 ((1 : Int) / 0)))))) = some (r1, r2, r3) := h
 clear h
 replace H := bindA H
 obtain ⟨t114, A4, H⟩ := H
 replace H : (if t114 = 0 then ((z15_.f k a1_0 a1_1).bind fun t115 => (if t115 = true then ((z15_.f k a2_0 a2_1).bind fun t116 => (if t116 = true then (z6_.j0 k (decide ((wrap64 (a1_0 * a2_1)) > (wrap64 (a2_0 * a1_1)))) a0_0 l0_1 a1_0 a1_1 a2_0 a2_1 0) else (z6_.j0 k true a0_0 l0_1 a1_0 a1_1 a2_0 a2_1 0))) else (z6_.j0 k true a0_0 l0_1 a1_0 a1_1 a2_0 a2_1 0))) else (if 0 = 0 then (none) else (some (0, ([] : List (S55)), wrap64 ((1 : Int) / 0))))) = some (r1, r2, r3) := H
 by_cases c5 : t114 = 0
 ·rw [if_pos c5] at H
  have c5b0 : (t114 == 0) = true := beq_iff_eq.mpr c5
  have c5b1 : (t114 != 0) = false := bne_eq_false_iff_eq.mpr c5
  clear c5
  have HC6 := Aside0.mk H
  clear H
  go_enter Tryz.func20, Tryz.ntmps20
  go_upto_region 4 with (first | ((with_reducible refine gate_dst (N := 3) rfl ?_); refine boxA (N := 3) (cs := #[.int .i64 a0_0, .slice A0_1 l0_1.length c0_1]) (t := 58) ?_; intro gb110 hg w7 hbox hb; have BK110 := Aside0.mk (hbox); have GE110 := bG HB hg; replace HB := bS HB hb; clear hb hbox hg) | ((with_reducible refine gate_dst (N := 4) rfl ?_); refine boxA (N := 4) (cs := #[.int .i64 a1_0, .int .i64 a1_1]) (t := 67) ?_; intro gb111 hg w8 hbox hb; have BK111 := Aside0.mk (hbox); have GE111 := bG HB hg; have NB110_111 := kN BK110 hg; have NB111_110 := kM BK110 hg; replace BK110 := kB BK110 hb; replace HB := bS HB hb; clear hb hbox hg) | ((with_reducible refine gate_dst (N := 5) rfl ?_); refine boxA (N := 5) (cs := #[.int .i64 a2_0, .int .i64 a2_1]) (t := 67) ?_; intro gb112 hg w9 hbox hb; have BK112 := Aside0.mk (hbox); have GE112 := bG HB hg; have NB110_112 := kN BK110 hg; have NB112_110 := kM BK110 hg; have NB111_112 := kN BK111 hg; have NB112_111 := kM BK111 hg; replace BK110 := kB BK110 hb; replace BK111 := kB BK111 hb; replace HB := bS HB hb; clear hb hbox hg) | ((with_reducible refine gate_dst (N := 6) rfl ?_); refine boxA (N := 6) (cs := #[.int .i64 0, .slice none 0 0]) (t := 58) ?_; intro gb113 hg w10 hbox hb; have BK113 := Aside0.mk (hbox); have GE113 := bG HB hg; have NB110_113 := kN BK110 hg; have NB113_110 := kM BK110 hg; have NB111_113 := kN BK111 hg; have NB113_111 := kM BK111 hg; have NB112_113 := kN BK112 hg; have NB113_112 := kM BK112 hg; replace BK110 := kB BK110 hb; replace BK111 := kB BK111 hb; replace BK112 := kB BK112 hb; replace HB := bS HB hb; clear hb hbox hg; obtain ⟨hnb11, hnc11⟩ := nn NB110_111; obtain ⟨hnb12, hnc12⟩ := nn NB110_112; obtain ⟨hnb13, hnc13⟩ := nn NB110_113; obtain ⟨hcz14_0, hcz14_1, hfz14_0, hfz14_1⟩ := cc2 BK110) | ((with_reducible refine gate_callee (f := 41) rfl ?_); refine goesA (some 17) Tryz.func41 #[.agg #[.int .i64 a0_0, .slice A0_1 l0_1.length c0_1]] ?_; (with_reducible refine (z43_.calls a0_0 _ _ l0_1 t114 _ ?side1 ?side2 A4.out).mono ?_); (case side1 => exact sX (Kd.C_below HR0_1.out HB.out)); (case side2 => exact HC0_1.out); rintro e w15 ⟨rfl, hb⟩; refine ⟨_, rfl, ?_⟩; replace BK110 := kB BK110 hb; replace BK111 := kB BK111 hb; replace BK112 := kB BK112 hb; replace BK113 := kB BK113 hb; replace HB := bS HB hb))
  (try simp only [Act.put, List.setIfInBounds_toArray, List.set_cons_zero, List.set_cons_succ])
  go_cut [42] (fun v42 wc => ∃ (kq : Nat) (x42_5 : Bool), v42 = .bool x42_5 ∧ Aside0 (z6_.j0 kq x42_5 a0_0 l0_1 a1_0 a1_1 a2_0 a2_1 0 = some (r1, r2, r3)) ∧ Aside0 (kq ≤ k) ∧ Aside0 (wc.heap[gb110]? = some (.cells #[.int .i64 a0_0, (.slice A0_1 l0_1.length c0_1)] 58 (0, 0))) ∧ Aside0 (wc.heap[gb111]? = some (.cells #[.int .i64 a1_0, .int .i64 a1_1] 67 (0, 0))) ∧ Aside0 (wc.heap[gb112]? = some (.cells #[.int .i64 a2_0, .int .i64 a2_1] 67 (0, 0))) ∧ Aside0 (wc.heap[gb113]? = some (.cells #[.int .i64 0, (.slice none 0 0)] 58 (0, 0))) ∧ Aside0 (Below w.heap.size w wc))
  case first =>
   have H := HC6.out
   clear HC6
   replace H := bindA H
   obtain ⟨t115, A16, H⟩ := H
   try dsimp only at H
   by_cases c17 : t115 = true
   ·subst c17
    have H1 : ((z15_.f k a2_0 a2_1).bind fun t116 => (if t116 = true then (z6_.j0 k (decide ((wrap64 (a1_0 * a2_1)) > (wrap64 (a2_0 * a1_1)))) a0_0 l0_1 a1_0 a1_1 a2_0 a2_1 0) else (z6_.j0 k true a0_0 l0_1 a1_0 a1_1 a2_0 a2_1 0))) = some (r1, r2, r3) := by rw [if_pos rfl] at H; exact H
    clear H
    have H := H1
    clear H1
    replace H := bindA H
    obtain ⟨t116, A18, H⟩ := H
    try dsimp only at H
    by_cases c19 : t116 = true
    ·subst c19
     have H1 : (z6_.j0 k (decide ((wrap64 (a1_0 * a2_1)) > (wrap64 (a2_0 * a1_1)))) a0_0 l0_1 a1_0 a1_1 a2_0 a2_1 0) = some (r1, r2, r3) := by rw [if_pos rfl] at H; exact H
     clear H
     have H := H1
     clear H1
     have H' := Aside0.mk H
     clear H
     obtain ⟨hnb20, hnc20⟩ := nn NB111_110
     obtain ⟨hnb21, hnc21⟩ := nn NB111_112
     obtain ⟨hnb22, hnc22⟩ := nn NB111_113
     obtain ⟨hcz23_0, hcz23_1, hfz23_0, hfz23_1⟩ := cc2 BK111
     go_wp2_with (first | ((with_reducible refine gate_callee (f := 42) rfl ?_); refine goesA (some 23) Tryz.func42 #[.agg #[.int .i64 a1_0, .int .i64 a1_1]] ?_; (with_reducible refine (z15_.calls k a1_0 a1_1 true _ A16.out).mono ?_); rintro e w24 ⟨rfl, hb⟩; refine ⟨_, rfl, ?_⟩; replace BK110 := kB BK110 hb; replace BK111 := kB BK111 hb; replace BK112 := kB BK112 hb; replace BK113 := kB BK113 hb; replace HB := bS HB hb; obtain ⟨hnb25, hnc25⟩ := nn NB112_110; obtain ⟨hnb26, hnc26⟩ := nn NB112_113; obtain ⟨hcz27_0, hcz27_1, hfz27_0, hfz27_1⟩ := cc2 BK112) | (go_at_call 42; (with_reducible refine (z15_.calls k a2_0 a2_1 true _ A18.out).mono ?_); rintro e w28 ⟨rfl, hb⟩; replace BK110 := kB BK110 hb; replace BK111 := kB BK111 hb; replace BK112 := kB BK112 hb; replace BK113 := kB BK113 hb; replace HB := bS HB hb; obtain ⟨hcz29_0, hcz29_1, hfz29_0, hfz29_1⟩ := cc2 BK111; obtain ⟨hcz30_0, hcz30_1, hfz30_0, hfz30_1⟩ := cc2 BK112))
     go_meet
     case rel => exact ⟨_, (decide ((wrap64 (a1_0 * a2_1)) > (wrap64 (a2_0 * a1_1)))), eR, H', ⟨by first | omega | exact Nat.le_refl _⟩, ⟨kX BK110.out⟩, ⟨kX BK111.out⟩, ⟨kX BK112.out⟩, ⟨kX BK113.out⟩, ⟨bX HB⟩⟩
    ·replace c19 := Bool.eq_false_iff.mpr c19
     subst c19
     have H1 : (z6_.j0 k true a0_0 l0_1 a1_0 a1_1 a2_0 a2_1 0) = some (r1, r2, r3) := by rw [if_neg (show ¬ (false = true) by decide)] at H; exact H
     clear H
     have H := H1
     clear H1
     have H' := Aside0.mk H
     clear H
     obtain ⟨hnb31, hnc31⟩ := nn NB111_110
     obtain ⟨hnb32, hnc32⟩ := nn NB111_112
     obtain ⟨hnb33, hnc33⟩ := nn NB111_113
     obtain ⟨hcz34_0, hcz34_1, hfz34_0, hfz34_1⟩ := cc2 BK111
     go_wp2_with (first | ((with_reducible refine gate_callee (f := 42) rfl ?_); refine goesA (some 23) Tryz.func42 #[.agg #[.int .i64 a1_0, .int .i64 a1_1]] ?_; (with_reducible refine (z15_.calls k a1_0 a1_1 true _ A16.out).mono ?_); rintro e w35 ⟨rfl, hb⟩; refine ⟨_, rfl, ?_⟩; replace BK110 := kB BK110 hb; replace BK111 := kB BK111 hb; replace BK112 := kB BK112 hb; replace BK113 := kB BK113 hb; replace HB := bS HB hb; obtain ⟨hnb36, hnc36⟩ := nn NB112_110; obtain ⟨hnb37, hnc37⟩ := nn NB112_113; obtain ⟨hcz38_0, hcz38_1, hfz38_0, hfz38_1⟩ := cc2 BK112) | (go_at_call 42; (with_reducible refine (z15_.calls k a2_0 a2_1 false _ A18.out).mono ?_); rintro e w39 ⟨rfl, hb⟩; replace BK110 := kB BK110 hb; replace BK111 := kB BK111 hb; replace BK112 := kB BK112 hb; replace BK113 := kB BK113 hb; replace HB := bS HB hb))
     go_meet
     case rel => exact ⟨_, (true), eR, H', ⟨by first | omega | exact Nat.le_refl _⟩, ⟨kX BK110.out⟩, ⟨kX BK111.out⟩, ⟨kX BK112.out⟩, ⟨kX BK113.out⟩, ⟨bX HB⟩⟩
   ·replace c17 := Bool.eq_false_iff.mpr c17
    subst c17
    have H1 : (z6_.j0 k true a0_0 l0_1 a1_0 a1_1 a2_0 a2_1 0) = some (r1, r2, r3) := by rw [if_neg (show ¬ (false = true) by decide)] at H; exact H
    clear H
    have H := H1
    clear H1
    have H' := Aside0.mk H
    clear H
    obtain ⟨hnb40, hnc40⟩ := nn NB111_110
    obtain ⟨hnb41, hnc41⟩ := nn NB111_112
    obtain ⟨hnb42, hnc42⟩ := nn NB111_113
    obtain ⟨hcz43_0, hcz43_1, hfz43_0, hfz43_1⟩ := cc2 BK111
    go_wp2_with (first | ((with_reducible refine gate_callee (f := 42) rfl ?_); refine goesA (some 23) Tryz.func42 #[.agg #[.int .i64 a1_0, .int .i64 a1_1]] ?_; (with_reducible refine (z15_.calls k a1_0 a1_1 false _ A16.out).mono ?_); rintro e w44 ⟨rfl, hb⟩; refine ⟨_, rfl, ?_⟩; replace BK110 := kB BK110 hb; replace BK111 := kB BK111 hb; replace BK112 := kB BK112 hb; replace BK113 := kB BK113 hb; replace HB := bS HB hb))
    go_meet
    case rel => exact ⟨_, (true), eR, H', ⟨by first | omega | exact Nat.le_refl _⟩, ⟨kX BK110.out⟩, ⟨kX BK111.out⟩, ⟨kX BK112.out⟩, ⟨kX BK113.out⟩, ⟨bX HB⟩⟩
  case rest =>
   clear HC6
   try clear p2
   try clear c5b0
   try clear c5b1
   try clear p6
   try clear hcz14_0 hcz14_1 hfz14_0 hfz14_1
   try clear hcz23_0 hcz23_1 hfz23_0 hfz23_1
   try clear hcz27_0 hcz27_1 hfz27_0 hfz27_1
   try clear hcz29_0 hcz29_1 hfz29_0 hfz29_1
   try clear hcz30_0 hcz30_1 hfz30_0 hfz30_1
   try clear hcz34_0 hcz34_1 hfz34_0 hfz34_1
   try clear hcz38_0 hcz38_1 hfz38_0 hfz38_1
   try clear hcz43_0 hcz43_1 hfz43_0 hfz43_1
   obtain ⟨kq, x42_5, rfl, HA, HJ5, BK110, BK111, BK112, BK113, HB⟩ := hcut
   cases kq with
   | zero => exact absurd HA.out (by simp [z6_.j0])
   | succ kj5 =>
    have H := HA.out
    clear HA
    simp only [z6_.j0] at H
    by_cases c45 : x42_5 = true
    ·subst c45
     have H1 : (if 0 = 0 then (none) else (some (0, ([] : List (S55)), wrap64 ((1 : Int) / 0)))) = some (r1, r2, r3) := by rw [if_pos rfl] at H; exact H
     clear H
     have H := H1
     clear H1
     by_cases c46 : 0 = 0
     ·rw [if_pos c46] at H
      exact absurd H (by simp)
     ·exact absurd rfl c46
    ·replace c45 := Bool.eq_false_iff.mpr c45
     subst c45
     have H1 : ((z54_.f a0_0 a2_0 a2_1).bind fun t119 => (if t119 > 5000 then (if 0 = 0 then (none) else (some (0, ([] : List (S55)), wrap64 ((1 : Int) / 0)))) else (z6_.l0 kj5 l0_1 (l0_1.length : Int) 0 a1_0 a1_1 a2_0 a2_1 0 t119 ([] : List (S55))))) = some (r1, r2, r3) := by rw [if_neg (show ¬ (false = true) by decide)] at H; exact H
     clear H
     have H := H1
     clear H1
     replace H := bindA H
     obtain ⟨t119, A47, H⟩ := H
     replace H : (if t119 > 5000 then (if 0 = 0 then (none) else (some (0, ([] : List (S55)), wrap64 ((1 : Int) / 0)))) else (z6_.l0 kj5 l0_1 (l0_1.length : Int) 0 a1_0 a1_1 a2_0 a2_1 0 t119 ([] : List (S55)))) = some (r1, r2, r3) := H
     by_cases c48 : t119 > 5000
     ·rw [if_pos c48] at H
      have c48b0 : decide (5000 < t119) = true := decide_eq_true c48
      clear c48
      by_cases c49 : 0 = 0
      ·rw [if_pos c49] at H
       exact absurd H (by simp)
      ·exact absurd rfl c49
     ·rw [if_neg c48] at H
      have c48b0 : decide (5000 < t119) = false := decide_eq_false c48
      clear c48
      have H' := Aside0.mk H
      clear H
      go_wp2_with (first | ((with_reducible refine gate_dst (N := 9) rfl ?_); refine boxA (N := 9) (cs := #[.nilFunc]) (t := 89) ?_; intro gb117 hg w79 hbox hb; have BK117 := Aside0.mk (hbox); have GE117 := bG HB hg; have NB110_117 := kN BK110 hg; have NB117_110 := kM BK110 hg; have NB111_117 := kN BK111 hg; have NB117_111 := kM BK111 hg; have NB112_117 := kN BK112 hg; have NB117_112 := kM BK112 hg; have NB113_117 := kN BK113 hg; have NB117_113 := kM BK113 hg; replace BK110 := kB BK110 hb; replace BK111 := kB BK111 hb; replace BK112 := kB BK112 hb; replace BK113 := kB BK113 hb; replace HB := bS HB hb; clear hb hbox hg; obtain ⟨hnb80, hnc80⟩ := nn NB117_110; obtain ⟨hnb81, hnc81⟩ := nn NB117_111; obtain ⟨hnb82, hnc82⟩ := nn NB117_112; obtain ⟨hnb83, hnc83⟩ := nn NB117_113; obtain ⟨hcz84_0, hfz84_0⟩ := cc1 BK117) | ((with_reducible refine gate_dst (N := 10) rfl ?_); refine boxA (N := 10) (cs := #[.nilFunc]) (t := 89) ?_; intro gb118 hg w85 hbox hb; have n0_ := Aside0.mk (blk_below (kF BK110 NB110_117) hb); have n1_ := Aside0.mk (blk_below (kF BK111 NB111_117) hb); have n2_ := Aside0.mk (blk_below (kF BK112 NB112_117) hb); have n3_ := Aside0.mk (blk_below (kF BK113 NB113_117) hb); have n4_ := Aside0.mk (blk_below (g := gb117) (o := .cells #[.func (.func 43) #[] #[.pointer (some ⟨gb111, 0, none⟩)]] 89 (0, 0)) (kP BK117) hb); have n5_ := bS HB hb; have n6_ := Aside0.mk (hbox); have n7_ := bG HB hg; have n8_ := bG HB hg; have n9_ := Aside0.mk ((by rw [hg]; exact Nat.ne_of_lt (blk_lt (g := gb110) (o := .cells #[.int .i64 a0_0, .slice A0_1 l0_1.length c0_1] 58 (0, 0)) (kF BK110 NB110_117)) : gb110 ≠ gb118)); have n10_ := Aside0.mk ((by rw [hg]; exact Nat.ne_of_gt (blk_lt (g := gb110) (o := .cells #[.int .i64 a0_0, .slice A0_1 l0_1.length c0_1] 58 (0, 0)) (kF BK110 NB110_117)) : gb118 ≠ gb110)); have n11_ := Aside0.mk ((by rw [hg]; exact Nat.ne_of_lt (blk_lt (g := gb111) (o := .cells #[.int .i64 a1_0, .int .i64 a1_1] 67 (0, 0)) (kF BK111 NB111_117)) : gb111 ≠ gb118)); have n12_ := Aside0.mk ((by rw [hg]; exact Nat.ne_of_gt (blk_lt (g := gb111) (o := .cells #[.int .i64 a1_0, .int .i64 a1_1] 67 (0, 0)) (kF BK111 NB111_117)) : gb118 ≠ gb111)); have n13_ := Aside0.mk ((by rw [hg]; exact Nat.ne_of_lt (blk_lt (g := gb112) (o := .cells #[.int .i64 a2_0, .int .i64 a2_1] 67 (0, 0)) (kF BK112 NB112_117)) : gb112 ≠ gb118)); have n14_ := Aside0.mk ((by rw [hg]; exact Nat.ne_of_gt (blk_lt (g := gb112) (o := .cells #[.int .i64 a2_0, .int .i64 a2_1] 67 (0, 0)) (kF BK112 NB112_117)) : gb118 ≠ gb112)); have n15_ := Aside0.mk ((by rw [hg]; exact Nat.ne_of_lt (blk_lt (g := gb113) (o := .cells #[.int .i64 0, .slice none 0 0] 58 (0, 0)) (kF BK113 NB113_117)) : gb113 ≠ gb118)); have n16_ := Aside0.mk ((by rw [hg]; exact Nat.ne_of_gt (blk_lt (g := gb113) (o := .cells #[.int .i64 0, .slice none 0 0] 58 (0, 0)) (kF BK113 NB113_117)) : gb118 ≠ gb113)); have n17_ := Aside0.mk ((by rw [hg]; exact Nat.ne_of_lt (blk_lt (g := gb117) (o := .cells #[.func (.func 43) #[] #[.pointer (some ⟨gb111, 0, none⟩)]] 89 (0, 0)) (kP BK117)) : gb117 ≠ gb118)); have n18_ := Aside0.mk ((by rw [hg]; exact Nat.ne_of_gt (blk_lt (g := gb117) (o := .cells #[.func (.func 43) #[] #[.pointer (some ⟨gb111, 0, none⟩)]] 89 (0, 0)) (kP BK117)) : gb118 ≠ gb117)); clear BK110; clear BK111; clear BK112; clear BK113; clear BK117; clear HB; have BK110 := n0_; have BK111 := n1_; have BK112 := n2_; have BK113 := n3_; have BK117 := n4_; have HB := n5_; have BK118 := n6_; have GW118 := n7_; have GE118 := n8_; have NB110_118 := n9_; have NB118_110 := n10_; have NB111_118 := n11_; have NB118_111 := n12_; have NB112_118 := n13_; have NB118_112 := n14_; have NB113_118 := n15_; have NB118_113 := n16_; have NB117_118 := n17_; have NB118_117 := n18_; clear n0_ n1_ n2_ n3_ n4_ n5_ n6_ n7_ n8_ n9_ n10_ n11_ n12_ n13_ n14_ n15_ n16_ n17_ n18_; clear hb hbox hg; obtain ⟨hnb86, hnc86⟩ := nn NB118_110; obtain ⟨hnb87, hnc87⟩ := nn NB118_111; obtain ⟨hnb88, hnc88⟩ := nn NB118_112; obtain ⟨hnb89, hnc89⟩ := nn NB118_113; obtain ⟨hnb90, hnc90⟩ := nn NB118_117; obtain ⟨hcz91_0, hfz91_0⟩ := cc1 BK118; obtain ⟨hnb92, hnc92⟩ := nn NB112_110; obtain ⟨hnb93, hnc93⟩ := nn NB112_111; obtain ⟨hnb94, hnc94⟩ := nn NB112_113; obtain ⟨hcz95_0, hcz95_1, hfz95_0, hfz95_1⟩ := cc2 BK112; obtain ⟨hnb96, hnc96⟩ := nn NB110_111; obtain ⟨hnb97, hnc97⟩ := nn NB110_113; obtain ⟨hcz98_0, hcz98_1, hfz98_0, hfz98_1⟩ := cc2 BK110) | (go_at_call 44; (with_reducible refine (z54_.calls a0_0 a2_0 a2_1 t119 _ gb112 (kF BK112 NB112_118) A47.out).mono ?_); rintro e w99 ⟨rfl, hb⟩; replace BK110 := Aside0.mk (blk_below (kF BK110 NB110_118) hb); replace BK111 := Aside0.mk (blk_below (kF BK111 NB111_118) hb); replace BK112 := Aside0.mk (blk_below (kF BK112 NB112_118) hb); replace BK113 := Aside0.mk (blk_below (kF BK113 NB113_118) hb); replace BK117 := Aside0.mk (blk_below (kF BK117 NB117_118) hb); replace BK118 := Aside0.mk (blk_below (g := gb118) (o := .cells #[.func (.func 44) #[] #[.pointer (some ⟨gb112, 0, none⟩)]] 89 (0, 0)) (kP BK118) hb); replace HB := bS HB hb) | ((with_reducible refine gate_dst (N := 12) rfl ?_); refine boxA (N := 12) (cs := #[.int .i64 0, .slice none 0 0]) (t := 58) ?_; intro gb120 hg w100 hbox hb; have BK120 := Aside0.mk (hbox); have GE120 := bG HB hg; have NB110_120 := kN BK110 hg; have NB120_110 := kM BK110 hg; have NB111_120 := kN BK111 hg; have NB120_111 := kM BK111 hg; have NB112_120 := kN BK112 hg; have NB120_112 := kM BK112 hg; have NB113_120 := kN BK113 hg; have NB120_113 := kM BK113 hg; have NB117_120 := kN BK117 hg; have NB120_117 := kM BK117 hg; have NB118_120 := kN BK118 hg; have NB120_118 := kM BK118 hg; replace BK110 := kB BK110 hb; replace BK111 := kB BK111 hb; replace BK112 := kB BK112 hb; replace BK113 := kB BK113 hb; replace BK117 := kB BK117 hb; replace BK118 := kB BK118 hb; replace HB := bS HB hb; clear hb hbox hg; obtain ⟨hnb101, hnc101⟩ := nn NB120_110; obtain ⟨hnb102, hnc102⟩ := nn NB120_111; obtain ⟨hnb103, hnc103⟩ := nn NB120_112; obtain ⟨hnb104, hnc104⟩ := nn NB120_113; obtain ⟨hnb105, hnc105⟩ := nn NB120_117; obtain ⟨hnb106, hnc106⟩ := nn NB120_118; obtain ⟨hcz107_0, hcz107_1, hfz107_0, hfz107_1⟩ := cc2 BK120; obtain ⟨hcz108_0, hcz108_1, hfz108_0, hfz108_1⟩ := cc2 BK110))
      go_loopg [59] kj5 (fun kq v59 w' => ∃ (x59_2 : Int) (x121001_2 : List (S55)) (u121001 : Value), v59 = .int .i64 x59_2 ∧ Aside0 (z6_.l0 kq l0_1 (l0_1.length : Int) x59_2 a1_0 a1_1 a2_0 a2_1 0 t119 x121001_2 = some (r1, r2, r3)) ∧ Aside0 (kq ≤ kj5) ∧ Aside0 (Kd.R k55 55 w' w.heap.size (fun _ => True) u121001 x121001_2) ∧ Aside0 (w'.heap[gb110]? = some (.cells #[.int .i64 a0_0, (.slice A0_1 l0_1.length c0_1)] 58 (0, 0))) ∧ Aside0 (w'.heap[gb111]? = some (.cells #[.int .i64 a1_0, .int .i64 a1_1] 67 (0, 0))) ∧ Aside0 (w'.heap[gb112]? = some (.cells #[.int .i64 a2_0, .int .i64 a2_1] 67 (0, 0))) ∧ Aside0 (w'.heap[gb113]? = some (.cells #[.int .i64 0, (.slice none 0 0)] 58 (0, 0))) ∧ Aside0 (w'.heap[gb117]? = some (.cells #[.func (.func 43) #[] #[.pointer (some ⟨gb111, 0, none⟩)]] 89 (0, 0))) ∧ Aside0 (w'.heap[gb118]? = some (.cells #[.func (.func 44) #[] #[.pointer (some ⟨gb112, 0, none⟩)]] 89 (0, 0))) ∧ Aside0 (w'.heap[gb120]? = some (.cells #[.int .i64 t119, u121001] 58 (0, 0))) ∧ Aside0 (Below w.heap.size w w'))
      case atStart => exact ⟨(0), (([] : List (S55))), (.slice none 0 0), eR, H', ⟨Nat.le_refl _⟩, ⟨by first | exact Kd.R_nil _ _ _ _ _ | exact Kd.N_nil _ _ _ _ _ | exact Kd.V_nil _ _ _ _ _ | exact Kd.Q_nil _ _ _ _ _ | exact Kd.S_nil _ _ _ _ _⟩, ⟨by (with_reducible repeat (first | refine blk_drewN ?_ _ | refine blk_drew ?_ | refine blk_alloc ?_ _)); refine blk_far ?_ NB110_120.out _; (with_reducible repeat (first | refine blk_drewN ?_ _ | refine blk_drew ?_ | refine blk_alloc ?_ _)); refine blk_far ?_ NB110_120.out _; (with_reducible repeat (first | refine blk_drewN ?_ _ | refine blk_drew ?_ | refine blk_alloc ?_ _)); exact BK110.out⟩, ⟨by (with_reducible repeat (first | refine blk_drewN ?_ _ | refine blk_drew ?_ | refine blk_alloc ?_ _)); refine blk_far ?_ NB111_120.out _; (with_reducible repeat (first | refine blk_drewN ?_ _ | refine blk_drew ?_ | refine blk_alloc ?_ _)); refine blk_far ?_ NB111_120.out _; (with_reducible repeat (first | refine blk_drewN ?_ _ | refine blk_drew ?_ | refine blk_alloc ?_ _)); exact BK111.out⟩, ⟨by (with_reducible repeat (first | refine blk_drewN ?_ _ | refine blk_drew ?_ | refine blk_alloc ?_ _)); refine blk_far ?_ NB112_120.out _; (with_reducible repeat (first | refine blk_drewN ?_ _ | refine blk_drew ?_ | refine blk_alloc ?_ _)); refine blk_far ?_ NB112_120.out _; (with_reducible repeat (first | refine blk_drewN ?_ _ | refine blk_drew ?_ | refine blk_alloc ?_ _)); exact BK112.out⟩, ⟨by (with_reducible repeat (first | refine blk_drewN ?_ _ | refine blk_drew ?_ | refine blk_alloc ?_ _)); refine blk_far ?_ NB113_120.out _; (with_reducible repeat (first | refine blk_drewN ?_ _ | refine blk_drew ?_ | refine blk_alloc ?_ _)); refine blk_far ?_ NB113_120.out _; (with_reducible repeat (first | refine blk_drewN ?_ _ | refine blk_drew ?_ | refine blk_alloc ?_ _)); exact BK113.out⟩, ⟨by (with_reducible repeat (first | refine blk_drewN ?_ _ | refine blk_drew ?_ | refine blk_alloc ?_ _)); refine blk_far ?_ NB117_120.out _; (with_reducible repeat (first | refine blk_drewN ?_ _ | refine blk_drew ?_ | refine blk_alloc ?_ _)); refine blk_far ?_ NB117_120.out _; (with_reducible repeat (first | refine blk_drewN ?_ _ | refine blk_drew ?_ | refine blk_alloc ?_ _)); exact BK117.out⟩, ⟨by (with_reducible repeat (first | refine blk_drewN ?_ _ | refine blk_drew ?_ | refine blk_alloc ?_ _)); refine blk_far ?_ NB118_120.out _; (with_reducible repeat (first | refine blk_drewN ?_ _ | refine blk_drew ?_ | refine blk_alloc ?_ _)); refine blk_far ?_ NB118_120.out _; (with_reducible repeat (first | refine blk_drewN ?_ _ | refine blk_drew ?_ | refine blk_alloc ?_ _)); exact BK118.out⟩, ⟨by (with_reducible repeat (first | refine blk_drewN ?_ _ | refine blk_drew ?_ | refine blk_alloc ?_ _)); refine blk_put (cs := #[.int .i64 t119, .slice none 0 0]) ?_ 1 _ rfl; (with_reducible repeat (first | refine blk_drewN ?_ _ | refine blk_drew ?_ | refine blk_alloc ?_ _)); refine blk_put (cs := #[.int .i64 0, .slice none 0 0]) ?_ 0 _ rfl; (with_reducible repeat (first | refine blk_drewN ?_ _ | refine blk_drew ?_ | refine blk_alloc ?_ _)); exact BK120.out⟩, ⟨bX HB⟩⟩
      case round =>
       clear H'
       try clear p2
       try clear c5b0
       try clear c5b1
       try clear p6
       try clear c46b0
       try clear c46b1
       try clear c48b0
       try clear c49b0
       try clear c49b1
       try clear p64
       try clear hcz107_0 hcz107_1 hfz107_0 hfz107_1
       try clear hcz108_0 hcz108_1 hfz108_0 hfz108_1
       try clear hcz14_0 hcz14_1 hfz14_0 hfz14_1
       try clear hcz23_0 hcz23_1 hfz23_0 hfz23_1
       try clear hcz27_0 hcz27_1 hfz27_0 hfz27_1
       try clear hcz29_0 hcz29_1 hfz29_0 hfz29_1
       try clear hcz30_0 hcz30_1 hfz30_0 hfz30_1
       try clear hcz34_0 hcz34_1 hfz34_0 hfz34_1
       try clear hcz38_0 hcz38_1 hfz38_0 hfz38_1
       try clear hcz43_0 hcz43_1 hfz43_0 hfz43_1
       try clear hcz55_0 hfz55_0
       try clear hcz62_0 hfz62_0
       try clear hcz66_0 hcz66_1 hfz66_0 hfz66_1
       try clear hcz69_0 hcz69_1 hfz69_0 hfz69_1
       try clear hcz78_0 hcz78_1 hfz78_0 hfz78_1
       try clear hcz84_0 hfz84_0
       try clear hcz91_0 hfz91_0
       try clear hcz95_0 hcz95_1 hfz95_0 hfz95_1
       try clear hcz98_0 hcz98_1 hfz98_0 hfz98_1
       try clear p2
       try clear p6
       obtain ⟨x59_2, x121001_2, u121001, rfl, HA, HK2, HO_121001, BK110, BK111, BK112, BK113, BK117, BK118, BK120, HB⟩ := hrel
       cases gk with
       | zero => exact absurd HA.out (by simp [z6_.l0])
       | succ k2 =>
        have H := HA.out
        clear HA
        simp only [z6_.l0] at H
        by_cases c109 : x59_2 < (l0_1.length : Int)
        ·rw [if_pos c109] at H
         have c109b0 : decide (x59_2 < (l0_1.length : Int)) = true := decide_eq_true c109
         clear c109
         by_cases c110 : 0 ≤ x59_2
         ·rw [if_pos c110] at H
          have c110b0 : decide (0 ≤ x59_2) = true := decide_eq_true c110
          clear c110
          by_cases c111 : x59_2 < (l0_1.length : Int)
          ·rw [if_pos c111] at H
           have c111b0 : decide (x59_2 < (l0_1.length : Int)) = true := decide_eq_true c111
           clear c111
           replace H := bindA H
           obtain ⟨⟨t123, t124⟩, A112, H⟩ := H
           replace H : ((z37_.f ((rd_T55 l0_1 x59_2).f1.f0) ((rd_T55 l0_1 x59_2).f1.f1) a1_0 a1_1 a2_0 a2_1).bind fun bt125 => (if t124 ≥ bt125.1 then (if 0 = 0 then (none) else (some (0, ([] : List (S55)), wrap64 ((1 : Int) / 0)))) else (if x121001_2.length < 4398046511104 then (z6_.l0 k2 l0_1 (l0_1.length : Int) (wrap64 (x59_2 + 1)) a1_0 a1_1 a2_0 a2_1 0 t119 (x121001_2 ++ [(⟨(⟨t123, t124⟩ : S30), (⟨bt125.1, bt125.2⟩ : S30)⟩ : S55)])) else (none)))) = some (r1, r2, r3) := H
           replace H := bindA H
           obtain ⟨⟨t125, t126⟩, A113, H⟩ := H
           replace H : (if t124 ≥ t125 then (if 0 = 0 then (none) else (some (0, ([] : List (S55)), wrap64 ((1 : Int) / 0)))) else (if x121001_2.length < 4398046511104 then (z6_.l0 k2 l0_1 (l0_1.length : Int) (wrap64 (x59_2 + 1)) a1_0 a1_1 a2_0 a2_1 0 t119 (x121001_2 ++ [(⟨(⟨t123, t124⟩ : S30), (⟨t125, t126⟩ : S30)⟩ : S55)])) else (none))) = some (r1, r2, r3) := H
           by_cases c114 : t124 ≥ t125
           ·rw [if_pos c114] at H
            have c114b0 : decide (t125 ≤ t124) = true := decide_eq_true c114
            clear c114
            by_cases c115 : 0 = 0
            ·rw [if_pos c115] at H
             exact absurd H (by simp)
            ·exact absurd rfl c115
           ·rw [if_neg c114] at H
            have c114b0 : decide (t125 ≤ t124) = false := decide_eq_false c114
            clear c114
            by_cases c144 : x121001_2.length < 4398046511104
            ·rw [if_pos c144] at H
             have LMc144 := Aside0.mk c144
             clear c144
             obtain ⟨y128, hy128⟩ : ∃ y_ : List (S55), y_ = (x121001_2 ++ [(⟨(⟨t123, t124⟩ : S30), (⟨t125, t126⟩ : S30)⟩ : S55)]) := ⟨_, rfl⟩
             replace H : (z6_.l0 k2 l0_1 (l0_1.length : Int) (wrap64 (x59_2 + 1)) a1_0 a1_1 a2_0 a2_1 0 t119 y128) = some (r1, r2, r3) := by first | (rw [hy128]; with_reducible exact H) | (have H2_ := (Option.bind_some _ _).symm.trans H; rw [hy128]; with_reducible exact H2_) | (have H2_ := (Option.bind_some _ _).symm.trans H; with_reducible exact H2_) | with_reducible exact H | (rw [hy128]; exact H) | exact H
             have Ny128 := Aside0.mk hy128
             clear hy128
             have H' := Aside0.mk H
             clear H
             have p121 : 0 ≤ (x59_2 : Int) := of_decide_eq_true (by first | (with_reducible assumption) | assumption)
             have q121 : x59_2 < (l0_1.length : Int) := of_decide_eq_true (by first | (with_reducible assumption) | assumption)
             obtain ⟨ad121, e121, hx121_0, hx121_1, hx121_2, hx121_3⟩ := at_T55 HR0_1.out x59_2 p121 q121
             cases e121
             replace hx121_0 := (HB.out.cell (World.block_lt_of_cell? w _ hx121_0)).trans hx121_0
             replace hx121_1 := (HB.out.cell (World.block_lt_of_cell? w _ hx121_1)).trans hx121_1
             replace hx121_2 := (HB.out.cell (World.block_lt_of_cell? w _ hx121_2)).trans hx121_2
             replace hx121_3 := (HB.out.cell (World.block_lt_of_cell? w _ hx121_3)).trans hx121_3
             replace p121 := eq_true p121
             replace q121 := eq_true q121
             try go_wp2_with (first | ((with_reducible refine gate_dst (N := 14) rfl ?_); refine boxA (N := 14) (cs := #[.int .i64 0, .int .i64 0, .int .i64 0, .int .i64 0]) (t := 55) ?_; intro gb122 hg w145 hbox hb; have BK122 := Aside0.mk (hbox); have GE122 := bG HB hg; have NB110_122 := kN BK110 hg; have NB122_110 := kM BK110 hg; have NB111_122 := kN BK111 hg; have NB122_111 := kM BK111 hg; have NB112_122 := kN BK112 hg; have NB122_112 := kM BK112 hg; have NB113_122 := kN BK113 hg; have NB122_113 := kM BK113 hg; have NB117_122 := kN BK117 hg; have NB122_117 := kM BK117 hg; have NB118_122 := kN BK118 hg; have NB122_118 := kM BK118 hg; have NB120_122 := kN BK120 hg; have NB122_120 := kM BK120 hg; replace HO_121001 := Aside0.mk (Kd.R_below (Kd.R_elderB (rX HO_121001.out) gb122 (Nat.le_of_eq hg.symm)) hb); replace BK110 := kB BK110 hb; replace BK111 := kB BK111 hb; replace BK112 := kB BK112 hb; replace BK113 := kB BK113 hb; replace BK117 := kB BK117 hb; replace BK118 := kB BK118 hb; replace BK120 := kB BK120 hb; replace HB := bS HB hb; clear hb hbox hg; obtain ⟨hnb146, hnc146⟩ := nn NB122_110; obtain ⟨hnb147, hnc147⟩ := nn NB122_111; obtain ⟨hnb148, hnc148⟩ := nn NB122_112; obtain ⟨hnb149, hnc149⟩ := nn NB122_113; obtain ⟨hnb150, hnc150⟩ := nn NB122_117; obtain ⟨hnb151, hnc151⟩ := nn NB122_118; obtain ⟨hnb152, hnc152⟩ := nn NB122_120; obtain ⟨hcz153_0, hcz153_1, hcz153_2, hcz153_3, hfz153_0, hfz153_1, hfz153_2, hfz153_3⟩ := cc4 BK122))
             have n0_ : Aside0 (Kd.R k55 55 ((((w145.setCell ⟨gb122, 0, none⟩ (.int .i64 ((rd_T55 l0_1 x59_2).f0.f0))).setCell ⟨gb122, 1, none⟩ (.int .i64 ((rd_T55 l0_1 x59_2).f0.f1))).setCell ⟨gb122, 2, none⟩ (.int .i64 ((rd_T55 l0_1 x59_2).f1.f0))).setCell ⟨gb122, 3, none⟩ (.int .i64 ((rd_T55 l0_1 x59_2).f1.f1))) w.heap.size (fun k_ => k_ ≠ gb122) u121001 x121001_2) := ⟨by (with_reducible repeat (first | apply Kd.R_alloc | apply Kd.R_drewN | apply Kd.R_drew)); exact Kd.R_mono (Kd.R_far (p := ⟨gb122, 3, none⟩) (Kd.R_far (p := ⟨gb122, 2, none⟩) (Kd.R_far (p := ⟨gb122, 1, none⟩) (Kd.R_far (p := ⟨gb122, 0, none⟩) (Kd.R_mono HO_121001.out (fun k_ hk => (⟨hk, hk.2⟩ : _ ∧ k_ ≠ gb122))) (fun _ hk => hk.2) (.int .i64 ((rd_T55 l0_1 x59_2).f0.f0))) (fun _ hk => hk.2) (.int .i64 ((rd_T55 l0_1 x59_2).f0.f1))) (fun _ hk => hk.2) (.int .i64 ((rd_T55 l0_1 x59_2).f1.f0))) (fun _ hk => hk.2) (.int .i64 ((rd_T55 l0_1 x59_2).f1.f1))) (fun _ hk => hk.1.2)⟩
             have n1_ : Aside0 (((((w145.setCell ⟨gb122, 0, none⟩ (.int .i64 ((rd_T55 l0_1 x59_2).f0.f0))).setCell ⟨gb122, 1, none⟩ (.int .i64 ((rd_T55 l0_1 x59_2).f0.f1))).setCell ⟨gb122, 2, none⟩ (.int .i64 ((rd_T55 l0_1 x59_2).f1.f0))).setCell ⟨gb122, 3, none⟩ (.int .i64 ((rd_T55 l0_1 x59_2).f1.f1))).heap[gb110]? = some (.cells #[.int .i64 a0_0, .slice (some ad121) l0_1.length c0_1] 58 (0, 0))) := ⟨by (with_reducible repeat (first | refine blk_drewN ?_ _ | refine blk_drew ?_ | refine blk_alloc ?_ _)); refine blk_far ?_ NB110_122.out _; (with_reducible repeat (first | refine blk_drewN ?_ _ | refine blk_drew ?_ | refine blk_alloc ?_ _)); refine blk_far ?_ NB110_122.out _; (with_reducible repeat (first | refine blk_drewN ?_ _ | refine blk_drew ?_ | refine blk_alloc ?_ _)); refine blk_far ?_ NB110_122.out _; (with_reducible repeat (first | refine blk_drewN ?_ _ | refine blk_drew ?_ | refine blk_alloc ?_ _)); refine blk_far ?_ NB110_122.out _; (with_reducible repeat (first | refine blk_drewN ?_ _ | refine blk_drew ?_ | refine blk_alloc ?_ _)); exact BK110.out⟩
             have n2_ : Aside0 (((((w145.setCell ⟨gb122, 0, none⟩ (.int .i64 ((rd_T55 l0_1 x59_2).f0.f0))).setCell ⟨gb122, 1, none⟩ (.int .i64 ((rd_T55 l0_1 x59_2).f0.f1))).setCell ⟨gb122, 2, none⟩ (.int .i64 ((rd_T55 l0_1 x59_2).f1.f0))).setCell ⟨gb122, 3, none⟩ (.int .i64 ((rd_T55 l0_1 x59_2).f1.f1))).heap[gb111]? = some (.cells #[.int .i64 a1_0, .int .i64 a1_1] 67 (0, 0))) := ⟨by (with_reducible repeat (first | refine blk_drewN ?_ _ | refine blk_drew ?_ | refine blk_alloc ?_ _)); refine blk_far ?_ NB111_122.out _; (with_reducible repeat (first | refine blk_drewN ?_ _ | refine blk_drew ?_ | refine blk_alloc ?_ _)); refine blk_far ?_ NB111_122.out _; (with_reducible repeat (first | refine blk_drewN ?_ _ | refine blk_drew ?_ | refine blk_alloc ?_ _)); refine blk_far ?_ NB111_122.out _; (with_reducible repeat (first | refine blk_drewN ?_ _ | refine blk_drew ?_ | refine blk_alloc ?_ _)); refine blk_far ?_ NB111_122.out _; (with_reducible repeat (first | refine blk_drewN ?_ _ | refine blk_drew ?_ | refine blk_alloc ?_ _)); exact BK111.out⟩
             have n3_ : Aside0 (((((w145.setCell ⟨gb122, 0, none⟩ (.int .i64 ((rd_T55 l0_1 x59_2).f0.f0))).setCell ⟨gb122, 1, none⟩ (.int .i64 ((rd_T55 l0_1 x59_2).f0.f1))).setCell ⟨gb122, 2, none⟩ (.int .i64 ((rd_T55 l0_1 x59_2).f1.f0))).setCell ⟨gb122, 3, none⟩ (.int .i64 ((rd_T55 l0_1 x59_2).f1.f1))).heap[gb112]? = some (.cells #[.int .i64 a2_0, .int .i64 a2_1] 67 (0, 0))) := ⟨by (with_reducible repeat (first | refine blk_drewN ?_ _ | refine blk_drew ?_ | refine blk_alloc ?_ _)); refine blk_far ?_ NB112_122.out _; (with_reducible repeat (first | refine blk_drewN ?_ _ | refine blk_drew ?_ | refine blk_alloc ?_ _)); refine blk_far ?_ NB112_122.out _; (with_reducible repeat (first | refine blk_drewN ?_ _ | refine blk_drew ?_ | refine blk_alloc ?_ _)); refine blk_far ?_ NB112_122.out _; (with_reducible repeat (first | refine blk_drewN ?_ _ | refine blk_drew ?_ | refine blk_alloc ?_ _)); refine blk_far ?_ NB112_122.out _; (with_reducible repeat (first | refine blk_drewN ?_ _ | refine blk_drew ?_ | refine blk_alloc ?_ _)); exact BK112.out⟩
             have n4_ : Aside0 (((((w145.setCell ⟨gb122, 0, none⟩ (.int .i64 ((rd_T55 l0_1 x59_2).f0.f0))).setCell ⟨gb122, 1, none⟩ (.int .i64 ((rd_T55 l0_1 x59_2).f0.f1))).setCell ⟨gb122, 2, none⟩ (.int .i64 ((rd_T55 l0_1 x59_2).f1.f0))).setCell ⟨gb122, 3, none⟩ (.int .i64 ((rd_T55 l0_1 x59_2).f1.f1))).heap[gb113]? = some (.cells #[.int .i64 0, .slice none 0 0] 58 (0, 0))) := ⟨by (with_reducible repeat (first | refine blk_drewN ?_ _ | refine blk_drew ?_ | refine blk_alloc ?_ _)); refine blk_far ?_ NB113_122.out _; (with_reducible repeat (first | refine blk_drewN ?_ _ | refine blk_drew ?_ | refine blk_alloc ?_ _)); refine blk_far ?_ NB113_122.out _; (with_reducible repeat (first | refine blk_drewN ?_ _ | refine blk_drew ?_ | refine blk_alloc ?_ _)); refine blk_far ?_ NB113_122.out _; (with_reducible repeat (first | refine blk_drewN ?_ _ | refine blk_drew ?_ | refine blk_alloc ?_ _)); refine blk_far ?_ NB113_122.out _; (with_reducible repeat (first | refine blk_drewN ?_ _ | refine blk_drew ?_ | refine blk_alloc ?_ _)); exact BK113.out⟩
             have n5_ : Aside0 (((((w145.setCell ⟨gb122, 0, none⟩ (.int .i64 ((rd_T55 l0_1 x59_2).f0.f0))).setCell ⟨gb122, 1, none⟩ (.int .i64 ((rd_T55 l0_1 x59_2).f0.f1))).setCell ⟨gb122, 2, none⟩ (.int .i64 ((rd_T55 l0_1 x59_2).f1.f0))).setCell ⟨gb122, 3, none⟩ (.int .i64 ((rd_T55 l0_1 x59_2).f1.f1))).heap[gb117]? = some (.cells #[.func (.func 43) #[] #[.pointer (some ⟨gb111, 0, none⟩)]] 89 (0, 0))) := ⟨by (with_reducible repeat (first | refine blk_drewN ?_ _ | refine blk_drew ?_ | refine blk_alloc ?_ _)); refine blk_far ?_ NB117_122.out _; (with_reducible repeat (first | refine blk_drewN ?_ _ | refine blk_drew ?_ | refine blk_alloc ?_ _)); refine blk_far ?_ NB117_122.out _; (with_reducible repeat (first | refine blk_drewN ?_ _ | refine blk_drew ?_ | refine blk_alloc ?_ _)); refine blk_far ?_ NB117_122.out _; (with_reducible repeat (first | refine blk_drewN ?_ _ | refine blk_drew ?_ | refine blk_alloc ?_ _)); refine blk_far ?_ NB117_122.out _; (with_reducible repeat (first | refine blk_drewN ?_ _ | refine blk_drew ?_ | refine blk_alloc ?_ _)); exact BK117.out⟩
             have n6_ : Aside0 (((((w145.setCell ⟨gb122, 0, none⟩ (.int .i64 ((rd_T55 l0_1 x59_2).f0.f0))).setCell ⟨gb122, 1, none⟩ (.int .i64 ((rd_T55 l0_1 x59_2).f0.f1))).setCell ⟨gb122, 2, none⟩ (.int .i64 ((rd_T55 l0_1 x59_2).f1.f0))).setCell ⟨gb122, 3, none⟩ (.int .i64 ((rd_T55 l0_1 x59_2).f1.f1))).heap[gb118]? = some (.cells #[.func (.func 44) #[] #[.pointer (some ⟨gb112, 0, none⟩)]] 89 (0, 0))) := ⟨by (with_reducible repeat (first | refine blk_drewN ?_ _ | refine blk_drew ?_ | refine blk_alloc ?_ _)); refine blk_far ?_ NB118_122.out _; (with_reducible repeat (first | refine blk_drewN ?_ _ | refine blk_drew ?_ | refine blk_alloc ?_ _)); refine blk_far ?_ NB118_122.out _; (with_reducible repeat (first | refine blk_drewN ?_ _ | refine blk_drew ?_ | refine blk_alloc ?_ _)); refine blk_far ?_ NB118_122.out _; (with_reducible repeat (first | refine blk_drewN ?_ _ | refine blk_drew ?_ | refine blk_alloc ?_ _)); refine blk_far ?_ NB118_122.out _; (with_reducible repeat (first | refine blk_drewN ?_ _ | refine blk_drew ?_ | refine blk_alloc ?_ _)); exact BK118.out⟩
             have n7_ : Aside0 (((((w145.setCell ⟨gb122, 0, none⟩ (.int .i64 ((rd_T55 l0_1 x59_2).f0.f0))).setCell ⟨gb122, 1, none⟩ (.int .i64 ((rd_T55 l0_1 x59_2).f0.f1))).setCell ⟨gb122, 2, none⟩ (.int .i64 ((rd_T55 l0_1 x59_2).f1.f0))).setCell ⟨gb122, 3, none⟩ (.int .i64 ((rd_T55 l0_1 x59_2).f1.f1))).heap[gb120]? = some (.cells #[.int .i64 t119, u121001] 58 (0, 0))) := ⟨by (with_reducible repeat (first | refine blk_drewN ?_ _ | refine blk_drew ?_ | refine blk_alloc ?_ _)); refine blk_far ?_ NB120_122.out _; (with_reducible repeat (first | refine blk_drewN ?_ _ | refine blk_drew ?_ | refine blk_alloc ?_ _)); refine blk_far ?_ NB120_122.out _; (with_reducible repeat (first | refine blk_drewN ?_ _ | refine blk_drew ?_ | refine blk_alloc ?_ _)); refine blk_far ?_ NB120_122.out _; (with_reducible repeat (first | refine blk_drewN ?_ _ | refine blk_drew ?_ | refine blk_alloc ?_ _)); refine blk_far ?_ NB120_122.out _; (with_reducible repeat (first | refine blk_drewN ?_ _ | refine blk_drew ?_ | refine blk_alloc ?_ _)); exact BK120.out⟩
             have n8_ : Aside0 (((((w145.setCell ⟨gb122, 0, none⟩ (.int .i64 ((rd_T55 l0_1 x59_2).f0.f0))).setCell ⟨gb122, 1, none⟩ (.int .i64 ((rd_T55 l0_1 x59_2).f0.f1))).setCell ⟨gb122, 2, none⟩ (.int .i64 ((rd_T55 l0_1 x59_2).f1.f0))).setCell ⟨gb122, 3, none⟩ (.int .i64 ((rd_T55 l0_1 x59_2).f1.f1))).heap[gb122]? = some (.cells #[.int .i64 ((rd_T55 l0_1 x59_2).f0.f0), .int .i64 ((rd_T55 l0_1 x59_2).f0.f1), .int .i64 ((rd_T55 l0_1 x59_2).f1.f0), .int .i64 ((rd_T55 l0_1 x59_2).f1.f1)] 55 (0, 0))) := ⟨by (with_reducible repeat (first | refine blk_drewN ?_ _ | refine blk_drew ?_ | refine blk_alloc ?_ _)); refine blk_put (cs := #[.int .i64 ((rd_T55 l0_1 x59_2).f0.f0), .int .i64 ((rd_T55 l0_1 x59_2).f0.f1), .int .i64 ((rd_T55 l0_1 x59_2).f1.f0), .int .i64 0]) ?_ 3 _ rfl; (with_reducible repeat (first | refine blk_drewN ?_ _ | refine blk_drew ?_ | refine blk_alloc ?_ _)); refine blk_put (cs := #[.int .i64 ((rd_T55 l0_1 x59_2).f0.f0), .int .i64 ((rd_T55 l0_1 x59_2).f0.f1), .int .i64 0, .int .i64 0]) ?_ 2 _ rfl; (with_reducible repeat (first | refine blk_drewN ?_ _ | refine blk_drew ?_ | refine blk_alloc ?_ _)); refine blk_put (cs := #[.int .i64 ((rd_T55 l0_1 x59_2).f0.f0), .int .i64 0, .int .i64 0, .int .i64 0]) ?_ 1 _ rfl; (with_reducible repeat (first | refine blk_drewN ?_ _ | refine blk_drew ?_ | refine blk_alloc ?_ _)); refine blk_put (cs := #[.int .i64 0, .int .i64 0, .int .i64 0, .int .i64 0]) ?_ 0 _ rfl; (with_reducible repeat (first | refine blk_drewN ?_ _ | refine blk_drew ?_ | refine blk_alloc ?_ _)); exact BK122.out⟩
             have n9_ : Aside0 (Below w.heap.size w ((((w145.setCell ⟨gb122, 0, none⟩ (.int .i64 ((rd_T55 l0_1 x59_2).f0.f0))).setCell ⟨gb122, 1, none⟩ (.int .i64 ((rd_T55 l0_1 x59_2).f0.f1))).setCell ⟨gb122, 2, none⟩ (.int .i64 ((rd_T55 l0_1 x59_2).f1.f0))).setCell ⟨gb122, 3, none⟩ (.int .i64 ((rd_T55 l0_1 x59_2).f1.f1)))) := ⟨bX HB⟩
             (try clear HO_121001)
             (try clear BK110)
             (try clear BK111)
             (try clear BK112)
             (try clear BK113)
             (try clear BK117)
             (try clear BK118)
             (try clear BK120)
             (try clear BK122)
             (try clear HB)
             generalize ((((w145.setCell ⟨gb122, 0, none⟩ (.int .i64 ((rd_T55 l0_1 x59_2).f0.f0))).setCell ⟨gb122, 1, none⟩ (.int .i64 ((rd_T55 l0_1 x59_2).f0.f1))).setCell ⟨gb122, 2, none⟩ (.int .i64 ((rd_T55 l0_1 x59_2).f1.f0))).setCell ⟨gb122, 3, none⟩ (.int .i64 ((rd_T55 l0_1 x59_2).f1.f1))) = w154 at n0_ n1_ n2_ n3_ n4_ n5_ n6_ n7_ n8_ n9_ ⊢
             have HO_121001 := n0_
             have BK110 := n1_
             have BK111 := n2_
             have BK112 := n3_
             have BK113 := n4_
             have BK117 := n5_
             have BK118 := n6_
             have BK120 := n7_
             have BK122 := n8_
             have HB := n9_
             clear n0_ n1_ n2_ n3_ n4_ n5_ n6_ n7_ n8_ n9_
             replace HO_121001 := Aside0.mk (Kd.R_drew HO_121001.out)
             replace BK110 := Aside0.mk (blk_drew BK110.out)
             replace BK111 := Aside0.mk (blk_drew BK111.out)
             replace BK112 := Aside0.mk (blk_drew BK112.out)
             replace BK113 := Aside0.mk (blk_drew BK113.out)
             replace BK117 := Aside0.mk (blk_drew BK117.out)
             replace BK118 := Aside0.mk (blk_drew BK118.out)
             replace BK120 := Aside0.mk (blk_drew BK120.out)
             replace BK122 := Aside0.mk (blk_drew BK122.out)
             replace HB := Aside0.mk (below_drew1 HB.out)
             refine start_ (n := 11) (S := fun w' => w'.cell? ⟨gb111, 0, none⟩ = some (.int .i64 a1_0) ∧ w'.cell? ⟨gb111, 1, none⟩ = some (.int .i64 a1_1) ∧ w'.cell? ⟨gb122, 0, none⟩ = some (.int .i64 ((rd_T55 l0_1 x59_2).f0.f0)) ∧ w'.cell? ⟨gb122, 1, none⟩ = some (.int .i64 ((rd_T55 l0_1 x59_2).f0.f1)) ∧ w'.cell? ⟨gb122, 2, none⟩ = some (.int .i64 ((rd_T55 l0_1 x59_2).f1.f0)) ∧ w'.cell? ⟨gb122, 3, none⟩ = some (.int .i64 ((rd_T55 l0_1 x59_2).f1.f1)) ∧ w'.cell? ⟨gb112, 0, none⟩ = some (.int .i64 a2_0) ∧ w'.cell? ⟨gb112, 1, none⟩ = some (.int .i64 a2_1)) (ds := []) #[false, false, false, false, false, false, false, false, false, false, false] (by kernel_rfl) rfl rfl ⟨bc BK111 0, bc BK111 1, bc BK122 0, bc BK122 1, bc BK122 2, bc BK122 3, bc BK112 0, bc BK112 1⟩ (fun hHeld => ?_); refine with_tabW z6_.tab15 z6_.bits15 (fun HT_ HW_ => ?_)
             generalize w154.drew = w155 at HO_121001 BK110 BK111 BK112 BK113 BK117 BK118 BK120 BK122 HB hHeld ⊢
             refine pA 1 64 HT_ ?_
             refine pA 5 68 HT_ ?_
             refine pA 0 63 HT_ ?_
             refine tA 2 65 HT_ HW_ hHeld ?_
             refine pA 4 67 HT_ ?_
             refine tA 6 69 HT_ HW_ hHeld ?_
             refine join_ (σ := Nat) 1 #[true, true, true, true, true, true, true, true, true, true, false] (fun s_ => [(66, .agg #[.int .i64 t123, .int .i64 t124]), (70, .agg #[.int .i64 t125, .int .i64 t126]), (15, .pointer (some ⟨s_, 0, none⟩)), (71, .agg #[.int .i64 t123, .int .i64 t124, .int .i64 t125, .int .i64 t126])]) (fun s_ w' => (w'.cell? ⟨gb111, 0, none⟩ = some (.int .i64 a1_0) ∧ w'.cell? ⟨gb111, 1, none⟩ = some (.int .i64 a1_1) ∧ w'.cell? ⟨gb122, 0, none⟩ = some (.int .i64 ((rd_T55 l0_1 x59_2).f0.f0)) ∧ w'.cell? ⟨gb122, 1, none⟩ = some (.int .i64 ((rd_T55 l0_1 x59_2).f0.f1)) ∧ w'.cell? ⟨gb122, 2, none⟩ = some (.int .i64 ((rd_T55 l0_1 x59_2).f1.f0)) ∧ w'.cell? ⟨gb122, 3, none⟩ = some (.int .i64 ((rd_T55 l0_1 x59_2).f1.f1)) ∧ w'.cell? ⟨gb112, 0, none⟩ = some (.int .i64 a2_0) ∧ w'.cell? ⟨gb112, 1, none⟩ = some (.int .i64 a2_1)) ∧ (Kd.R k55 55 w' w.heap.size (fun k_ => k_ ≠ gb122 ∧ k_ ≠ s_) u121001 x121001_2) ∧ (w'.heap[gb110]? = some (.cells #[.int .i64 a0_0, .slice (some ad121) l0_1.length c0_1] 58 (0, 0))) ∧ (w'.heap[gb111]? = some (.cells #[.int .i64 a1_0, .int .i64 a1_1] 67 (0, 0))) ∧ (w'.heap[gb112]? = some (.cells #[.int .i64 a2_0, .int .i64 a2_1] 67 (0, 0))) ∧ (w'.heap[gb113]? = some (.cells #[.int .i64 0, .slice none 0 0] 58 (0, 0))) ∧ (w'.heap[gb117]? = some (.cells #[.func (.func 43) #[] #[.pointer (some ⟨gb111, 0, none⟩)]] 89 (0, 0))) ∧ (w'.heap[gb118]? = some (.cells #[.func (.func 44) #[] #[.pointer (some ⟨gb112, 0, none⟩)]] 89 (0, 0))) ∧ (w'.heap[gb120]? = some (.cells #[.int .i64 t119, u121001] 58 (0, 0))) ∧ (w'.heap[gb122]? = some (.cells #[.int .i64 ((rd_T55 l0_1 x59_2).f0.f0), .int .i64 ((rd_T55 l0_1 x59_2).f0.f1), .int .i64 ((rd_T55 l0_1 x59_2).f1.f0), .int .i64 ((rd_T55 l0_1 x59_2).f1.f1)] 55 (0, 0))) ∧ (w'.heap[s_]? = some (.cells #[.int .i64 0, .int .i64 0, .int .i64 0, .int .i64 0] 55 (0, 0))) ∧ (w.heap.size ≤ s_) ∧ (w.heap.size ≤ s_) ∧ (gb110 ≠ s_) ∧ (s_ ≠ gb110) ∧ (gb111 ≠ s_) ∧ (s_ ≠ gb111) ∧ (gb112 ≠ s_) ∧ (s_ ≠ gb112) ∧ (gb113 ≠ s_) ∧ (s_ ≠ gb113) ∧ (gb117 ≠ s_) ∧ (s_ ≠ gb117) ∧ (gb118 ≠ s_) ∧ (s_ ≠ gb118) ∧ (gb120 ≠ s_) ∧ (s_ ≠ gb120) ∧ (gb122 ≠ s_) ∧ (s_ ≠ gb122) ∧ (Below w.heap.size w w')) ?_ ?_
             rotate_left
             ·intro hCont
              refine two_ (i := 3) (j := 9) (Ni := some 66) (Nj := some 15) #[true, true, true, true, true, true, true, false, false, false, false] #[true, true, true, false, true, true, true, false, false, true, false] rfl rfl rfl rfl (two_of HT_.out (by kernel_rfl)) (by decide) (by decide) (fun K hK => ?_) (fun K hK => ?_)
              ·skip
               refine goesW_ 45 #[.pointer (some ⟨gb117, 0, none⟩), .pointer (some ⟨gb118, 0, none⟩)] enters_wet3 #[.agg #[.int .i64 ((rd_T55 l0_1 x59_2).f0.f0), .int .i64 ((rd_T55 l0_1 x59_2).f0.f1)], .pointer (some ⟨gb117, 0, none⟩), .pointer (some ⟨gb118, 0, none⟩)] (by rfl) rfl rfl (by rfl) #[.agg #[.int .i64 ((rd_T55 l0_1 x59_2).f0.f0), .int .i64 ((rd_T55 l0_1 x59_2).f0.f1)]] (by (try simp only [List.map_toArray, List.map_cons, List.map_nil]); first | done | rfl | (simp only [List.length_drop, List.length_take]; rfl)) (by rfl) ?_
               with_reducible refine (z37_.calls ((rd_T55 l0_1 x59_2).f0.f0) ((rd_T55 l0_1 x59_2).f0.f1) a1_0 a1_1 a2_0 a2_1 t123 t124 _ gb111 gb112 gb117 gb118 (kX BK111.out) (kX BK112.out) (kX BK117.out) (kX BK118.out) A112.out).mono ?_
               rintro e w156 ⟨rfl, hb⟩
               refine ⟨_, rfl, ?_⟩
               replace HO_121001 := rB HO_121001 hb
               replace BK110 := kB BK110 hb
               replace BK111 := kB BK111 hb
               replace BK112 := kB BK112 hb
               replace BK113 := kB BK113 hb
               replace BK117 := kB BK117 hb
               replace BK118 := kB BK118 hb
               replace BK120 := kB BK120 hb
               replace BK122 := kB BK122 hb
               replace HB := bS HB hb
               refine hK.out _ _ ⟨bc BK111 0, bc BK111 1, bc BK122 0, bc BK122 1, bc BK122 2, bc BK122 3, bc BK112 0, bc BK112 1⟩ (fun hHeld => ?_)
               clear hK K
               refine normA (N := some 66) ?_
               refine two_ (i := 7) (j := 9) (Ni := some 70) (Nj := some 15) #[true, true, true, true, true, true, true, true, false, false, false] #[true, true, true, true, true, true, true, false, false, true, false] rfl rfl rfl rfl (two_of HT_.out (by kernel_rfl)) (by decide) (by decide) (fun K hK => ?_) (fun K hK => ?_)
               ·skip
                refine goesW_ 45 #[.pointer (some ⟨gb117, 0, none⟩), .pointer (some ⟨gb118, 0, none⟩)] enters_wet3 #[.agg #[.int .i64 ((rd_T55 l0_1 x59_2).f1.f0), .int .i64 ((rd_T55 l0_1 x59_2).f1.f1)], .pointer (some ⟨gb117, 0, none⟩), .pointer (some ⟨gb118, 0, none⟩)] (by rfl) rfl rfl (by rfl) #[.agg #[.int .i64 ((rd_T55 l0_1 x59_2).f1.f0), .int .i64 ((rd_T55 l0_1 x59_2).f1.f1)]] (by (try simp only [List.map_toArray, List.map_cons, List.map_nil]); first | done | rfl | (simp only [List.length_drop, List.length_take]; rfl)) (by rfl) ?_
                with_reducible refine (z37_.calls ((rd_T55 l0_1 x59_2).f1.f0) ((rd_T55 l0_1 x59_2).f1.f1) a1_0 a1_1 a2_0 a2_1 t125 t126 _ gb111 gb112 gb117 gb118 (kX BK111.out) (kX BK112.out) (kX BK117.out) (kX BK118.out) A113.out).mono ?_
                rintro e w157 ⟨rfl, hb⟩
                refine ⟨_, rfl, ?_⟩
                replace HO_121001 := rB HO_121001 hb
                replace BK110 := kB BK110 hb
                replace BK111 := kB BK111 hb
                replace BK112 := kB BK112 hb
                replace BK113 := kB BK113 hb
                replace BK117 := kB BK117 hb
                replace BK118 := kB BK118 hb
                replace BK120 := kB BK120 hb
                replace BK122 := kB BK122 hb
                replace HB := bS HB hb
                refine hK.out _ _ ⟨bc BK111 0, bc BK111 1, bc BK122 0, bc BK122 1, bc BK122 2, bc BK122 3, bc BK112 0, bc BK112 1⟩ (fun hHeld => ?_)
                clear hK K
                refine normA (N := some 70) ?_
                refine pA 8 71 HT_ ?_
                refine oneA (i := 9) (N := some 15) HT_ (fun K hK => ?_)
                refine box_step ?hg (N := 15) ?hd (cs := #[.int .i64 0, .int .i64 0, .int .i64 0, .int .i64 0]) (t := 55) ?hr ?_; (case hd => rfl); (case hg => rfl); (case hr => first | (go_simp; done) | (go_simp; rfl))
                intro gb127 hg w158 hbox hb
                have BK127 := Aside0.mk (hbox)
                have GW127 := bG HB hg
                have GE127 := bG HB hg
                have NB110_127 := kN BK110 hg
                have NB127_110 := kM BK110 hg
                have NB111_127 := kN BK111 hg
                have NB127_111 := kM BK111 hg
                have NB112_127 := kN BK112 hg
                have NB127_112 := kM BK112 hg
                have NB113_127 := kN BK113 hg
                have NB127_113 := kM BK113 hg
                have NB117_127 := kN BK117 hg
                have NB127_117 := kM BK117 hg
                have NB118_127 := kN BK118 hg
                have NB127_118 := kM BK118 hg
                have NB120_127 := kN BK120 hg
                have NB127_120 := kM BK120 hg
                have NB122_127 := kN BK122 hg
                have NB127_122 := kM BK122 hg
                replace HO_121001 := Aside0.mk (Kd.R_below (Kd.R_elderB (rX HO_121001.out) gb127 (Nat.le_of_eq hg.symm)) hb)
                replace BK110 := kB BK110 hb
                replace BK111 := kB BK111 hb
                replace BK112 := kB BK112 hb
                replace BK113 := kB BK113 hb
                replace BK117 := kB BK117 hb
                replace BK118 := kB BK118 hb
                replace BK120 := kB BK120 hb
                replace BK122 := kB BK122 hb
                replace HB := bS HB hb
                clear hb hbox hg
                refine hK.out _ _ ⟨bc BK111 0, bc BK111 1, bc BK122 0, bc BK122 1, bc BK122 2, bc BK122 3, bc BK112 0, bc BK112 1⟩ (fun hHeld => ?_)
                clear hK K
                refine normA (N := some 15) ?_
                exact norm_ (by simp only [putAll, Act.put, List.setIfInBounds_toArray, List.set_cons_zero, List.set_cons_succ]) (hCont (gb127) _ ⟨hHeld, (rX HO_121001.out), (kX BK110.out), (kX BK111.out), (kX BK112.out), (kX BK113.out), (kX BK117.out), (kX BK118.out), (kX BK120.out), (kX BK122.out), (kX BK127.out), GW127.out, GE127.out, NB110_127.out, NB127_110.out, NB111_127.out, NB127_111.out, NB112_127.out, NB127_112.out, NB113_127.out, NB127_113.out, NB117_127.out, NB127_117.out, NB118_127.out, NB127_118.out, NB120_127.out, NB127_120.out, NB122_127.out, NB127_122.out, (bX HB)⟩)
               ·skip
                refine box_step ?hg (N := 15) ?hd (cs := #[.int .i64 0, .int .i64 0, .int .i64 0, .int .i64 0]) (t := 55) ?hr ?_; (case hd => rfl); (case hg => rfl); (case hr => first | (go_simp; done) | (go_simp; rfl))
                intro gb127 hg w157 hbox hb
                have BK127 := Aside0.mk (hbox)
                have GW127 := bG HB hg
                have GE127 := bG HB hg
                have NB110_127 := kN BK110 hg
                have NB127_110 := kM BK110 hg
                have NB111_127 := kN BK111 hg
                have NB127_111 := kM BK111 hg
                have NB112_127 := kN BK112 hg
                have NB127_112 := kM BK112 hg
                have NB113_127 := kN BK113 hg
                have NB127_113 := kM BK113 hg
                have NB117_127 := kN BK117 hg
                have NB127_117 := kM BK117 hg
                have NB118_127 := kN BK118 hg
                have NB127_118 := kM BK118 hg
                have NB120_127 := kN BK120 hg
                have NB127_120 := kM BK120 hg
                have NB122_127 := kN BK122 hg
                have NB127_122 := kM BK122 hg
                replace HO_121001 := Aside0.mk (Kd.R_below (Kd.R_elderB (rX HO_121001.out) gb127 (Nat.le_of_eq hg.symm)) hb)
                replace BK110 := kB BK110 hb
                replace BK111 := kB BK111 hb
                replace BK112 := kB BK112 hb
                replace BK113 := kB BK113 hb
                replace BK117 := kB BK117 hb
                replace BK118 := kB BK118 hb
                replace BK120 := kB BK120 hb
                replace BK122 := kB BK122 hb
                replace HB := bS HB hb
                clear hb hbox hg
                refine hK.out _ _ ⟨bc BK111 0, bc BK111 1, bc BK122 0, bc BK122 1, bc BK122 2, bc BK122 3, bc BK112 0, bc BK112 1⟩ (fun hHeld => ?_)
                clear hK K
                refine normA (N := some 15) ?_
                refine oneA (i := 7) (N := some 70) HT_ (fun K hK => ?_)
                refine goesW_ 45 #[.pointer (some ⟨gb117, 0, none⟩), .pointer (some ⟨gb118, 0, none⟩)] enters_wet3 #[.agg #[.int .i64 ((rd_T55 l0_1 x59_2).f1.f0), .int .i64 ((rd_T55 l0_1 x59_2).f1.f1)], .pointer (some ⟨gb117, 0, none⟩), .pointer (some ⟨gb118, 0, none⟩)] (by rfl) rfl rfl (by rfl) #[.agg #[.int .i64 ((rd_T55 l0_1 x59_2).f1.f0), .int .i64 ((rd_T55 l0_1 x59_2).f1.f1)]] (by (try simp only [List.map_toArray, List.map_cons, List.map_nil]); first | done | rfl | (simp only [List.length_drop, List.length_take]; rfl)) (by rfl) ?_
                with_reducible refine (z37_.calls ((rd_T55 l0_1 x59_2).f1.f0) ((rd_T55 l0_1 x59_2).f1.f1) a1_0 a1_1 a2_0 a2_1 t125 t126 _ gb111 gb112 gb117 gb118 (kX BK111.out) (kX BK112.out) (kX BK117.out) (kX BK118.out) A113.out).mono ?_
                rintro e w158 ⟨rfl, hb⟩
                refine ⟨_, rfl, ?_⟩
                replace HO_121001 := rB HO_121001 hb
                replace BK110 := kB BK110 hb
                replace BK111 := kB BK111 hb
                replace BK112 := kB BK112 hb
                replace BK113 := kB BK113 hb
                replace BK117 := kB BK117 hb
                replace BK118 := kB BK118 hb
                replace BK120 := kB BK120 hb
                replace BK122 := kB BK122 hb
                replace BK127 := kB BK127 hb
                replace HB := bS HB hb
                refine hK.out _ _ ⟨bc BK111 0, bc BK111 1, bc BK122 0, bc BK122 1, bc BK122 2, bc BK122 3, bc BK112 0, bc BK112 1⟩ (fun hHeld => ?_)
                clear hK K
                refine normA (N := some 70) ?_
                refine pA 8 71 HT_ ?_
                exact norm_ (by simp only [putAll, Act.put, List.setIfInBounds_toArray, List.set_cons_zero, List.set_cons_succ]) (hCont (gb127) _ ⟨hHeld, (rX HO_121001.out), (kX BK110.out), (kX BK111.out), (kX BK112.out), (kX BK113.out), (kX BK117.out), (kX BK118.out), (kX BK120.out), (kX BK122.out), (kX BK127.out), GW127.out, GE127.out, NB110_127.out, NB127_110.out, NB111_127.out, NB127_111.out, NB112_127.out, NB127_112.out, NB113_127.out, NB127_113.out, NB117_127.out, NB127_117.out, NB118_127.out, NB127_118.out, NB120_127.out, NB127_120.out, NB122_127.out, NB127_122.out, (bX HB)⟩)
              ·skip
               refine box_step ?hg (N := 15) ?hd (cs := #[.int .i64 0, .int .i64 0, .int .i64 0, .int .i64 0]) (t := 55) ?hr ?_; (case hd => rfl); (case hg => rfl); (case hr => first | (go_simp; done) | (go_simp; rfl))
               intro gb127 hg w156 hbox hb
               have BK127 := Aside0.mk (hbox)
               have GW127 := bG HB hg
               have GE127 := bG HB hg
               have NB110_127 := kN BK110 hg
               have NB127_110 := kM BK110 hg
               have NB111_127 := kN BK111 hg
               have NB127_111 := kM BK111 hg
               have NB112_127 := kN BK112 hg
               have NB127_112 := kM BK112 hg
               have NB113_127 := kN BK113 hg
               have NB127_113 := kM BK113 hg
               have NB117_127 := kN BK117 hg
               have NB127_117 := kM BK117 hg
               have NB118_127 := kN BK118 hg
               have NB127_118 := kM BK118 hg
               have NB120_127 := kN BK120 hg
               have NB127_120 := kM BK120 hg
               have NB122_127 := kN BK122 hg
               have NB127_122 := kM BK122 hg
               replace HO_121001 := Aside0.mk (Kd.R_below (Kd.R_elderB (rX HO_121001.out) gb127 (Nat.le_of_eq hg.symm)) hb)
               replace BK110 := kB BK110 hb
               replace BK111 := kB BK111 hb
               replace BK112 := kB BK112 hb
               replace BK113 := kB BK113 hb
               replace BK117 := kB BK117 hb
               replace BK118 := kB BK118 hb
               replace BK120 := kB BK120 hb
               replace BK122 := kB BK122 hb
               replace HB := bS HB hb
               clear hb hbox hg
               refine hK.out _ _ ⟨bc BK111 0, bc BK111 1, bc BK122 0, bc BK122 1, bc BK122 2, bc BK122 3, bc BK112 0, bc BK112 1⟩ (fun hHeld => ?_)
               clear hK K
               refine normA (N := some 15) ?_
               refine oneA (i := 3) (N := some 66) HT_ (fun K hK => ?_)
               refine goesW_ 45 #[.pointer (some ⟨gb117, 0, none⟩), .pointer (some ⟨gb118, 0, none⟩)] enters_wet3 #[.agg #[.int .i64 ((rd_T55 l0_1 x59_2).f0.f0), .int .i64 ((rd_T55 l0_1 x59_2).f0.f1)], .pointer (some ⟨gb117, 0, none⟩), .pointer (some ⟨gb118, 0, none⟩)] (by rfl) rfl rfl (by rfl) #[.agg #[.int .i64 ((rd_T55 l0_1 x59_2).f0.f0), .int .i64 ((rd_T55 l0_1 x59_2).f0.f1)]] (by (try simp only [List.map_toArray, List.map_cons, List.map_nil]); first | done | rfl | (simp only [List.length_drop, List.length_take]; rfl)) (by rfl) ?_
               with_reducible refine (z37_.calls ((rd_T55 l0_1 x59_2).f0.f0) ((rd_T55 l0_1 x59_2).f0.f1) a1_0 a1_1 a2_0 a2_1 t123 t124 _ gb111 gb112 gb117 gb118 (kX BK111.out) (kX BK112.out) (kX BK117.out) (kX BK118.out) A112.out).mono ?_
               rintro e w157 ⟨rfl, hb⟩
               refine ⟨_, rfl, ?_⟩
               replace HO_121001 := rB HO_121001 hb
               replace BK110 := kB BK110 hb
               replace BK111 := kB BK111 hb
               replace BK112 := kB BK112 hb
               replace BK113 := kB BK113 hb
               replace BK117 := kB BK117 hb
               replace BK118 := kB BK118 hb
               replace BK120 := kB BK120 hb
               replace BK122 := kB BK122 hb
               replace BK127 := kB BK127 hb
               replace HB := bS HB hb
               refine hK.out _ _ ⟨bc BK111 0, bc BK111 1, bc BK122 0, bc BK122 1, bc BK122 2, bc BK122 3, bc BK112 0, bc BK112 1⟩ (fun hHeld => ?_)
               clear hK K
               refine normA (N := some 66) ?_
               refine oneA (i := 7) (N := some 70) HT_ (fun K hK => ?_)
               refine goesW_ 45 #[.pointer (some ⟨gb117, 0, none⟩), .pointer (some ⟨gb118, 0, none⟩)] enters_wet3 #[.agg #[.int .i64 ((rd_T55 l0_1 x59_2).f1.f0), .int .i64 ((rd_T55 l0_1 x59_2).f1.f1)], .pointer (some ⟨gb117, 0, none⟩), .pointer (some ⟨gb118, 0, none⟩)] (by rfl) rfl rfl (by rfl) #[.agg #[.int .i64 ((rd_T55 l0_1 x59_2).f1.f0), .int .i64 ((rd_T55 l0_1 x59_2).f1.f1)]] (by (try simp only [List.map_toArray, List.map_cons, List.map_nil]); first | done | rfl | (simp only [List.length_drop, List.length_take]; rfl)) (by rfl) ?_
               with_reducible refine (z37_.calls ((rd_T55 l0_1 x59_2).f1.f0) ((rd_T55 l0_1 x59_2).f1.f1) a1_0 a1_1 a2_0 a2_1 t125 t126 _ gb111 gb112 gb117 gb118 (kX BK111.out) (kX BK112.out) (kX BK117.out) (kX BK118.out) A113.out).mono ?_
               rintro e w158 ⟨rfl, hb⟩
               refine ⟨_, rfl, ?_⟩
               replace HO_121001 := rB HO_121001 hb
               replace BK110 := kB BK110 hb
               replace BK111 := kB BK111 hb
               replace BK112 := kB BK112 hb
               replace BK113 := kB BK113 hb
               replace BK117 := kB BK117 hb
               replace BK118 := kB BK118 hb
               replace BK120 := kB BK120 hb
               replace BK122 := kB BK122 hb
               replace BK127 := kB BK127 hb
               replace HB := bS HB hb
               refine hK.out _ _ ⟨bc BK111 0, bc BK111 1, bc BK122 0, bc BK122 1, bc BK122 2, bc BK122 3, bc BK112 0, bc BK112 1⟩ (fun hHeld => ?_)
               clear hK K
               refine normA (N := some 70) ?_
               refine pA 8 71 HT_ ?_
               exact norm_ (by simp only [putAll, Act.put, List.setIfInBounds_toArray, List.set_cons_zero, List.set_cons_succ]) (hCont (gb127) _ ⟨hHeld, (rX HO_121001.out), (kX BK110.out), (kX BK111.out), (kX BK112.out), (kX BK113.out), (kX BK117.out), (kX BK118.out), (kX BK120.out), (kX BK122.out), (kX BK127.out), GW127.out, GE127.out, NB110_127.out, NB127_110.out, NB111_127.out, NB127_111.out, NB112_127.out, NB127_112.out, NB113_127.out, NB127_113.out, NB117_127.out, NB127_117.out, NB118_127.out, NB127_118.out, NB120_127.out, NB127_120.out, NB122_127.out, NB127_122.out, (bX HB)⟩)
             rintro gb127 w159 ⟨hS_, h0_, h1_, h2_, h3_, h4_, h5_, h6_, h7_, h8_, h9_, h10_, h11_, h12_, h13_, h14_, h15_, h16_, h17_, h18_, h19_, h20_, h21_, h22_, h23_, h24_, h25_, h26_, h27_, h28_⟩
             have n0_ : Aside0 (Kd.R k55 55 w159 w.heap.size (fun k_ => k_ ≠ gb122 ∧ k_ ≠ gb127) u121001 x121001_2) := ⟨h0_⟩
             have n1_ : Aside0 (w159.heap[gb110]? = some (.cells #[.int .i64 a0_0, .slice (some ad121) l0_1.length c0_1] 58 (0, 0))) := ⟨h1_⟩
             have n2_ : Aside0 (w159.heap[gb111]? = some (.cells #[.int .i64 a1_0, .int .i64 a1_1] 67 (0, 0))) := ⟨h2_⟩
             have n3_ : Aside0 (w159.heap[gb112]? = some (.cells #[.int .i64 a2_0, .int .i64 a2_1] 67 (0, 0))) := ⟨h3_⟩
             have n4_ : Aside0 (w159.heap[gb113]? = some (.cells #[.int .i64 0, .slice none 0 0] 58 (0, 0))) := ⟨h4_⟩
             have n5_ : Aside0 (w159.heap[gb117]? = some (.cells #[.func (.func 43) #[] #[.pointer (some ⟨gb111, 0, none⟩)]] 89 (0, 0))) := ⟨h5_⟩
             have n6_ : Aside0 (w159.heap[gb118]? = some (.cells #[.func (.func 44) #[] #[.pointer (some ⟨gb112, 0, none⟩)]] 89 (0, 0))) := ⟨h6_⟩
             have n7_ : Aside0 (w159.heap[gb120]? = some (.cells #[.int .i64 t119, u121001] 58 (0, 0))) := ⟨h7_⟩
             have n8_ : Aside0 (w159.heap[gb122]? = some (.cells #[.int .i64 ((rd_T55 l0_1 x59_2).f0.f0), .int .i64 ((rd_T55 l0_1 x59_2).f0.f1), .int .i64 ((rd_T55 l0_1 x59_2).f1.f0), .int .i64 ((rd_T55 l0_1 x59_2).f1.f1)] 55 (0, 0))) := ⟨h8_⟩
             have n9_ : Aside0 (w159.heap[gb127]? = some (.cells #[.int .i64 0, .int .i64 0, .int .i64 0, .int .i64 0] 55 (0, 0))) := ⟨h9_⟩
             have n10_ : Aside0 (w.heap.size ≤ gb127) := ⟨h10_⟩
             have n11_ : Aside0 (w.heap.size ≤ gb127) := ⟨h11_⟩
             have n12_ : Aside0 (gb110 ≠ gb127) := ⟨h12_⟩
             have n13_ : Aside0 (gb127 ≠ gb110) := ⟨h13_⟩
             have n14_ : Aside0 (gb111 ≠ gb127) := ⟨h14_⟩
             have n15_ : Aside0 (gb127 ≠ gb111) := ⟨h15_⟩
             have n16_ : Aside0 (gb112 ≠ gb127) := ⟨h16_⟩
             have n17_ : Aside0 (gb127 ≠ gb112) := ⟨h17_⟩
             have n18_ : Aside0 (gb113 ≠ gb127) := ⟨h18_⟩
             have n19_ : Aside0 (gb127 ≠ gb113) := ⟨h19_⟩
             have n20_ : Aside0 (gb117 ≠ gb127) := ⟨h20_⟩
             have n21_ : Aside0 (gb127 ≠ gb117) := ⟨h21_⟩
             have n22_ : Aside0 (gb118 ≠ gb127) := ⟨h22_⟩
             have n23_ : Aside0 (gb127 ≠ gb118) := ⟨h23_⟩
             have n24_ : Aside0 (gb120 ≠ gb127) := ⟨h24_⟩
             have n25_ : Aside0 (gb127 ≠ gb120) := ⟨h25_⟩
             have n26_ : Aside0 (gb122 ≠ gb127) := ⟨h26_⟩
             have n27_ : Aside0 (gb127 ≠ gb122) := ⟨h27_⟩
             have n28_ : Aside0 (Below w.heap.size w w159) := ⟨h28_⟩
             clear HO_121001
             clear BK110
             clear BK111
             clear BK112
             clear BK113
             clear BK117
             clear BK118
             clear BK120
             clear BK122
             clear HB
             clear h0_ h1_ h2_ h3_ h4_ h5_ h6_ h7_ h8_ h9_ h10_ h11_ h12_ h13_ h14_ h15_ h16_ h17_ h18_ h19_ h20_ h21_ h22_ h23_ h24_ h25_ h26_ h27_ h28_
             have HO_121001 := n0_
             have BK110 := n1_
             have BK111 := n2_
             have BK112 := n3_
             have BK113 := n4_
             have BK117 := n5_
             have BK118 := n6_
             have BK120 := n7_
             have BK122 := n8_
             have BK127 := n9_
             have GW127 := n10_
             have GE127 := n11_
             have NB110_127 := n12_
             have NB127_110 := n13_
             have NB111_127 := n14_
             have NB127_111 := n15_
             have NB112_127 := n16_
             have NB127_112 := n17_
             have NB113_127 := n18_
             have NB127_113 := n19_
             have NB117_127 := n20_
             have NB127_117 := n21_
             have NB118_127 := n22_
             have NB127_118 := n23_
             have NB120_127 := n24_
             have NB127_120 := n25_
             have NB122_127 := n26_
             have NB127_122 := n27_
             have HB := n28_
             clear n0_ n1_ n2_ n3_ n4_ n5_ n6_ n7_ n8_ n9_ n10_ n11_ n12_ n13_ n14_ n15_ n16_ n17_ n18_ n19_ n20_ n21_ n22_ n23_ n24_ n25_ n26_ n27_ n28_
             have hHeld : w159.cell? ⟨gb111, 0, none⟩ = some (.int .i64 a1_0) ∧ w159.cell? ⟨gb111, 1, none⟩ = some (.int .i64 a1_1) ∧ w159.cell? ⟨gb122, 0, none⟩ = some (.int .i64 ((rd_T55 l0_1 x59_2).f0.f0)) ∧ w159.cell? ⟨gb122, 1, none⟩ = some (.int .i64 ((rd_T55 l0_1 x59_2).f0.f1)) ∧ w159.cell? ⟨gb122, 2, none⟩ = some (.int .i64 ((rd_T55 l0_1 x59_2).f1.f0)) ∧ w159.cell? ⟨gb122, 3, none⟩ = some (.int .i64 ((rd_T55 l0_1 x59_2).f1.f1)) ∧ w159.cell? ⟨gb112, 0, none⟩ = some (.int .i64 a2_0) ∧ w159.cell? ⟨gb112, 1, none⟩ = some (.int .i64 a2_1) := hS_
             refine norm_ (a' := ?_) ?_ ?_
             rotate_left
             ·simp only [putAll, Act.put, List.setIfInBounds_toArray, List.set_cons_zero, List.set_cons_succ]
              rfl
             refine one_ (i := 10) (N := none) #[true, true, true, true, true, true, true, true, true, true, true] rfl rfl (one_of HT_.out (by kernel_rfl)) (by decide) (fun K hK => ?_)
             have hs160 : w159.cell? ⟨gb127, 0, none⟩ = some (.int .i64 0) := bc BK127 0
             have hfs160 := blk_frozen BK127.out 0
             have hns160_0 := NB110_127.out
             have hns160_1 := NB111_127.out
             have hns160_2 := NB112_127.out
             have hns160_3 := NB113_127.out
             have hns160_4 := NB117_127.out
             have hns160_5 := NB118_127.out
             have hns160_6 := NB120_127.out
             have hns160_7 := NB122_127.out
             have hms160_0 := NB127_110.out
             have hms160_1 := NB127_111.out
             have hms160_2 := NB127_112.out
             have hms160_3 := NB127_113.out
             have hms160_4 := NB127_117.out
             have hms160_5 := NB127_118.out
             have hms160_6 := NB127_120.out
             have hms160_7 := NB127_122.out
             have hs161 : w159.cell? ⟨gb127, 1, none⟩ = some (.int .i64 0) := bc BK127 1
             have hfs161 := blk_frozen BK127.out 1
             have hns161_0 := NB110_127.out
             have hns161_1 := NB111_127.out
             have hns161_2 := NB112_127.out
             have hns161_3 := NB113_127.out
             have hns161_4 := NB117_127.out
             have hns161_5 := NB118_127.out
             have hns161_6 := NB120_127.out
             have hns161_7 := NB122_127.out
             have hms161_0 := NB127_110.out
             have hms161_1 := NB127_111.out
             have hms161_2 := NB127_112.out
             have hms161_3 := NB127_113.out
             have hms161_4 := NB127_117.out
             have hms161_5 := NB127_118.out
             have hms161_6 := NB127_120.out
             have hms161_7 := NB127_122.out
             have hs162 : w159.cell? ⟨gb127, 2, none⟩ = some (.int .i64 0) := bc BK127 2
             have hfs162 := blk_frozen BK127.out 2
             have hns162_0 := NB110_127.out
             have hns162_1 := NB111_127.out
             have hns162_2 := NB112_127.out
             have hns162_3 := NB113_127.out
             have hns162_4 := NB117_127.out
             have hns162_5 := NB118_127.out
             have hns162_6 := NB120_127.out
             have hns162_7 := NB122_127.out
             have hms162_0 := NB127_110.out
             have hms162_1 := NB127_111.out
             have hms162_2 := NB127_112.out
             have hms162_3 := NB127_113.out
             have hms162_4 := NB127_117.out
             have hms162_5 := NB127_118.out
             have hms162_6 := NB127_120.out
             have hms162_7 := NB127_122.out
             have hs163 : w159.cell? ⟨gb127, 3, none⟩ = some (.int .i64 0) := bc BK127 3
             have hfs163 := blk_frozen BK127.out 3
             have hns163_0 := NB110_127.out
             have hns163_1 := NB111_127.out
             have hns163_2 := NB112_127.out
             have hns163_3 := NB113_127.out
             have hns163_4 := NB117_127.out
             have hns163_5 := NB118_127.out
             have hns163_6 := NB120_127.out
             have hns163_7 := NB122_127.out
             have hms163_0 := NB127_110.out
             have hms163_1 := NB127_111.out
             have hms163_2 := NB127_112.out
             have hms163_3 := NB127_113.out
             have hms163_4 := NB127_117.out
             have hms163_5 := NB127_118.out
             have hms163_6 := NB127_120.out
             have hms163_7 := NB127_122.out
             refine skip_ (w1 := ?_) (by rfl) rfl ?_ ?_
             rotate_left
             ·go_simp
              rfl
             refine hK.out _ _ ⟨((cell_far (p := ⟨gb127, _, none⟩) NB111_127.out _).trans (((cell_far (p := ⟨gb127, _, none⟩) NB111_127.out _).trans (((cell_far (p := ⟨gb127, _, none⟩) NB111_127.out _).trans (((cell_far (p := ⟨gb127, _, none⟩) NB111_127.out _).trans (hHeld.1)))))))), ((cell_far (p := ⟨gb127, _, none⟩) NB111_127.out _).trans (((cell_far (p := ⟨gb127, _, none⟩) NB111_127.out _).trans (((cell_far (p := ⟨gb127, _, none⟩) NB111_127.out _).trans (((cell_far (p := ⟨gb127, _, none⟩) NB111_127.out _).trans (hHeld.2.1)))))))), ((cell_far (p := ⟨gb127, _, none⟩) NB122_127.out _).trans (((cell_far (p := ⟨gb127, _, none⟩) NB122_127.out _).trans (((cell_far (p := ⟨gb127, _, none⟩) NB122_127.out _).trans (((cell_far (p := ⟨gb127, _, none⟩) NB122_127.out _).trans (hHeld.2.2.1)))))))), ((cell_far (p := ⟨gb127, _, none⟩) NB122_127.out _).trans (((cell_far (p := ⟨gb127, _, none⟩) NB122_127.out _).trans (((cell_far (p := ⟨gb127, _, none⟩) NB122_127.out _).trans (((cell_far (p := ⟨gb127, _, none⟩) NB122_127.out _).trans (hHeld.2.2.2.1)))))))), ((cell_far (p := ⟨gb127, _, none⟩) NB122_127.out _).trans (((cell_far (p := ⟨gb127, _, none⟩) NB122_127.out _).trans (((cell_far (p := ⟨gb127, _, none⟩) NB122_127.out _).trans (((cell_far (p := ⟨gb127, _, none⟩) NB122_127.out _).trans (hHeld.2.2.2.2.1)))))))), ((cell_far (p := ⟨gb127, _, none⟩) NB122_127.out _).trans (((cell_far (p := ⟨gb127, _, none⟩) NB122_127.out _).trans (((cell_far (p := ⟨gb127, _, none⟩) NB122_127.out _).trans (((cell_far (p := ⟨gb127, _, none⟩) NB122_127.out _).trans (hHeld.2.2.2.2.2.1)))))))), ((cell_far (p := ⟨gb127, _, none⟩) NB112_127.out _).trans (((cell_far (p := ⟨gb127, _, none⟩) NB112_127.out _).trans (((cell_far (p := ⟨gb127, _, none⟩) NB112_127.out _).trans (((cell_far (p := ⟨gb127, _, none⟩) NB112_127.out _).trans (hHeld.2.2.2.2.2.2.1)))))))), ((cell_far (p := ⟨gb127, _, none⟩) NB112_127.out _).trans (((cell_far (p := ⟨gb127, _, none⟩) NB112_127.out _).trans (((cell_far (p := ⟨gb127, _, none⟩) NB112_127.out _).trans (((cell_far (p := ⟨gb127, _, none⟩) NB112_127.out _).trans (hHeld.2.2.2.2.2.2.2))))))))⟩ (fun hHeld => ?_)
             clear hK K
             refine done_ (done_of HT_.out (by kernel_rfl)) ?_
             obtain ⟨hnb164, hnc164⟩ := nn NB127_110
             obtain ⟨hnb165, hnc165⟩ := nn NB127_111
             obtain ⟨hnb166, hnc166⟩ := nn NB127_112
             obtain ⟨hnb167, hnc167⟩ := nn NB127_113
             obtain ⟨hnb168, hnc168⟩ := nn NB127_117
             obtain ⟨hnb169, hnc169⟩ := nn NB127_118
             obtain ⟨hnb170, hnc170⟩ := nn NB127_120
             obtain ⟨hnb171, hnc171⟩ := nn NB127_122
             obtain ⟨hcz172_0, hcz172_1, hcz172_2, hcz172_3, hfz172_0, hfz172_1, hfz172_2, hfz172_3⟩ := cc4 BK127
             obtain ⟨hnb173, hnc173⟩ := nn NB120_110
             obtain ⟨hnb174, hnc174⟩ := nn NB120_111
             obtain ⟨hnb175, hnc175⟩ := nn NB120_112
             obtain ⟨hnb176, hnc176⟩ := nn NB120_113
             obtain ⟨hnb177, hnc177⟩ := nn NB120_117
             obtain ⟨hnb178, hnc178⟩ := nn NB120_118
             obtain ⟨hcz179_0, hcz179_1, hfz179_0, hfz179_1⟩ := cc2 BK120
             try go_wp2_with (first | ((with_reducible refine gate_builtin (b := .append) (xs := #[.tmp 81, .tmp 83]) rfl ?_); at_builtin; refine Kd.R_append k55 (w0 := w) w.heap.size rfl (.tmp 81) (.tmp 83) 56 55 (.agg #[(.int .i64 0), (.int .i64 0), (.int .i64 0), (.int .i64 0)]) 32 rfl Tryz.underlying56 info55 rfl (by decide) (by omega) u121001 x121001_2 (⟨(⟨t123, t124⟩ : S30), (⟨t125, t126⟩ : S30)⟩ : S55) [.int .i64 t123, .int .i64 t124, .int .i64 t125, .int .i64 t126] (fun k_ => k_ ≠ gb122 ∧ k_ ≠ gb127) (fun _ => False) rfl (by first | (go_simp; done) | (go_simp; rfl)) ?aP (fun _ hk => hk.elim) ?aF ?aO ?aB ?aS ?aL ?_; (case aP => exact k55_mkM _ _ _ (⟨(⟨t123, t124⟩ : S30), (⟨t125, t126⟩ : S30)⟩ : S55)); (case aB => exact (bX HB)); (case aF => exact (fun k_ hk => ⟨Kd.freshB (g := gb122) (o := .cells #[.int .i64 ((rd_T55 l0_1 x59_2).f0.f0), .int .i64 ((rd_T55 l0_1 x59_2).f0.f1), .int .i64 ((rd_T55 l0_1 x59_2).f1.f0), .int .i64 ((rd_T55 l0_1 x59_2).f1.f1)] 55 (0, 0)) (kF BK122 NB122_127) k_ hk, Kd.freshB (g := gb127) (o := .cells #[.int .i64 t123, .int .i64 t124, .int .i64 t125, .int .i64 t126] 55 (0, 0)) (by (with_reducible repeat (first | refine blk_drewN ?_ _ | refine blk_drew ?_ | refine blk_alloc ?_ _)); refine blk_put (cs := #[.int .i64 t123, .int .i64 t124, .int .i64 t125, .int .i64 0]) ?_ 3 _ rfl; (with_reducible repeat (first | refine blk_drewN ?_ _ | refine blk_drew ?_ | refine blk_alloc ?_ _)); refine blk_put (cs := #[.int .i64 t123, .int .i64 t124, .int .i64 0, .int .i64 0]) ?_ 2 _ rfl; (with_reducible repeat (first | refine blk_drewN ?_ _ | refine blk_drew ?_ | refine blk_alloc ?_ _)); refine blk_put (cs := #[.int .i64 t123, .int .i64 0, .int .i64 0, .int .i64 0]) ?_ 1 _ rfl; (with_reducible repeat (first | refine blk_drewN ?_ _ | refine blk_drew ?_ | refine blk_alloc ?_ _)); refine blk_put (cs := #[.int .i64 0, .int .i64 0, .int .i64 0, .int .i64 0]) ?_ 0 _ rfl; (with_reducible repeat (first | refine blk_drewN ?_ _ | refine blk_drew ?_ | refine blk_alloc ?_ _)); exact BK127.out) k_ hk⟩)); (case aO => exact (rX (Kd.R_mono (Kd.R_far (p := ⟨gb127, 3, none⟩) (Kd.R_far (p := ⟨gb127, 2, none⟩) (Kd.R_far (p := ⟨gb127, 1, none⟩) (Kd.R_far (p := ⟨gb127, 0, none⟩) (Kd.R_mono HO_121001.out (fun k_ hk => (⟨hk, hk.2⟩ : _ ∧ k_ ≠ gb127))) (fun _ hk => hk.2) (.int .i64 t123)) (fun _ hk => hk.2) (.int .i64 t124)) (fun _ hk => hk.2) (.int .i64 t125)) (fun _ hk => hk.2) (.int .i64 t126)) (fun _ hk => ⟨hk.1.1, hk.1.2⟩)))); (case aS => exact (below_size (bX HB))); (case aL => have := LMc144.out; omega); intro v129 w180 ho hb hg hat; rw [← Ny128.out] at ho; have n0_ := Aside0.mk (blk_grown (g := gb110) (o := .cells #[.int .i64 a0_0, .slice (some ad121) l0_1.length c0_1] 58 (0, 0)) (kF BK110 NB110_127) hg (Kd.R_ne HO_121001.out BK110.out (by decide))); have n1_ := Aside0.mk (blk_grown (g := gb111) (o := .cells #[.int .i64 a1_0, .int .i64 a1_1] 67 (0, 0)) (kF BK111 NB111_127) hg (Kd.R_ne HO_121001.out BK111.out (by decide))); have n2_ := Aside0.mk (blk_grown (g := gb112) (o := .cells #[.int .i64 a2_0, .int .i64 a2_1] 67 (0, 0)) (kF BK112 NB112_127) hg (Kd.R_ne HO_121001.out BK112.out (by decide))); have n3_ := Aside0.mk (blk_grown (g := gb113) (o := .cells #[.int .i64 0, .slice none 0 0] 58 (0, 0)) (kF BK113 NB113_127) hg (Kd.R_ne HO_121001.out BK113.out (by decide))); have n4_ := Aside0.mk (blk_grown (g := gb117) (o := .cells #[.func (.func 43) #[] #[.pointer (some ⟨gb111, 0, none⟩)]] 89 (0, 0)) (kF BK117 NB117_127) hg (Kd.R_ne HO_121001.out BK117.out (by decide))); have n5_ := Aside0.mk (blk_grown (g := gb118) (o := .cells #[.func (.func 44) #[] #[.pointer (some ⟨gb112, 0, none⟩)]] 89 (0, 0)) (kF BK118 NB118_127) hg (Kd.R_ne HO_121001.out BK118.out (by decide))); have n6_ := Aside0.mk (blk_grown (g := gb120) (o := .cells #[.int .i64 t119, u121001] 58 (0, 0)) (kF BK120 NB120_127) hg (Kd.R_ne HO_121001.out BK120.out (by decide))); have n7_ := Aside0.mk (blk_grown (g := gb122) (o := .cells #[.int .i64 ((rd_T55 l0_1 x59_2).f0.f0), .int .i64 ((rd_T55 l0_1 x59_2).f0.f1), .int .i64 ((rd_T55 l0_1 x59_2).f1.f0), .int .i64 ((rd_T55 l0_1 x59_2).f1.f1)] 55 (0, 0)) (kF BK122 NB122_127) hg (Kd.R_away HO_121001.out (fun _ hk => hk.1))); have n8_ := Aside0.mk (blk_grown (g := gb127) (o := .cells #[.int .i64 t123, .int .i64 t124, .int .i64 t125, .int .i64 t126] 55 (0, 0)) (by (with_reducible repeat (first | refine blk_drewN ?_ _ | refine blk_drew ?_ | refine blk_alloc ?_ _)); refine blk_put (cs := #[.int .i64 t123, .int .i64 t124, .int .i64 t125, .int .i64 0]) ?_ 3 _ rfl; (with_reducible repeat (first | refine blk_drewN ?_ _ | refine blk_drew ?_ | refine blk_alloc ?_ _)); refine blk_put (cs := #[.int .i64 t123, .int .i64 t124, .int .i64 0, .int .i64 0]) ?_ 2 _ rfl; (with_reducible repeat (first | refine blk_drewN ?_ _ | refine blk_drew ?_ | refine blk_alloc ?_ _)); refine blk_put (cs := #[.int .i64 t123, .int .i64 0, .int .i64 0, .int .i64 0]) ?_ 1 _ rfl; (with_reducible repeat (first | refine blk_drewN ?_ _ | refine blk_drew ?_ | refine blk_alloc ?_ _)); refine blk_put (cs := #[.int .i64 0, .int .i64 0, .int .i64 0, .int .i64 0]) ?_ 0 _ rfl; (with_reducible repeat (first | refine blk_drewN ?_ _ | refine blk_drew ?_ | refine blk_alloc ?_ _)); exact BK127.out) hg (Kd.R_away HO_121001.out (fun _ hk => hk.2))); have n9_ := Aside0.mk (hb); have n10_ := Aside0.mk (ho); clear BK110; clear BK111; clear BK112; clear BK113; clear BK117; clear BK118; clear BK120; clear BK122; clear BK127; clear HB; clear HO_121001; have BK110 := n0_; have BK111 := n1_; have BK112 := n2_; have BK113 := n3_; have BK117 := n4_; have BK118 := n5_; have BK120 := n6_; have BK122 := n7_; have BK127 := n8_; have HB := n9_; have HO130 := n10_; clear n0_ n1_ n2_ n3_ n4_ n5_ n6_ n7_ n8_ n9_ n10_; clear ho hb hg hat; obtain ⟨Ao181, co181, eo181⟩ := Kd.R_slice HO130.out; subst eo181; obtain ⟨hcz182_0, hcz182_1, hfz182_0, hfz182_1⟩ := cc2 BK120))
             go_roundg k2
             case measure => have := HJ5.out; have := HK2.out; omega
             case rel => exact ⟨(wrap64 (x59_2 + 1)), (y128), (.slice Ao181 y128.length co181), eR, H', ⟨by have := HJ5.out; have := HK2.out; omega⟩, ⟨by (with_reducible repeat (first | apply Kd.R_alloc | apply Kd.R_drewN | apply Kd.R_drew)); exact Kd.R_mono (Kd.R_far (p := ⟨gb120, 1, none⟩) (Kd.R_types HO130.out BK120.out (by decide)) (fun _ hk => hk.2) (.slice Ao181 y128.length co181)) (fun _ hk => trivial)⟩, ⟨by (with_reducible repeat (first | refine blk_drewN ?_ _ | refine blk_drew ?_ | refine blk_alloc ?_ _)); refine blk_far ?_ NB110_120.out _; (with_reducible repeat (first | refine blk_drewN ?_ _ | refine blk_drew ?_ | refine blk_alloc ?_ _)); exact BK110.out⟩, ⟨by (with_reducible repeat (first | refine blk_drewN ?_ _ | refine blk_drew ?_ | refine blk_alloc ?_ _)); refine blk_far ?_ NB111_120.out _; (with_reducible repeat (first | refine blk_drewN ?_ _ | refine blk_drew ?_ | refine blk_alloc ?_ _)); exact BK111.out⟩, ⟨by (with_reducible repeat (first | refine blk_drewN ?_ _ | refine blk_drew ?_ | refine blk_alloc ?_ _)); refine blk_far ?_ NB112_120.out _; (with_reducible repeat (first | refine blk_drewN ?_ _ | refine blk_drew ?_ | refine blk_alloc ?_ _)); exact BK112.out⟩, ⟨by (with_reducible repeat (first | refine blk_drewN ?_ _ | refine blk_drew ?_ | refine blk_alloc ?_ _)); refine blk_far ?_ NB113_120.out _; (with_reducible repeat (first | refine blk_drewN ?_ _ | refine blk_drew ?_ | refine blk_alloc ?_ _)); exact BK113.out⟩, ⟨by (with_reducible repeat (first | refine blk_drewN ?_ _ | refine blk_drew ?_ | refine blk_alloc ?_ _)); refine blk_far ?_ NB117_120.out _; (with_reducible repeat (first | refine blk_drewN ?_ _ | refine blk_drew ?_ | refine blk_alloc ?_ _)); exact BK117.out⟩, ⟨by (with_reducible repeat (first | refine blk_drewN ?_ _ | refine blk_drew ?_ | refine blk_alloc ?_ _)); refine blk_far ?_ NB118_120.out _; (with_reducible repeat (first | refine blk_drewN ?_ _ | refine blk_drew ?_ | refine blk_alloc ?_ _)); exact BK118.out⟩, ⟨by (with_reducible repeat (first | refine blk_drewN ?_ _ | refine blk_drew ?_ | refine blk_alloc ?_ _)); refine blk_put (cs := #[.int .i64 t119, u121001]) ?_ 1 _ rfl; (with_reducible repeat (first | refine blk_drewN ?_ _ | refine blk_drew ?_ | refine blk_alloc ?_ _)); exact BK120.out⟩, ⟨bX HB⟩⟩
            ·rw [if_neg c144] at H
             exact absurd H (by simp)
          ·rw [if_neg c111] at H
           exact absurd H (by simp)
         ·rw [if_neg c110] at H
          exact absurd H (by simp)
        ·rw [if_neg c109] at H
         have c109b0 : decide (x59_2 < (l0_1.length : Int)) = false := decide_eq_false c109
         clear c109
         simp only [Option.some.injEq, Prod.mk.injEq] at H
         obtain ⟨rfl, rfl, rfl⟩ := H
         obtain ⟨hnb183, hnc183⟩ := nn NB120_110
         obtain ⟨hnb184, hnc184⟩ := nn NB120_111
         obtain ⟨hnb185, hnc185⟩ := nn NB120_112
         obtain ⟨hnb186, hnc186⟩ := nn NB120_113
         obtain ⟨hnb187, hnc187⟩ := nn NB120_117
         obtain ⟨hnb188, hnc188⟩ := nn NB120_118
         obtain ⟨hcz189_0, hcz189_1, hfz189_0, hfz189_1⟩ := cc2 BK120
         obtain ⟨hnb190, hnc190⟩ := nn NB113_110
         obtain ⟨hnb191, hnc191⟩ := nn NB113_111
         obtain ⟨hnb192, hnc192⟩ := nn NB113_112
         obtain ⟨hnb193, hnc193⟩ := nn NB113_117
         obtain ⟨hnb194, hnc194⟩ := nn NB113_118
         obtain ⟨hcz195_0, hcz195_1, hfz195_0, hfz195_1⟩ := cc2 BK113
         obtain ⟨Ao196, co196, eo196⟩ := Kd.R_slice HO_121001.out
         subst eo196
         go_wp2
         refine bodyPost_ret (results_ct rfl _ _ gb113 58 #[.int .i64 t119, .slice Ao196 x121001_2.length co196] (0, 0) _ rfl (kP BK113) Tryz.underlying58 rfl (by kernel_rfl)) rfl ?_
         exact ⟨_, eqA, by (with_reducible repeat (first | apply Kd.R_alloc | apply Kd.R_drewN | apply Kd.R_drew)); exact Kd.R_mono (Kd.R_far (p := ⟨gb113, 1, none⟩) (Kd.R_far (p := ⟨gb113, 0, none⟩) (Kd.R_types HO_121001.out BK113.out (by decide)) (fun _ hk => hk.2) (.int .i64 t119)) (fun _ hk => hk.2) (.slice Ao196 x121001_2.length co196)) (fun _ hk => trivial), bX HB⟩
 ·rw [if_neg c5] at H
  have c5b0 : (t114 == 0) = false := beq_eq_false_iff_ne.mpr c5
  have c5b1 : (t114 != 0) = true := bne_iff_ne.mpr c5
  by_cases c197 : 0 = 0
  ·rw [if_pos c197] at H
   exact absurd H (by simp)
  ·exact absurd rfl c197
end PWet
end Go.Proofs.YtgdkmadcegleiaaGreatDoor
namespace Go.Proofs.YtgdkmadcegleiaaGreatDoor
namespace PWet
open X
attribute [local go_sem] max2_int min2_int max_two min_two max_three min_three max_four min_four   -- for this text's walks alone
end PWet
end Go.Proofs.YtgdkmadcegleiaaGreatDoor
namespace Go.Proofs.YtgdkmadcegleiaaGreatDoor
namespace Yp
open X
abbrev z5_.f := Y.z5_.f
theorem z5_.calls : type_of% @Y.z5_.calls := @Y.z5_.calls
abbrev z28_.f := PRiv.z28_.f
theorem z28_.calls : type_of% @PRiv.z28_.calls := @PRiv.z28_.calls
abbrev z29_.f := PRiv.z29_.f
theorem z29_.calls : type_of% @PRiv.z29_.calls := @PRiv.z29_.calls
abbrev z24_.f := PRiv.z24_.f
theorem z24_.calls : type_of% @PRiv.z24_.calls := @PRiv.z24_.calls
def z8_.f (a0_0 a0_1 a1_0 a1_1 a1_2 a1_3 : Int) (l1_4 : List S47) : Option (Int × Int × Int × Int) := PRiv.z8_.f (l1_4.length + 10) a0_0 a0_1 a1_0 a1_1 a1_2 a1_3 l1_4
theorem z8_.calls (a0_0 a0_1 a1_0 a1_1 a1_2 a1_3 : Int) (A1_4 : Option Addr) (c1_4 : Nat) (l1_4 : List S47) (r1 r2 r3 r4 : Int) (w : World) (hr1_4 : Kd.C k47 w A1_4 l1_4.length l1_4) (hc1_4 : l1_4.length ≤ c1_4) (h : z8_.f a0_0 a0_1 a1_0 a1_1 a1_2 a1_3 l1_4 = some (r1, r2, r3, r4)) :
    Calls Tryz.prog 47 #[.agg #[(fnV a0_0), (fnV a0_1)], .agg #[.int .i64 a1_0, .int .i64 a1_1, .int .i64 a1_2, .int .i64 a1_3, .slice A1_4 l1_4.length c1_4]] w fun e w' => e = .returned (.agg #[.int .i64 r1, .int .i64 r2, .int .i64 r3, .int .i64 r4]) ∧ Below w.heap.size w w' :=
  PRiv.z8_.calls _ a0_0 a0_1 a1_0 a1_1 a1_2 a1_3 A1_4 c1_4 l1_4 r1 r2 r3 r4 w hr1_4 hc1_4 h
end Yp
end Go.Proofs.YtgdkmadcegleiaaGreatDoor
namespace Go.Proofs.YtgdkmadcegleiaaGreatDoor
namespace PCmp
open X Yp
attribute [local go_sem] max2_int min2_int max_two min_two max_three min_three max_four min_four   -- for this text's walks alone
def errW : Option Int → Value
  | none => .nilIface
  | some c => .iface 0 (.int .i64 c)
theorem errW_none : errW none = .nilIface := rfl
theorem errW_some (c : Int) : errW (some c) = .iface 0 (.int .i64 c) := rfl
end PCmp
end Go.Proofs.YtgdkmadcegleiaaGreatDoor
namespace Go.Proofs.YtgdkmadcegleiaaGreatDoor
namespace PCmp
open Sq X Yp
attribute [local go_sem] run_store_func max2_int min2_int max_two min_two max_three min_three max_four min_four   -- for this text's walks alone
def z30_.f (a0 : Int) : Option (Bool) := some (a0 != a0)
set_option maxHeartbeats 8000000 in
set_option maxRecDepth 100000 in
theorem z30_.calls (a0 : Int) (r : Bool) (w : World) (h : z30_.f a0 = some r) :
  Calls Tryz.prog 93 #[.int .i64 a0] w fun e w' => e = .returned (.bool r) ∧ Drawn0 w w' := by
 have H : (some (a0 != a0)) = some r := h
 clear h
 obtain rfl := Option.some.inj H
 go_enter Tryz.func93, Tryz.ntmps93
 go_wp2
 go_ret
 exact ⟨by first | rfl | (simp; done) | (simp [*]; done), by repeat (first | exact Drawn0.refl _ | apply Drawn0.step)⟩
def z67_.f (a0 : Int) (a1 : Int) : Option (Int) := (z30_.f a0).bind fun t101 => ((z30_.f a1).bind fun t102 => (if t101 = true then (if t102 = true then (some 0) else (some (-1))) else (if t102 = true then (some 1) else (if a0 < a1 then (some (-1)) else (if a0 > a1 then (some 1) else (some 0))))))
set_option maxHeartbeats 8000000 in
set_option maxRecDepth 100000 in
theorem z67_.calls (a0 : Int) (a1 : Int) (r : Int) (w : World) (h : z67_.f a0 a1 = some r) :
  Calls Tryz.prog 77 #[.int .i64 a0, .int .i64 a1] w fun e w' => e = .returned (.int .i64 r) ∧ Drawn0 w w' := by
 have H : ((z30_.f a0).bind fun t101 => ((z30_.f a1).bind fun t102 => (if t101 = true then (if t102 = true then (some 0) else (some (-1))) else (if t102 = true then (some 1) else (if a0 < a1 then (some (-1)) else (if a0 > a1 then (some 1) else (some 0))))))) = some r := h
 clear h
 replace H := bindA H
 obtain ⟨t101, A3, H⟩ := H
 try dsimp only at H
 replace H := bindA H
 obtain ⟨t102, A4, H⟩ := H
 try dsimp only at H
 by_cases c5 : t101 = true
 ·subst c5
  have H1 : (if t102 = true then (some 0) else (some (-1))) = some r := by rw [if_pos rfl] at H; exact H
  clear H
  have H := H1
  clear H1
  by_cases c6 : t102 = true
  ·subst c6
   have H1 : (some 0) = some r := by rw [if_pos rfl] at H; exact H
   clear H
   have H := H1
   clear H1
   obtain rfl := Option.some.inj H
   go_enter Tryz.func77, Tryz.ntmps77
   go_wp2_with (first | ((with_reducible refine gate_callee (f := 93) rfl ?_); refine goesA (some 8) Tryz.func93 #[.int .i64 a0] ?_; (with_reducible refine (z30_.calls a0 true _ A3.out).mono ?_); rintro e w' ⟨rfl, ⟨nd, rfl⟩⟩; refine ⟨_, rfl, ?_⟩) | ((with_reducible refine gate_callee (f := 93) rfl ?_); refine goesA (some 10) Tryz.func93 #[.int .i64 a1] ?_; (with_reducible refine (z30_.calls a1 true _ A4.out).mono ?_); rintro e w' ⟨rfl, ⟨nd, rfl⟩⟩; refine ⟨_, rfl, ?_⟩))
   go_ret
   exact ⟨by first | rfl | (simp; done) | (simp [*]; done), by repeat (first | exact Drawn0.refl _ | apply Drawn0.step)⟩
  ·replace c6 := Bool.eq_false_iff.mpr c6
   subst c6
   have H1 : (some (-1)) = some r := by rw [if_neg (show ¬ (false = true) by decide)] at H; exact H
   clear H
   have H := H1
   clear H1
   obtain rfl := Option.some.inj H
   go_enter Tryz.func77, Tryz.ntmps77
   go_wp2_with (first | ((with_reducible refine gate_callee (f := 93) rfl ?_); refine goesA (some 8) Tryz.func93 #[.int .i64 a0] ?_; (with_reducible refine (z30_.calls a0 true _ A3.out).mono ?_); rintro e w' ⟨rfl, ⟨nd, rfl⟩⟩; refine ⟨_, rfl, ?_⟩) | ((with_reducible refine gate_callee (f := 93) rfl ?_); refine goesA (some 10) Tryz.func93 #[.int .i64 a1] ?_; (with_reducible refine (z30_.calls a1 false _ A4.out).mono ?_); rintro e w' ⟨rfl, ⟨nd, rfl⟩⟩; refine ⟨_, rfl, ?_⟩))
   go_ret
   exact ⟨by first | rfl | (simp; done) | (simp [*]; done), by repeat (first | exact Drawn0.refl _ | apply Drawn0.step)⟩
 ·replace c5 := Bool.eq_false_iff.mpr c5
  subst c5
  have H1 : (if t102 = true then (some 1) else (if a0 < a1 then (some (-1)) else (if a0 > a1 then (some 1) else (some 0)))) = some r := by rw [if_neg (show ¬ (false = true) by decide)] at H; exact H
  clear H
  have H := H1
  clear H1
  by_cases c7 : t102 = true
  ·subst c7
   have H1 : (some 1) = some r := by rw [if_pos rfl] at H; exact H
   clear H
   have H := H1
   clear H1
   obtain rfl := Option.some.inj H
   go_enter Tryz.func77, Tryz.ntmps77
   go_wp2_with (first | ((with_reducible refine gate_callee (f := 93) rfl ?_); refine goesA (some 8) Tryz.func93 #[.int .i64 a0] ?_; (with_reducible refine (z30_.calls a0 false _ A3.out).mono ?_); rintro e w' ⟨rfl, ⟨nd, rfl⟩⟩; refine ⟨_, rfl, ?_⟩) | ((with_reducible refine gate_callee (f := 93) rfl ?_); refine goesA (some 10) Tryz.func93 #[.int .i64 a1] ?_; (with_reducible refine (z30_.calls a1 true _ A4.out).mono ?_); rintro e w' ⟨rfl, ⟨nd, rfl⟩⟩; refine ⟨_, rfl, ?_⟩))
   go_ret
   exact ⟨by first | rfl | (simp; done) | (simp [*]; done), by repeat (first | exact Drawn0.refl _ | apply Drawn0.step)⟩
  ·replace c7 := Bool.eq_false_iff.mpr c7
   subst c7
   have H1 : (if a0 < a1 then (some (-1)) else (if a0 > a1 then (some 1) else (some 0))) = some r := by rw [if_neg (show ¬ (false = true) by decide)] at H; exact H
   clear H
   have H := H1
   clear H1
   by_cases c8 : a0 < a1
   ·rw [if_pos c8] at H
    have c8b0 : decide (a0 < a1) = true := decide_eq_true c8
    clear c8
    obtain rfl := Option.some.inj H
    go_enter Tryz.func77, Tryz.ntmps77
    go_wp2_with (first | ((with_reducible refine gate_callee (f := 93) rfl ?_); refine goesA (some 8) Tryz.func93 #[.int .i64 a0] ?_; (with_reducible refine (z30_.calls a0 false _ A3.out).mono ?_); rintro e w' ⟨rfl, ⟨nd, rfl⟩⟩; refine ⟨_, rfl, ?_⟩) | ((with_reducible refine gate_callee (f := 93) rfl ?_); refine goesA (some 10) Tryz.func93 #[.int .i64 a1] ?_; (with_reducible refine (z30_.calls a1 false _ A4.out).mono ?_); rintro e w' ⟨rfl, ⟨nd, rfl⟩⟩; refine ⟨_, rfl, ?_⟩))
    go_ret
    exact ⟨by first | rfl | (simp; done) | (simp [*]; done), by repeat (first | exact Drawn0.refl _ | apply Drawn0.step)⟩
   ·rw [if_neg c8] at H
    have c8b0 : decide (a0 < a1) = false := decide_eq_false c8
    clear c8
    by_cases c9 : a0 > a1
    ·rw [if_pos c9] at H
     have c9b0 : decide (a1 < a0) = true := decide_eq_true c9
     clear c9
     obtain rfl := Option.some.inj H
     go_enter Tryz.func77, Tryz.ntmps77
     go_wp2_with (first | ((with_reducible refine gate_callee (f := 93) rfl ?_); refine goesA (some 8) Tryz.func93 #[.int .i64 a0] ?_; (with_reducible refine (z30_.calls a0 false _ A3.out).mono ?_); rintro e w' ⟨rfl, ⟨nd, rfl⟩⟩; refine ⟨_, rfl, ?_⟩) | ((with_reducible refine gate_callee (f := 93) rfl ?_); refine goesA (some 10) Tryz.func93 #[.int .i64 a1] ?_; (with_reducible refine (z30_.calls a1 false _ A4.out).mono ?_); rintro e w' ⟨rfl, ⟨nd, rfl⟩⟩; refine ⟨_, rfl, ?_⟩))
     go_ret
     exact ⟨by first | rfl | (simp; done) | (simp [*]; done), by repeat (first | exact Drawn0.refl _ | apply Drawn0.step)⟩
    ·rw [if_neg c9] at H
     have c9b0 : decide (a1 < a0) = false := decide_eq_false c9
     clear c9
     obtain rfl := Option.some.inj H
     go_enter Tryz.func77, Tryz.ntmps77
     go_wp2_with (first | ((with_reducible refine gate_callee (f := 93) rfl ?_); refine goesA (some 8) Tryz.func93 #[.int .i64 a0] ?_; (with_reducible refine (z30_.calls a0 false _ A3.out).mono ?_); rintro e w' ⟨rfl, ⟨nd, rfl⟩⟩; refine ⟨_, rfl, ?_⟩) | ((with_reducible refine gate_callee (f := 93) rfl ?_); refine goesA (some 10) Tryz.func93 #[.int .i64 a1] ?_; (with_reducible refine (z30_.calls a1 false _ A4.out).mono ?_); rintro e w' ⟨rfl, ⟨nd, rfl⟩⟩; refine ⟨_, rfl, ?_⟩))
     go_ret
     exact ⟨by first | rfl | (simp; done) | (simp [*]; done), by repeat (first | exact Drawn0.refl _ | apply Drawn0.step)⟩
def z51_.f (a0_0 : Int) (a0_1 : Int) (a0_2 : Int) (a0_3 : Int) (a1_0 : Int) (a1_1 : Int) (a1_2 : Int) (a1_3 : Int) : Option (Int) := (z24_.f a0_0 a0_1 a0_2 a0_3).bind fun bt105 => ((z24_.f a1_0 a1_1 a1_2 a1_3).bind fun bt107 => ((z67_.f (wrap64 (bt105.1 * bt107.2)) (wrap64 (bt107.1 * bt105.2))).bind fun t109 => (some t109)))
set_option maxHeartbeats 8000000 in
set_option maxRecDepth 100000 in
theorem z51_.calls (a0_0 : Int) (a0_1 : Int) (a0_2 : Int) (a0_3 : Int) (a1_0 : Int) (a1_1 : Int) (a1_2 : Int) (a1_3 : Int) (r : Int) (w : World) (h : z51_.f a0_0 a0_1 a0_2 a0_3 a1_0 a1_1 a1_2 a1_3 = some r) :
  Calls Tryz.prog 48 #[.agg #[.int .i64 a0_0, .int .i64 a0_1, .int .i64 a0_2, .int .i64 a0_3], .agg #[.int .i64 a1_0, .int .i64 a1_1, .int .i64 a1_2, .int .i64 a1_3]] w fun e w' => e = .returned (.int .i64 r) ∧ Below w.heap.size w w' := by
 have hu102 := Tryz.underlying102
 have HB := Aside0.mk (Below.refl w.heap.size w)
 have H : ((z24_.f a0_0 a0_1 a0_2 a0_3).bind fun bt105 => ((z24_.f a1_0 a1_1 a1_2 a1_3).bind fun bt107 => ((z67_.f (wrap64 (bt105.1 * bt107.2)) (wrap64 (bt107.1 * bt105.2))).bind fun t109 => (some t109)))) = some r := h
 clear h
 replace H := bindA H
 obtain ⟨⟨t105, t106⟩, A3, H⟩ := H
 try dsimp only at H
 replace H := bindA H
 obtain ⟨⟨t107, t108⟩, A4, H⟩ := H
 try dsimp only at H
 replace H := bindA H
 obtain ⟨t109, A5, H⟩ := H
 try dsimp only at H
 obtain rfl := Option.some.inj H
 go_enter Tryz.func48, Tryz.ntmps48
 go_wp2_with (first | ((with_reducible refine gate_dst (N := 2) rfl ?_); refine boxA (N := 2) (cs := #[.int .i64 a0_0, .int .i64 a0_1, .int .i64 a0_2, .int .i64 a0_3]) (t := 102) ?_; intro gb103 hg w6 hbox hb; have BK103 := Aside0.mk (hbox); have GE103 := bG HB hg; replace HB := bS HB hb; clear hb hbox hg) | ((with_reducible refine gate_dst (N := 3) rfl ?_); refine boxA (N := 3) (cs := #[.int .i64 a1_0, .int .i64 a1_1, .int .i64 a1_2, .int .i64 a1_3]) (t := 102) ?_; intro gb104 hg w7 hbox hb; have BK104 := Aside0.mk (hbox); have GE104 := bG HB hg; have NB103_104 := kN BK103 hg; have NB104_103 := kM BK103 hg; replace BK103 := kB BK103 hb; replace HB := bS HB hb; clear hb hbox hg; obtain ⟨hnb8, hnc8⟩ := nn NB103_104; obtain ⟨hcz9_0, hcz9_1, hcz9_2, hcz9_3, hfz9_0, hfz9_1, hfz9_2, hfz9_3⟩ := cc4 BK103) | ((with_reducible refine gate_callee (f := 76) rfl ?_); refine goesA (some 11) Tryz.func76 #[.agg #[.int .i64 a0_0, .int .i64 a0_1, .int .i64 a0_2, .int .i64 a0_3]] ?_; (with_reducible refine (z24_.calls a0_0 a0_1 a0_2 a0_3 t105 t106 _ A3.out).mono ?_); rintro e w10 ⟨rfl, hb⟩; refine ⟨_, rfl, ?_⟩; replace BK103 := kB BK103 hb; replace BK104 := kB BK104 hb; replace HB := bS HB hb; obtain ⟨hcz11_0, hcz11_1, hcz11_2, hcz11_3, hfz11_0, hfz11_1, hfz11_2, hfz11_3⟩ := cc4 BK104) | ((with_reducible refine gate_callee (f := 76) rfl ?_); refine goesA (some 16) Tryz.func76 #[.agg #[.int .i64 a1_0, .int .i64 a1_1, .int .i64 a1_2, .int .i64 a1_3]] ?_; (with_reducible refine (z24_.calls a1_0 a1_1 a1_2 a1_3 t107 t108 _ A4.out).mono ?_); rintro e w12 ⟨rfl, hb⟩; refine ⟨_, rfl, ?_⟩; replace BK103 := kB BK103 hb; replace BK104 := kB BK104 hb; replace HB := bS HB hb) | ((with_reducible refine gate_callee (f := 77) rfl ?_); refine goesA (some 25) Tryz.func77 #[.int .i64 (wrap64 (t105 * t108)), .int .i64 (wrap64 (t107 * t106))] ?_; (with_reducible refine (z67_.calls (wrap64 (t105 * t108)) (wrap64 (t107 * t106)) t109 _ A5.out).mono ?_); rintro e w' ⟨rfl, ⟨nd, rfl⟩⟩; refine ⟨_, rfl, ?_⟩))
 go_ret
 exact ⟨eqA, bX HB⟩
end PCmp
end Go.Proofs.YtgdkmadcegleiaaGreatDoor
