/- Part 5 of this claim's texts, put together by a program of its author: PRstx1, PRstx, PRptx0, PRptx1, PRptx, ArcExt, ArcPure, PGivx0, PGivx1, PGivx, EnoPure, PKnox0, PKnox1, PKnox2, PKnox3, PKnox4, PKnox, ArcKno, EnoExt, PEnox0. -/
import Derived.Test.YtgdkmadcegleiaaGreatDoorMb
import Derived.Test.YtgdkmadcegleiaaGreatDoorMd
import Derived.Test.YtgdkmadcegleiaaGreatDoorProg
import Derived.Below
import Derived.Deep.Draws
import Derived.Deep.AppendLies
import Derived.Maps.AppendAt
import Derived.OwnWalk
import Derived.Laws.BytesArg
import Derived.Laws.MakeOwn
import Derived.Laws.OwnMore
import Derived.Deep.OwnRows
import Derived.Tactics
import Derived.Lib.ConvBytes
import Derived.Laws.Slices
import Derived.WalkKit
import Derived.KernelRfl
import Derived.RowKit3
import Derived.Deep.LoopGhost
import Derived.Deep.QuietTactic
import Derived.BigQuiet
import Derived.WideLaws
import Derived.Deep.DeepCutAuto
import Derived.Deep.CutBlock
import Derived.Deep.RegionHeld3
import Derived.Laws.Rows
import Derived.Lib.AppendStr
import Derived.ArgAppend
import Derived.Laws.IdiomCopy
import Derived.OrdersHeld
import Derived.Laws.BitsLemmas
import Derived.RowKit
import Derived.Test.YtgdkmadcegleiaaGreatDoorMa
import Derived.Test.YtgdkmadcegleiaaGreatDoorMc
section
namespace Go.Proofs.YtgdkmadcegleiaaGreatDoor.PRst
open Go.RowKit Go.Proofs.YtgdkmadcegleiaaGreatDoor.Sq Go.Proofs.YtgdkmadcegleiaaGreatDoorW.PrintWords Go.Proofs.YtgdkmadcegleiaaGreatDoorW.PrintLast Go.Proofs.YtgdkmadcegleiaaGreatDoorW.PrintMore Go.Proofs.YtgdkmadcegleiaaGreatDoor.X Go.Proofs.YtgdkmadcegleiaaGreatDoor.Yr
attribute [local go_sem] Go.Proofs.YtgdkmadcegleiaaGreatDoor.Y.span_f0 Go.Proofs.YtgdkmadcegleiaaGreatDoor.Y.span_f1 max2_int min2_int max_two min_two max_three min_three max_four min_four   -- for this text's walks alone
set_option linter.unusedVariables false
set_option linter.unusedSimpArgs false
def rivet_Sticks.l0 : Nat → Int → Int → Int → Int → Int → Int → List (S47) → Option (Int × Int)
 | 0, _, _, _, _, _, _, _ => none
 | k + 1, x1, x23, x102000, x102001, x102002, x102003, x102004 => if x23 < 41 then (if 1 ≤ (x102004.length : Int) then ((api_RivetGap.f (x102004.take 1) x23).bind fun t108 => ((rivet_opens.f x102000 x102001 x102002 x102003 t108).bind fun bt111 => (if bt111.1 ≥ x1 then (some (wrap64 (x23 + 1), 0)) else (rivet_Sticks.l0 k x1 (wrap64 (x23 + 1)) x102000 x102001 x102002 x102003 x102004)))) else (none)) else (some (0, 7))
def rivet_Sticks.f (k : Nat) (a0_0 : Int) (a0_1 : Int) (a0_2 : Int) (a0_3 : Int) (l0_4 : List (S47)) (a1 : Int) : Option (Int × Int) := (rivet_Check.f a0_0 a0_1 a0_2 a0_3 l0_4).bind fun t102 => (if t102 = 0 then ((rivet_isDegrees.f a1).bind fun t103 => (if t103 = true then (if (l0_4.length : Int) = 0 then (some (0, 7)) else (rivet_Sticks.l0 k a1 0 a0_0 a0_1 a0_2 a0_3 l0_4)) else (some (0, 4)))) else (some (0, t102)))
def rivet_Sticks.T11 : Bool × List (List Nat × List Nat) := (true, [([], []), ([0], [0]), ([], []), ([2], [2]), ([], []), ([4], [4]), ([5], [5]), ([], []), ([6, 7], [6, 7]), ([1, 3, 8], [1, 3, 8]), ([9, 8], [9]), ([10], [10]), ([], []), ([11, 12], [11, 12])])
def rivet_Sticks.B11 : List Nat := [0, 1, 0, 4, 0, 16, 48, 0, 240, 511, 1023, 2047, 0, 8191]
theorem rivet_Sticks.tab11 : rtab .any (opsOf Tryz.f7 11) = rivet_Sticks.T11 := by kernel_rfl
theorem rivet_Sticks.bits11 : waitsOk rivet_Sticks.T11.2 rivet_Sticks.B11 = true := by kernel_rfl
set_option maxHeartbeats 8000000 in
set_option maxRecDepth 100000 in
theorem rivet_Sticks.calls (k : Nat) (a0_0 : Int) (a0_1 : Int) (a0_2 : Int) (a0_3 : Int) (A0_4 : Option Addr) (c0_4 : Nat) (l0_4 : List (S47)) (a1 : Int) (r1 : Int) (r2 : Int) (w : World) (hr0_4 : Kd.C k47 w A0_4 l0_4.length l0_4) (hc0_4 : l0_4.length ≤ c0_4) (h : rivet_Sticks.f k a0_0 a0_1 a0_2 a0_3 l0_4 a1 = some (r1, r2)) :
  Calls Tryz.prog 7 #[.agg #[.int .i64 a0_0, .int .i64 a0_1, .int .i64 a0_2, .int .i64 a0_3, .slice A0_4 l0_4.length c0_4], .int .i64 a1] w fun e w' => e = .returned (.tuple #[.int .i64 r1, .int .i64 r2]) ∧ Below w.heap.size w w' := by
 have hu33 := Tryz.underlying33
 have hu30 := Tryz.underlying30
 have HR0_4 := Aside0.mk hr0_4
 have HC0_4 := Aside0.mk hc0_4
 clear hr0_4 hc0_4
 have HB := Aside0.mk (Below.refl w.heap.size w)
 have H : ((rivet_Check.f a0_0 a0_1 a0_2 a0_3 l0_4).bind fun t102 => (if t102 = 0 then ((rivet_isDegrees.f a1).bind fun t103 => (if t103 = true then (if (l0_4.length : Int) = 0 then (some (0, 7)) else (rivet_Sticks.l0 k a1 0 a0_0 a0_1 a0_2 a0_3 l0_4)) else (some (0, 4)))) else (some (0, t102)))) = some (r1, r2) := h
 clear h
 replace H := Option.bind_eq_some_iff.mp H
 obtain ⟨t102, A30, H⟩ := H
 try dsimp only at H
 have A3 := Aside0.mk A30
 clear A30
 by_cases c4 : t102 = 0
 ·rw [if_pos c4] at H
  have c4b0 : (t102 == 0) = true := beq_iff_eq.mpr c4
  have c4b1 : (t102 != 0) = false := bne_eq_false_iff_eq.mpr c4
  clear c4
  replace H := Option.bind_eq_some_iff.mp H
  obtain ⟨t103, A50, H⟩ := H
  try dsimp only at H
  have A5 := Aside0.mk A50
  clear A50
  by_cases c6 : t103 = true
  ·subst c6
   have H1 : (if (l0_4.length : Int) = 0 then (some (0, 7)) else (rivet_Sticks.l0 k a1 0 a0_0 a0_1 a0_2 a0_3 l0_4)) = some (r1, r2) := by rw [if_pos rfl] at H; exact H
   clear H
   have H := H1
   clear H1
   by_cases c7 : (l0_4.length : Int) = 0
   ·rw [if_pos c7] at H
    have c7b0 : ((l0_4.length : Int) == 0) = true := beq_iff_eq.mpr c7
    have c7b1 : ((l0_4.length : Int) != 0) = false := bne_eq_false_iff_eq.mpr c7
    clear c7
    simp only [Option.some.injEq, Prod.mk.injEq] at H
    obtain ⟨rfl, rfl⟩ := H
    go_enter Tryz.func7, Tryz.ntmps7
    go_wp2_with (first | ((with_reducible refine gate_dst (N := 2) rfl ?_); refine boxA (N := 2) (cs := #[.int .i64 a0_0, .int .i64 a0_1, .int .i64 a0_2, .int .i64 a0_3, .slice A0_4 l0_4.length c0_4]) (t := 33) ?_; intro gb101 hg w8 hbox hb; have BK101 := Aside0.mk (hbox); have GW101 := bG HB hg; have GE101 := bG HB hg; replace HB := bS HB hb; clear hb hbox hg; obtain ⟨hcz9_0, hcz9_1, hcz9_2, hcz9_3, hcz9_4, hfz9_0, hfz9_1, hfz9_2, hfz9_3, hfz9_4⟩ := cc5 BK101) | ((with_reducible refine gate_callee (f := 24) rfl ?_); refine goesA (some 9) Tryz.func24 #[.agg #[.int .i64 a0_0, .int .i64 a0_1, .int .i64 a0_2, .int .i64 a0_3, .slice A0_4 l0_4.length c0_4]] ?_; (with_reducible refine (rivet_Check.calls a0_0 a0_1 a0_2 a0_3 _ _ l0_4 t102 _ ?side1 ?side2 A3.out).mono ?_); (case side1 => exact sX (Kd.C_below HR0_4.out HB.out)); (case side2 => exact HC0_4.out); rintro e w10 ⟨rfl, hb⟩; refine ⟨_, rfl, ?_⟩; replace BK101 := kB BK101 hb; replace HB := bS HB hb; (try clear hb); (try clear hb2); (try clear hk); (try clear hi)) | ((with_reducible refine gate_callee (f := 25) rfl ?_); refine goesA (some 16) Tryz.func25 #[.int .i64 a1] ?_; (with_reducible refine (rivet_isDegrees.calls a1 true _ A5.out).mono ?_); rintro e w11 ⟨rfl, hb⟩; refine ⟨_, rfl, ?_⟩; replace BK101 := kB BK101 hb; replace HB := bS HB hb; (try clear hb); (try clear hb2); (try clear hk); (try clear hi); obtain ⟨hcz12_0, hcz12_1, hcz12_2, hcz12_3, hcz12_4, hfz12_0, hfz12_1, hfz12_2, hfz12_3, hfz12_4⟩ := cc5 BK101))
    go_ret2
    exact ⟨by first | rfl | (simp [errW_none, errW_some] <;> rfl) | (simp [*, errW_none, errW_some] <;> rfl), bX HB⟩
   ·rw [if_neg c7] at H
    have c7b0 : ((l0_4.length : Int) == 0) = false := beq_eq_false_iff_ne.mpr c7
    have c7b1 : ((l0_4.length : Int) != 0) = true := bne_iff_ne.mpr c7
    have c7b2 : ¬ (l0_4 = []) := fun h_ => c7 (by rw [h_]; rfl)
    have H' := Aside0.mk H
    clear H
    go_enter Tryz.func7, Tryz.ntmps7
    go_wp2_with (first | ((with_reducible refine gate_dst (N := 2) rfl ?_); refine boxA (N := 2) (cs := #[.int .i64 a0_0, .int .i64 a0_1, .int .i64 a0_2, .int .i64 a0_3, .slice A0_4 l0_4.length c0_4]) (t := 33) ?_; intro gb101 hg w13 hbox hb; have BK101 := Aside0.mk (hbox); have GW101 := bG HB hg; have GE101 := bG HB hg; replace HB := bS HB hb; clear hb hbox hg; obtain ⟨hcz14_0, hcz14_1, hcz14_2, hcz14_3, hcz14_4, hfz14_0, hfz14_1, hfz14_2, hfz14_3, hfz14_4⟩ := cc5 BK101) | ((with_reducible refine gate_callee (f := 24) rfl ?_); refine goesA (some 9) Tryz.func24 #[.agg #[.int .i64 a0_0, .int .i64 a0_1, .int .i64 a0_2, .int .i64 a0_3, .slice A0_4 l0_4.length c0_4]] ?_; (with_reducible refine (rivet_Check.calls a0_0 a0_1 a0_2 a0_3 _ _ l0_4 t102 _ ?side1 ?side2 A3.out).mono ?_); (case side1 => exact sX (Kd.C_below HR0_4.out HB.out)); (case side2 => exact HC0_4.out); rintro e w15 ⟨rfl, hb⟩; refine ⟨_, rfl, ?_⟩; replace BK101 := kB BK101 hb; replace HB := bS HB hb; (try clear hb); (try clear hb2); (try clear hk); (try clear hi)) | ((with_reducible refine gate_callee (f := 25) rfl ?_); refine goesA (some 16) Tryz.func25 #[.int .i64 a1] ?_; (with_reducible refine (rivet_isDegrees.calls a1 true _ A5.out).mono ?_); rintro e w16 ⟨rfl, hb⟩; refine ⟨_, rfl, ?_⟩; replace BK101 := kB BK101 hb; replace HB := bS HB hb; (try clear hb); (try clear hb2); (try clear hk); (try clear hi); obtain ⟨hcz17_0, hcz17_1, hcz17_2, hcz17_3, hcz17_4, hfz17_0, hfz17_1, hfz17_2, hfz17_3, hfz17_4⟩ := cc5 BK101))
    go_loopg [23] k (fun kq v23 w' => ∃ (x23_1 : Int), v23 = .int .i64 x23_1 ∧ Aside0 (rivet_Sticks.l0 kq a1 x23_1 a0_0 a0_1 a0_2 a0_3 l0_4 = some (r1, r2)) ∧ Aside0 (kq ≤ k) ∧ Aside0 (w'.heap[gb101]? = some (.cells #[.int .i64 a0_0, .int .i64 a0_1, .int .i64 a0_2, .int .i64 a0_3, (.slice A0_4 l0_4.length c0_4)] 33 (0, 0))) ∧ Aside0 (Below w.heap.size w w'))
    case atStart => exact ⟨(0), (by first | rfl | (simp; done) | (simp [*]; done)), H', ⟨Nat.le_refl _⟩, ⟨kX BK101.out⟩, ⟨bX HB⟩⟩
    case round =>
     clear H'
     try clear c2
     try clear p2
     try clear c4
     try clear c4b0
     try clear c4b1
     try clear c6
     try clear c7
     try clear c7b0
     try clear c7b1
     try clear c7b2
     try clear hcz12_0 hcz12_1 hcz12_2 hcz12_3 hcz12_4 hfz12_0 hfz12_1 hfz12_2 hfz12_3 hfz12_4
     try clear hcz14_0 hcz14_1 hcz14_2 hcz14_3 hcz14_4 hfz14_0 hfz14_1 hfz14_2 hfz14_3 hfz14_4
     try clear hcz17_0 hcz17_1 hcz17_2 hcz17_3 hcz17_4 hfz17_0 hfz17_1 hfz17_2 hfz17_3 hfz17_4
     try clear hcz9_0 hcz9_1 hcz9_2 hcz9_3 hcz9_4 hfz9_0 hfz9_1 hfz9_2 hfz9_3 hfz9_4
     obtain ⟨x23_1, rfl, HA, HK1, BK101, HB⟩ := hrel
     cases gk with
     | zero => exact absurd HA.out (by simp [rivet_Sticks.l0])
     | succ k1 =>
      have H := HA.out
      clear HA
      simp only [rivet_Sticks.l0] at H
      by_cases c18 : x23_1 < 41
      ·rw [if_pos c18] at H
       have c18b0 : decide (x23_1 < 41) = true := decide_eq_true c18
       clear c18
       by_cases c19 : 1 ≤ (l0_4.length : Int)
       ·rw [if_pos c19] at H
        have c19b0 := eq_true c19
        have c19b1 : decide (1 ≤ (l0_4.length : Int)) = true := decide_eq_true c19
        clear c19
        obtain ⟨y104, hy104⟩ : ∃ y_ : List (S47), y_ = (l0_4.take 1) := ⟨_, rfl⟩
        replace H : ((api_RivetGap.f y104 x23_1).bind fun t108 => ((rivet_opens.f a0_0 a0_1 a0_2 a0_3 t108).bind fun bt111 => (if bt111.1 ≥ a1 then (some (wrap64 (x23_1 + 1), 0)) else (rivet_Sticks.l0 k1 a1 (wrap64 (x23_1 + 1)) a0_0 a0_1 a0_2 a0_3 l0_4)))) = some (r1, r2) := by first | (rw [hy104]; with_reducible exact H) | (have H2_ := (Option.bind_some _ _).symm.trans H; rw [hy104]; with_reducible exact H2_) | (have H2_ := (Option.bind_some _ _).symm.trans H; with_reducible exact H2_) | with_reducible exact H | (rw [hy104]; exact H) | exact H
        have Ny104 := Aside0.mk hy104
        clear hy104
        replace H := Option.bind_eq_some_iff.mp H
        obtain ⟨t108, A200, H⟩ := H
        try dsimp only at H
        have A20 := Aside0.mk A200
        clear A200
        replace H := Option.bind_eq_some_iff.mp H
        obtain ⟨⟨t111, t112⟩, A210, H⟩ := H
        try dsimp only at H
        have A21 := Aside0.mk A210
        clear A210
        by_cases c22 : t111 ≥ a1
        ·rw [if_pos c22] at H
         have c22b0 : decide (a1 ≤ t111) = true := decide_eq_true c22
         clear c22
         simp only [Option.some.injEq, Prod.mk.injEq] at H
         obtain ⟨rfl, rfl⟩ := H
         try go_wp2
         replace BK101 := Aside0.mk (blk_drew BK101.out)
         replace HB := Aside0.mk (below_drew1 HB.out)
         have q24 : (1 : Int) ≤ ((l0_4.length : Int) : Int) := of_decide_eq_true (by first | (with_reducible assumption) | assumption)
         obtain ⟨i024, hi024, _, hsz24, _⟩ := info_parts info47
         have hroom24 : l0_4.length ≤ c0_4 := HC0_4.out
         have hC24 : Kd.C k47 _ A0_4 l0_4.length l0_4 := HR0_4.out
         have hcut24 := cut_to (P := Tryz.prog) 31 47 .i64 Tryz.underlying31 hi024 A0_4 l0_4.length c0_4 1 (by omega) q24 hroom24
         have hr24 := Kd.C_take (m := 1) hC24 (by omega)
         have hy24 : y104.length = (1 : Int).toNat := (by rw [Ny104.out, List.length_take]; omega)
         rw [← Ny104.out] at hr24
         rw [← hy24] at hcut24
         have HR107 := Aside0.mk hr24
         have HC107 := Aside0.mk (show y104.length ≤ c0_4 from by omega)
         clear hr24 hC24 hroom24 hi024 hsz24
         have KY24 := Aside0.mk hy24
         clear hy24
         replace q24 := eq_true q24
         refine start_ (n := 14) (S := fun w' => w'.cell? ⟨gb101, 0, none⟩ = some (.int .i64 a0_0) ∧ w'.cell? ⟨gb101, 1, none⟩ = some (.int .i64 a0_1) ∧ w'.cell? ⟨gb101, 2, none⟩ = some (.int .i64 a0_2) ∧ w'.cell? ⟨gb101, 3, none⟩ = some (.int .i64 a0_3) ∧ w'.cell? ⟨gb101, 4, none⟩ = some (.slice A0_4 l0_4.length c0_4)) (ds := []) #[false, false, false, false, false, false, false, false, false, false, false, false, false, false] (by kernel_rfl) rfl rfl ⟨(blk_cell BK101.out 0).trans rfl, (blk_cell BK101.out 1).trans rfl, (blk_cell BK101.out 2).trans rfl, (blk_cell BK101.out 3).trans rfl, (blk_cell BK101.out 4).trans rfl⟩ (fun hHeld => ?_); refine with_tabW rivet_Sticks.tab11 rivet_Sticks.bits11 (fun HT_ HW_ => ?_)
         generalize wr.drew = w23 at BK101 HB HR107 hHeld ⊢
         refine pureA (i := 0) (N := some 26) HT_ ?_
         refine pureA (i := 2) (N := some 28) HT_ ?_
         refine pureA (i := 4) (N := some 30) HT_ ?_
         refine pureA (i := 7) (N := some 33) HT_ ?_
         refine pureA (i := 12) (N := some 38) HT_ ?_
         refine takeA (i := 1) (N := some 27) HT_ HW_ hHeld ?_
         refine takeA (i := 3) (N := some 29) HT_ HW_ hHeld ?_
         refine takeA (i := 5) (N := some 31) HT_ HW_ hHeld ?_
         refine pureA (i := 6) (N := some 32) HT_ ?_
         refine oneA (i := 8) (N := some 34) HT_ (fun K hK => ?_)
         refine goesB Tryz.func27 #[.slice A0_4 y104.length c0_4, .int .i64 x23_1] ?_
         with_reducible refine (api_RivetGap.calls _ _ y104 x23_1 t108 _ ?side1 ?side2 A20.out).mono ?_
         (case side1 => exact sX (Kd.C_below HR107.out HB.out))
         (case side2 => exact HC107.out)
         rintro e w25 ⟨v109, rfl, ho0, hb⟩
         refine ⟨_, rfl, ?_⟩
         have HO110 := Aside0.mk (Kd.R_lower ho0 (below_size (bX HB)))
         replace BK101 := kB BK101 hb
         replace HB := bS HB hb
         (try clear hb)
         (try clear hb2)
         (try clear hk)
         (try clear hi)
         (try clear ho0)
         obtain ⟨Ao26, co26, eo26⟩ := Kd.R_slice HO110.out
         (first | subst eo26 | (injection eo26 with f1_ f2_ f3_; have f4_ := f1_.symm; have f5_ := f3_.symm; clear f1_ f2_ f3_; subst f4_; subst f5_))
         refine hK.out _ _ ⟨(blk_cell BK101.out 0).trans rfl, (blk_cell BK101.out 1).trans rfl, (blk_cell BK101.out 2).trans rfl, (blk_cell BK101.out 3).trans rfl, (blk_cell BK101.out 4).trans rfl⟩ (fun hHeld => ?_)
         clear hK K
         refine normA (N := some 34) ?_
         refine pureA (i := 9) (N := some 35) HT_ ?_
         refine oneA (i := 10) (N := some 36) HT_ (fun K hK => ?_)
         refine goesB Tryz.func26 #[.agg #[.int .i64 a0_0, .int .i64 a0_1, .int .i64 a0_2, .int .i64 a0_3, .slice Ao26 t108.length co26]] ?_
         with_reducible refine (rivet_opens.calls a0_0 a0_1 a0_2 a0_3 _ _ t108 t111 t112 _ ?side1 ?side2 A21.out).mono ?_
         (case side1 => exact sX (Kd.R_reads' HO110.out).2.2)
         (case side2 => exact (Kd.R_reads' HO110.out).2.1)
         rintro e w27 ⟨rfl, hb⟩
         refine ⟨_, rfl, ?_⟩
         replace HO110 := rB HO110 hb
         replace BK101 := kB BK101 hb
         replace HB := bS HB hb
         (try clear hb)
         (try clear hb2)
         (try clear hk)
         (try clear hi)
         refine hK.out _ _ ⟨(blk_cell BK101.out 0).trans rfl, (blk_cell BK101.out 1).trans rfl, (blk_cell BK101.out 2).trans rfl, (blk_cell BK101.out 3).trans rfl, (blk_cell BK101.out 4).trans rfl⟩ (fun hHeld => ?_)
         clear hK K
         refine normA (N := some 36) ?_
         refine pureA (i := 11) (N := some 37) HT_ ?_
         refine pureA (i := 13) (N := some 39) HT_ ?_
         refine done_ (done_of HT_.out (by kernel_rfl)) ?_
         try go_wp2
         go_ret2
         exact ⟨by first | rfl | (simp [errW_none, errW_some] <;> rfl) | (simp [*, errW_none, errW_some] <;> rfl), bX HB⟩
        ·rw [if_neg c22] at H
         have c22b0 : decide (a1 ≤ t111) = false := decide_eq_false c22
         clear c22
         have H' := Aside0.mk H
         clear H
         try go_wp2
         replace BK101 := Aside0.mk (blk_drew BK101.out)
         replace HB := Aside0.mk (below_drew1 HB.out)
         have q29 : (1 : Int) ≤ ((l0_4.length : Int) : Int) := of_decide_eq_true (by first | (with_reducible assumption) | assumption)
         obtain ⟨i029, hi029, _, hsz29, _⟩ := info_parts info47
         have hroom29 : l0_4.length ≤ c0_4 := HC0_4.out
         have hC29 : Kd.C k47 _ A0_4 l0_4.length l0_4 := HR0_4.out
         have hcut29 := cut_to (P := Tryz.prog) 31 47 .i64 Tryz.underlying31 hi029 A0_4 l0_4.length c0_4 1 (by omega) q29 hroom29
         have hr29 := Kd.C_take (m := 1) hC29 (by omega)
         have hy29 : y104.length = (1 : Int).toNat := (by rw [Ny104.out, List.length_take]; omega)
         rw [← Ny104.out] at hr29
         rw [← hy29] at hcut29
         have HR107 := Aside0.mk hr29
         have HC107 := Aside0.mk (show y104.length ≤ c0_4 from by omega)
         clear hr29 hC29 hroom29 hi029 hsz29
         have KY29 := Aside0.mk hy29
         clear hy29
         replace q29 := eq_true q29
         refine start_ (n := 14) (S := fun w' => w'.cell? ⟨gb101, 0, none⟩ = some (.int .i64 a0_0) ∧ w'.cell? ⟨gb101, 1, none⟩ = some (.int .i64 a0_1) ∧ w'.cell? ⟨gb101, 2, none⟩ = some (.int .i64 a0_2) ∧ w'.cell? ⟨gb101, 3, none⟩ = some (.int .i64 a0_3) ∧ w'.cell? ⟨gb101, 4, none⟩ = some (.slice A0_4 l0_4.length c0_4)) (ds := []) #[false, false, false, false, false, false, false, false, false, false, false, false, false, false] (by kernel_rfl) rfl rfl ⟨(blk_cell BK101.out 0).trans rfl, (blk_cell BK101.out 1).trans rfl, (blk_cell BK101.out 2).trans rfl, (blk_cell BK101.out 3).trans rfl, (blk_cell BK101.out 4).trans rfl⟩ (fun hHeld => ?_); refine with_tabW rivet_Sticks.tab11 rivet_Sticks.bits11 (fun HT_ HW_ => ?_)
         generalize wr.drew = w28 at BK101 HB HR107 hHeld ⊢
         refine pureA (i := 0) (N := some 26) HT_ ?_
         refine pureA (i := 2) (N := some 28) HT_ ?_
         refine pureA (i := 4) (N := some 30) HT_ ?_
         refine pureA (i := 7) (N := some 33) HT_ ?_
         refine pureA (i := 12) (N := some 38) HT_ ?_
         refine takeA (i := 1) (N := some 27) HT_ HW_ hHeld ?_
         refine takeA (i := 3) (N := some 29) HT_ HW_ hHeld ?_
         refine takeA (i := 5) (N := some 31) HT_ HW_ hHeld ?_
         refine pureA (i := 6) (N := some 32) HT_ ?_
         refine oneA (i := 8) (N := some 34) HT_ (fun K hK => ?_)
         refine goesB Tryz.func27 #[.slice A0_4 y104.length c0_4, .int .i64 x23_1] ?_
         with_reducible refine (api_RivetGap.calls _ _ y104 x23_1 t108 _ ?side1 ?side2 A20.out).mono ?_
         (case side1 => exact sX (Kd.C_below HR107.out HB.out))
         (case side2 => exact HC107.out)
         rintro e w30 ⟨v109, rfl, ho0, hb⟩
         refine ⟨_, rfl, ?_⟩
         have HO110 := Aside0.mk (Kd.R_lower ho0 (below_size (bX HB)))
         replace BK101 := kB BK101 hb
         replace HB := bS HB hb
         (try clear hb)
         (try clear hb2)
         (try clear hk)
         (try clear hi)
         (try clear ho0)
         obtain ⟨Ao31, co31, eo31⟩ := Kd.R_slice HO110.out
         (first | subst eo31 | (injection eo31 with f1_ f2_ f3_; have f4_ := f1_.symm; have f5_ := f3_.symm; clear f1_ f2_ f3_; subst f4_; subst f5_))
         refine hK.out _ _ ⟨(blk_cell BK101.out 0).trans rfl, (blk_cell BK101.out 1).trans rfl, (blk_cell BK101.out 2).trans rfl, (blk_cell BK101.out 3).trans rfl, (blk_cell BK101.out 4).trans rfl⟩ (fun hHeld => ?_)
         clear hK K
         refine normA (N := some 34) ?_
         refine pureA (i := 9) (N := some 35) HT_ ?_
         refine oneA (i := 10) (N := some 36) HT_ (fun K hK => ?_)
         refine goesB Tryz.func26 #[.agg #[.int .i64 a0_0, .int .i64 a0_1, .int .i64 a0_2, .int .i64 a0_3, .slice Ao31 t108.length co31]] ?_
         with_reducible refine (rivet_opens.calls a0_0 a0_1 a0_2 a0_3 _ _ t108 t111 t112 _ ?side1 ?side2 A21.out).mono ?_
         (case side1 => exact sX (Kd.R_reads' HO110.out).2.2)
         (case side2 => exact (Kd.R_reads' HO110.out).2.1)
         rintro e w32 ⟨rfl, hb⟩
         refine ⟨_, rfl, ?_⟩
         replace HO110 := rB HO110 hb
         replace BK101 := kB BK101 hb
         replace HB := bS HB hb
         (try clear hb)
         (try clear hb2)
         (try clear hk)
         (try clear hi)
         refine hK.out _ _ ⟨(blk_cell BK101.out 0).trans rfl, (blk_cell BK101.out 1).trans rfl, (blk_cell BK101.out 2).trans rfl, (blk_cell BK101.out 3).trans rfl, (blk_cell BK101.out 4).trans rfl⟩ (fun hHeld => ?_)
         clear hK K
         refine normA (N := some 36) ?_
         refine pureA (i := 11) (N := some 37) HT_ ?_
         refine pureA (i := 13) (N := some 39) HT_ ?_
         refine done_ (done_of HT_.out (by kernel_rfl)) ?_
         try go_wp2
         go_roundg k1
         case measure => have := HK1.out; omega
         case rel => exact ⟨(wrap64 (x23_1 + 1)), (by first | rfl | (simp; done) | (simp [*]; done)), H', ⟨by have := HK1.out; omega⟩, ⟨kX BK101.out⟩, ⟨bX HB⟩⟩
       ·rw [if_neg c19] at H
        exact absurd H (by simp)
      ·rw [if_neg c18] at H
       have c18b0 : decide (x23_1 < 41) = false := decide_eq_false c18
       clear c18
       simp only [Option.some.injEq, Prod.mk.injEq] at H
       obtain ⟨rfl, rfl⟩ := H
       go_wp2
       go_ret2
       exact ⟨by first | rfl | (simp [errW_none, errW_some] <;> rfl) | (simp [*, errW_none, errW_some] <;> rfl), bX HB⟩
  ·replace c6 := Bool.eq_false_iff.mpr c6
   subst c6
   have H1 : (some (0, 4)) = some (r1, r2) := by rw [if_neg (show ¬ (false = true) by decide)] at H; exact H
   clear H
   have H := H1
   clear H1
   simp only [Option.some.injEq, Prod.mk.injEq] at H
   obtain ⟨rfl, rfl⟩ := H
   go_enter Tryz.func7, Tryz.ntmps7
   go_wp2_with (first | ((with_reducible refine gate_dst (N := 2) rfl ?_); refine boxA (N := 2) (cs := #[.int .i64 a0_0, .int .i64 a0_1, .int .i64 a0_2, .int .i64 a0_3, .slice A0_4 l0_4.length c0_4]) (t := 33) ?_; intro gb101 hg w33 hbox hb; have BK101 := Aside0.mk (hbox); have GW101 := bG HB hg; have GE101 := bG HB hg; replace HB := bS HB hb; clear hb hbox hg; obtain ⟨hcz34_0, hcz34_1, hcz34_2, hcz34_3, hcz34_4, hfz34_0, hfz34_1, hfz34_2, hfz34_3, hfz34_4⟩ := cc5 BK101) | ((with_reducible refine gate_callee (f := 24) rfl ?_); refine goesA (some 9) Tryz.func24 #[.agg #[.int .i64 a0_0, .int .i64 a0_1, .int .i64 a0_2, .int .i64 a0_3, .slice A0_4 l0_4.length c0_4]] ?_; (with_reducible refine (rivet_Check.calls a0_0 a0_1 a0_2 a0_3 _ _ l0_4 t102 _ ?side1 ?side2 A3.out).mono ?_); (case side1 => exact sX (Kd.C_below HR0_4.out HB.out)); (case side2 => exact HC0_4.out); rintro e w35 ⟨rfl, hb⟩; refine ⟨_, rfl, ?_⟩; replace BK101 := kB BK101 hb; replace HB := bS HB hb; (try clear hb); (try clear hb2); (try clear hk); (try clear hi)) | ((with_reducible refine gate_callee (f := 25) rfl ?_); refine goesA (some 16) Tryz.func25 #[.int .i64 a1] ?_; (with_reducible refine (rivet_isDegrees.calls a1 false _ A5.out).mono ?_); rintro e w36 ⟨rfl, hb⟩; refine ⟨_, rfl, ?_⟩; replace BK101 := kB BK101 hb; replace HB := bS HB hb; (try clear hb); (try clear hb2); (try clear hk); (try clear hi)))
   go_ret2
   exact ⟨by first | rfl | (simp [errW_none, errW_some] <;> rfl) | (simp [*, errW_none, errW_some] <;> rfl), bX HB⟩
 ·rw [if_neg c4] at H
  have c4b0 : (t102 == 0) = false := beq_eq_false_iff_ne.mpr c4
  have c4b1 : (t102 != 0) = true := bne_iff_ne.mpr c4
  simp only [Option.some.injEq, Prod.mk.injEq] at H
  obtain ⟨rfl, rfl⟩ := H
  go_enter Tryz.func7, Tryz.ntmps7
  go_wp2_with (first | ((with_reducible refine gate_dst (N := 2) rfl ?_); refine boxA (N := 2) (cs := #[.int .i64 a0_0, .int .i64 a0_1, .int .i64 a0_2, .int .i64 a0_3, .slice A0_4 l0_4.length c0_4]) (t := 33) ?_; intro gb101 hg w37 hbox hb; have BK101 := Aside0.mk (hbox); have GW101 := bG HB hg; have GE101 := bG HB hg; replace HB := bS HB hb; clear hb hbox hg; obtain ⟨hcz38_0, hcz38_1, hcz38_2, hcz38_3, hcz38_4, hfz38_0, hfz38_1, hfz38_2, hfz38_3, hfz38_4⟩ := cc5 BK101) | ((with_reducible refine gate_callee (f := 24) rfl ?_); refine goesA (some 9) Tryz.func24 #[.agg #[.int .i64 a0_0, .int .i64 a0_1, .int .i64 a0_2, .int .i64 a0_3, .slice A0_4 l0_4.length c0_4]] ?_; (with_reducible refine (rivet_Check.calls a0_0 a0_1 a0_2 a0_3 _ _ l0_4 t102 _ ?side1 ?side2 A3.out).mono ?_); (case side1 => exact sX (Kd.C_below HR0_4.out HB.out)); (case side2 => exact HC0_4.out); rintro e w39 ⟨rfl, hb⟩; refine ⟨_, rfl, ?_⟩; replace BK101 := kB BK101 hb; replace HB := bS HB hb; (try clear hb); (try clear hb2); (try clear hk); (try clear hi)))
  go_ret2
  exact ⟨by first | rfl | (simp [errW_none, errW_some] <;> rfl) | (simp [*, errW_none, errW_some] <;> rfl), bX HB⟩
def rivet_Opens.f (a0_0 : Int) (a0_1 : Int) (a0_2 : Int) (a0_3 : Int) (l0_4 : List (S47)) : Option (Int × Int × Int) := (rivet_Check.f a0_0 a0_1 a0_2 a0_3 l0_4).bind fun t115 => (if t115 = 0 then ((rivet_opens.f a0_0 a0_1 a0_2 a0_3 l0_4).bind fun bt116 => (some (bt116.1, bt116.2, 0))) else (some (0, 0, t115)))
set_option maxHeartbeats 8000000 in
set_option maxRecDepth 100000 in
theorem rivet_Opens.calls (a0_0 : Int) (a0_1 : Int) (a0_2 : Int) (a0_3 : Int) (A0_4 : Option Addr) (c0_4 : Nat) (l0_4 : List (S47)) (r1 : Int) (r2 : Int) (r3 : Int) (w : World) (hr0_4 : Kd.C k47 w A0_4 l0_4.length l0_4) (hc0_4 : l0_4.length ≤ c0_4) (h : rivet_Opens.f a0_0 a0_1 a0_2 a0_3 l0_4 = some (r1, r2, r3)) :
  Calls Tryz.prog 13 #[.agg #[.int .i64 a0_0, .int .i64 a0_1, .int .i64 a0_2, .int .i64 a0_3, .slice A0_4 l0_4.length c0_4]] w fun e w' => e = .returned (.tuple #[.agg #[.int .i64 r1, .int .i64 r2], .int .i64 r3]) ∧ Below w.heap.size w w' := by
 have hu33 := Tryz.underlying33
 have hu30 := Tryz.underlying30
 have HR0_4 := Aside0.mk hr0_4
 have HC0_4 := Aside0.mk hc0_4
 clear hr0_4 hc0_4
 have HB := Aside0.mk (Below.refl w.heap.size w)
 have H : ((rivet_Check.f a0_0 a0_1 a0_2 a0_3 l0_4).bind fun t115 => (if t115 = 0 then ((rivet_opens.f a0_0 a0_1 a0_2 a0_3 l0_4).bind fun bt116 => (some (bt116.1, bt116.2, 0))) else (some (0, 0, t115)))) = some (r1, r2, r3) := h
 clear h
 replace H := Option.bind_eq_some_iff.mp H
 obtain ⟨t115, A20, H⟩ := H
 try dsimp only at H
 have A2 := Aside0.mk A20
 clear A20
 by_cases c3 : t115 = 0
 ·rw [if_pos c3] at H
  have c3b0 : (t115 == 0) = true := beq_iff_eq.mpr c3
  have c3b1 : (t115 != 0) = false := bne_eq_false_iff_eq.mpr c3
  clear c3
  replace H := Option.bind_eq_some_iff.mp H
  obtain ⟨⟨t116, t117⟩, A40, H⟩ := H
  try dsimp only at H
  have A4 := Aside0.mk A40
  clear A40
  simp only [Option.some.injEq, Prod.mk.injEq] at H
  obtain ⟨rfl, rfl, rfl⟩ := H
  go_enter Tryz.func13, Tryz.ntmps13
  go_wp2_with (first | ((with_reducible refine gate_dst (N := 1) rfl ?_); refine boxA (N := 1) (cs := #[.int .i64 a0_0, .int .i64 a0_1, .int .i64 a0_2, .int .i64 a0_3, .slice A0_4 l0_4.length c0_4]) (t := 33) ?_; intro gb113 hg w5 hbox hb; have BK113 := Aside0.mk (hbox); have GW113 := bG HB hg; have GE113 := bG HB hg; replace HB := bS HB hb; clear hb hbox hg) | ((with_reducible refine gate_dst (N := 2) rfl ?_); refine boxA (N := 2) (cs := #[.int .i64 0, .int .i64 0]) (t := 30) ?_; intro gb114 hg w6 hbox hb; have BK114 := Aside0.mk (hbox); have GW114 := bG HB hg; have GE114 := bG HB hg; have NB113_114 := kN BK113 hg; have NB114_113 := kM BK113 hg; replace BK113 := kB BK113 hb; replace HB := bS HB hb; clear hb hbox hg; have hnb7 := NB113_114.out; have hnc7 := NB114_113.out; obtain ⟨hcz8_0, hcz8_1, hcz8_2, hcz8_3, hcz8_4, hfz8_0, hfz8_1, hfz8_2, hfz8_3, hfz8_4⟩ := cc5 BK113) | ((with_reducible refine gate_callee (f := 24) rfl ?_); refine goesA (some 6) Tryz.func24 #[.agg #[.int .i64 a0_0, .int .i64 a0_1, .int .i64 a0_2, .int .i64 a0_3, .slice A0_4 l0_4.length c0_4]] ?_; (with_reducible refine (rivet_Check.calls a0_0 a0_1 a0_2 a0_3 _ _ l0_4 t115 _ ?side1 ?side2 A2.out).mono ?_); (case side1 => exact sX (Kd.C_below HR0_4.out HB.out)); (case side2 => exact HC0_4.out); rintro e w9 ⟨rfl, hb⟩; refine ⟨_, rfl, ?_⟩; replace BK113 := kB BK113 hb; replace BK114 := kB BK114 hb; replace HB := bS HB hb; (try clear hb); (try clear hb2); (try clear hk); (try clear hi); obtain ⟨hcz10_0, hcz10_1, hcz10_2, hcz10_3, hcz10_4, hfz10_0, hfz10_1, hfz10_2, hfz10_3, hfz10_4⟩ := cc5 BK113) | ((with_reducible refine gate_callee (f := 26) rfl ?_); refine goesA (some 12) Tryz.func26 #[.agg #[.int .i64 a0_0, .int .i64 a0_1, .int .i64 a0_2, .int .i64 a0_3, .slice A0_4 l0_4.length c0_4]] ?_; (with_reducible refine (rivet_opens.calls a0_0 a0_1 a0_2 a0_3 _ _ l0_4 t116 t117 _ ?side1 ?side2 A4.out).mono ?_); (case side1 => exact sX (Kd.C_below HR0_4.out HB.out)); (case side2 => exact HC0_4.out); rintro e w11 ⟨rfl, hb⟩; refine ⟨_, rfl, ?_⟩; replace BK113 := kB BK113 hb; replace BK114 := kB BK114 hb; replace HB := bS HB hb; (try clear hb); (try clear hb2); (try clear hk); (try clear hi); obtain ⟨hcz12_0, hcz12_1, hfz12_0, hfz12_1⟩ := cc2 BK114))
  refine bodyPost_ret (results_ct rfl _ _ gb114 30 #[.int .i64 t116, .int .i64 t117] (0, 0) _ rfl (kP BK114) Tryz.underlying30 rfl (by kernel_rfl)) rfl ?_
  exact ⟨by first | rfl | (simp [errW_none, errW_some] <;> rfl) | (simp [*, errW_none, errW_some] <;> rfl), bX HB⟩
 ·rw [if_neg c3] at H
  have c3b0 : (t115 == 0) = false := beq_eq_false_iff_ne.mpr c3
  have c3b1 : (t115 != 0) = true := bne_iff_ne.mpr c3
  simp only [Option.some.injEq, Prod.mk.injEq] at H
  obtain ⟨rfl, rfl, rfl⟩ := H
  go_enter Tryz.func13, Tryz.ntmps13
  go_wp2_with (first | ((with_reducible refine gate_dst (N := 1) rfl ?_); refine boxA (N := 1) (cs := #[.int .i64 a0_0, .int .i64 a0_1, .int .i64 a0_2, .int .i64 a0_3, .slice A0_4 l0_4.length c0_4]) (t := 33) ?_; intro gb113 hg w13 hbox hb; have BK113 := Aside0.mk (hbox); have GW113 := bG HB hg; have GE113 := bG HB hg; replace HB := bS HB hb; clear hb hbox hg) | ((with_reducible refine gate_dst (N := 2) rfl ?_); refine boxA (N := 2) (cs := #[.int .i64 0, .int .i64 0]) (t := 30) ?_; intro gb114 hg w14 hbox hb; have BK114 := Aside0.mk (hbox); have GW114 := bG HB hg; have GE114 := bG HB hg; have NB113_114 := kN BK113 hg; have NB114_113 := kM BK113 hg; replace BK113 := kB BK113 hb; replace HB := bS HB hb; clear hb hbox hg; have hnb15 := NB113_114.out; have hnc15 := NB114_113.out; obtain ⟨hcz16_0, hcz16_1, hcz16_2, hcz16_3, hcz16_4, hfz16_0, hfz16_1, hfz16_2, hfz16_3, hfz16_4⟩ := cc5 BK113) | ((with_reducible refine gate_callee (f := 24) rfl ?_); refine goesA (some 6) Tryz.func24 #[.agg #[.int .i64 a0_0, .int .i64 a0_1, .int .i64 a0_2, .int .i64 a0_3, .slice A0_4 l0_4.length c0_4]] ?_; (with_reducible refine (rivet_Check.calls a0_0 a0_1 a0_2 a0_3 _ _ l0_4 t115 _ ?side1 ?side2 A2.out).mono ?_); (case side1 => exact sX (Kd.C_below HR0_4.out HB.out)); (case side2 => exact HC0_4.out); rintro e w17 ⟨rfl, hb⟩; refine ⟨_, rfl, ?_⟩; replace BK113 := kB BK113 hb; replace BK114 := kB BK114 hb; replace HB := bS HB hb; (try clear hb); (try clear hb2); (try clear hk); (try clear hi); obtain ⟨hcz18_0, hcz18_1, hfz18_0, hfz18_1⟩ := cc2 BK114))
  refine bodyPost_ret (results_ct rfl _ _ gb114 30 #[.int .i64 0, .int .i64 0] (0, 0) _ rfl (kP BK114) Tryz.underlying30 rfl (by kernel_rfl)) rfl ?_
  exact ⟨by first | rfl | (simp [errW_none, errW_some] <;> rfl) | (simp [*, errW_none, errW_some] <;> rfl), bX HB⟩
end Go.Proofs.YtgdkmadcegleiaaGreatDoor.PRst
end
section
namespace Go.Proofs.YtgdkmadcegleiaaGreatDoor.PRst
open Go.RowKit Go.Proofs.YtgdkmadcegleiaaGreatDoorW.PrintWords Go.Proofs.YtgdkmadcegleiaaGreatDoorW.PrintLast Go.Proofs.YtgdkmadcegleiaaGreatDoorW.PrintMore Go.Proofs.YtgdkmadcegleiaaGreatDoor.X Go.Proofs.YtgdkmadcegleiaaGreatDoor.Yr
attribute [local go_sem] max2_int min2_int max_two min_two max_three min_three max_four min_four   -- for this text's walks alone
set_option linter.unusedVariables false
set_option linter.unusedSimpArgs false
end Go.Proofs.YtgdkmadcegleiaaGreatDoor.PRst
end
section
namespace Go.Proofs.YtgdkmadcegleiaaGreatDoor.PRpt
open Go.RowKit Go.Proofs.YtgdkmadcegleiaaGreatDoorW.PrintWords Go.Proofs.YtgdkmadcegleiaaGreatDoorW.PrintLast Go.Proofs.YtgdkmadcegleiaaGreatDoorW.PrintMore Go.Proofs.YtgdkmadcegleiaaGreatDoor.X Go.Proofs.YtgdkmadcegleiaaGreatDoor.Y
attribute [local go_sem] max2_int min2_int max_two min_two max_three min_three max_four min_four   -- for this text's walks alone
set_option linter.unusedVariables false
set_option linter.unusedSimpArgs false
def errW : Option Int → Value
  | none => .nilIface
  | some c => .iface 0 (.int .i64 c)
theorem errW_none : errW none = .nilIface := rfl
theorem errW_some (c : Int) : errW (some c) = .iface 0 (.int .i64 c) := rfl
-- the values' own types
end Go.Proofs.YtgdkmadcegleiaaGreatDoor.PRpt
end
section
namespace Go.Proofs.YtgdkmadcegleiaaGreatDoor.PRpt
open Go.RowKit Go.Proofs.YtgdkmadcegleiaaGreatDoor.Sq Go.Proofs.YtgdkmadcegleiaaGreatDoorW.PrintWords Go.Proofs.YtgdkmadcegleiaaGreatDoorW.PrintLast Go.Proofs.YtgdkmadcegleiaaGreatDoorW.PrintMore Go.Proofs.YtgdkmadcegleiaaGreatDoor.X Go.Proofs.YtgdkmadcegleiaaGreatDoor.Y
attribute [local go_sem] span_f0 span_f1 max2_int min2_int max_two min_two max_three min_three max_four min_four   -- for this text's walks alone
set_option linter.unusedVariables false
set_option linter.unusedSimpArgs false
def rivet_Pleat_1.l0 : Nat → Int → Int → Int → Int → Int → Int → Int → Int → List (S47) → Option (Bool)
 | 0, _, _, _, _, _, _, _, _, _ => none
 | k + 1, x0, x14, x15, x103000, x104000, x104001, x104002, x104003, x104004 => if x15 < x14 then (if 0 ≤ x15 then (if x15 < (x104004.length : Int) then (rivet_Pleat_1.l0 k x0 x14 (wrap64 (x15 + 1)) x103000 x104000 x104001 x104002 x104003 (x104004.set (x15 : Int).toNat (⟨(⟨x0, x0⟩ : S30), (⟨(rd_T47 x104004 x15).f1.f0, (rd_T47 x104004 x15).f1.f1⟩ : S30)⟩ : S47))) else (none)) else (none)) else ((rivet_opens.f x104000 x104001 x104002 x104003 x104004).bind fun bt108 => (some (decide (bt108.1 ≥ x103000))))
def rivet_Pleat_1.f (k : Nat) (a0 : Int) (a1_0 : Int) (a1_1 : Int) (a1_2 : Int) (a1_3 : Int) (l1_4 : List (S47)) (a2 : Int) : Option (Bool) := (api_RivetGap.f l1_4).bind fun t104 => (rivet_Pleat_1.l0 k a0 (t104.length : Int) 0 a2 a1_0 a1_1 a1_2 a1_3 t104)
def rivet_Pleat.l0 : Nat → Int → Int → Int → Int → Int → Int → Int → List (S47) → Option (Int × Int)
 | 0, _, _, _, _, _, _, _, _ => none
 | k + 1, x1, x8, x9, x111000, x111001, x111002, x111003, x111004 => if x8 < x9 then (if (wrap64 (Int.tdiv (wrap64 (x8 + x9)) 2)) > 1000 then (rivet_Pleat.l0 k x1 x8 (wrap64 (Int.tdiv (wrap64 (x8 + x9)) 2)) x111000 x111001 x111002 x111003 x111004) else ((rivet_Pleat_1.f k (wrap64 (Int.tdiv (wrap64 (x8 + x9)) 2)) x111000 x111001 x111002 x111003 x111004 x1).bind fun t114 => (if t114 = true then (rivet_Pleat.l0 k x1 x8 (wrap64 (Int.tdiv (wrap64 (x8 + x9)) 2)) x111000 x111001 x111002 x111003 x111004) else (rivet_Pleat.l0 k x1 (wrap64 ((wrap64 (Int.tdiv (wrap64 (x8 + x9)) 2)) + 1)) x9 x111000 x111001 x111002 x111003 x111004)))) else (if x8 > 1000 then (some (0, 7)) else (some (x8, 0)))
def rivet_Pleat.f (k : Nat) (a0_0 : Int) (a0_1 : Int) (a0_2 : Int) (a0_3 : Int) (l0_4 : List (S47)) (a1 : Int) : Option (Int × Int) := (rivet_Check.f a0_0 a0_1 a0_2 a0_3 l0_4).bind fun t112 => (if t112 = 0 then ((rivet_isDegrees.f a1).bind fun t113 => (if t113 = true then (rivet_Pleat.l0 k a1 0 1001 a0_0 a0_1 a0_2 a0_3 l0_4) else (some (0, 4)))) else (some (0, t112)))
end Go.Proofs.YtgdkmadcegleiaaGreatDoor.PRpt
end
section
namespace Go.Proofs.YtgdkmadcegleiaaGreatDoor.PRpt
open Go.RowKit Go.Proofs.YtgdkmadcegleiaaGreatDoorW.PrintWords Go.Proofs.YtgdkmadcegleiaaGreatDoorW.PrintLast Go.Proofs.YtgdkmadcegleiaaGreatDoorW.PrintMore Go.Proofs.YtgdkmadcegleiaaGreatDoor.X Go.Proofs.YtgdkmadcegleiaaGreatDoor.Y
attribute [local go_sem] max2_int min2_int max_two min_two max_three min_three max_four min_four   -- for this text's walks alone
set_option linter.unusedVariables false
set_option linter.unusedSimpArgs false
end Go.Proofs.YtgdkmadcegleiaaGreatDoor.PRpt
end
section
/- What the rows of chapter 5 take as given of the packages lattice, pleat, tooth, stick and rivet, without fuel. -/
namespace Go.Proofs.YtgdkmadcegleiaaGreatDoor.Z
open Go.RowKit Go.Proofs.YtgdkmadcegleiaaGreatDoor.X Go.Proofs.YtgdkmadcegleiaaGreatDoorW.PrintWords Go.Proofs.YtgdkmadcegleiaaGreatDoorW.PrintLast Go.Proofs.YtgdkmadcegleiaaGreatDoorW.PrintMore Go.Proofs.YtgdkmadcegleiaaGreatDoor.PToo Go.Proofs.YtgdkmadcegleiaaGreatDoor.PBen Go.Proofs.YtgdkmadcegleiaaGreatDoor.PTob Go.Proofs.YtgdkmadcegleiaaGreatDoor.PSur Go.Proofs.YtgdkmadcegleiaaGreatDoor.PIsp
abbrev rivet_Opens.f := PRst.rivet_Opens.f
theorem rivet_Opens.calls : type_of% @PRst.rivet_Opens.calls := @PRst.rivet_Opens.calls
abbrev rivet_Sticks.f := PRst.rivet_Sticks.f 60
theorem rivet_Sticks.calls : type_of% (PRst.rivet_Sticks.calls 60) := PRst.rivet_Sticks.calls 60
abbrev rivet_Pleat.f := PRpt.rivet_Pleat.f 60
abbrev pleat_Mould.f := PPlM.pleat_Mould.f 60
theorem pleat_Mould.calls : type_of% (PPlM.pleat_Mould.calls 60) := PPlM.pleat_Mould.calls 60
abbrev stick_Whole.f := PSti.stick_Whole.f
theorem stick_Whole.calls : type_of% @PSti.stick_Whole.calls := @PSti.stick_Whole.calls
def tooth_Block.f (l0_0 : List (S30)) (l0_1 : List (S30)) (a0_2 : Int) (l0_3 : List (S171)) (a1_0 : Int) (a1_1 : Int) (a1_2 : Int) (a1_3 : Int) (a2 : Int) : Option (List Int × Int) :=
  match tooth_bent.f 200 l0_0 a0_2, tooth_bent.f 200 l0_1 a0_2 with
  | some (rb, true), some (rt, true) =>
    if tooth_form.f l0_0 l0_1 a0_2 l0_3 = some 0 ∧ tooth_within.f 1 30 [a1_0] = some true ∧ tooth_within.f 1 300 [a1_1] = some true ∧ tooth_within.f 0 50 [a1_2, a1_3] = some true ∧ tooth_blade_isPlace.f l0_0 l0_1 a0_2 l0_3 rb rt a1_0 a1_1 a1_2 a1_3 a2 0 = some true then
      match tooth_blade_sure.f 200 l0_0 l0_1 a0_2 l0_3 rb rt with
      | some (s1, s2, s3) => (tooth_view_block.f 200 s1 s2 s3 a1_0 a1_1 a1_2 a1_3 a2).map (fun r => (r, 0))
      | none => none
    else none
  | _, _ => none
theorem tooth_Block.calls (A0_0 : Option Addr) (c0_0 : Nat) (l0_0 : List (S30)) (A0_1 : Option Addr) (c0_1 : Nat) (l0_1 : List (S30)) (a0_2 : Int) (A0_3 : Option Addr) (c0_3 : Nat) (l0_3 : List (S171)) (a1_0 : Int) (a1_1 : Int) (a1_2 : Int) (a1_3 : Int) (a2 : Int) (r1 : List Int) (r2 : Int) (w : World) (hr0_0 : Kd.C k30 w A0_0 l0_0.length l0_0) (hc0_0 : l0_0.length ≤ c0_0) (hr0_1 : Kd.C k30 w A0_1 l0_1.length l0_1) (hc0_1 : l0_1.length ≤ c0_1) (hr0_3 : Kd.C k171 w A0_3 l0_3.length l0_3) (hc0_3 : l0_3.length ≤ c0_3) (h : tooth_Block.f l0_0 l0_1 a0_2 l0_3 a1_0 a1_1 a1_2 a1_3 a2 = some (r1, r2)) :
    Calls Tryz.prog 65 #[.agg #[.slice A0_0 l0_0.length c0_0, .slice A0_1 l0_1.length c0_1, .int .i64 a0_2, .slice A0_3 l0_3.length c0_3], .agg #[.int .i64 a1_0, .int .i64 a1_1, .int .i64 a1_2, .int .i64 a1_3], .int .i64 a2] w fun e w' => ∃ v0_ : Value, e = .returned (.tuple #[v0_, .int .i64 r2]) ∧ Kd.R (Kd.int .i64) 3 w' w.heap.size (fun _ => True) v0_ r1 ∧ Below w.heap.size w w' := by
  unfold tooth_Block.f at h
  split at h
  · rename_i rb rt hb ht
    split at h
    · rename_i hh
      obtain ⟨hf, h1, h2, h3, hp⟩ := hh
      split at h
      · rename_i s1 s2 s3 hs
        obtain ⟨r, hbl, e⟩ := Option.map_eq_some_iff.1 h
        obtain ⟨rfl, rfl⟩ := Prod.mk.inj e
        exact Block_calls hr0_0 hc0_0 hr0_1 hc0_1 hr0_3 hc0_3 hf hb ht h1 h2 h3 hp hs hbl
      · exact absurd h (by simp)
    · exact absurd h (by simp)
  · exact absurd h (by simp)
end Go.Proofs.YtgdkmadcegleiaaGreatDoor.Z
end
section
/- TopArc, the plain law: what the walked law reckons is true for all bytes. First: how far a fan opens is always told; the gaps' arcs are set one after another. -/
namespace Go.Proofs.YtgdkmadcegleiaaGreatDoor.Arc
open Go.RowKit Go.Proofs.YtgdkmadcegleiaaGreatDoor.X Go.Proofs.YtgdkmadcegleiaaGreatDoor.Z Go.Proofs.YtgdkmadcegleiaaGreatDoorW.PrintWords Go.Proofs.YtgdkmadcegleiaaGreatDoorW.PrintLast Go.Proofs.YtgdkmadcegleiaaGreatDoorW.PrintMore
abbrev Gap := S47
abbrev Sp := S30
theorem w64 {x : Int} (h0 : -9223372036854775808 ≤ x) (h1 : x ≤ 9223372036854775807) : wrap64 x = x := by unfold wrap64; omega
theorem add_some (k : Nat) (d0 d1 s0 s1 s2 s3 a b c d : Int) (h : d0 = 73 ∨ d0 = 74) :
    ∃ u v, PRiv.rivet_end_add.f (k + 1) d0 d1 s0 s1 s2 s3 a b c d = some (u, v, s2, s3) := by
  have key : ∀ x y : Int, ∃ r, rivet_low.f d0 x y = some r := by
    intro x y
    rcases h with rfl | rfl
    · exact ⟨x, rfl⟩
    · exact ⟨y, rfl⟩
  obtain ⟨x, ex⟩ := key a b
  obtain ⟨y, ey⟩ := key c d
  unfold PRiv.rivet_end_add.f PRiv.rivet_end_add.j0
  rw [ex, ey]
  simp only [Option.bind_some]
  split
  · exact ⟨_, _, rfl⟩
  · exact ⟨_, _, rfl⟩
theorem open_some (l : List Gap) (d0 d1 : Int) (h : d0 = 73 ∨ d0 = 74) (hl : l.length < 1000) : ∀ (m k : Nat) (i s0 s1 s2 s3 : Int), 0 ≤ i → i ≤ l.length → (l.length : Int) - i ≤ m → m + 2 ≤ k →
    ∃ u v, PRiv.rivet_end_open.l0 k l (l.length : Int) i d0 d1 s0 s1 s2 s3 = some (u, v, s2, s3) := by
  intro m
  induction m with
  | zero =>
    intro k i s0 s1 s2 s3 h0 h1 h2 hk
    obtain ⟨k, rfl⟩ := Nat.exists_eq_add_of_le' (show 1 ≤ k by omega)
    refine ⟨s0, s1, ?_⟩
    unfold PRiv.rivet_end_open.l0
    rw [if_neg (by omega)]
  | succ m ih =>
    intro k i s0 s1 s2 s3 h0 h1 h2 hk
    obtain ⟨k, rfl⟩ := Nat.exists_eq_add_of_le' (show 2 ≤ k by omega)
    show ∃ u v, PRiv.rivet_end_open.l0 (k + 1 + 1) l (l.length : Int) i d0 d1 s0 s1 s2 s3 = some (u, v, s2, s3)
    by_cases hi : i < l.length
    · unfold PRiv.rivet_end_open.l0
      rw [if_pos hi, if_pos h0, if_pos hi]
      obtain ⟨u, v, e⟩ := add_some k d0 d1 s0 s1 s2 s3 ((rd_T47 l i).f0.f0) ((rd_T47 l i).f0.f1) ((rd_T47 l i).f1.f0) ((rd_T47 l i).f1.f1) h
      rw [e]
      simp only [Option.bind_some]
      rw [w64 (by omega) (by omega)]
      exact ih (k + 1) (i + 1) u v s2 s3 (by omega) (by omega) (by omega) (by omega)
    · refine ⟨s0, s1, ?_⟩
      unfold PRiv.rivet_end_open.l0
      rw [if_neg hi]
theorem degrees_some (a b c d : Int) (h : wrap64 (71 * wrap64 (c * d)) ≠ 0) : ∃ r, PRiv.rivet_turn_degrees.f a b c d = some r := by
  unfold PRiv.rivet_turn_degrees.f PRiv.rivet_turn_parts.f
  simp only [Option.bind_some]
  rw [if_neg h]
  exact ⟨_, rfl⟩
def lowOf (l : List Gap) : Int := ((Y.rivet_opens.f 900 1000 40 50 l).getD (0, 0)).1
def st (a : Int) (g : Gap) : Gap := ⟨⟨a, a⟩, ⟨g.f1.f0, g.f1.f1⟩⟩
def setUp (a : Int) (l : List Gap) (i : Nat) : List Gap := l.mapIdx fun j g => if j < i then st a g else g
theorem check_ok (l : List Gap) (hl : l.length ≤ 40) (hb : l.any gapBad = false) : Y.rivet_Check.f 900 1000 40 50 l = some 0 := by
  unfold Y.rivet_Check.f PRck.rivet_Check.f
  have e1 : X.rivet_isSpan.f 900 1000 1 5000 = some true := by decide +kernel
  have e2 : X.rivet_isSpan.f 40 50 1 5000 = some true := by decide +kernel
  rw [e1, e2]
  simp only [Option.bind_some, if_true]
  simp only [PRck.rivet_Check.j0]
  have e3 : decide ((50 : Int) ≥ 900) = false := by decide
  have e4 : Yc.api_RivetGap.f l 50 = some false := by
    unfold Yc.api_RivetGap.f
    rw [if_pos rfl, hb]
  rw [e3, if_neg (by decide), if_neg (by omega)]
  rw [e4]
  rfl
def E (l : List Gap) (deg a : Int) : Bool := decide (lowOf (setUp a l l.length) ≥ deg)
end Go.Proofs.YtgdkmadcegleiaaGreatDoor.Arc
end
section
namespace Go.Proofs.YtgdkmadcegleiaaGreatDoor.PGiv
open Go.RowKit Go.Proofs.YtgdkmadcegleiaaGreatDoorW.PrintWords Go.Proofs.YtgdkmadcegleiaaGreatDoorW.PrintLast Go.Proofs.YtgdkmadcegleiaaGreatDoorW.PrintMore Go.Proofs.YtgdkmadcegleiaaGreatDoor.X
attribute [local go_sem] max2_int min2_int max_two min_two max_three min_three max_four min_four   -- for this text's walks alone
set_option linter.unusedVariables false
set_option linter.unusedSimpArgs false
def errW : Option Int → Value
  | none => .nilIface
  | some c => .iface 0 (.int .i64 c)
theorem errW_none : errW none = .nilIface := rfl
theorem errW_some (c : Int) : errW (some c) = .iface 0 (.int .i64 c) := rfl
theorem info3 : (Tryz.prog.info? 3).map (fun i => (i.zero, i.size, i.bytes)) = some (some (.int .i64 0), 1, 8) := by kernel_rfl
-- the values' own types
end Go.Proofs.YtgdkmadcegleiaaGreatDoor.PGiv
end
section
namespace Go.Proofs.YtgdkmadcegleiaaGreatDoor.PGiv
open Go.RowKit Go.Proofs.YtgdkmadcegleiaaGreatDoor.Sq Go.Proofs.YtgdkmadcegleiaaGreatDoorW.PrintWords Go.Proofs.YtgdkmadcegleiaaGreatDoorW.PrintLast Go.Proofs.YtgdkmadcegleiaaGreatDoorW.PrintMore Go.Proofs.YtgdkmadcegleiaaGreatDoor.X
attribute [local go_sem] max2_int min2_int max_two min_two max_three min_three max_four min_four   -- for this text's walks alone
set_option linter.unusedVariables false
set_option linter.unusedSimpArgs false
def stick_piercer_breaks.f (a0_0 : Int) (a0_1 : Int) (a1 : Int) : Option (Int) := if a0_0 = 0 then (none) else (some (wrap64 ((wrap64 ((wrap64 (Int.tdiv a1 a0_0)) * a0_1)) + (mn (Int.tmod a1 a0_0) a0_1))))
set_option maxHeartbeats 8000000 in
set_option maxRecDepth 100000 in
theorem stick_piercer_breaks.calls (a0_0 : Int) (a0_1 : Int) (a1 : Int) (r : Int) (w : World) (h : stick_piercer_breaks.f a0_0 a0_1 a1 = some r) :
  Calls Tryz.prog 33 #[.agg #[.int .i64 a0_0, .int .i64 a0_1], .int .i64 a1] w fun e w' => e = .returned (.int .i64 r) ∧ Below w.heap.size w w' := by
 have hu88 := Tryz.underlying88
 have HB := Aside0.mk (Below.refl w.heap.size w)
 have H : (if a0_0 = 0 then (none) else (some (wrap64 ((wrap64 ((wrap64 (Int.tdiv a1 a0_0)) * a0_1)) + (mn (Int.tmod a1 a0_0) a0_1))))) = some r := h
 clear h
 by_cases c3 : a0_0 = 0
 ·rw [if_pos c3] at H
  exact absurd H (by simp)
 ·rw [if_neg c3] at H
  have c3b0 : (a0_0 == 0) = false := beq_eq_false_iff_ne.mpr c3
  have c3b1 : (a0_0 != 0) = true := bne_iff_ne.mpr c3
  obtain ⟨ji4, hji4⟩ : ∃ j_ : Int, (mn (Int.tmod a1 a0_0) a0_1) = j_ := ⟨_, rfl⟩
  replace H : (some (wrap64 ((wrap64 ((wrap64 (Int.tdiv a1 a0_0)) * a0_1)) + (ji4)))) = some r := by first | (rw [hji4] at H; exact H) | (simp only [hji4] at H ⊢; exact H)
  have hji4_ : (if a0_1 < (Int.tmod a1 a0_0) then a0_1 else (Int.tmod a1 a0_0)) = ji4 := hji4
  obtain rfl := Option.some.inj H
  go_enter Tryz.func33, Tryz.ntmps33
  go_wp2_with (first | ((with_reducible refine gate_dst (N := 2) rfl ?_); refine boxA (N := 2) (cs := #[.int .i64 a0_0, .int .i64 a0_1]) (t := 88) ?_; intro gb101 hg w5 hbox hb; have BK101 := Aside0.mk (hbox); have GW101 := bG HB hg; have GE101 := bG HB hg; replace HB := bS HB hb; clear hb hbox hg; obtain ⟨hcz6_0, hcz6_1, hfz6_0, hfz6_1⟩ := cc2 BK101))
  repeat (go_quiet (first | ((with_reducible refine gate_dst (N := 2) rfl ?_); refine boxA (N := 2) (cs := #[.int .i64 a0_0, .int .i64 a0_1]) (t := 88) ?_; intro gb101 hg w5 hbox hb; have BK101 := Aside0.mk (hbox); have GW101 := bG HB hg; have GE101 := bG HB hg; replace HB := bS HB hb; clear hb hbox hg; obtain ⟨hcz6_0, hcz6_1, hfz6_0, hfz6_1⟩ := cc2 BK101)); try go_wp2_with (first | ((with_reducible refine gate_dst (N := 2) rfl ?_); refine boxA (N := 2) (cs := #[.int .i64 a0_0, .int .i64 a0_1]) (t := 88) ?_; intro gb101 hg w5 hbox hb; have BK101 := Aside0.mk (hbox); have GW101 := bG HB hg; have GE101 := bG HB hg; replace HB := bS HB hb; clear hb hbox hg; obtain ⟨hcz6_0, hcz6_1, hfz6_0, hfz6_1⟩ := cc2 BK101)))
  go_ret
  exact ⟨by first | rfl | (simp [errW_none, errW_some] <;> rfl) | (simp only [← hji4]; first | rfl | (simp [errW_none, errW_some] <;> rfl)) | (simp [*, errW_none, errW_some] <;> rfl), bX HB⟩
def stick_Give_1.f (a0 : Int) (a1_0 : Int) (a1_1 : Int) (a2 : Int) : Option (Bool) := (stick_piercer_breaks.f a1_0 a1_1 a0).bind fun t104 => (some (decide ((wrap64 (a0 - t104)) < a2)))
def stick_Give_1.T1 : Bool × List (List Nat × List Nat) := (true, [([], []), ([], []), ([1], [1]), ([], []), ([2, 3], [2, 3]), ([0, 4], [0, 4]), ([], []), ([5, 6], [5, 6]), ([7, 4, 0, 1, 2, 3, 4, 5, 6, 7], [7])])
def stick_Give_1.B1 : List Nat := [0, 0, 2, 0, 14, 31, 0, 127, 255]
theorem stick_Give_1.tab1 : rtab .any (opsOf Tryz.f32 1) = stick_Give_1.T1 := by kernel_rfl
theorem stick_Give_1.bits1 : waitsOk stick_Give_1.T1.2 stick_Give_1.B1 = true := by kernel_rfl
set_option maxHeartbeats 8000000 in
set_option maxRecDepth 100000 in
theorem stick_Give_1.calls (a0 : Int) (a1_0 : Int) (a1_1 : Int) (a2 : Int) (r : Bool) (w : World) (gb102 gb103 : Nat) (hgb102 : w.heap[gb102]? = some (.cells #[.int .i64 a1_0, .int .i64 a1_1] 42 (0, 0))) (hgb103 : w.heap[gb103]? = some (.cells #[.int .i64 a2] 3 (0, 0))) (h : stick_Give_1.f a0 a1_0 a1_1 a2 = some r) :
  Calls Tryz.prog 32 #[.int .i64 a0, .pointer (some ⟨gb102, 0, none⟩), .pointer (some ⟨gb103, 0, none⟩)] w fun e w' => e = .returned (.bool r) ∧ Below w.heap.size w w' := by
 have hu42 := Tryz.underlying42
 have hu88 := Tryz.underlying88
 have HB := Aside0.mk (Below.refl w.heap.size w)
 have H : ((stick_piercer_breaks.f a1_0 a1_1 a0).bind fun t104 => (some (decide ((wrap64 (a0 - t104)) < a2)))) = some r := h
 clear h
 replace H := Option.bind_eq_some_iff.mp H
 obtain ⟨t104, A40, H⟩ := H
 try dsimp only at H
 have A4 := Aside0.mk A40
 clear A40
 obtain rfl := Option.some.inj H
 have BK102 := Aside0.mk hgb102
 have BK103 := Aside0.mk hgb103
 have NB102_103 : Aside0 (gb102 ≠ gb103) := ⟨blk_ne hgb102 hgb103 (by decide)⟩
 have NB103_102 : Aside0 (gb103 ≠ gb102) := ⟨blk_ne hgb103 hgb102 (by decide)⟩
 clear hgb102 hgb103
 go_enter Tryz.func32, Tryz.ntmps32
 go_wp2
 replace BK102 := Aside0.mk (blk_drew BK102.out)
 replace BK103 := Aside0.mk (blk_drew BK103.out)
 replace HB := Aside0.mk (below_drew1 HB.out)
 refine start_ (n := 9) (S := fun w' => w'.cell? ⟨gb102, 0, none⟩ = some (.int .i64 a1_0) ∧ w'.cell? ⟨gb102, 1, none⟩ = some (.int .i64 a1_1) ∧ w'.cell? ⟨gb103, 0, none⟩ = some (.int .i64 a2)) (ds := []) #[false, false, false, false, false, false, false, false, false] (by kernel_rfl) rfl rfl ⟨(blk_cell BK102.out 0).trans rfl, (blk_cell BK102.out 1).trans rfl, (blk_cell BK103.out 0).trans rfl⟩ (fun hHeld => ?_); refine with_tabW stick_Give_1.tab1 stick_Give_1.bits1 (fun HT_ HW_ => ?_)
 generalize w.drew = w7 at BK102 BK103 HB hHeld ⊢
 refine pureA (i := 0) (N := some 5) HT_ ?_
 refine pureA (i := 3) (N := some 8) HT_ ?_
 refine takeA (i := 1) (N := some 6) HT_ HW_ hHeld ?_
 refine pureA (i := 2) (N := some 7) HT_ ?_
 refine takeA (i := 6) (N := some 11) HT_ HW_ hHeld ?_
 refine oneA (i := 4) (N := some 9) HT_ (fun K hK => ?_)
 refine goesB Tryz.func33 #[.agg #[.int .i64 a1_0, .int .i64 a1_1], .int .i64 a0] ?_
 with_reducible refine (stick_piercer_breaks.calls a1_0 a1_1 a0 t104 _ A4.out).mono ?_
 rintro e w8 ⟨rfl, hb⟩
 refine ⟨_, rfl, ?_⟩
 replace BK102 := kB BK102 hb
 replace BK103 := kB BK103 hb
 replace HB := bS HB hb
 (try clear hb)
 (try clear hb2)
 (try clear hk)
 (try clear hi)
 refine hK.out _ _ ⟨(blk_cell BK102.out 0).trans rfl, (blk_cell BK102.out 1).trans rfl, (blk_cell BK103.out 0).trans rfl⟩ (fun hHeld => ?_)
 clear hK K
 refine normA (N := some 9) ?_
 refine pureA (i := 5) (N := some 10) HT_ ?_
 refine pureA (i := 7) (N := some 12) HT_ ?_
 refine pureA (i := 8) (N := some 4) HT_ ?_
 refine done_ (done_of HT_.out (by kernel_rfl)) ?_
 try go_wp2
 go_ret
 exact ⟨by first | rfl | (simp [errW_none, errW_some] <;> rfl) | (simp [*, errW_none, errW_some] <;> rfl), bX HB⟩
def stick_isPiercer.f (a0_0 : Int) (a0_1 : Int) : Option (Bool) := (stick_within.f 2 10 (([a0_0] : List Int))).bind fun t109 => (if t109 = true then ((stick_within.f 0 a0_0 (([a0_1] : List Int))).bind fun t113 => (some t113)) else (some false))
set_option maxHeartbeats 8000000 in
set_option maxRecDepth 100000 in
theorem stick_isPiercer.calls (a0_0 : Int) (a0_1 : Int) (r : Bool) (w : World) (h : stick_isPiercer.f a0_0 a0_1 = some r) :
  Calls Tryz.prog 30 #[.agg #[.int .i64 a0_0, .int .i64 a0_1]] w fun e w' => e = .returned (.bool r) ∧ Below w.heap.size w w' := by
 have hu42 := Tryz.underlying42
 have HB := Aside0.mk (Below.refl w.heap.size w)
 have H : ((stick_within.f 2 10 (([a0_0] : List Int))).bind fun t109 => (if t109 = true then ((stick_within.f 0 a0_0 (([a0_1] : List Int))).bind fun t113 => (some t113)) else (some false))) = some r := h
 clear h
 obtain ⟨y106, hy106⟩ : ∃ y_ : List Int, y_ = (([a0_0] : List Int)) := ⟨_, rfl⟩
 replace H : ((stick_within.f 2 10 y106).bind fun t109 => (if t109 = true then ((stick_within.f 0 a0_0 (([a0_1] : List Int))).bind fun t113 => (some t113)) else (some false))) = some r := by first | (rw [hy106]; with_reducible exact H) | (have H2_ := (Option.bind_some _ _).symm.trans H; rw [hy106]; with_reducible exact H2_) | (have H2_ := (Option.bind_some _ _).symm.trans H; with_reducible exact H2_) | with_reducible exact H | (rw [hy106]; exact H) | exact H
 have Ny106 := Aside0.mk hy106
 clear hy106
 replace H := Option.bind_eq_some_iff.mp H
 obtain ⟨t109, A20, H⟩ := H
 try dsimp only at H
 have A2 := Aside0.mk A20
 clear A20
 by_cases c3 : t109 = true
 ·subst c3
  have H1 : ((stick_within.f 0 a0_0 (([a0_1] : List Int))).bind fun t113 => (some t113)) = some r := by rw [if_pos rfl] at H; exact H
  clear H
  have H := H1
  clear H1
  obtain ⟨y110, hy110⟩ : ∃ y_ : List Int, y_ = (([a0_1] : List Int)) := ⟨_, rfl⟩
  replace H : ((stick_within.f 0 a0_0 y110).bind fun t113 => (some t113)) = some r := by first | (rw [hy110]; with_reducible exact H) | (have H2_ := (Option.bind_some _ _).symm.trans H; rw [hy110]; with_reducible exact H2_) | (have H2_ := (Option.bind_some _ _).symm.trans H; with_reducible exact H2_) | with_reducible exact H | (rw [hy110]; exact H) | exact H
  have Ny110 := Aside0.mk hy110
  clear hy110
  replace H := Option.bind_eq_some_iff.mp H
  obtain ⟨t113, A40, H⟩ := H
  try dsimp only at H
  have A4 := Aside0.mk A40
  clear A40
  obtain rfl := Option.some.inj H
  go_enter Tryz.func30, Tryz.ntmps30
  go_wp2_with (first | ((with_reducible refine gate_dst (N := 1) rfl ?_); (try (refine gate_guard (by rfl) ?_; dsimp only)); refine boxA (N := 1) (cs := #[.int .i64 a0_0, .int .i64 a0_1]) (t := 42) ?_; intro gb105 hg w5 hbox hb; have BK105 := Aside0.mk (hbox); have GW105 := bG HB hg; have GE105 := bG HB hg; replace HB := bS HB hb; clear hb hbox hg; obtain ⟨hcz6_0, hcz6_1, hfz6_0, hfz6_1⟩ := cc2 BK105) | ((with_reducible refine gate_dst (N := 5) rfl ?_); (try (refine gate_guard (by rfl) ?_; dsimp only)); refine Kd.R_lit (Kd.int .i64) _ 3 ?hg (N := 5) ?hd (xs := ([a0_0] : List Int)) (inner := [.int .i64 a0_0]) (ok := fun _ => True) (okp := fun _ => True) ?hr ?hp (fun _ hk => hk) trivial (Below.refl _ _) (Nat.le_refl _) (by simp) ?_; (case hd => rfl); (case hg => rfl); (case hr => first | (go_simp; done) | (go_simp; rfl)); (case hp => exact (Reps.one (show Kd.M (Kd.int .i64) _ _ _ a0_0 [.int .i64 a0_0] from rfl) (Reps.none _ _))); intro v107 w7 ho8 hb hg_ hnew_; clear hg_ hnew_; (first | rw [← Ny106.out] at ho8 | (simp only [Int.reduceToNat] at ho8; rw [← Ny106.out] at ho8)); have HO108 := Aside0.mk (Kd.R_lower ho8 (below_size (bX HB))); replace BK105 := kB BK105 hb; replace HB := bS HB hb; clear hb ho8; obtain ⟨Ao9, co9, eo9⟩ := Kd.R_slice HO108.out; subst eo9) | ((with_reducible refine gate_callee (f := 31) rfl ?_); refine goesA (some 6) Tryz.func31 #[.int .i64 2, .int .i64 10, .slice Ao9 y106.length co9] ?_; (with_reducible refine (stick_within.calls 2 10 _ _ y106 true _ ?side1 ?side2 A2.out).mono ?_); (case side1 => exact sX (Kd.R_reads' HO108.out).2.2); (case side2 => exact (Kd.R_reads' HO108.out).2.1); rintro e w10 ⟨rfl, hb⟩; refine ⟨_, rfl, ?_⟩; replace HO108 := rB HO108 hb; replace BK105 := kB BK105 hb; replace HB := bS HB hb; (try clear hb); (try clear hb2); (try clear hk); (try clear hi); obtain ⟨hcz11_0, hcz11_1, hfz11_0, hfz11_1⟩ := cc2 BK105) | ((with_reducible refine gate_dst (N := 12) rfl ?_); (try (refine gate_guard (by rfl) ?_; dsimp only)); refine Kd.R_lit (Kd.int .i64) _ 3 ?hg (N := 12) ?hd (xs := ([a0_1] : List Int)) (inner := [.int .i64 a0_1]) (ok := fun _ => True) (okp := fun _ => True) ?hr ?hp (fun _ hk => hk) trivial (Below.refl _ _) (Nat.le_refl _) (by simp) ?_; (case hd => rfl); (case hg => rfl); (case hr => first | (go_simp; done) | (go_simp; rfl)); (case hp => exact (Reps.one (show Kd.M (Kd.int .i64) _ _ _ a0_1 [.int .i64 a0_1] from rfl) (Reps.none _ _))); intro v111 w12 ho13 hb hg_ hnew_; clear hg_ hnew_; (first | rw [← Ny110.out] at ho13 | (simp only [Int.reduceToNat] at ho13; rw [← Ny110.out] at ho13)); have HO112 := Aside0.mk (Kd.R_lower (Kd.R_new' ho13 (Kd.R_lt (rX HO108.out))) (below_size (bX HB))); replace HO108 := Aside0.mk (Kd.R_elder' (rX HO108.out) (Kd.R_base ho13) hb); replace BK105 := kB BK105 hb; replace HB := bS HB hb; clear hb ho13; obtain ⟨Ao14, co14, eo14⟩ := Kd.R_slice HO112.out; subst eo14) | (go_at_call 31; (with_reducible refine (stick_within.calls 0 a0_0 _ _ y110 t113 _ ?side1 ?side2 A4.out).mono ?_); (case side1 => exact sX (Kd.R_reads' HO112.out).2.2); (case side2 => exact (Kd.R_reads' HO112.out).2.1); rintro e w15 ⟨rfl, hb⟩; replace HO108 := rB HO108 hb; replace HO112 := rB HO112 hb; replace BK105 := kB BK105 hb; replace HB := bS HB hb; (try clear hb); (try clear hb2); (try clear hk); (try clear hi)))
  go_ret
  exact ⟨by first | rfl | (simp [errW_none, errW_some] <;> rfl) | (simp [*, errW_none, errW_some] <;> rfl), bX HB⟩
 ·replace c3 := Bool.eq_false_iff.mpr c3
  subst c3
  have H1 : (some false) = some r := by rw [if_neg (show ¬ (false = true) by decide)] at H; exact H
  clear H
  have H := H1
  clear H1
  obtain rfl := Option.some.inj H
  go_enter Tryz.func30, Tryz.ntmps30
  go_wp2_with (first | ((with_reducible refine gate_dst (N := 1) rfl ?_); (try (refine gate_guard (by rfl) ?_; dsimp only)); refine boxA (N := 1) (cs := #[.int .i64 a0_0, .int .i64 a0_1]) (t := 42) ?_; intro gb105 hg w16 hbox hb; have BK105 := Aside0.mk (hbox); have GW105 := bG HB hg; have GE105 := bG HB hg; replace HB := bS HB hb; clear hb hbox hg; obtain ⟨hcz17_0, hcz17_1, hfz17_0, hfz17_1⟩ := cc2 BK105) | ((with_reducible refine gate_dst (N := 5) rfl ?_); (try (refine gate_guard (by rfl) ?_; dsimp only)); refine Kd.R_lit (Kd.int .i64) _ 3 ?hg (N := 5) ?hd (xs := ([a0_0] : List Int)) (inner := [.int .i64 a0_0]) (ok := fun _ => True) (okp := fun _ => True) ?hr ?hp (fun _ hk => hk) trivial (Below.refl _ _) (Nat.le_refl _) (by simp) ?_; (case hd => rfl); (case hg => rfl); (case hr => first | (go_simp; done) | (go_simp; rfl)); (case hp => exact (Reps.one (show Kd.M (Kd.int .i64) _ _ _ a0_0 [.int .i64 a0_0] from rfl) (Reps.none _ _))); intro v107 w18 ho19 hb hg_ hnew_; clear hg_ hnew_; (first | rw [← Ny106.out] at ho19 | (simp only [Int.reduceToNat] at ho19; rw [← Ny106.out] at ho19)); have HO108 := Aside0.mk (Kd.R_lower ho19 (below_size (bX HB))); replace BK105 := kB BK105 hb; replace HB := bS HB hb; clear hb ho19; obtain ⟨Ao20, co20, eo20⟩ := Kd.R_slice HO108.out; subst eo20) | ((with_reducible refine gate_callee (f := 31) rfl ?_); refine goesA (some 6) Tryz.func31 #[.int .i64 2, .int .i64 10, .slice Ao20 y106.length co20] ?_; (with_reducible refine (stick_within.calls 2 10 _ _ y106 false _ ?side1 ?side2 A2.out).mono ?_); (case side1 => exact sX (Kd.R_reads' HO108.out).2.2); (case side2 => exact (Kd.R_reads' HO108.out).2.1); rintro e w21 ⟨rfl, hb⟩; refine ⟨_, rfl, ?_⟩; replace HO108 := rB HO108 hb; replace BK105 := kB BK105 hb; replace HB := bS HB hb; (try clear hb); (try clear hb2); (try clear hk); (try clear hi)))
  go_ret
  exact ⟨by first | rfl | (simp [errW_none, errW_some] <;> rfl) | (simp [*, errW_none, errW_some] <;> rfl), bX HB⟩
def stick_Give.l0 : Nat → Int → Int → Int → Int → Int → Option (Int × Int)
 | 0, _, _, _, _, _ => none
 | k + 1, x1, x7, x8, x115000, x115001 => if x7 < x8 then ((stick_Give_1.f (wrap64 (Int.tdiv (wrap64 (x7 + x8)) 2)) x115000 x115001 x1).bind fun t122 => (if t122 = true then (stick_Give.l0 k x1 (wrap64 ((wrap64 (Int.tdiv (wrap64 (x7 + x8)) 2)) + 1)) x8 x115000 x115001) else (stick_Give.l0 k x1 x7 (wrap64 (Int.tdiv (wrap64 (x7 + x8)) 2)) x115000 x115001))) else (some (x7, 0))
def stick_Give.f (k : Nat) (a0_0 : Int) (a0_1 : Int) (a1 : Int) : Option (Int × Int) := (stick_isPiercer.f a0_0 a0_1).bind fun t116 => (if t116 = true then ((stick_within.f 0 1000000 (([a1] : List Int))).bind fun t120 => (if t120 = true then ((stick_Give_1.f 1000000 a0_0 a0_1 a1).bind fun t121 => (if t121 = true then (some (0, 7)) else (stick_Give.l0 k a1 0 1000000 a0_0 a0_1))) else (some (0, 3)))) else (some (0, 2)))
set_option maxHeartbeats 8000000 in
set_option maxRecDepth 100000 in
theorem stick_Give.calls (k : Nat) (a0_0 : Int) (a0_1 : Int) (a1 : Int) (r1 : Int) (r2 : Int) (w : World) (h : stick_Give.f k a0_0 a0_1 a1 = some (r1, r2)) :
  Calls Tryz.prog 10 #[.agg #[.int .i64 a0_0, .int .i64 a0_1], .int .i64 a1] w fun e w' => e = .returned (.tuple #[.int .i64 r1, .int .i64 r2]) ∧ Below w.heap.size w w' := by
 have hu42 := Tryz.underlying42
 have HB := Aside0.mk (Below.refl w.heap.size w)
 have H : ((stick_isPiercer.f a0_0 a0_1).bind fun t116 => (if t116 = true then ((stick_within.f 0 1000000 (([a1] : List Int))).bind fun t120 => (if t120 = true then ((stick_Give_1.f 1000000 a0_0 a0_1 a1).bind fun t121 => (if t121 = true then (some (0, 7)) else (stick_Give.l0 k a1 0 1000000 a0_0 a0_1))) else (some (0, 3)))) else (some (0, 2)))) = some (r1, r2) := h
 clear h
 replace H := Option.bind_eq_some_iff.mp H
 obtain ⟨t116, A30, H⟩ := H
 try dsimp only at H
 have A3 := Aside0.mk A30
 clear A30
 by_cases c4 : t116 = true
 ·subst c4
  have H1 : ((stick_within.f 0 1000000 (([a1] : List Int))).bind fun t120 => (if t120 = true then ((stick_Give_1.f 1000000 a0_0 a0_1 a1).bind fun t121 => (if t121 = true then (some (0, 7)) else (stick_Give.l0 k a1 0 1000000 a0_0 a0_1))) else (some (0, 3)))) = some (r1, r2) := by rw [if_pos rfl] at H; exact H
  clear H
  have H := H1
  clear H1
  obtain ⟨y117, hy117⟩ : ∃ y_ : List Int, y_ = (([a1] : List Int)) := ⟨_, rfl⟩
  replace H : ((stick_within.f 0 1000000 y117).bind fun t120 => (if t120 = true then ((stick_Give_1.f 1000000 a0_0 a0_1 a1).bind fun t121 => (if t121 = true then (some (0, 7)) else (stick_Give.l0 k a1 0 1000000 a0_0 a0_1))) else (some (0, 3)))) = some (r1, r2) := by first | (rw [hy117]; with_reducible exact H) | (have H2_ := (Option.bind_some _ _).symm.trans H; rw [hy117]; with_reducible exact H2_) | (have H2_ := (Option.bind_some _ _).symm.trans H; with_reducible exact H2_) | with_reducible exact H | (rw [hy117]; exact H) | exact H
  have Ny117 := Aside0.mk hy117
  clear hy117
  replace H := Option.bind_eq_some_iff.mp H
  obtain ⟨t120, A50, H⟩ := H
  try dsimp only at H
  have A5 := Aside0.mk A50
  clear A50
  by_cases c6 : t120 = true
  ·subst c6
   have H1 : ((stick_Give_1.f 1000000 a0_0 a0_1 a1).bind fun t121 => (if t121 = true then (some (0, 7)) else (stick_Give.l0 k a1 0 1000000 a0_0 a0_1))) = some (r1, r2) := by rw [if_pos rfl] at H; exact H
   clear H
   have H := H1
   clear H1
   replace H := Option.bind_eq_some_iff.mp H
   obtain ⟨t121, A70, H⟩ := H
   try dsimp only at H
   have A7 := Aside0.mk A70
   clear A70
   by_cases c8 : t121 = true
   ·subst c8
    have H1 : (some (0, 7)) = some (r1, r2) := by rw [if_pos rfl] at H; exact H
    clear H
    have H := H1
    clear H1
    simp only [Option.some.injEq, Prod.mk.injEq] at H
    obtain ⟨rfl, rfl⟩ := H
    go_enter Tryz.func10, Tryz.ntmps10
    go_wp2_with (first | ((with_reducible refine gate_dst (N := 2) rfl ?_); refine boxA (N := 2) (cs := #[.int .i64 a0_0, .int .i64 a0_1]) (t := 42) ?_; intro gb114 hg w9 hbox hb; have BK114 := Aside0.mk (hbox); have GW114 := bG HB hg; have GE114 := bG HB hg; replace HB := bS HB hb; clear hb hbox hg) | ((with_reducible refine gate_dst (N := 3) rfl ?_); refine boxA (N := 3) (cs := #[.int .i64 a1]) (t := 3) ?_; intro gb115 hg w10 hbox hb; have BK115 := Aside0.mk (hbox); have GW115 := bG HB hg; have GE115 := bG HB hg; have NB114_115 := kN BK114 hg; have NB115_114 := kM BK114 hg; replace BK114 := kB BK114 hb; replace HB := bS HB hb; clear hb hbox hg; have hnb11 := NB114_115.out; have hnc11 := NB115_114.out; obtain ⟨hcz12_0, hcz12_1, hfz12_0, hfz12_1⟩ := cc2 BK114) | ((with_reducible refine gate_callee (f := 30) rfl ?_); refine goesA (some 12) Tryz.func30 #[.agg #[.int .i64 a0_0, .int .i64 a0_1]] ?_; (with_reducible refine (stick_isPiercer.calls a0_0 a0_1 true _ A3.out).mono ?_); rintro e w13 ⟨rfl, hb⟩; refine ⟨_, rfl, ?_⟩; replace BK114 := kB BK114 hb; replace BK115 := kB BK115 hb; replace HB := bS HB hb; (try clear hb); (try clear hb2); (try clear hk); (try clear hi); obtain ⟨hcz14_0, hfz14_0⟩ := cc1 BK115) | ((with_reducible refine gate_dst (N := 16) rfl ?_); refine Kd.R_lit (Kd.int .i64) _ 3 ?hg (N := 16) ?hd (xs := ([a1] : List Int)) (inner := [.int .i64 a1]) (ok := fun _ => True) (okp := fun _ => True) ?hr ?hp (fun _ hk => hk) trivial (Below.refl _ _) (Nat.le_refl _) (by simp) ?_; (case hd => rfl); (case hg => rfl); (case hr => first | (go_simp; done) | (go_simp; rfl)); (case hp => exact (Reps.one (show Kd.M (Kd.int .i64) _ _ _ a1 [.int .i64 a1] from rfl) (Reps.none _ _))); intro v118 w15 ho16 hb hg_ hnew_; clear hg_ hnew_; (first | rw [← Ny117.out] at ho16 | (simp only [Int.reduceToNat] at ho16; rw [← Ny117.out] at ho16)); have HO119 := Aside0.mk (Kd.R_lower ho16 (below_size (bX HB))); replace BK114 := kB BK114 hb; replace BK115 := kB BK115 hb; replace HB := bS HB hb; clear hb ho16; obtain ⟨Ao17, co17, eo17⟩ := Kd.R_slice HO119.out; subst eo17) | ((with_reducible refine gate_callee (f := 31) rfl ?_); refine goesA (some 17) Tryz.func31 #[.int .i64 0, .int .i64 1000000, .slice Ao17 y117.length co17] ?_; (with_reducible refine (stick_within.calls 0 1000000 _ _ y117 true _ ?side1 ?side2 A5.out).mono ?_); (case side1 => exact sX (Kd.R_reads' HO119.out).2.2); (case side2 => exact (Kd.R_reads' HO119.out).2.1); rintro e w18 ⟨rfl, hb⟩; refine ⟨_, rfl, ?_⟩; replace HO119 := rB HO119 hb; replace BK114 := kB BK114 hb; replace BK115 := kB BK115 hb; replace HB := bS HB hb; (try clear hb); (try clear hb2); (try clear hk); (try clear hi); obtain ⟨hcz19_0, hcz19_1, hfz19_0, hfz19_1⟩ := cc2 BK114) | (go_at_call 32; (with_reducible refine (stick_Give_1.calls 1000000 a0_0 a0_1 a1 true _ gb114 gb115  ?side1 ?side2 A7.out).mono ?_); (case side1 => exact (kX BK114.out)); (case side2 => exact (kX BK115.out)); rintro e w20 ⟨rfl, hb⟩; replace HO119 := rB HO119 hb; replace BK114 := kB BK114 hb; replace BK115 := kB BK115 hb; replace HB := bS HB hb; (try clear hb); (try clear hb2); (try clear hk); (try clear hi)))
    go_ret2
    exact ⟨by first | rfl | (simp [errW_none, errW_some] <;> rfl) | (simp [*, errW_none, errW_some] <;> rfl), bX HB⟩
   ·replace c8 := Bool.eq_false_iff.mpr c8
    subst c8
    have H1 : (stick_Give.l0 k a1 0 1000000 a0_0 a0_1) = some (r1, r2) := by rw [if_neg (show ¬ (false = true) by decide)] at H; exact H
    clear H
    have H := H1
    clear H1
    have H' := Aside0.mk H
    clear H
    go_enter Tryz.func10, Tryz.ntmps10
    go_wp2_with (first | ((with_reducible refine gate_dst (N := 2) rfl ?_); refine boxA (N := 2) (cs := #[.int .i64 a0_0, .int .i64 a0_1]) (t := 42) ?_; intro gb114 hg w21 hbox hb; have BK114 := Aside0.mk (hbox); have GW114 := bG HB hg; have GE114 := bG HB hg; replace HB := bS HB hb; clear hb hbox hg) | ((with_reducible refine gate_dst (N := 3) rfl ?_); refine boxA (N := 3) (cs := #[.int .i64 a1]) (t := 3) ?_; intro gb115 hg w22 hbox hb; have BK115 := Aside0.mk (hbox); have GW115 := bG HB hg; have GE115 := bG HB hg; have NB114_115 := kN BK114 hg; have NB115_114 := kM BK114 hg; replace BK114 := kB BK114 hb; replace HB := bS HB hb; clear hb hbox hg; have hnb23 := NB114_115.out; have hnc23 := NB115_114.out; obtain ⟨hcz24_0, hcz24_1, hfz24_0, hfz24_1⟩ := cc2 BK114) | ((with_reducible refine gate_callee (f := 30) rfl ?_); refine goesA (some 12) Tryz.func30 #[.agg #[.int .i64 a0_0, .int .i64 a0_1]] ?_; (with_reducible refine (stick_isPiercer.calls a0_0 a0_1 true _ A3.out).mono ?_); rintro e w25 ⟨rfl, hb⟩; refine ⟨_, rfl, ?_⟩; replace BK114 := kB BK114 hb; replace BK115 := kB BK115 hb; replace HB := bS HB hb; (try clear hb); (try clear hb2); (try clear hk); (try clear hi); obtain ⟨hcz26_0, hfz26_0⟩ := cc1 BK115) | ((with_reducible refine gate_dst (N := 16) rfl ?_); refine Kd.R_lit (Kd.int .i64) _ 3 ?hg (N := 16) ?hd (xs := ([a1] : List Int)) (inner := [.int .i64 a1]) (ok := fun _ => True) (okp := fun _ => True) ?hr ?hp (fun _ hk => hk) trivial (Below.refl _ _) (Nat.le_refl _) (by simp) ?_; (case hd => rfl); (case hg => rfl); (case hr => first | (go_simp; done) | (go_simp; rfl)); (case hp => exact (Reps.one (show Kd.M (Kd.int .i64) _ _ _ a1 [.int .i64 a1] from rfl) (Reps.none _ _))); intro v118 w27 ho28 hb hg_ hnew_; clear hg_ hnew_; (first | rw [← Ny117.out] at ho28 | (simp only [Int.reduceToNat] at ho28; rw [← Ny117.out] at ho28)); have HO119 := Aside0.mk (Kd.R_lower ho28 (below_size (bX HB))); replace BK114 := kB BK114 hb; replace BK115 := kB BK115 hb; replace HB := bS HB hb; clear hb ho28; obtain ⟨Ao29, co29, eo29⟩ := Kd.R_slice HO119.out; subst eo29) | ((with_reducible refine gate_callee (f := 31) rfl ?_); refine goesA (some 17) Tryz.func31 #[.int .i64 0, .int .i64 1000000, .slice Ao29 y117.length co29] ?_; (with_reducible refine (stick_within.calls 0 1000000 _ _ y117 true _ ?side1 ?side2 A5.out).mono ?_); (case side1 => exact sX (Kd.R_reads' HO119.out).2.2); (case side2 => exact (Kd.R_reads' HO119.out).2.1); rintro e w30 ⟨rfl, hb⟩; refine ⟨_, rfl, ?_⟩; replace HO119 := rB HO119 hb; replace BK114 := kB BK114 hb; replace BK115 := kB BK115 hb; replace HB := bS HB hb; (try clear hb); (try clear hb2); (try clear hk); (try clear hi); obtain ⟨hcz31_0, hcz31_1, hfz31_0, hfz31_1⟩ := cc2 BK114) | (go_at_call 32; (with_reducible refine (stick_Give_1.calls 1000000 a0_0 a0_1 a1 false _ gb114 gb115  ?side1 ?side2 A7.out).mono ?_); (case side1 => exact (kX BK114.out)); (case side2 => exact (kX BK115.out)); rintro e w32 ⟨rfl, hb⟩; replace HO119 := rB HO119 hb; replace BK114 := kB BK114 hb; replace BK115 := kB BK115 hb; replace HB := bS HB hb; (try clear hb); (try clear hb2); (try clear hk); (try clear hi)))
    go_loopg [7, 8] k (fun kq v7 v8 w' => ∃ (x7_1 : Int) (x8_1 : Int), v7 = .int .i64 x7_1 ∧ v8 = .int .i64 x8_1 ∧ Aside0 (stick_Give.l0 kq a1 x7_1 x8_1 a0_0 a0_1 = some (r1, r2)) ∧ Aside0 (kq ≤ k) ∧ Aside0 (w'.heap[gb114]? = some (.cells #[.int .i64 a0_0, .int .i64 a0_1] 42 (0, 0))) ∧ Aside0 (w'.heap[gb115]? = some (.cells #[.int .i64 a1] 3 (0, 0))) ∧ Aside0 (Below w.heap.size w w'))
    case atStart => exact ⟨(0), (1000000), (by first | rfl | (simp; done) | (simp [*]; done)), (by first | rfl | (simp; done) | (simp [*]; done)), H', ⟨Nat.le_refl _⟩, ⟨kX BK114.out⟩, ⟨kX BK115.out⟩, ⟨bX HB⟩⟩
    case round =>
     clear H'
     try clear c1
     try clear c2
     try clear p2
     try clear c3
     try clear c4
     try clear c6
     try clear c8
     try clear c10
     try clear c11
     try clear c23
     try clear c30
     try clear c31
     try clear c32
     try clear hcz12_0 hcz12_1 hfz12_0 hfz12_1
     try clear hcz14_0 hfz14_0
     try clear hcz19_0 hcz19_1 hfz19_0 hfz19_1
     try clear hcz24_0 hcz24_1 hfz24_0 hfz24_1
     try clear hcz26_0 hfz26_0
     try clear hcz31_0 hcz31_1 hfz31_0 hfz31_1
     obtain ⟨x7_1, x8_1, rfl, rfl, HA, HK1, BK114, BK115, HB⟩ := hrel
     cases gk with
     | zero => exact absurd HA.out (by simp [stick_Give.l0])
     | succ k1 =>
      have H := HA.out
      clear HA
      simp only [stick_Give.l0] at H
      by_cases c33 : x7_1 < x8_1
      ·rw [if_pos c33] at H
       have c33b0 : decide (x7_1 < x8_1) = true := decide_eq_true c33
       clear c33
       replace H := Option.bind_eq_some_iff.mp H
       obtain ⟨t122, A340, H⟩ := H
       try dsimp only at H
       have A34 := Aside0.mk A340
       clear A340
       by_cases c35 : t122 = true
       ·subst c35
        have H1 : (stick_Give.l0 k1 a1 (wrap64 ((wrap64 (Int.tdiv (wrap64 (x7_1 + x8_1)) 2)) + 1)) x8_1 a0_0 a0_1) = some (r1, r2) := by rw [if_pos rfl] at H; exact H
        clear H
        have H := H1
        clear H1
        have H' := Aside0.mk H
        clear H
        have hnb36 := NB114_115.out
        have hnc36 := NB115_114.out
        obtain ⟨hcz37_0, hcz37_1, hfz37_0, hfz37_1⟩ := cc2 BK114
        go_wp2_with (first | (go_at_call 32; (with_reducible refine (stick_Give_1.calls (wrap64 (Int.tdiv (wrap64 (x7_1 + x8_1)) 2)) a0_0 a0_1 a1 true _ gb114 gb115  ?side1 ?side2 A34.out).mono ?_); (case side1 => exact (kX BK114.out)); (case side2 => exact (kX BK115.out)); rintro e w38 ⟨rfl, hb⟩; replace BK114 := kB BK114 hb; replace BK115 := kB BK115 hb; replace HB := bS HB hb; (try clear hb); (try clear hb2); (try clear hk); (try clear hi)))
        go_roundg k1
        case measure => have := HK1.out; omega
        case rel => exact ⟨(wrap64 ((wrap64 (Int.tdiv (wrap64 (x7_1 + x8_1)) 2)) + 1)), (x8_1), (by first | rfl | (simp; done) | (simp [*]; done)), (by first | rfl | (simp; done) | (simp [*]; done)), H', ⟨by have := HK1.out; omega⟩, ⟨kX BK114.out⟩, ⟨kX BK115.out⟩, ⟨bX HB⟩⟩
       ·replace c35 := Bool.eq_false_iff.mpr c35
        subst c35
        have H1 : (stick_Give.l0 k1 a1 x7_1 (wrap64 (Int.tdiv (wrap64 (x7_1 + x8_1)) 2)) a0_0 a0_1) = some (r1, r2) := by rw [if_neg (show ¬ (false = true) by decide)] at H; exact H
        clear H
        have H := H1
        clear H1
        have H' := Aside0.mk H
        clear H
        have hnb39 := NB114_115.out
        have hnc39 := NB115_114.out
        obtain ⟨hcz40_0, hcz40_1, hfz40_0, hfz40_1⟩ := cc2 BK114
        go_wp2_with (first | (go_at_call 32; (with_reducible refine (stick_Give_1.calls (wrap64 (Int.tdiv (wrap64 (x7_1 + x8_1)) 2)) a0_0 a0_1 a1 false _ gb114 gb115  ?side1 ?side2 A34.out).mono ?_); (case side1 => exact (kX BK114.out)); (case side2 => exact (kX BK115.out)); rintro e w41 ⟨rfl, hb⟩; replace BK114 := kB BK114 hb; replace BK115 := kB BK115 hb; replace HB := bS HB hb; (try clear hb); (try clear hb2); (try clear hk); (try clear hi)))
        go_roundg k1
        case measure => have := HK1.out; omega
        case rel => exact ⟨(x7_1), (wrap64 (Int.tdiv (wrap64 (x7_1 + x8_1)) 2)), (by first | rfl | (simp; done) | (simp [*]; done)), (by first | rfl | (simp; done) | (simp [*]; done)), H', ⟨by have := HK1.out; omega⟩, ⟨kX BK114.out⟩, ⟨kX BK115.out⟩, ⟨bX HB⟩⟩
      ·rw [if_neg c33] at H
       have c33b0 : decide (x7_1 < x8_1) = false := decide_eq_false c33
       clear c33
       simp only [Option.some.injEq, Prod.mk.injEq] at H
       obtain ⟨rfl, rfl⟩ := H
       go_wp2
       go_ret2
       exact ⟨by first | rfl | (simp [errW_none, errW_some] <;> rfl) | (simp [*, errW_none, errW_some] <;> rfl), bX HB⟩
  ·replace c6 := Bool.eq_false_iff.mpr c6
   subst c6
   have H1 : (some (0, 3)) = some (r1, r2) := by rw [if_neg (show ¬ (false = true) by decide)] at H; exact H
   clear H
   have H := H1
   clear H1
   simp only [Option.some.injEq, Prod.mk.injEq] at H
   obtain ⟨rfl, rfl⟩ := H
   go_enter Tryz.func10, Tryz.ntmps10
   go_wp2_with (first | ((with_reducible refine gate_dst (N := 2) rfl ?_); refine boxA (N := 2) (cs := #[.int .i64 a0_0, .int .i64 a0_1]) (t := 42) ?_; intro gb114 hg w42 hbox hb; have BK114 := Aside0.mk (hbox); have GW114 := bG HB hg; have GE114 := bG HB hg; replace HB := bS HB hb; clear hb hbox hg) | ((with_reducible refine gate_dst (N := 3) rfl ?_); refine boxA (N := 3) (cs := #[.int .i64 a1]) (t := 3) ?_; intro gb115 hg w43 hbox hb; have BK115 := Aside0.mk (hbox); have GW115 := bG HB hg; have GE115 := bG HB hg; have NB114_115 := kN BK114 hg; have NB115_114 := kM BK114 hg; replace BK114 := kB BK114 hb; replace HB := bS HB hb; clear hb hbox hg; have hnb44 := NB114_115.out; have hnc44 := NB115_114.out; obtain ⟨hcz45_0, hcz45_1, hfz45_0, hfz45_1⟩ := cc2 BK114) | ((with_reducible refine gate_callee (f := 30) rfl ?_); refine goesA (some 12) Tryz.func30 #[.agg #[.int .i64 a0_0, .int .i64 a0_1]] ?_; (with_reducible refine (stick_isPiercer.calls a0_0 a0_1 true _ A3.out).mono ?_); rintro e w46 ⟨rfl, hb⟩; refine ⟨_, rfl, ?_⟩; replace BK114 := kB BK114 hb; replace BK115 := kB BK115 hb; replace HB := bS HB hb; (try clear hb); (try clear hb2); (try clear hk); (try clear hi); obtain ⟨hcz47_0, hfz47_0⟩ := cc1 BK115) | ((with_reducible refine gate_dst (N := 16) rfl ?_); refine Kd.R_lit (Kd.int .i64) _ 3 ?hg (N := 16) ?hd (xs := ([a1] : List Int)) (inner := [.int .i64 a1]) (ok := fun _ => True) (okp := fun _ => True) ?hr ?hp (fun _ hk => hk) trivial (Below.refl _ _) (Nat.le_refl _) (by simp) ?_; (case hd => rfl); (case hg => rfl); (case hr => first | (go_simp; done) | (go_simp; rfl)); (case hp => exact (Reps.one (show Kd.M (Kd.int .i64) _ _ _ a1 [.int .i64 a1] from rfl) (Reps.none _ _))); intro v118 w48 ho49 hb hg_ hnew_; clear hg_ hnew_; (first | rw [← Ny117.out] at ho49 | (simp only [Int.reduceToNat] at ho49; rw [← Ny117.out] at ho49)); have HO119 := Aside0.mk (Kd.R_lower ho49 (below_size (bX HB))); replace BK114 := kB BK114 hb; replace BK115 := kB BK115 hb; replace HB := bS HB hb; clear hb ho49; obtain ⟨Ao50, co50, eo50⟩ := Kd.R_slice HO119.out; subst eo50) | ((with_reducible refine gate_callee (f := 31) rfl ?_); refine goesA (some 17) Tryz.func31 #[.int .i64 0, .int .i64 1000000, .slice Ao50 y117.length co50] ?_; (with_reducible refine (stick_within.calls 0 1000000 _ _ y117 false _ ?side1 ?side2 A5.out).mono ?_); (case side1 => exact sX (Kd.R_reads' HO119.out).2.2); (case side2 => exact (Kd.R_reads' HO119.out).2.1); rintro e w51 ⟨rfl, hb⟩; refine ⟨_, rfl, ?_⟩; replace HO119 := rB HO119 hb; replace BK114 := kB BK114 hb; replace BK115 := kB BK115 hb; replace HB := bS HB hb; (try clear hb); (try clear hb2); (try clear hk); (try clear hi)))
   go_ret2
   exact ⟨by first | rfl | (simp [errW_none, errW_some] <;> rfl) | (simp [*, errW_none, errW_some] <;> rfl), bX HB⟩
 ·replace c4 := Bool.eq_false_iff.mpr c4
  subst c4
  have H1 : (some (0, 2)) = some (r1, r2) := by rw [if_neg (show ¬ (false = true) by decide)] at H; exact H
  clear H
  have H := H1
  clear H1
  simp only [Option.some.injEq, Prod.mk.injEq] at H
  obtain ⟨rfl, rfl⟩ := H
  go_enter Tryz.func10, Tryz.ntmps10
  go_wp2_with (first | ((with_reducible refine gate_dst (N := 2) rfl ?_); refine boxA (N := 2) (cs := #[.int .i64 a0_0, .int .i64 a0_1]) (t := 42) ?_; intro gb114 hg w52 hbox hb; have BK114 := Aside0.mk (hbox); have GW114 := bG HB hg; have GE114 := bG HB hg; replace HB := bS HB hb; clear hb hbox hg) | ((with_reducible refine gate_dst (N := 3) rfl ?_); refine boxA (N := 3) (cs := #[.int .i64 a1]) (t := 3) ?_; intro gb115 hg w53 hbox hb; have BK115 := Aside0.mk (hbox); have GW115 := bG HB hg; have GE115 := bG HB hg; have NB114_115 := kN BK114 hg; have NB115_114 := kM BK114 hg; replace BK114 := kB BK114 hb; replace HB := bS HB hb; clear hb hbox hg; have hnb54 := NB114_115.out; have hnc54 := NB115_114.out; obtain ⟨hcz55_0, hcz55_1, hfz55_0, hfz55_1⟩ := cc2 BK114) | ((with_reducible refine gate_callee (f := 30) rfl ?_); refine goesA (some 12) Tryz.func30 #[.agg #[.int .i64 a0_0, .int .i64 a0_1]] ?_; (with_reducible refine (stick_isPiercer.calls a0_0 a0_1 false _ A3.out).mono ?_); rintro e w56 ⟨rfl, hb⟩; refine ⟨_, rfl, ?_⟩; replace BK114 := kB BK114 hb; replace BK115 := kB BK115 hb; replace HB := bS HB hb; (try clear hb); (try clear hb2); (try clear hk); (try clear hi)))
  go_ret2
  exact ⟨by first | rfl | (simp [errW_none, errW_some] <;> rfl) | (simp [*, errW_none, errW_some] <;> rfl), bX HB⟩
end Go.Proofs.YtgdkmadcegleiaaGreatDoor.PGiv
end
section
namespace Go.Proofs.YtgdkmadcegleiaaGreatDoor.PGiv
open Go.RowKit Go.Proofs.YtgdkmadcegleiaaGreatDoorW.PrintWords Go.Proofs.YtgdkmadcegleiaaGreatDoorW.PrintLast Go.Proofs.YtgdkmadcegleiaaGreatDoorW.PrintMore Go.Proofs.YtgdkmadcegleiaaGreatDoor.X
attribute [local go_sem] max2_int min2_int max_two min_two max_three min_three max_four min_four   -- for this text's walks alone
set_option linter.unusedVariables false
set_option linter.unusedSimpArgs false
end Go.Proofs.YtgdkmadcegleiaaGreatDoor.PGiv
end
section
/- TopEnoughSticks, the plain law: what as many equal gaps open; what a piercer leaves; the search for as few sticks as are enough. -/
namespace Go.Proofs.YtgdkmadcegleiaaGreatDoor.Eno
open Go.RowKit Go.Proofs.YtgdkmadcegleiaaGreatDoor.X Go.Proofs.YtgdkmadcegleiaaGreatDoor.Z Go.Proofs.YtgdkmadcegleiaaGreatDoor.Arc Go.Proofs.YtgdkmadcegleiaaGreatDoorW.PrintWords Go.Proofs.YtgdkmadcegleiaaGreatDoorW.PrintLast Go.Proofs.YtgdkmadcegleiaaGreatDoorW.PrintMore
def dl (g : Gap) : Int := if g.f0.f0 * 50 ≤ g.f1.f0 * 1000 then g.f0.f0 else 0
def df (g : Gap) : Int := if g.f0.f0 * 50 ≤ g.f1.f0 * 1000 then 0 else g.f1.f0
theorem gap_bounds {g : Gap} (hb : gapBad g = false) : 0 ≤ g.f0.f0 ∧ g.f0.f0 ≤ 1000 ∧ 0 ≤ g.f1.f0 ∧ g.f1.f0 ≤ 500 := by
  unfold gapBad spanB at hb
  simp only [Bool.or_eq_false_iff, Bool.not_eq_false', Bool.and_eq_true, decide_eq_true_eq] at hb
  omega
theorem d_bounds {g : Gap} (hb : gapBad g = false) : 0 ≤ dl g ∧ dl g ≤ 1000 ∧ 0 ≤ df g ∧ df g ≤ 500 := by
  obtain ⟨h0, h1, h2, h3⟩ := gap_bounds hb
  unfold dl df
  split <;> omega
theorem rd_rep (g : Gap) (n : Nat) (i : Nat) (h : i < n) : rd_T47 (List.replicate n g) (i : Int) = g := by
  unfold rd_T47
  rw [Int.toNat_natCast, List.getD_eq_getElem?_getD, List.getElem?_replicate, if_pos h]
  rfl
theorem add_eq {g : Gap} (hb : gapBad g = false) (k : Nat) (s0 s1 : Int) (h0 : 0 ≤ s0) (h1 : s0 ≤ 1000000) (h2 : 0 ≤ s1) (h3 : s1 ≤ 1000000) :
    PRiv.rivet_end_add.f (k + 1) 73 74 s0 s1 1000 50 g.f0.f0 g.f0.f1 g.f1.f0 g.f1.f1 = some (s0 + dl g, s1 + df g, 1000, 50) := by
  obtain ⟨b0, b1, b2, b3⟩ := gap_bounds hb
  unfold PRiv.rivet_end_add.f PRiv.rivet_end_add.j0
  have e1 : rivet_low.f 73 g.f0.f0 g.f0.f1 = some g.f0.f0 := rfl
  have e2 : rivet_low.f 73 g.f1.f0 g.f1.f1 = some g.f1.f0 := rfl
  rw [e1, e2]
  simp only [Option.bind_some]
  rw [w64 (x := g.f0.f0 * 50) (by omega) (by omega), w64 (x := g.f1.f0 * 1000) (by omega) (by omega), w64 (x := s0 + g.f0.f0) (by omega) (by omega), w64 (x := s1 + g.f1.f0) (by omega) (by omega)]
  by_cases hc : g.f0.f0 * 50 ≤ g.f1.f0 * 1000
  · rw [if_pos hc, dl, df, if_pos hc, if_pos hc, Int.add_zero]
  · rw [if_neg hc, dl, df, if_neg hc, if_neg hc, Int.add_zero]
theorem succ_mul (i : Nat) (x : Int) : ((i + 1 : Nat) : Int) * x = (i : Int) * x + x := by
  rw [Int.natCast_add, Int.add_mul]
  simp
/-- What one gap adds, as two numbers. -/
def Adds (d0 d1 : Int) (g : Gap) (a b far near : Int) : Prop := ∀ (k : Nat) (s0 s1 : Int), 0 ≤ s0 → s0 ≤ 1000000 → 0 ≤ s1 → s1 ≤ 1000000 →
    PRiv.rivet_end_add.f (k + 1) d0 d1 s0 s1 far near g.f0.f0 g.f0.f1 g.f1.f0 g.f1.f1 = some (s0 + a, s1 + b, far, near)
theorem open_rep {d0 d1 : Int} {g : Gap} {a b far near : Int} (hA : Adds d0 d1 g a b far near) (b0 : 0 ≤ a) (b1 : a ≤ 1000) (b2 : 0 ≤ b) (b3 : b ≤ 500) (l : List Gap) (n : Nat) (hl : l.length = n) (hr : ∀ i : Nat, i < n → rd_T47 l (i : Int) = g) (hn : n ≤ 40) : ∀ (m k i : Nat), i + m = n → m + 2 ≤ k →
    PRiv.rivet_end_open.l0 k l (l.length : Int) (i : Int) d0 d1 (i * a) (i * b) far near = some (n * a, n * b, far, near) := by
  intro m
  induction m with
  | zero =>
    intro k i hi hk
    obtain ⟨k, rfl⟩ := Nat.exists_eq_add_of_le' (show 1 ≤ k by omega)
    obtain rfl : i = n := by omega
    unfold PRiv.rivet_end_open.l0
    rw [if_neg (by omega)]
  | succ m ih =>
    intro k i hi hk
    obtain ⟨k, rfl⟩ := Nat.exists_eq_add_of_le' (show 2 ≤ k by omega)
    have h1 : (0 : Int) ≤ i * a := Int.mul_nonneg (by omega) b0
    have h2 : (i : Int) * a ≤ 40 * 1000 := Int.mul_le_mul (by omega) b1 b0 (by omega)
    have h3 : (0 : Int) ≤ i * b := Int.mul_nonneg (by omega) b2
    have h4 : (i : Int) * b ≤ 40 * 500 := Int.mul_le_mul (by omega) b3 b2 (by omega)
    have e := hA k _ _ h1 (by omega) h3 (by omega)
    have h := ih (k + 1) (i + 1) (by omega) (by omega)
    rw [succ_mul i a, succ_mul i b] at h
    have hi1 : (i : Int) < (l.length : Int) := by omega
    have hw : wrap64 ((i : Int) + 1) = ((i + 1 : Nat) : Int) := w64 (by omega) (by omega)
    generalize (i : Int) * a + a = x at *
    generalize (i : Int) * b + b = y at *
    show PRiv.rivet_end_open.l0 (k + 1 + 1) _ _ _ _ _ _ _ _ _ = _
    unfold PRiv.rivet_end_open.l0
    rw [if_pos hi1, if_pos (by omega), if_pos hi1, hr i (by omega), e, hw]
    exact h
/-- How far as many equal gaps surely open. -/
def Fab (a b : Int) (n : Nat) : Int := mn 360 (4068 * (n * (a * 50 + b * 1000)) / 3550000)
theorem Fab_mono {a b : Int} (b0 : 0 ≤ a) (b2 : 0 ≤ b) {m n : Nat} (h : m ≤ n) : Fab a b m ≤ Fab a b n := by
  have hc : (m : Int) * (a * 50 + b * 1000) ≤ n * (a * 50 + b * 1000) := Int.mul_le_mul_of_nonneg_right (by omega) (by omega)
  unfold Fab mn
  generalize (m : Int) * (a * 50 + b * 1000) = x at *
  generalize (n : Int) * (a * 50 + b * 1000) = y at *
  split <;> split <;> omega
theorem degrees_rep {a b : Int} (b0 : 0 ≤ a) (b1 : a ≤ 1000) (b2 : 0 ≤ b) (b3 : b ≤ 500) (n : Nat) (hn : n ≤ 40) : PRiv.rivet_turn_degrees.f (n * a) (n * b) 1000 50 = some (Fab a b n) := by
  unfold PRiv.rivet_turn_degrees.f PRiv.rivet_turn_parts.f
  simp only [Option.bind_some]
  have h1 : (0 : Int) ≤ n * a := Int.mul_nonneg (by omega) b0
  have h2 : (n : Int) * a ≤ 40 * 1000 := Int.mul_le_mul (by omega) b1 b0 (by omega)
  have h3 : (0 : Int) ≤ n * b := Int.mul_nonneg (by omega) b2
  have h4 : (n : Int) * b ≤ 40 * 500 := Int.mul_le_mul (by omega) b3 b2 (by omega)
  have hm : (n : Int) * (a * 50 + b * 1000) = n * a * 50 + n * b * 1000 := by rw [Int.mul_add, Int.mul_assoc, Int.mul_assoc]
  unfold Fab
  rw [hm]
  generalize (n : Int) * a = x at *
  generalize (n : Int) * b = y at *
  have c1 : wrap64 (71 * wrap64 (1000 * 50)) = 3550000 := by decide +kernel
  rw [c1, if_neg (by omega), w64 (x := x * 50) (by omega) (by omega), w64 (x := y * 1000) (by omega) (by omega), w64 (x := x * 50 + y * 1000) (by omega) (by omega), w64 (x := 4068 * (x * 50 + y * 1000)) (by omega) (by omega),
    Int.tdiv_eq_ediv_of_nonneg (by omega), w64 (x := 4068 * (x * 50 + y * 1000) / 3550000) (by omega) (by omega)]
theorem opens_ab {g : Gap} {a b : Int} (hA : Adds 73 74 g a b 1000 50) (b0 : 0 ≤ a) (b1 : a ≤ 1000) (b2 : 0 ≤ b) (b3 : b ≤ 500) (n : Nat) (hn : n ≤ 40) : ∃ hi, Y.rivet_opens.f 900 1000 40 50 (List.replicate n g) = some (Fab a b n, hi) := by
  unfold Y.rivet_opens.f PRiv.rivet_opens.f PRiv.rivet_least.f PRiv.rivet_most.f PRiv.rivet_end_open.f
  simp only [Option.bind_some]
  have e1 : rivet_low.f 74 900 1000 = some 1000 := by decide
  have e2 : rivet_low.f 74 40 50 = some 50 := by decide
  have e3 : rivet_low.f 73 900 1000 = some 900 := by decide
  have e4 : rivet_low.f 73 40 50 = some 40 := by decide
  rw [e1, e2, e3, e4]
  simp only [Option.bind_some]
  have e := open_rep hA b0 b1 b2 b3 (List.replicate n g) n List.length_replicate (rd_rep g n) hn n ((List.replicate n g).length + 10) 0 (by omega) (by rw [List.length_replicate]; omega)
  rw [show ((0 : Nat) : Int) = 0 from rfl, Int.zero_mul, Int.zero_mul] at e
  obtain ⟨u', v', e'⟩ := open_some (List.replicate n g) 74 73 (.inr rfl) (by rw [List.length_replicate]; omega) (List.replicate n g).length ((List.replicate n g).length + 10) 0 0 0 900 40 (by omega) (by omega) (by omega) (by omega)
  rw [e, e']
  simp only [Option.bind_some]
  have er := degrees_rep b0 b1 b2 b3 n hn
  generalize Fab a b n = z at *
  generalize (n : Int) * a = x at *
  generalize (n : Int) * b = y at *
  rw [er]
  obtain ⟨r', er'⟩ := degrees_some u' v' 900 40 (by decide +kernel)
  rw [er']
  exact ⟨r', rfl⟩
def F (g : Gap) (n : Nat) : Int := Fab (dl g) (df g) n
theorem F_mono {g : Gap} (hb : gapBad g = false) {m n : Nat} (h : m ≤ n) : F g m ≤ F g n := by
  obtain ⟨b0, b1, b2, b3⟩ := d_bounds hb
  exact Fab_mono b0 b2 h
theorem opens_rep {g : Gap} (hb : gapBad g = false) (n : Nat) (hn : n ≤ 40) : ∃ hi, Y.rivet_opens.f 900 1000 40 50 (List.replicate n g) = some (F g n, hi) := by
  obtain ⟨b0, b1, b2, b3⟩ := d_bounds hb
  exact opens_ab (fun k s0 s1 h0 h1 h2 h3 => add_eq hb k s0 s1 h0 h1 h2 h3) b0 b1 b2 b3 n hn
theorem any_rep {g : Gap} (hb : gapBad g = false) (n : Nat) : (List.replicate n g).any gapBad = false := by
  rw [List.any_eq_false]
  intro x hx
  obtain ⟨_, rfl⟩ := List.mem_replicate.1 hx
  simp [hb]
theorem Opens_rep {g : Gap} (hb : gapBad g = false) (n : Nat) (hn : n ≤ 40) : ∃ hi, rivet_Opens.f 900 1000 40 50 (List.replicate n g) = some (F g n, hi, 0) := by
  obtain ⟨hi, e⟩ := opens_rep hb n hn
  refine ⟨hi, ?_⟩
  show PRst.rivet_Opens.f 900 1000 40 50 (List.replicate n g) = _
  unfold PRst.rivet_Opens.f
  show (Y.rivet_Check.f 900 1000 40 50 (List.replicate n g)).bind _ = _
  rw [check_ok (List.replicate n g) (by rw [List.length_replicate]; omega) (any_rep hb n)]
  simp only [Option.bind_some, if_true]
  show (Y.rivet_opens.f 900 1000 40 50 (List.replicate n g)).bind _ = _
  rw [e]
  rfl
theorem sticks_loop {g : Gap} (gs : List Gap) (hb : gapBad g = false) (deg : Int) : ∀ (m k n : Nat), n + m = 41 → m + 1 ≤ k → (∀ j, j < n → F g j < deg) →
    PRst.rivet_Sticks.l0 k deg (n : Int) 900 1000 40 50 (g :: gs) = some (0, 7) ∨
    ∃ t : Nat, t ≤ 40 ∧ PRst.rivet_Sticks.l0 k deg (n : Int) 900 1000 40 50 (g :: gs) = some ((t : Int) + 1, 0) ∧ F g t ≥ deg ∧ ∀ j, j < t → F g j < deg := by
  intro m
  induction m with
  | zero =>
    intro k n hn hk hj
    obtain ⟨k, rfl⟩ := Nat.exists_eq_add_of_le' (show 1 ≤ k by omega)
    left
    rw [PRst.rivet_Sticks.l0, if_neg (by omega)]
  | succ m ih =>
    intro k n hn hk hj
    obtain ⟨k, rfl⟩ := Nat.exists_eq_add_of_le' (show 1 ≤ k by omega)
    rw [PRst.rivet_Sticks.l0, if_pos (by omega), if_pos (by simp only [List.length_cons]; omega)]
    have er : Yr.api_RivetGap.f ((g :: gs).take 1) (n : Int) = some (List.replicate n g) := by
      unfold Yr.api_RivetGap.f
      rw [if_pos ⟨by simp, by omega, by omega⟩]
      simp
    obtain ⟨hi, eo⟩ := opens_rep hb n (by omega)
    rw [er]
    simp only [Option.bind_some]
    show _ ∨ _
    have eo' : Yr.rivet_opens.f 900 1000 40 50 (List.replicate n g) = some (F g n, hi) := eo
    rw [eo']
    simp only [Option.bind_some]
    by_cases h : F g n ≥ deg
    · right
      rw [if_pos h, w64 (by omega) (by omega)]
      exact ⟨n, by omega, rfl, h, hj⟩
    · rw [if_neg h, w64 (by omega) (by omega)]
      have := ih k (n + 1) (by omega) (by omega) (fun j hj' => by
        by_cases e : j = n
        · subst e; omega
        · exact hj j (by omega))
      exact this
theorem degrees_ok (deg : Int) (h0 : 0 ≤ deg) (h1 : deg ≤ 360) : Y.rivet_isDegrees.f deg = some true := by
  show PRvs.rivet_isDegrees.f deg = some true
  unfold PRvs.rivet_isDegrees.f rivet_within.f
  simp [h0, h1]
theorem sticks_nil (deg : Int) (h0 : 0 ≤ deg) (h1 : deg ≤ 360) : rivet_Sticks.f 900 1000 40 50 [] deg = some (0, 7) := by
  show PRst.rivet_Sticks.f 60 900 1000 40 50 [] deg = _
  unfold PRst.rivet_Sticks.f
  show (Y.rivet_Check.f 900 1000 40 50 []).bind _ = _
  rw [check_ok [] (by simp) rfl]
  simp only [Option.bind_some, if_true]
  show (Y.rivet_isDegrees.f deg).bind _ = _
  rw [degrees_ok deg h0 h1]
  rfl
theorem sticks_cons {g : Gap} (gs : List Gap) (hl : (g :: gs).length ≤ 40) (hb : (g :: gs).any gapBad = false) (deg : Int) (h0 : 0 ≤ deg) (h1 : deg ≤ 360) :
    rivet_Sticks.f 900 1000 40 50 (g :: gs) deg = some (0, 7) ∨
    ∃ t : Nat, t ≤ 40 ∧ rivet_Sticks.f 900 1000 40 50 (g :: gs) deg = some ((t : Int) + 1, 0) ∧ F g t ≥ deg ∧ ∀ j, j < t → F g j < deg := by
  have hg : gapBad g = false := by
    rw [List.any_cons, Bool.or_eq_false_iff] at hb
    exact hb.1
  have e : rivet_Sticks.f 900 1000 40 50 (g :: gs) deg = PRst.rivet_Sticks.l0 60 deg 0 900 1000 40 50 (g :: gs) := by
    show PRst.rivet_Sticks.f 60 900 1000 40 50 (g :: gs) deg = _
    unfold PRst.rivet_Sticks.f
    show (Y.rivet_Check.f 900 1000 40 50 (g :: gs)).bind _ = _
    rw [check_ok _ hl hb]
    simp only [Option.bind_some, if_true]
    show (Y.rivet_isDegrees.f deg).bind _ = _
    rw [degrees_ok deg h0 h1]
    simp only [Option.bind_some, if_true]
    rw [if_neg (by simp only [List.length_cons]; omega)]
  rw [e]
  exact sticks_loop gs hg deg 41 60 0 (by omega) (by omega) (fun j hj => by omega)
def B (of high m : Int) : Int := m / of * high + mn (m % of) high
theorem B_bounds {of high m : Int} (ho : 2 ≤ of) (hh0 : 0 ≤ high) (hh1 : 2 * high ≤ of) (hm : 0 ≤ m) : 0 ≤ B of high m ∧ 2 * B of high m ≤ m + of ∧ B of high m ≤ m := by
  have hq : 0 ≤ m / of := Int.ediv_nonneg hm (by omega)
  have hr0 : 0 ≤ m % of := Int.emod_nonneg m (by omega)
  have hr1 : m % of < of := Int.emod_lt_of_pos m (by omega)
  have e : of * (m / of) + m % of = m := Int.mul_ediv_add_emod m of
  have h1 : 0 ≤ m / of * high := Int.mul_nonneg hq hh0
  have h2 : m / of * (2 * high) ≤ m / of * of := Int.mul_le_mul_of_nonneg_left hh1 hq
  have e2 : m / of * (2 * high) = 2 * (m / of * high) := by rw [Int.mul_left_comm]
  have e3 : m / of * of = of * (m / of) := Int.mul_comm _ _
  unfold B mn
  rw [e2, e3] at h2
  generalize m / of * high = p at *
  generalize of * (m / of) = q at *
  generalize m % of = r at *
  split <;> omega
theorem breaks_eq {of high m : Int} (ho : 2 ≤ of) (ho1 : of ≤ 10) (hh0 : 0 ≤ high) (hh1 : 2 * high ≤ of) (hm : 0 ≤ m) (hm1 : m ≤ 1000000) : PGiv.stick_piercer_breaks.f of high m = some (B of high m) := by
  obtain ⟨b0, b1, b2⟩ := B_bounds ho hh0 hh1 hm
  unfold PGiv.stick_piercer_breaks.f
  rw [if_neg (by omega), Int.tdiv_eq_ediv_of_nonneg hm, Int.tmod_eq_emod_of_nonneg hm]
  have hq : 0 ≤ m / of := Int.ediv_nonneg hm (by omega)
  have hq1 : m / of ≤ m := Int.ediv_le_self of hm
  have hr0 : 0 ≤ m % of := Int.emod_nonneg m (by omega)
  have h1 : 0 ≤ m / of * high := Int.mul_nonneg hq hh0
  have hmn : 0 ≤ mn (m % of) high := by unfold mn; split <;> omega
  have hb : B of high m = m / of * high + mn (m % of) high := rfl
  rw [w64 (x := m / of) (by omega) (by omega)]
  rw [hb] at b0 b1 b2 ⊢
  generalize m / of * high = p at *
  generalize mn (m % of) high = q at *
  rw [w64 (x := p) (by omega) (by omega), w64 (x := p + q) (by omega) (by omega)]
theorem few_eq {of high m want : Int} (ho : 2 ≤ of) (ho1 : of ≤ 10) (hh0 : 0 ≤ high) (hh1 : 2 * high ≤ of) (hm : 0 ≤ m) (hm1 : m ≤ 1000000) : PGiv.stick_Give_1.f m of high want = some (decide (m - B of high m < want)) := by
  obtain ⟨b0, b1, b2⟩ := B_bounds ho hh0 hh1 hm
  unfold PGiv.stick_Give_1.f
  rw [breaks_eq ho ho1 hh0 hh1 hm hm1]
  simp only [Option.bind_some]
  rw [w64 (by omega) (by omega)]
theorem piercer_ok {of high : Int} (ho : 2 ≤ of) (ho1 : of ≤ 10) (hh0 : 0 ≤ high) (hh1 : 2 * high ≤ of) : PGiv.stick_isPiercer.f of high = some true := by
  unfold PGiv.stick_isPiercer.f stick_within.f
  simp [ho, ho1, hh0, show high ≤ of by omega]
theorem give_loop {of high want : Int} (ho : 2 ≤ of) (ho1 : of ≤ 10) (hh0 : 0 ≤ high) (hh1 : 2 * high ≤ of) : ∀ (m k : Nat) (lo hi : Int), 0 ≤ lo → lo ≤ hi → hi ≤ 1000000 → hi - lo < 2 ^ m → m + 1 ≤ k →
    (lo = 0 ∨ lo - 1 - B of high (lo - 1) < want) → want ≤ hi - B of high hi →
    ∃ r, PGiv.stick_Give.l0 k want lo hi of high = some (r, 0) ∧ 0 ≤ r ∧ r ≤ 1000000 ∧ (r = 0 ∨ r - 1 - B of high (r - 1) < want) ∧ want ≤ r - B of high r := by
  intro m
  induction m with
  | zero =>
    intro k lo hi h0 h1 h2 h3 hk h4 h5
    obtain ⟨k, rfl⟩ := Nat.exists_eq_add_of_le' (show 1 ≤ k by omega)
    have h3' : hi - lo < 1 := h3
    obtain rfl : lo = hi := by omega
    rw [PGiv.stick_Give.l0, if_neg (by omega)]
    exact ⟨lo, rfl, h0, h2, h4, h5⟩
  | succ m ih =>
    intro k lo hi h0 h1 h2 h3 hk h4 h5
    obtain ⟨k, rfl⟩ := Nat.exists_eq_add_of_le' (show 1 ≤ k by omega)
    have hp : (2 : Int) ^ (m + 1) = 2 ^ m * 2 := by rw [Int.pow_succ]
    rw [hp] at h3
    have hm1 : (1 : Int) ≤ 2 ^ m := by
      have : (0 : Int) < 2 ^ m := Int.pow_pos (by decide)
      omega
    generalize (2 : Int) ^ m = p at *
    rw [PGiv.stick_Give.l0]
    have e : wrap64 (Int.tdiv (wrap64 (lo + hi)) 2) = (lo + hi) / 2 := by
      rw [w64 (x := lo + hi) (by omega) (by omega), Int.tdiv_eq_ediv_of_nonneg (by omega), w64 (by omega) (by omega)]
    rw [e]
    by_cases hlt : lo < hi
    · rw [if_pos hlt, few_eq ho ho1 hh0 hh1 (by omega) (by omega)]
      simp only [Option.bind_some]
      by_cases hf : (lo + hi) / 2 - B of high ((lo + hi) / 2) < want
      · rw [decide_eq_true hf, if_pos rfl, w64 (by omega) (by omega)]
        exact ih k ((lo + hi) / 2 + 1) hi (by omega) (by omega) h2 (by omega) (by omega) (.inr (by rw [Int.add_sub_cancel]; exact hf)) h5
      · rw [decide_eq_false hf, if_neg (by decide)]
        exact ih k lo ((lo + hi) / 2) h0 (by omega) (by omega) (by omega) (by omega) h4 (by omega)
    · rw [if_neg hlt]
      obtain rfl : lo = hi := by omega
      exact ⟨lo, rfl, h0, h2, h4, h5⟩
theorem give_top {of high want m : Int} (hm : m = 1000000) (ho : 2 ≤ of) (ho1 : of ≤ 10) (hh0 : 0 ≤ high) (hh1 : 2 * high ≤ of) (hw1 : want ≤ 100) : PGiv.stick_Give_1.f m of high want = some false ∧ want ≤ m - B of high m := by
  obtain ⟨b0, b1, b2⟩ := B_bounds (of := of) (high := high) (m := m) ho hh0 hh1 (by omega)
  refine ⟨?_, by omega⟩
  rw [few_eq ho ho1 hh0 hh1 (by omega) (by omega)]
  congr 1
  exact decide_eq_false (by omega)
theorem give_f {of high want : Int} (ho : 2 ≤ of) (ho1 : of ≤ 10) (hh0 : 0 ≤ high) (hh1 : 2 * high ≤ of) (hw0 : 0 ≤ want) (hw1 : want ≤ 100) (k : Nat) (hk : 21 ≤ k) :
    ∃ r, PGiv.stick_Give.f k of high want = some (r, 0) ∧ 0 ≤ r ∧ r ≤ 1000000 ∧ (r = 0 ∨ r - 1 - B of high (r - 1) < want) ∧ want ≤ r - B of high r := by
  obtain ⟨et, hf⟩ := give_top (m := 1000000) rfl ho ho1 hh0 hh1 hw1
  obtain ⟨r, e, h⟩ := give_loop ho ho1 hh0 hh1 (want := want) 20 k 0 1000000 (by omega) (by omega) (by omega) (by decide) (by omega) (.inl rfl) hf
  refine ⟨r, ?_, h⟩
  unfold PGiv.stick_Give.f
  rw [piercer_ok ho ho1 hh0 hh1]
  have ew : stick_within.f 0 1000000 [want] = some true := by
    unfold stick_within.f
    simp [hw0, show want ≤ 1000000 by omega]
  simp only [Option.bind_some, if_true]
  rw [ew]
  simp only [Option.bind_some, if_true]
  rw [et]
  simp only [Option.bind_some]
  rw [if_neg (by decide)]
  exact e
theorem whole_f {of high m : Int} (ho : 2 ≤ of) (ho1 : of ≤ 10) (hh0 : 0 ≤ high) (hh1 : 2 * high ≤ of) (hm : 0 ≤ m) (hm1 : m ≤ 1000000) : PSti.stick_Whole.f of high m = some (m - B of high m, m, 0) := by
  obtain ⟨b0, b1, b2⟩ := B_bounds ho hh0 hh1 hm
  unfold PSti.stick_Whole.f
  have ep : PSti.stick_isPiercer.f of high = some true := piercer_ok ho ho1 hh0 hh1
  have ew : stick_within.f 0 1000000 [m] = some true := by
    unfold stick_within.f
    simp [hm, hm1]
  have eb : PSti.stick_piercer_breaks.f of high m = some (B of high m) := breaks_eq ho ho1 hh0 hh1 hm hm1
  rw [ep]
  simp only [Option.bind_some, if_true]
  rw [ew]
  simp only [Option.bind_some, if_true]
  rw [eb]
  simp only [Option.bind_some]
  rw [w64 (by omega) (by omega)]
end Go.Proofs.YtgdkmadcegleiaaGreatDoor.Eno
end
section
namespace Go.Proofs.YtgdkmadcegleiaaGreatDoor.PKno
open Go.RowKit Go.Proofs.YtgdkmadcegleiaaGreatDoorW.PrintWords Go.Proofs.YtgdkmadcegleiaaGreatDoorW.PrintLast Go.Proofs.YtgdkmadcegleiaaGreatDoorW.PrintMore Go.Proofs.YtgdkmadcegleiaaGreatDoor.X Go.Proofs.YtgdkmadcegleiaaGreatDoor.Z
attribute [local go_sem] max2_int min2_int max_two min_two max_three min_three max_four min_four   -- for this text's walks alone
set_option linter.unusedVariables false
set_option linter.unusedSimpArgs false
def errW : Option Int → Value
  | none => .nilIface
  | some c => .iface 0 (.int .i64 c)
theorem errW_none : errW none = .nilIface := rfl
theorem errW_some (c : Int) : errW (some c) = .iface 0 (.int .i64 c) := rfl
theorem info3 : (Tryz.prog.info? 3).map (fun i => (i.zero, i.size, i.bytes)) = some (some (.int .i64 0), 1, 8) := by kernel_rfl
theorem info47 : (Tryz.prog.info? 47).map (fun i => (i.zero, i.size, i.bytes)) = some (some (.agg #[(.int .i64 0), (.int .i64 0), (.int .i64 0), (.int .i64 0)]), 4, 32) := by kernel_rfl
-- the values' own types
end Go.Proofs.YtgdkmadcegleiaaGreatDoor.PKno
end
section
namespace Go.Proofs.YtgdkmadcegleiaaGreatDoor.PKno
open Go.RowKit Go.Proofs.YtgdkmadcegleiaaGreatDoor.Sq Go.Proofs.YtgdkmadcegleiaaGreatDoorW.PrintWords Go.Proofs.YtgdkmadcegleiaaGreatDoorW.PrintLast Go.Proofs.YtgdkmadcegleiaaGreatDoorW.PrintMore Go.Proofs.YtgdkmadcegleiaaGreatDoor.X Go.Proofs.YtgdkmadcegleiaaGreatDoor.Z
attribute [local go_sem] max2_int min2_int max_two min_two max_three min_three max_four min_four   -- for this text's walks alone
set_option linter.unusedVariables false
set_option linter.unusedSimpArgs false
theorem eqA30 (d : Nat) (w : World) (x0 y0 : Int) (x1 y1 : Int) :
  (Op.equalIn (d + 2) 30 (.agg #[.int .i64 x0, .int .i64 x1]) (.agg #[.int .i64 y0, .int .i64 y1])).run Tryz.prog w = .ok (x0 == y0 && (x1 == y1)) w := by
 refine eqA_of Tryz.underlying30 (by kernel_rfl) ?_
 refine eqf_cons (by rfl) (by go_simp; rfl) (by go_simp; rfl) (by go_simp) ?_
 exact eqf_last (by rfl) (by go_simp; rfl) (by go_simp; rfl) (by go_simp)
end Go.Proofs.YtgdkmadcegleiaaGreatDoor.PKno
end
section
namespace Go.Proofs.YtgdkmadcegleiaaGreatDoor.PKno
open Go.RowKit Go.Proofs.YtgdkmadcegleiaaGreatDoor.Sq Go.Proofs.YtgdkmadcegleiaaGreatDoorW.PrintWords Go.Proofs.YtgdkmadcegleiaaGreatDoorW.PrintLast Go.Proofs.YtgdkmadcegleiaaGreatDoorW.PrintMore Go.Proofs.YtgdkmadcegleiaaGreatDoor.X Go.Proofs.YtgdkmadcegleiaaGreatDoor.Z
attribute [local go_sem] max2_int min2_int max_two min_two max_three min_three max_four min_four   -- for this text's walks alone
set_option linter.unusedVariables false
set_option linter.unusedSimpArgs false
def panachetop_ellSpan.f (a0 : Int) (a1 : Int) : Option (Int × Int) := some (a0, a1)
set_option maxHeartbeats 8000000 in
set_option maxRecDepth 100000 in
theorem panachetop_ellSpan.calls (a0 : Int) (a1 : Int) (r1 : Int) (r2 : Int) (w : World) (h : panachetop_ellSpan.f a0 a1 = some (r1, r2)) :
  Calls Tryz.prog 15 #[.int .i64 a0, .int .i64 a1] w fun e w' => e = .returned (.agg #[.int .i64 r1, .int .i64 r2]) ∧ Below w.heap.size w w' := by
 have hu30 := Tryz.underlying30
 have HB := Aside0.mk (Below.refl w.heap.size w)
 have H : (some (a0, a1)) = some (r1, r2) := h
 clear h
 simp only [Option.some.injEq, Prod.mk.injEq] at H
 obtain ⟨rfl, rfl⟩ := H
 go_enter Tryz.func15, Tryz.ntmps15
 go_wp2_with (first | ((with_reducible refine gate_dst (N := 4) rfl ?_); refine boxA (N := 4) (cs := #[.int .i64 0, .int .i64 0]) (t := 30) ?_; intro gb101 hg w3 hbox hb; have BK101 := Aside0.mk (hbox); have GW101 := bG HB hg; have GE101 := bG HB hg; replace HB := bS HB hb; clear hb hbox hg; obtain ⟨hcz4_0, hcz4_1, hfz4_0, hfz4_1⟩ := cc2 BK101))
 refine bodyPost_ret (results_cell_row rfl _ _ gb101 30 #[.int .i64 a0, .int .i64 a1] (0, 0) _ rfl (kP BK101) Tryz.underlying30 rfl (by kernel_rfl)) rfl ?_
 exact ⟨by first | rfl | (simp [errW_none, errW_some] <;> rfl) | (simp [*, errW_none, errW_some] <;> rfl), bX HB⟩
def panachetop_ellInts.l0 : Nat → List Int → List Int → Int → Option (Bool)
 | 0, _, _, _ => none
 | k + 1, x0, x1, x5 => if x5 < (x0.length : Int) then (if 0 ≤ x5 then (if x5 < (x1.length : Int) then (if (rd x0 x5) = (rd x1 x5) then (panachetop_ellInts.l0 k x0 x1 (wrap64 (x5 + 1))) else (some false)) else (none)) else (none)) else (some true)
def panachetop_ellInts.f (k : Nat) (l0 : List Int) (l1 : List Int) : Option (Bool) := if (l0.length : Int) = (l1.length : Int) then (panachetop_ellInts.l0 k l0 l1 0) else (some false)
set_option maxHeartbeats 8000000 in
set_option maxRecDepth 100000 in
theorem panachetop_ellInts.calls (k : Nat) (A0 : Option Addr) (c0 : Nat) (l0 : List Int) (A1 : Option Addr) (c1 : Nat) (l1 : List Int) (r : Bool) (w : World) (hr0 : Kd.C (Kd.int .i64) w A0 l0.length l0) (hc0 : l0.length ≤ c0) (hr1 : Kd.C (Kd.int .i64) w A1 l1.length l1) (hc1 : l1.length ≤ c1) (h : panachetop_ellInts.f k l0 l1 = some r) :
  Calls Tryz.prog 19 #[.slice A0 l0.length c0, .slice A1 l1.length c1] w fun e w' => e = .returned (.bool r) ∧ Drawn0 w w' := by
 have HR0 := Aside0.mk hr0
 have HC0 := Aside0.mk hc0
 clear hr0 hc0
 have HR1 := Aside0.mk hr1
 have HC1 := Aside0.mk hc1
 clear hr1 hc1
 have H : (if (l0.length : Int) = (l1.length : Int) then (panachetop_ellInts.l0 k l0 l1 0) else (some false)) = some r := h
 clear h
 by_cases c3 : (l0.length : Int) = (l1.length : Int)
 ·rw [if_pos c3] at H
  have c3b0 : ((l0.length : Int) == (l1.length : Int)) = true := beq_iff_eq.mpr c3
  have c3b1 : ((l0.length : Int) != (l1.length : Int)) = false := bne_eq_false_iff_eq.mpr c3
  have c3b2 : (l0.length == l1.length) = true := by first | simpa using c3 | (simp at c3 ⊢; omega)
  clear c3
  have H' := Aside0.mk H
  clear H
  go_enter Tryz.func19, Tryz.ntmps19
  go_wp2
  repeat (go_quiet (fail); try go_wp2)
  go_loopg [5] k (fun kq v5 w' => ∃ (x5_1 : Int), v5 = .int .i64 x5_1 ∧ Aside0 (panachetop_ellInts.l0 kq l0 l1 x5_1 = some r) ∧ Aside0 (kq ≤ k) ∧ Drawn0 w w')
  case atStart => exact ⟨(0), (by first | rfl | (simp; done) | (simp [*]; done)), H', ⟨Nat.le_refl _⟩, by repeat (first | exact Drawn0.refl _ | apply Drawn0.step)⟩
  case round =>
   clear H'
   try clear c1
   try clear p2
   try clear c3
   try clear c3b0
   try clear c3b1
   try clear c3b2
   obtain ⟨x5_1, rfl, HA, HK1, ⟨m1, rfl⟩⟩ := hrel
   cases gk with
   | zero => exact absurd HA.out (by simp [panachetop_ellInts.l0])
   | succ k1 =>
    have H := HA.out
    clear HA
    simp only [panachetop_ellInts.l0] at H
    by_cases c4 : x5_1 < (l0.length : Int)
    ·rw [if_pos c4] at H
     have c4b0 : decide (x5_1 < (l0.length : Int)) = true := decide_eq_true c4
     clear c4
     by_cases c5 : 0 ≤ x5_1
     ·rw [if_pos c5] at H
      have c5b0 : decide (0 ≤ x5_1) = true := decide_eq_true c5
      clear c5
      by_cases c6 : x5_1 < (l1.length : Int)
      ·rw [if_pos c6] at H
       have c6b0 : decide (x5_1 < (l1.length : Int)) = true := decide_eq_true c6
       clear c6
       by_cases c7 : (rd l0 x5_1) = (rd l1 x5_1)
       ·rw [if_pos c7] at H
        have c7b0 : ((rd l0 x5_1) == (rd l1 x5_1)) = true := beq_iff_eq.mpr c7
        have c7b1 : ((rd l0 x5_1) != (rd l1 x5_1)) = false := bne_eq_false_iff_eq.mpr c7
        clear c7
        have H' := Aside0.mk H
        clear H
        have p102 : 0 ≤ (x5_1 : Int) := of_decide_eq_true (by first | (with_reducible assumption) | assumption)
        have q102 : x5_1 < (l0.length : Int) := of_decide_eq_true (by first | (with_reducible assumption) | assumption)
        obtain ⟨ad102, e102, hx102_0⟩ := Kd.at_int HR0.out x5_1 p102 q102
        cases e102
        replace p102 := eq_true p102
        replace q102 := eq_true q102
        have p103 : 0 ≤ (x5_1 : Int) := of_decide_eq_true (by first | (with_reducible assumption) | assumption)
        have q103 : x5_1 < (l1.length : Int) := of_decide_eq_true (by first | (with_reducible assumption) | assumption)
        obtain ⟨ad103, e103, hx103_0⟩ := Kd.at_int HR1.out x5_1 p103 q103
        cases e103
        replace p103 := eq_true p103
        replace q103 := eq_true q103
        go_wp2
        repeat (go_quiet (fail); try go_wp2)
        go_roundg k1
        case measure => have := HK1.out; omega
        case rel => exact ⟨(wrap64 (x5_1 + 1)), (by first | rfl | (simp; done) | (simp [*]; done)), H', ⟨by have := HK1.out; omega⟩, by repeat (first | exact Drawn0.refl _ | apply Drawn0.step)⟩
       ·rw [if_neg c7] at H
        have c7b0 : ((rd l0 x5_1) == (rd l1 x5_1)) = false := beq_eq_false_iff_ne.mpr c7
        have c7b1 : ((rd l0 x5_1) != (rd l1 x5_1)) = true := bne_iff_ne.mpr c7
        obtain rfl := Option.some.inj H
        have p102 : 0 ≤ (x5_1 : Int) := of_decide_eq_true (by first | (with_reducible assumption) | assumption)
        have q102 : x5_1 < (l0.length : Int) := of_decide_eq_true (by first | (with_reducible assumption) | assumption)
        obtain ⟨ad102, e102, hx102_0⟩ := Kd.at_int HR0.out x5_1 p102 q102
        cases e102
        replace p102 := eq_true p102
        replace q102 := eq_true q102
        have p103 : 0 ≤ (x5_1 : Int) := of_decide_eq_true (by first | (with_reducible assumption) | assumption)
        have q103 : x5_1 < (l1.length : Int) := of_decide_eq_true (by first | (with_reducible assumption) | assumption)
        obtain ⟨ad103, e103, hx103_0⟩ := Kd.at_int HR1.out x5_1 p103 q103
        cases e103
        replace p103 := eq_true p103
        replace q103 := eq_true q103
        go_wp2
        repeat (go_quiet (fail); try go_wp2)
        go_ret
        exact ⟨by first | rfl | (simp; done) | (simp [*]; done), by repeat (first | exact Drawn0.refl _ | apply Drawn0.step)⟩
      ·rw [if_neg c6] at H
       exact absurd H (by simp)
     ·rw [if_neg c5] at H
      exact absurd H (by simp)
    ·rw [if_neg c4] at H
     have c4b0 : decide (x5_1 < (l0.length : Int)) = false := decide_eq_false c4
     clear c4
     obtain rfl := Option.some.inj H
     go_wp2
     repeat (go_quiet (fail); try go_wp2)
     go_ret
     exact ⟨by first | rfl | (simp; done) | (simp [*]; done), by repeat (first | exact Drawn0.refl _ | apply Drawn0.step)⟩
 ·rw [if_neg c3] at H
  have c3b0 : ((l0.length : Int) == (l1.length : Int)) = false := beq_eq_false_iff_ne.mpr c3
  have c3b1 : ((l0.length : Int) != (l1.length : Int)) = true := bne_iff_ne.mpr c3
  have c3b2 : (l0.length == l1.length) = false := by first | simpa using c3 | (simp at c3 ⊢; omega)
  obtain rfl := Option.some.inj H
  go_enter Tryz.func19, Tryz.ntmps19
  go_wp2
  repeat (go_quiet (fail); try go_wp2)
  go_ret
  exact ⟨by first | rfl | (simp; done) | (simp [*]; done), by repeat (first | exact Drawn0.refl _ | apply Drawn0.step)⟩
end Go.Proofs.YtgdkmadcegleiaaGreatDoor.PKno
end
section
namespace Go.Proofs.YtgdkmadcegleiaaGreatDoor.PKno
open Go.RowKit Go.Proofs.YtgdkmadcegleiaaGreatDoor.Sq Go.Proofs.YtgdkmadcegleiaaGreatDoorW.PrintWords Go.Proofs.YtgdkmadcegleiaaGreatDoorW.PrintLast Go.Proofs.YtgdkmadcegleiaaGreatDoorW.PrintMore Go.Proofs.YtgdkmadcegleiaaGreatDoor.X Go.Proofs.YtgdkmadcegleiaaGreatDoor.Z
attribute [local go_sem] max2_int min2_int max_two min_two max_three min_three max_four min_four   -- for this text's walks alone
set_option linter.unusedVariables false
set_option linter.unusedSimpArgs false
attribute [local go_sem high] eqA30
def panachetop_ellKnown03.j0 : Nat → Bool → Option (Bool)
 | 0, _ => none
 | k + 1, x0 => some x0
def panachetop_ellKnown03.f (k : Nat)  : Option (Bool) := (panachetop_ellSpan.f 0 2).bind fun bt104 => ((panachetop_ellSpan.f 0 0).bind fun bt106 => ((panachetop_ellSpan.f 30 30).bind fun bt111 => ((panachetop_ellSpan.f 30 30).bind fun bt113 => ((tooth_Block.f (([(⟨bt104.1, bt104.2⟩ : S30), (⟨bt106.1, bt106.2⟩ : S30)] : List (S30))) (([(⟨bt111.1, bt111.2⟩ : S30), (⟨bt113.1, bt113.2⟩ : S30)] : List (S30))) 10 ([] : List (S171)) 2 6 1 0 0).bind fun bt119 => ((stick_Whole.f 10 1 25).bind fun bt123 => ((panachetop_ellSpan.f 100 104).bind fun bt127 => ((panachetop_ellSpan.f 140 141).bind fun bt129 => ((pleat_Hit.f 1000 (([(⟨(⟨bt127.1, bt127.2⟩ : S30), (⟨bt129.1, bt129.2⟩ : S30)⟩ : S55)] : List (S55))) (([0, 200, 400] : List Int)) 5 150 199 97).bind fun bt138 => (if bt119.2 = 0 then (if bt123.2.2 = 0 then (if bt138.2.2 = 0 then ((panachetop_ellInts.f k bt119.1 (([2, 9, 16, 23] : List Int))).bind fun t148 => (if t148 = true then ((panachetop_ellSpan.f 22 25).bind fun bt149 => (if (bt123.1 == bt149.1 && (bt123.2.1 == bt149.2)) = true then ((panachetop_ellInts.f k bt138.2.1 (([0] : List Int))).bind fun t154 => (panachetop_ellKnown03.j0 k t154)) else (panachetop_ellKnown03.j0 k false))) else (panachetop_ellKnown03.j0 k false))) else (panachetop_ellKnown03.j0 k false)) else (panachetop_ellKnown03.j0 k false)) else (panachetop_ellKnown03.j0 k false))))))))))
def panachetop_ellKnown03.T6 : Bool × List (List Nat × List Nat) := (true, [([], []), ([0], [0]), ([1], [1]), ([2], [2]), ([3, 2], [2, 3]), ([2, 4], [2, 4]), ([5, 2], [5]), ([6], [6]), ([7, 6], [6, 7]), ([6, 8], [6, 8]), ([9, 6], [9]), ([10], [10]), ([10], [10]), ([11, 12, 10, 10], [10, 11, 12]), ([10, 13], [10, 13]), ([14, 13], [14]), ([15], [15]), ([15, 15], [15]), ([16, 17, 15], [15, 16, 17]), ([15, 18], [15, 18]), ([19, 17], [19]), ([20], [20]), ([20], [20]), ([21, 22, 20, 20], [20, 21, 22]), ([20, 23], [20, 23]), ([24, 23, 0, 1, 2, 3, 4, 5, 6, 7, 8, 9, 10, 11, 12, 13, 14, 15, 16, 17, 18, 19, 20, 21, 22, 23, 24], [24])])
def panachetop_ellKnown03.B6 : List Nat := [0, 1, 3, 7, 15, 31, 63, 127, 255, 511, 1023, 2047, 2047, 8191, 16383, 32767, 65535, 65535, 262143, 524287, 1048575, 2097151, 2097151, 8388607, 16777215, 33554431]
theorem panachetop_ellKnown03.tab6 : rtab .any (opsOf Tryz.f29 6) = panachetop_ellKnown03.T6 := by kernel_rfl
theorem panachetop_ellKnown03.bits6 : waitsOk panachetop_ellKnown03.T6.2 panachetop_ellKnown03.B6 = true := by kernel_rfl
set_option maxHeartbeats 8000000 in
set_option maxRecDepth 100000 in
theorem panachetop_ellKnown03.calls (k : Nat)  (r : Bool) (w : World) (h : panachetop_ellKnown03.f k  = some r) :
  Calls Tryz.prog 29 #[] w fun e w' => e = .returned (.bool r) ∧ Below w.heap.size w w' := by
 have hu126 := Tryz.underlying126
 have hu130 := Tryz.underlying130
 have hu42 := Tryz.underlying42
 have hu30 := Tryz.underlying30
 have hu55 := Tryz.underlying55
 have hu58 := Tryz.underlying58
 have hu53 := Tryz.underlying53
 have HB := Aside0.mk (Below.refl w.heap.size w)
 have H : ((panachetop_ellSpan.f 0 2).bind fun bt104 => ((panachetop_ellSpan.f 0 0).bind fun bt106 => ((panachetop_ellSpan.f 30 30).bind fun bt111 => ((panachetop_ellSpan.f 30 30).bind fun bt113 => ((tooth_Block.f (([(⟨bt104.1, bt104.2⟩ : S30), (⟨bt106.1, bt106.2⟩ : S30)] : List (S30))) (([(⟨bt111.1, bt111.2⟩ : S30), (⟨bt113.1, bt113.2⟩ : S30)] : List (S30))) 10 ([] : List (S171)) 2 6 1 0 0).bind fun bt119 => ((stick_Whole.f 10 1 25).bind fun bt123 => ((panachetop_ellSpan.f 100 104).bind fun bt127 => ((panachetop_ellSpan.f 140 141).bind fun bt129 => ((pleat_Hit.f 1000 (([(⟨(⟨bt127.1, bt127.2⟩ : S30), (⟨bt129.1, bt129.2⟩ : S30)⟩ : S55)] : List (S55))) (([0, 200, 400] : List Int)) 5 150 199 97).bind fun bt138 => (if bt119.2 = 0 then (if bt123.2.2 = 0 then (if bt138.2.2 = 0 then ((panachetop_ellInts.f k bt119.1 (([2, 9, 16, 23] : List Int))).bind fun t148 => (if t148 = true then ((panachetop_ellSpan.f 22 25).bind fun bt149 => (if (bt123.1 == bt149.1 && (bt123.2.1 == bt149.2)) = true then ((panachetop_ellInts.f k bt138.2.1 (([0] : List Int))).bind fun t154 => (panachetop_ellKnown03.j0 k t154)) else (panachetop_ellKnown03.j0 k false))) else (panachetop_ellKnown03.j0 k false))) else (panachetop_ellKnown03.j0 k false)) else (panachetop_ellKnown03.j0 k false)) else (panachetop_ellKnown03.j0 k false))))))))))) = some r := h
 clear h
 replace H := Option.bind_eq_some_iff.mp H
 obtain ⟨⟨t104, t105⟩, A10, H⟩ := H
 try dsimp only at H
 have A1 := Aside0.mk A10
 clear A10
 replace H := Option.bind_eq_some_iff.mp H
 obtain ⟨⟨t106, t107⟩, A20, H⟩ := H
 try dsimp only at H
 have A2 := Aside0.mk A20
 clear A20
 obtain ⟨y108, hy108⟩ : ∃ y_ : List (S30), y_ = (([(⟨t104, t105⟩ : S30), (⟨t106, t107⟩ : S30)] : List (S30))) := ⟨_, rfl⟩
 replace H : ((panachetop_ellSpan.f 30 30).bind fun bt111 => ((panachetop_ellSpan.f 30 30).bind fun bt113 => ((tooth_Block.f y108 (([(⟨bt111.1, bt111.2⟩ : S30), (⟨bt113.1, bt113.2⟩ : S30)] : List (S30))) 10 ([] : List (S171)) 2 6 1 0 0).bind fun bt119 => ((stick_Whole.f 10 1 25).bind fun bt123 => ((panachetop_ellSpan.f 100 104).bind fun bt127 => ((panachetop_ellSpan.f 140 141).bind fun bt129 => ((pleat_Hit.f 1000 (([(⟨(⟨bt127.1, bt127.2⟩ : S30), (⟨bt129.1, bt129.2⟩ : S30)⟩ : S55)] : List (S55))) (([0, 200, 400] : List Int)) 5 150 199 97).bind fun bt138 => (if bt119.2 = 0 then (if bt123.2.2 = 0 then (if bt138.2.2 = 0 then ((panachetop_ellInts.f k bt119.1 (([2, 9, 16, 23] : List Int))).bind fun t148 => (if t148 = true then ((panachetop_ellSpan.f 22 25).bind fun bt149 => (if (bt123.1 == bt149.1 && (bt123.2.1 == bt149.2)) = true then ((panachetop_ellInts.f k bt138.2.1 (([0] : List Int))).bind fun t154 => (panachetop_ellKnown03.j0 k t154)) else (panachetop_ellKnown03.j0 k false))) else (panachetop_ellKnown03.j0 k false))) else (panachetop_ellKnown03.j0 k false)) else (panachetop_ellKnown03.j0 k false)) else (panachetop_ellKnown03.j0 k false))))))))) = some r := by first | (rw [hy108]; with_reducible exact H) | (have H2_ := (Option.bind_some _ _).symm.trans H; rw [hy108]; with_reducible exact H2_) | (have H2_ := (Option.bind_some _ _).symm.trans H; with_reducible exact H2_) | with_reducible exact H | (rw [hy108]; exact H) | exact H
 have Ny108 := Aside0.mk hy108
 clear hy108
 replace H := Option.bind_eq_some_iff.mp H
 obtain ⟨⟨t111, t112⟩, A30, H⟩ := H
 try dsimp only at H
 have A3 := Aside0.mk A30
 clear A30
 replace H := Option.bind_eq_some_iff.mp H
 obtain ⟨⟨t113, t114⟩, A40, H⟩ := H
 try dsimp only at H
 have A4 := Aside0.mk A40
 clear A40
 obtain ⟨y115, hy115⟩ : ∃ y_ : List (S30), y_ = (([(⟨t111, t112⟩ : S30), (⟨t113, t114⟩ : S30)] : List (S30))) := ⟨_, rfl⟩
 replace H : ((tooth_Block.f y108 y115 10 ([] : List (S171)) 2 6 1 0 0).bind fun bt119 => ((stick_Whole.f 10 1 25).bind fun bt123 => ((panachetop_ellSpan.f 100 104).bind fun bt127 => ((panachetop_ellSpan.f 140 141).bind fun bt129 => ((pleat_Hit.f 1000 (([(⟨(⟨bt127.1, bt127.2⟩ : S30), (⟨bt129.1, bt129.2⟩ : S30)⟩ : S55)] : List (S55))) (([0, 200, 400] : List Int)) 5 150 199 97).bind fun bt138 => (if bt119.2 = 0 then (if bt123.2.2 = 0 then (if bt138.2.2 = 0 then ((panachetop_ellInts.f k bt119.1 (([2, 9, 16, 23] : List Int))).bind fun t148 => (if t148 = true then ((panachetop_ellSpan.f 22 25).bind fun bt149 => (if (bt123.1 == bt149.1 && (bt123.2.1 == bt149.2)) = true then ((panachetop_ellInts.f k bt138.2.1 (([0] : List Int))).bind fun t154 => (panachetop_ellKnown03.j0 k t154)) else (panachetop_ellKnown03.j0 k false))) else (panachetop_ellKnown03.j0 k false))) else (panachetop_ellKnown03.j0 k false)) else (panachetop_ellKnown03.j0 k false)) else (panachetop_ellKnown03.j0 k false))))))) = some r := by first | (rw [hy115]; with_reducible exact H) | (have H2_ := (Option.bind_some _ _).symm.trans H; rw [hy115]; with_reducible exact H2_) | (have H2_ := (Option.bind_some _ _).symm.trans H; with_reducible exact H2_) | with_reducible exact H | (rw [hy115]; exact H) | exact H
 have Ny115 := Aside0.mk hy115
 clear hy115
 replace H := Option.bind_eq_some_iff.mp H
 obtain ⟨⟨t119, t122⟩, A50, H⟩ := H
 try dsimp only at H
 have A5 := Aside0.mk A50
 clear A50
 replace H := Option.bind_eq_some_iff.mp H
 obtain ⟨⟨t123, t124, t125⟩, A60, H⟩ := H
 try dsimp only at H
 have A6 := Aside0.mk A60
 clear A60
 replace H := Option.bind_eq_some_iff.mp H
 obtain ⟨⟨t127, t128⟩, A70, H⟩ := H
 try dsimp only at H
 have A7 := Aside0.mk A70
 clear A70
 replace H := Option.bind_eq_some_iff.mp H
 obtain ⟨⟨t129, t130⟩, A80, H⟩ := H
 try dsimp only at H
 have A8 := Aside0.mk A80
 clear A80
 obtain ⟨y131, hy131⟩ : ∃ y_ : List (S55), y_ = (([(⟨(⟨t127, t128⟩ : S30), (⟨t129, t130⟩ : S30)⟩ : S55)] : List (S55))) := ⟨_, rfl⟩
 replace H : ((pleat_Hit.f 1000 y131 (([0, 200, 400] : List Int)) 5 150 199 97).bind fun bt138 => (if t122 = 0 then (if t125 = 0 then (if bt138.2.2 = 0 then ((panachetop_ellInts.f k t119 (([2, 9, 16, 23] : List Int))).bind fun t148 => (if t148 = true then ((panachetop_ellSpan.f 22 25).bind fun bt149 => (if (t123 == bt149.1 && (t124 == bt149.2)) = true then ((panachetop_ellInts.f k bt138.2.1 (([0] : List Int))).bind fun t154 => (panachetop_ellKnown03.j0 k t154)) else (panachetop_ellKnown03.j0 k false))) else (panachetop_ellKnown03.j0 k false))) else (panachetop_ellKnown03.j0 k false)) else (panachetop_ellKnown03.j0 k false)) else (panachetop_ellKnown03.j0 k false))) = some r := by first | (rw [hy131]; with_reducible exact H) | (have H2_ := (Option.bind_some _ _).symm.trans H; rw [hy131]; with_reducible exact H2_) | (have H2_ := (Option.bind_some _ _).symm.trans H; with_reducible exact H2_) | with_reducible exact H | (rw [hy131]; exact H) | exact H
 have Ny131 := Aside0.mk hy131
 clear hy131
 obtain ⟨y135, hy135⟩ : ∃ y_ : List Int, y_ = (([0, 200, 400] : List Int)) := ⟨_, rfl⟩
 replace H : ((pleat_Hit.f 1000 y131 y135 5 150 199 97).bind fun bt138 => (if t122 = 0 then (if t125 = 0 then (if bt138.2.2 = 0 then ((panachetop_ellInts.f k t119 (([2, 9, 16, 23] : List Int))).bind fun t148 => (if t148 = true then ((panachetop_ellSpan.f 22 25).bind fun bt149 => (if (t123 == bt149.1 && (t124 == bt149.2)) = true then ((panachetop_ellInts.f k bt138.2.1 (([0] : List Int))).bind fun t154 => (panachetop_ellKnown03.j0 k t154)) else (panachetop_ellKnown03.j0 k false))) else (panachetop_ellKnown03.j0 k false))) else (panachetop_ellKnown03.j0 k false)) else (panachetop_ellKnown03.j0 k false)) else (panachetop_ellKnown03.j0 k false))) = some r := by first | (rw [hy135]; with_reducible exact H) | (have H2_ := (Option.bind_some _ _).symm.trans H; rw [hy135]; with_reducible exact H2_) | (have H2_ := (Option.bind_some _ _).symm.trans H; with_reducible exact H2_) | with_reducible exact H | (rw [hy135]; exact H) | exact H
 have Ny135 := Aside0.mk hy135
 clear hy135
 replace H := Option.bind_eq_some_iff.mp H
 obtain ⟨⟨t138, t141, t144⟩, A90, H⟩ := H
 try dsimp only at H
 have A9 := Aside0.mk A90
 clear A90
 have HC10 := Aside0.mk H
 clear H
 go_enter Tryz.func29, Tryz.ntmps29
 go_upto_region 6 with (first | ((with_reducible refine gate_callee (f := 15) rfl ?_); refine goesA (some 10) Tryz.func15 #[.int .i64 0, .int .i64 2] ?_; (with_reducible refine (panachetop_ellSpan.calls 0 2 t104 t105 _ A1.out).mono ?_); rintro e w11 ⟨rfl, hb⟩; refine ⟨_, rfl, ?_⟩; replace HB := bS HB hb; (try clear hb); (try clear hb2); (try clear hk); (try clear hi)) | ((with_reducible refine gate_callee (f := 15) rfl ?_); refine goesA (some 11) Tryz.func15 #[.int .i64 0, .int .i64 0] ?_; (with_reducible refine (panachetop_ellSpan.calls 0 0 t106 t107 _ A2.out).mono ?_); rintro e w12 ⟨rfl, hb⟩; refine ⟨_, rfl, ?_⟩; replace HB := bS HB hb; (try clear hb); (try clear hb2); (try clear hk); (try clear hi)) | ((with_reducible refine gate_dst (N := 12) rfl ?_); (try (refine gate_guard (by rfl) ?_; dsimp only)); refine Kd.R_lit k30 _ 30 ?hg (N := 12) ?hd (xs := ([(⟨t104, t105⟩ : S30), (⟨t106, t107⟩ : S30)] : List (S30))) (inner := [.int .i64 t104, .int .i64 t105, .int .i64 t106, .int .i64 t107]) (ok := fun _ => True) (okp := fun _ => True) ?hr ?hp (fun _ hk => hk) trivial (Below.refl _ _) (Nat.le_refl _) (by simp) ?_; (case hd => rfl); (case hg => rfl); (case hr => first | (go_simp; done) | (go_simp; rfl)); (case hp => exact (Reps.c2 (show Kd.M k30 _ _ _ (⟨t104, t105⟩ : S30) [.int .i64 t104, .int .i64 t105] from (k30_mkM _ _ _ (⟨t104, t105⟩ : S30) )) (Reps.c2 (show Kd.M k30 _ _ _ (⟨t106, t107⟩ : S30) [.int .i64 t106, .int .i64 t107] from (k30_mkM _ _ _ (⟨t106, t107⟩ : S30) )) (Reps.none _ _)))); intro v109 w13 ho14 hb hg_ hnew_; clear hg_ hnew_; (first | rw [← Ny108.out] at ho14 | (simp only [Int.reduceToNat] at ho14; rw [← Ny108.out] at ho14)); have HO110 := Aside0.mk (Kd.R_lower ho14 (below_size (bX HB))); replace HB := bS HB hb; clear hb ho14) | ((with_reducible refine gate_callee (f := 15) rfl ?_); refine goesA (some 13) Tryz.func15 #[.int .i64 30, .int .i64 30] ?_; (with_reducible refine (panachetop_ellSpan.calls 30 30 t111 t112 _ A3.out).mono ?_); rintro e w15 ⟨rfl, hb⟩; refine ⟨_, rfl, ?_⟩; replace HO110 := rB HO110 hb; replace HB := bS HB hb; (try clear hb); (try clear hb2); (try clear hk); (try clear hi)) | ((with_reducible refine gate_callee (f := 15) rfl ?_); refine goesA (some 14) Tryz.func15 #[.int .i64 30, .int .i64 30] ?_; (with_reducible refine (panachetop_ellSpan.calls 30 30 t113 t114 _ A4.out).mono ?_); rintro e w16 ⟨rfl, hb⟩; refine ⟨_, rfl, ?_⟩; replace HO110 := rB HO110 hb; replace HB := bS HB hb; (try clear hb); (try clear hb2); (try clear hk); (try clear hi)) | ((with_reducible refine gate_dst (N := 15) rfl ?_); (try (refine gate_guard (by rfl) ?_; dsimp only)); refine Kd.R_lit k30 _ 30 ?hg (N := 15) ?hd (xs := ([(⟨t111, t112⟩ : S30), (⟨t113, t114⟩ : S30)] : List (S30))) (inner := [.int .i64 t111, .int .i64 t112, .int .i64 t113, .int .i64 t114]) (ok := fun _ => True) (okp := fun _ => True) ?hr ?hp (fun _ hk => hk) trivial (Below.refl _ _) (Nat.le_refl _) (by simp) ?_; (case hd => rfl); (case hg => rfl); (case hr => first | (go_simp; done) | (go_simp; rfl)); (case hp => exact (Reps.c2 (show Kd.M k30 _ _ _ (⟨t111, t112⟩ : S30) [.int .i64 t111, .int .i64 t112] from (k30_mkM _ _ _ (⟨t111, t112⟩ : S30) )) (Reps.c2 (show Kd.M k30 _ _ _ (⟨t113, t114⟩ : S30) [.int .i64 t113, .int .i64 t114] from (k30_mkM _ _ _ (⟨t113, t114⟩ : S30) )) (Reps.none _ _)))); intro v116 w17 ho18 hb hg_ hnew_; clear hg_ hnew_; (first | rw [← Ny115.out] at ho18 | (simp only [Int.reduceToNat] at ho18; rw [← Ny115.out] at ho18)); have HO117 := Aside0.mk (Kd.R_lower (Kd.R_new' ho18 (Kd.R_lt (rX HO110.out))) (below_size (bX HB))); replace HO110 := Aside0.mk (Kd.R_elder' (rX HO110.out) (Kd.R_base ho18) hb); replace HB := bS HB hb; clear hb ho18; obtain ⟨Ao19, co19, eo19⟩ := Kd.R_slice HO117.out; subst eo19; obtain ⟨Ao20, co20, eo20⟩ := Kd.R_slice HO110.out; subst eo20) | ((with_reducible refine gate_dst (N := 1) rfl ?_); (try (refine gate_guard (by rfl) ?_; dsimp only)); refine boxA (N := 1) (cs := #[.slice none 0 0, .slice none 0 0, .int .i64 0, .slice none 0 0]) (t := 126) ?_; intro gb118 hg w21 hbox hb; have BK118 := Aside0.mk (hbox); have GW118 := bG HB hg; have GE118 := bG HB hg; replace HO110 := rB HO110 hb; replace HO117 := rB HO117 hb; replace HB := bS HB hb; clear hb hbox hg; obtain ⟨hcz22_0, hcz22_1, hcz22_2, hcz22_3, hfz22_0, hfz22_1, hfz22_2, hfz22_3⟩ := cc4 BK118) | ((with_reducible refine gate_callee (f := 65) rfl ?_); refine goesA (some 20) Tryz.func65 #[.agg #[.slice Ao20 y108.length co20, .slice Ao19 y115.length co19, .int .i64 10, .slice none 0 0], .agg #[.int .i64 2, .int .i64 6, .int .i64 1, .int .i64 0], .int .i64 0] ?_; (refine (tooth_Block.calls _ _ y108 _ _ y115 10 _ _ ([] : List (S171)) 2 6 1 0 0 t119 t122 _ ?side1 ?side2 ?side3 ?side4 ?side5 ?side6 A5.out).mono ?_); (case side1 => refine (Kd.R_reads' (e := 30) (base := w.heap.size) (ok := fun k_ => (True ∧ some k_ ≠ (.slice Ao19 y115.length co19 : Value).ownBlock)) (n := y108.length) (c := co20) ?_).2.2; exact (rX (Kd.R_mono (Kd.R_far (p := ⟨gb118, 3, none⟩) (Kd.R_far (p := ⟨gb118, 2, none⟩) (Kd.R_far (p := ⟨gb118, 1, none⟩) (Kd.R_far (p := ⟨gb118, 0, none⟩) (Kd.R_types HO110.out BK118.out (by decide)) (fun _ hk => hk.2) (.slice Ao20 y108.length co20)) (fun _ hk => hk.2) (.slice Ao19 y115.length co19)) (fun _ hk => hk.2) (.int .i64 10)) (fun _ hk => hk.2) (.slice none 0 0)) (fun _ h_ => h_.1)))); (case side2 => exact (Kd.R_reads' HO110.out).2.1); (case side3 => refine (Kd.R_reads' (e := 30) (base := w.heap.size) (ok := fun k_ => (True ∧ some k_ ≠ (.slice Ao20 y108.length co20 : Value).ownBlock)) (n := y115.length) (c := co19) ?_).2.2; exact (rX (Kd.R_mono (Kd.R_far (p := ⟨gb118, 3, none⟩) (Kd.R_far (p := ⟨gb118, 2, none⟩) (Kd.R_far (p := ⟨gb118, 1, none⟩) (Kd.R_far (p := ⟨gb118, 0, none⟩) (Kd.R_types HO117.out BK118.out (by decide)) (fun _ hk => hk.2) (.slice Ao20 y108.length co20)) (fun _ hk => hk.2) (.slice Ao19 y115.length co19)) (fun _ hk => hk.2) (.int .i64 10)) (fun _ hk => hk.2) (.slice none 0 0)) (fun _ h_ => h_.1)))); (case side4 => exact (Kd.R_reads' HO117.out).2.1); (case side5 => exact Kd.C_nil _ _); (case side6 => exact Nat.le_refl _); rintro e w23 ⟨v120, rfl, ho0, hb⟩; refine ⟨_, rfl, ?_⟩; have n0_ := Aside0.mk (Kd.R_below (rX (Kd.R_mono (Kd.R_far (p := ⟨gb118, 3, none⟩) (Kd.R_far (p := ⟨gb118, 2, none⟩) (Kd.R_far (p := ⟨gb118, 1, none⟩) (Kd.R_far (p := ⟨gb118, 0, none⟩) (Kd.R_types HO110.out BK118.out (by decide)) (fun _ hk => hk.2) (.slice Ao20 y108.length co20)) (fun _ hk => hk.2) (.slice Ao19 y115.length co19)) (fun _ hk => hk.2) (.int .i64 10)) (fun _ hk => hk.2) (.slice none 0 0)) (fun _ h_ => h_.1))) hb); have n1_ := Aside0.mk (Kd.R_below (rX (Kd.R_mono (Kd.R_far (p := ⟨gb118, 3, none⟩) (Kd.R_far (p := ⟨gb118, 2, none⟩) (Kd.R_far (p := ⟨gb118, 1, none⟩) (Kd.R_far (p := ⟨gb118, 0, none⟩) (Kd.R_types HO117.out BK118.out (by decide)) (fun _ hk => hk.2) (.slice Ao20 y108.length co20)) (fun _ hk => hk.2) (.slice Ao19 y115.length co19)) (fun _ hk => hk.2) (.int .i64 10)) (fun _ hk => hk.2) (.slice none 0 0)) (fun _ h_ => h_.1))) hb); have n2_ := Aside0.mk (Kd.R_lower ho0 (below_size (bX HB))); have n3_ := Aside0.mk (blk_below (g := gb118) (o := .cells #[.slice Ao20 y108.length co20, .slice Ao19 y115.length co19, .int .i64 10, .slice none 0 0] 126 (0, 0)) (by (with_reducible repeat (first | refine blk_drewN ?_ _ | refine blk_drew ?_ | refine blk_alloc ?_ _)); refine blk_put (cs := #[.slice Ao20 y108.length co20, .slice Ao19 y115.length co19, .int .i64 10, .slice none 0 0]) ?_ 3 _ rfl; (with_reducible repeat (first | refine blk_drewN ?_ _ | refine blk_drew ?_ | refine blk_alloc ?_ _)); refine blk_put (cs := #[.slice Ao20 y108.length co20, .slice Ao19 y115.length co19, .int .i64 0, .slice none 0 0]) ?_ 2 _ rfl; (with_reducible repeat (first | refine blk_drewN ?_ _ | refine blk_drew ?_ | refine blk_alloc ?_ _)); refine blk_put (cs := #[.slice Ao20 y108.length co20, .slice none 0 0, .int .i64 0, .slice none 0 0]) ?_ 1 _ rfl; (with_reducible repeat (first | refine blk_drewN ?_ _ | refine blk_drew ?_ | refine blk_alloc ?_ _)); refine blk_put (cs := #[.slice none 0 0, .slice none 0 0, .int .i64 0, .slice none 0 0]) ?_ 0 _ rfl; (with_reducible repeat (first | refine blk_drewN ?_ _ | refine blk_drew ?_ | refine blk_alloc ?_ _)); exact BK118.out) hb); have n4_ := bS HB hb; clear HO110; clear HO117; clear BK118; clear HB; have HO110 := n0_; have HO117 := n1_; have HO121 := n2_; have BK118 := n3_; have HB := n4_; clear n0_ n1_ n2_ n3_ n4_; (try clear hb); (try clear hb2); (try clear hk); (try clear hi); (try clear ho0)) | ((with_reducible refine gate_callee (f := 12) rfl ?_); refine goesA (some 25) Tryz.func12 #[.agg #[.int .i64 10, .int .i64 1], .int .i64 25] ?_; (with_reducible refine (stick_Whole.calls 10 1 25 t123 t124 t125 _ A6.out).mono ?_); rintro e w24 ⟨rfl, hb⟩; refine ⟨_, rfl, ?_⟩; replace HO110 := rB HO110 hb; replace HO117 := rB HO117 hb; replace HO121 := rB HO121 hb; replace BK118 := kB BK118 hb; replace HB := bS HB hb; (try clear hb); (try clear hb2); (try clear hk); (try clear hi)) | ((with_reducible refine gate_dst (N := 4) rfl ?_); (try (refine gate_guard (by rfl) ?_; dsimp only)); refine boxA (N := 4) (cs := #[.int .i64 0, .int .i64 0]) (t := 30) ?_; intro gb126 hg w25 hbox hb; have BK126 := Aside0.mk (hbox); have GW126 := bG HB hg; have GE126 := bG HB hg; have NB118_126 := kN BK118 hg; have NB126_118 := kM BK118 hg; replace HO110 := Aside0.mk (Kd.R_below (Kd.R_elderB (rX HO110.out) gb126 (Nat.le_of_eq hg.symm)) hb); replace HO117 := Aside0.mk (Kd.R_below (Kd.R_elderB (rX HO117.out) gb126 (Nat.le_of_eq hg.symm)) hb); replace HO121 := rB HO121 hb; replace BK118 := kB BK118 hb; replace HB := bS HB hb; clear hb hbox hg; have hnb26 := NB126_118.out; have hnc26 := NB118_126.out; obtain ⟨hcz27_0, hcz27_1, hfz27_0, hfz27_1⟩ := cc2 BK126) | ((with_reducible refine gate_callee (f := 15) rfl ?_); refine goesA (some 28) Tryz.func15 #[.int .i64 100, .int .i64 104] ?_; (with_reducible refine (panachetop_ellSpan.calls 100 104 t127 t128 _ A7.out).mono ?_); rintro e w28 ⟨rfl, hb⟩; refine ⟨_, rfl, ?_⟩; replace HO110 := Aside0.mk (Kd.R_below (rX (Kd.R_mono (Kd.R_far (p := ⟨gb126, 1, none⟩) (Kd.R_far (p := ⟨gb126, 0, none⟩) (Kd.R_mono HO110.out (fun k_ hk => (⟨hk, hk.2⟩ : _ ∧ k_ ≠ gb126))) (fun _ hk => hk.2) (.int .i64 t123)) (fun _ hk => hk.2) (.int .i64 t124)) (fun _ h_ => h_.1))) hb); replace HO117 := Aside0.mk (Kd.R_below (rX (Kd.R_mono (Kd.R_far (p := ⟨gb126, 1, none⟩) (Kd.R_far (p := ⟨gb126, 0, none⟩) (Kd.R_mono HO117.out (fun k_ hk => (⟨hk, hk.2⟩ : _ ∧ k_ ≠ gb126))) (fun _ hk => hk.2) (.int .i64 t123)) (fun _ hk => hk.2) (.int .i64 t124)) (fun _ h_ => h_.1))) hb); replace HO121 := Aside0.mk (Kd.R_below (rX (Kd.R_mono (Kd.R_far (p := ⟨gb126, 1, none⟩) (Kd.R_far (p := ⟨gb126, 0, none⟩) (Kd.R_types HO121.out BK126.out (by decide)) (fun _ hk => hk.2) (.int .i64 t123)) (fun _ hk => hk.2) (.int .i64 t124)) (fun _ h_ => h_.1))) hb); replace BK118 := Aside0.mk (blk_below (kF BK118 NB118_126) hb); replace BK126 := Aside0.mk (blk_below (g := gb126) (o := .cells #[.int .i64 t123, .int .i64 t124] 30 (0, 0)) (kP BK126) hb); replace HB := bS HB hb; (try clear hb); (try clear hb2); (try clear hk); (try clear hi)) | ((with_reducible refine gate_callee (f := 15) rfl ?_); refine goesA (some 29) Tryz.func15 #[.int .i64 140, .int .i64 141] ?_; (with_reducible refine (panachetop_ellSpan.calls 140 141 t129 t130 _ A8.out).mono ?_); rintro e w29 ⟨rfl, hb⟩; refine ⟨_, rfl, ?_⟩; replace HO110 := rB HO110 hb; replace HO117 := rB HO117 hb; replace HO121 := rB HO121 hb; replace BK118 := kB BK118 hb; replace BK126 := kB BK126 hb; replace HB := bS HB hb; (try clear hb); (try clear hb2); (try clear hk); (try clear hi)) | ((with_reducible refine gate_dst (N := 31) rfl ?_); (try (refine gate_guard (by rfl) ?_; dsimp only)); refine Kd.R_lit k55 _ 55 ?hg (N := 31) ?hd (xs := ([(⟨(⟨t127, t128⟩ : S30), (⟨t129, t130⟩ : S30)⟩ : S55)] : List (S55))) (inner := [.int .i64 t127, .int .i64 t128, .int .i64 t129, .int .i64 t130]) (ok := fun _ => True) (okp := fun _ => True) ?hr ?hp (fun _ hk => hk) trivial (Below.refl _ _) (Nat.le_refl _) (by simp) ?_; (case hd => rfl); (case hg => rfl); (case hr => first | (go_simp; done) | (go_simp; rfl)); (case hp => exact (Reps.c4 (show Kd.M k55 _ _ _ (⟨(⟨t127, t128⟩ : S30), (⟨t129, t130⟩ : S30)⟩ : S55) [.int .i64 t127, .int .i64 t128, .int .i64 t129, .int .i64 t130] from (k55_mkM _ _ _ (⟨(⟨t127, t128⟩ : S30), (⟨t129, t130⟩ : S30)⟩ : S55) )) (Reps.none _ _))); intro v132 w30 ho31 hb hg_ hnew_; clear hg_ hnew_; (first | rw [← Ny131.out] at ho31 | (simp only [Int.reduceToNat] at ho31; rw [← Ny131.out] at ho31)); have HO133 := Aside0.mk (Kd.R_lower ho31 (below_size (bX HB))); replace HO110 := rB HO110 hb; replace HO117 := rB HO117 hb; replace HO121 := rB HO121 hb; replace BK118 := kB BK118 hb; replace BK126 := kB BK126 hb; replace HB := bS HB hb; clear hb ho31; obtain ⟨Ao32, co32, eo32⟩ := Kd.R_slice HO133.out; subst eo32) | ((with_reducible refine gate_dst (N := 6) rfl ?_); (try (refine gate_guard (by rfl) ?_; dsimp only)); refine boxA (N := 6) (cs := #[.int .i64 0, .slice none 0 0]) (t := 58) ?_; intro gb134 hg w33 hbox hb; have BK134 := Aside0.mk (hbox); have GW134 := bG HB hg; have GE134 := bG HB hg; have NB118_134 := kN BK118 hg; have NB134_118 := kM BK118 hg; have NB126_134 := kN BK126 hg; have NB134_126 := kM BK126 hg; replace HO110 := rB HO110 hb; replace HO117 := rB HO117 hb; replace HO121 := rB HO121 hb; replace HO133 := rB HO133 hb; replace BK118 := kB BK118 hb; replace BK126 := kB BK126 hb; replace HB := bS HB hb; clear hb hbox hg; have hnb34 := NB134_118.out; have hnc34 := NB118_134.out; have hnb35 := NB134_126.out; have hnc35 := NB126_134.out; obtain ⟨hcz36_0, hcz36_1, hfz36_0, hfz36_1⟩ := cc2 BK134) | ((with_reducible refine gate_dst (N := 35) rfl ?_); (try (refine gate_guard (by rfl) ?_; dsimp only)); refine Kd.R_lit (Kd.int .i64) _ 3 ?hg (N := 35) ?hd (xs := ([0, 200, 400] : List Int)) (inner := [.int .i64 0, .int .i64 200, .int .i64 400]) (ok := fun _ => True) (okp := fun _ => True) ?hr ?hp (fun _ hk => hk) trivial (Below.refl _ _) (Nat.le_refl _) (by simp) ?_; (case hd => rfl); (case hg => rfl); (case hr => first | (go_simp; done) | (go_simp; rfl)); (case hp => exact (Reps.one (show Kd.M (Kd.int .i64) _ _ _ 0 [.int .i64 0] from rfl) (Reps.one (show Kd.M (Kd.int .i64) _ _ _ 200 [.int .i64 200] from rfl) (Reps.one (show Kd.M (Kd.int .i64) _ _ _ 400 [.int .i64 400] from rfl) (Reps.none _ _))))); intro v136 w37 ho38 hb hg_ hnew_; clear hg_ hnew_; (first | rw [← Ny135.out] at ho38 | (simp only [Int.reduceToNat] at ho38; rw [← Ny135.out] at ho38)); have HO137 := Aside0.mk (Kd.R_lower (Kd.R_new' ho38 (Kd.R_lt (rX (Kd.R_mono (Kd.R_far (p := ⟨gb134, 1, none⟩) (Kd.R_far (p := ⟨gb134, 0, none⟩) (Kd.R_types HO121.out BK134.out (by decide)) (fun _ hk => hk.2) (.int .i64 1000)) (fun _ hk => hk.2) (.slice Ao32 y131.length co32)) (fun _ h_ => h_.1))))) (below_size (bX HB))); replace HO110 := Aside0.mk (Kd.R_below (rX (Kd.R_mono (Kd.R_far (p := ⟨gb134, 1, none⟩) (Kd.R_far (p := ⟨gb134, 0, none⟩) (Kd.R_types HO110.out BK134.out (by decide)) (fun _ hk => hk.2) (.int .i64 1000)) (fun _ hk => hk.2) (.slice Ao32 y131.length co32)) (fun _ h_ => h_.1))) hb); replace HO117 := Aside0.mk (Kd.R_below (rX (Kd.R_mono (Kd.R_far (p := ⟨gb134, 1, none⟩) (Kd.R_far (p := ⟨gb134, 0, none⟩) (Kd.R_types HO117.out BK134.out (by decide)) (fun _ hk => hk.2) (.int .i64 1000)) (fun _ hk => hk.2) (.slice Ao32 y131.length co32)) (fun _ h_ => h_.1))) hb); replace HO121 := Aside0.mk (Kd.R_elder' (rX (Kd.R_mono (Kd.R_far (p := ⟨gb134, 1, none⟩) (Kd.R_far (p := ⟨gb134, 0, none⟩) (Kd.R_types HO121.out BK134.out (by decide)) (fun _ hk => hk.2) (.int .i64 1000)) (fun _ hk => hk.2) (.slice Ao32 y131.length co32)) (fun _ h_ => h_.1))) (Kd.R_base ho38) hb); replace HO133 := Aside0.mk (Kd.R_below (rX (Kd.R_mono (Kd.R_far (p := ⟨gb134, 1, none⟩) (Kd.R_far (p := ⟨gb134, 0, none⟩) (Kd.R_types HO133.out BK134.out (by decide)) (fun _ hk => hk.2) (.int .i64 1000)) (fun _ hk => hk.2) (.slice Ao32 y131.length co32)) (fun _ h_ => h_.1))) hb); replace BK118 := Aside0.mk (blk_below (kF BK118 NB118_134) hb); replace BK126 := Aside0.mk (blk_below (kF BK126 NB126_134) hb); replace BK134 := Aside0.mk (blk_below (g := gb134) (o := .cells #[.int .i64 1000, .slice Ao32 y131.length co32] 58 (0, 0)) (kP BK134) hb); replace HB := bS HB hb; clear hb ho38; obtain ⟨Ao39, co39, eo39⟩ := Kd.R_slice HO137.out; subst eo39) | ((with_reducible refine gate_callee (f := 16) rfl ?_); refine goesA (some 37) Tryz.func16 #[.agg #[.int .i64 1000, .slice Ao32 y131.length co32], .agg #[.slice Ao39 y135.length co39, .int .i64 5, .int .i64 150, .int .i64 199], .int .i64 97] ?_; (with_reducible refine (pleat_Hit.calls 1000 _ _ y131 _ _ y135 5 150 199 97 t138 t141 t144 _ ?side1 ?side2 ?side3 ?side4 A9.out).mono ?_); (case side1 => exact sX (Kd.R_reads' HO133.out).2.2); (case side2 => exact (Kd.R_reads' HO133.out).2.1); (case side3 => exact sX (Kd.R_reads' HO137.out).2.2); (case side4 => exact (Kd.R_reads' HO137.out).2.1); rintro e w40 ⟨v139, v142, rfl, ho0, ho1, hb⟩; refine ⟨_, rfl, ?_⟩; have HO140 := Aside0.mk (Kd.R_lower (Kd.R_new' (Kd.R_new' ho0 (Kd.R_lt (rX HO121.out))) (Kd.R_lt (rX HO137.out))) (below_size (bX HB))); have HO143 := Aside0.mk (Kd.R_lower (Kd.R_new' (Kd.R_new' ho1 (Kd.R_lt (rX HO121.out))) (Kd.R_lt (rX HO137.out))) (below_size (bX HB))); replace HO110 := rB HO110 hb; replace HO117 := rB HO117 hb; replace HO121 := Aside0.mk (Kd.R_mono (Kd.R_told (Kd.R_told (Kd.R_old (rX HO121.out) hb) (Kd.R_base ho0)) (Kd.R_base ho1)) (fun _ h_ => h_.1)); replace HO133 := rB HO133 hb; replace HO137 := Aside0.mk (Kd.R_mono (Kd.R_told (Kd.R_told (Kd.R_old (rX HO137.out) hb) (Kd.R_base ho0)) (Kd.R_base ho1)) (fun _ h_ => h_.1)); replace BK118 := kB BK118 hb; replace BK126 := kB BK126 hb; replace BK134 := kB BK134 hb; replace HB := bS HB hb; (try clear hb); (try clear hb2); (try clear hk); (try clear hi); (try clear ho0); (try clear ho1)))
 (try simp only [Act.put, List.setIfInBounds_toArray, List.set_cons_zero, List.set_cons_succ])
 go_cut [0] (fun v0 wc => ∃ (kq : Nat) (x0_9 : Bool), v0 = .bool x0_9 ∧ Aside0 (panachetop_ellKnown03.j0 kq x0_9 = some r) ∧ Aside0 (kq ≤ k) ∧ Aside0 (Kd.R k30 30 wc w.heap.size (fun k_ => some k_ ≠ ((.slice Ao19 y115.length co19) : Value).ownBlock ∧ k_ ≠ gb126) (.slice Ao20 y108.length co20) y108) ∧ Aside0 (Kd.R k30 30 wc w.heap.size (fun k_ => some k_ ≠ ((.slice Ao20 y108.length co20) : Value).ownBlock ∧ k_ ≠ gb126) (.slice Ao19 y115.length co19) y115) ∧ Aside0 (Kd.R k55 55 wc w.heap.size (fun _ => True) (.slice Ao32 y131.length co32) y131) ∧ Aside0 (wc.heap[gb118]? = some (.cells #[(.slice Ao20 y108.length co20), (.slice Ao19 y115.length co19), .int .i64 10, (.slice none 0 0)] 126 (0, 0))) ∧ Aside0 (wc.heap[gb126]? = some (.cells #[.int .i64 t123, .int .i64 t124] 30 (0, 0))) ∧ Aside0 (wc.heap[gb134]? = some (.cells #[.int .i64 1000, (.slice Ao32 y131.length co32)] 58 (0, 0))) ∧ Aside0 (Below w.heap.size w wc))
 case first =>
  have H := HC10.out
  clear HC10
  by_cases c41 : t122 = 0
  ·rw [if_pos c41] at H
   have c41b0 : (t122 == 0) = true := beq_iff_eq.mpr c41
   have c41b1 : (t122 != 0) = false := bne_eq_false_iff_eq.mpr c41
   clear c41
   (first | rw [c41b0] | (simp only [i64_w, i32_w]; rw [c41b0]) | skip)
   by_cases c42 : t125 = 0
   ·rw [if_pos c42] at H
    have c42b0 : (t125 == 0) = true := beq_iff_eq.mpr c42
    have c42b1 : (t125 != 0) = false := bne_eq_false_iff_eq.mpr c42
    clear c42
    by_cases c43 : t144 = 0
    ·rw [if_pos c43] at H
     have c43b0 : (t144 == 0) = true := beq_iff_eq.mpr c43
     have c43b1 : (t144 != 0) = false := bne_eq_false_iff_eq.mpr c43
     clear c43
     obtain ⟨y145, hy145⟩ : ∃ y_ : List Int, y_ = (([2, 9, 16, 23] : List Int)) := ⟨_, rfl⟩
     replace H : ((panachetop_ellInts.f k t119 y145).bind fun t148 => (if t148 = true then ((panachetop_ellSpan.f 22 25).bind fun bt149 => (if (t123 == bt149.1 && (t124 == bt149.2)) = true then ((panachetop_ellInts.f k t141 (([0] : List Int))).bind fun t154 => (panachetop_ellKnown03.j0 k t154)) else (panachetop_ellKnown03.j0 k false))) else (panachetop_ellKnown03.j0 k false))) = some r := by first | (rw [hy145]; with_reducible exact H) | (have H2_ := (Option.bind_some _ _).symm.trans H; rw [hy145]; with_reducible exact H2_) | (have H2_ := (Option.bind_some _ _).symm.trans H; with_reducible exact H2_) | with_reducible exact H | (rw [hy145]; exact H) | exact H
     have Ny145 := Aside0.mk hy145
     clear hy145
     replace H := Option.bind_eq_some_iff.mp H
     obtain ⟨t148, A440, H⟩ := H
     try dsimp only at H
     have A44 := Aside0.mk A440
     clear A440
     by_cases c45 : t148 = true
     ·subst c45
      have H1 : ((panachetop_ellSpan.f 22 25).bind fun bt149 => (if (t123 == bt149.1 && (t124 == bt149.2)) = true then ((panachetop_ellInts.f k t141 (([0] : List Int))).bind fun t154 => (panachetop_ellKnown03.j0 k t154)) else (panachetop_ellKnown03.j0 k false))) = some r := by rw [if_pos rfl] at H; exact H
      clear H
      have H := H1
      clear H1
      replace H := Option.bind_eq_some_iff.mp H
      obtain ⟨⟨t149, t150⟩, A460, H⟩ := H
      try dsimp only at H
      have A46 := Aside0.mk A460
      clear A460
      by_cases c47 : (t123 == t149 && (t124 == t150)) = true
      ·rw [if_pos c47] at H
       have c47b0 : (t123 == t149 && (t124 == t150)) = true := c47
       (try (have c47b1 : decide (t123 = t149 && (t124 == t150)) = true := by simpa using c47))
       (try (have c47b2 : (t123 == t149 && (t124 == t150)) = true := by simpa using c47))
       clear c47
       obtain ⟨y151, hy151⟩ : ∃ y_ : List Int, y_ = (([0] : List Int)) := ⟨_, rfl⟩
       replace H : ((panachetop_ellInts.f k t141 y151).bind fun t154 => (panachetop_ellKnown03.j0 k t154)) = some r := by first | (rw [hy151]; with_reducible exact H) | (have H2_ := (Option.bind_some _ _).symm.trans H; rw [hy151]; with_reducible exact H2_) | (have H2_ := (Option.bind_some _ _).symm.trans H; with_reducible exact H2_) | with_reducible exact H | (rw [hy151]; exact H) | exact H
       have Ny151 := Aside0.mk hy151
       clear hy151
       replace H := Option.bind_eq_some_iff.mp H
       obtain ⟨t154, A480, H⟩ := H
       try dsimp only at H
       have A48 := Aside0.mk A480
       clear A480
       have H' := Aside0.mk H
       clear H
       try go_wp2
       replace HO110 := Aside0.mk (Kd.R_drew HO110.out)
       replace HO117 := Aside0.mk (Kd.R_drew HO117.out)
       replace HO121 := Aside0.mk (Kd.R_drew HO121.out)
       replace HO133 := Aside0.mk (Kd.R_drew HO133.out)
       replace HO137 := Aside0.mk (Kd.R_drew HO137.out)
       replace HO140 := Aside0.mk (Kd.R_drew HO140.out)
       replace HO143 := Aside0.mk (Kd.R_drew HO143.out)
       replace BK118 := Aside0.mk (blk_drew BK118.out)
       replace BK126 := Aside0.mk (blk_drew BK126.out)
       replace BK134 := Aside0.mk (blk_drew BK134.out)
       replace HB := Aside0.mk (below_drew1 HB.out)
       refine start_ (n := 26) (S := fun w' => w'.cell? ⟨gb126, 0, none⟩ = some (.int .i64 t123) ∧ w'.cell? ⟨gb126, 1, none⟩ = some (.int .i64 t124)) (ds := []) #[false, false, false, false, false, false, false, false, false, false, false, false, false, false, false, false, false, false, false, false, false, false, false, false, false, false] (by kernel_rfl) rfl rfl ⟨(blk_cell BK126.out 0).trans rfl, (blk_cell BK126.out 1).trans rfl⟩ (fun hHeld => ?_); refine with_tabW panachetop_ellKnown03.tab6 panachetop_ellKnown03.bits6 (fun HT_ HW_ => ?_)
       generalize w40.drew = w49 at HO110 HO117 HO121 HO133 HO137 HO140 HO143 BK118 BK126 BK134 HB hHeld ⊢
       refine pureA (i := 0) (N := some 41) HT_ ?_
       refine pureA (i := 1) (N := some 42) HT_ ?_
       refine pureA (i := 2) (N := some 43) HT_ ?_
       refine pureA (i := 3) (N := some 44) HT_ ?_
       refine pureA (i := 4) (N := some 45) HT_ ?_
       refine pureA (i := 5) (N := some 46) HT_ ?_
       refine pureA (i := 6) (N := some 47) HT_ ?_
       refine pureA (i := 7) (N := some 48) HT_ ?_
       refine pureA (i := 8) (N := some 49) HT_ ?_
       refine pureA (i := 9) (N := some 50) HT_ ?_
       refine pureA (i := 10) (N := some 51) HT_ ?_
       refine pureA (i := 11) (N := some 52) HT_ ?_
       refine oneA (i := 12) (N := some 53) HT_ (fun K hK => ?_)
       refine Kd.R_lit_step (Kd.int .i64) _ 3 ?hg (N := 53) ?hd (xs := ([2, 9, 16, 23] : List Int)) (inner := [.int .i64 2, .int .i64 9, .int .i64 16, .int .i64 23]) (ok := fun _ => True) (okp := fun _ => True) ?hr ?hp (fun _ hk => hk) trivial (Below.refl _ _) (Nat.le_refl _) (by simp) ?_; (case hd => rfl); (case hg => rfl); (case hr => first | (go_simp; done) | (go_simp; rfl)); (case hp => exact (Reps.one (show Kd.M (Kd.int .i64) _ _ _ 2 [.int .i64 2] from rfl) (Reps.one (show Kd.M (Kd.int .i64) _ _ _ 9 [.int .i64 9] from rfl) (Reps.one (show Kd.M (Kd.int .i64) _ _ _ 16 [.int .i64 16] from rfl) (Reps.one (show Kd.M (Kd.int .i64) _ _ _ 23 [.int .i64 23] from rfl) (Reps.none _ _))))))
       intro v146 w50 ho51 hb hg_ hnew_
       clear hg_ hnew_
       (first | rw [← Ny145.out] at ho51 | (simp only [Int.reduceToNat] at ho51; rw [← Ny145.out] at ho51))
       have HO147 := Aside0.mk (Kd.R_lower (Kd.R_new' (Kd.R_new' (Kd.R_new' (Kd.R_new' ho51 (Kd.R_lt (rX HO121.out))) (Kd.R_lt (rX HO137.out))) (Kd.R_lt (rX HO140.out))) (Kd.R_lt (rX HO143.out))) (below_size (bX HB)))
       replace HO110 := rB HO110 hb
       replace HO117 := rB HO117 hb
       replace HO121 := Aside0.mk (Kd.R_elder' (rX HO121.out) (Kd.R_base ho51) hb)
       replace HO133 := rB HO133 hb
       replace HO137 := Aside0.mk (Kd.R_elder' (rX HO137.out) (Kd.R_base ho51) hb)
       replace HO140 := Aside0.mk (Kd.R_elder' (rX HO140.out) (Kd.R_base ho51) hb)
       replace HO143 := Aside0.mk (Kd.R_elder' (rX HO143.out) (Kd.R_base ho51) hb)
       replace BK118 := kB BK118 hb
       replace BK126 := kB BK126 hb
       replace BK134 := kB BK134 hb
       replace HB := bS HB hb
       clear hb ho51
       obtain ⟨Ao52, co52, eo52⟩ := Kd.R_slice HO121.out
       (first | subst eo52 | (injection eo52 with f1_ f2_ f3_; have f4_ := f1_.symm; have f5_ := f3_.symm; clear f1_ f2_ f3_; subst f4_; subst f5_))
       obtain ⟨Ao53, co53, eo53⟩ := Kd.R_slice HO147.out
       (first | subst eo53 | (injection eo53 with f1_ f2_ f3_; have f4_ := f1_.symm; have f5_ := f3_.symm; clear f1_ f2_ f3_; subst f4_; subst f5_))
       refine hK.out _ _ ⟨(blk_cell BK126.out 0).trans rfl, (blk_cell BK126.out 1).trans rfl⟩ (fun hHeld => ?_)
       clear hK K
       refine normA (N := some 53) ?_
       refine oneA (i := 13) (N := some 54) HT_ (fun K hK => ?_)
       refine goesB Tryz.func19 #[.slice Ao52 t119.length co52, .slice Ao53 y145.length co53] ?_
       with_reducible refine (panachetop_ellInts.calls k _ _ t119 _ _ y145 true _ ?side1 ?side2 ?side3 ?side4 A44.out).mono ?_
       (case side1 => exact sX (Kd.R_reads' HO121.out).2.2)
       (case side2 => exact (Kd.R_reads' HO121.out).2.1)
       (case side3 => exact sX (Kd.R_reads' HO147.out).2.2)
       (case side4 => exact (Kd.R_reads' HO147.out).2.1)
       rintro e w' ⟨rfl, ⟨nd, rfl⟩⟩
       refine ⟨_, rfl, ?_⟩
       refine hK.out _ _ ⟨(blk_cell BK126.out 0).trans rfl, (blk_cell BK126.out 1).trans rfl⟩ (fun hHeld => ?_)
       clear hK K
       refine normA (N := some 54) ?_
       refine pureA (i := 14) (N := some 55) HT_ ?_
       refine pureA (i := 15) (N := some 56) HT_ ?_
       refine takeA (i := 16) (N := some 57) HT_ HW_ hHeld ?_
       refine oneA (i := 17) (N := some 58) HT_ (fun K hK => ?_)
       refine goesB Tryz.func15 #[.int .i64 22, .int .i64 25] ?_
       with_reducible refine (panachetop_ellSpan.calls 22 25 t149 t150 _ A46.out).mono ?_
       rintro e w54 ⟨rfl, hb⟩
       refine ⟨_, rfl, ?_⟩
       replace HO110 := rB HO110 hb
       replace HO117 := rB HO117 hb
       replace HO121 := rB HO121 hb
       replace HO133 := rB HO133 hb
       replace HO137 := rB HO137 hb
       replace HO140 := rB HO140 hb
       replace HO143 := rB HO143 hb
       replace HO147 := rB HO147 hb
       replace BK118 := kB BK118 hb
       replace BK126 := kB BK126 hb
       replace BK134 := kB BK134 hb
       replace HB := bS HB hb
       (try clear hb)
       (try clear hb2)
       (try clear hk)
       (try clear hi)
       refine hK.out _ _ ⟨(blk_cell BK126.out 0).trans rfl, (blk_cell BK126.out 1).trans rfl⟩ (fun hHeld => ?_)
       clear hK K
       refine normA (N := some 58) ?_
       refine pureA (i := 18) (N := some 59) HT_ ?_
       refine pureA (i := 19) (N := some 60) HT_ ?_
       refine pureA (i := 20) (N := some 61) HT_ ?_
       refine pureA (i := 21) (N := some 62) HT_ ?_
       refine oneA (i := 22) (N := some 63) HT_ (fun K hK => ?_)
       refine Kd.R_lit_step (Kd.int .i64) _ 3 ?hg (N := 63) ?hd (xs := ([0] : List Int)) (inner := [.int .i64 0]) (ok := fun _ => True) (okp := fun _ => True) ?hr ?hp (fun _ hk => hk) trivial (Below.refl _ _) (Nat.le_refl _) (by simp) ?_; (case hd => rfl); (case hg => rfl); (case hr => first | (go_simp; done) | (go_simp; rfl)); (case hp => exact (Reps.one (show Kd.M (Kd.int .i64) _ _ _ 0 [.int .i64 0] from rfl) (Reps.none _ _)))
       intro v152 w55 ho56 hb hg_ hnew_
       clear hg_ hnew_
       (first | rw [← Ny151.out] at ho56 | (simp only [Int.reduceToNat] at ho56; rw [← Ny151.out] at ho56))
       have HO153 := Aside0.mk (Kd.R_lower (Kd.R_new' (Kd.R_new' (Kd.R_new' (Kd.R_new' (Kd.R_new' ho56 (Kd.R_lt (rX HO121.out))) (Kd.R_lt (rX HO137.out))) (Kd.R_lt (rX HO140.out))) (Kd.R_lt (rX HO143.out))) (Kd.R_lt (rX HO147.out))) (below_size (bX HB)))
       replace HO110 := rB HO110 hb
       replace HO117 := rB HO117 hb
       replace HO121 := Aside0.mk (Kd.R_elder' (rX HO121.out) (Kd.R_base ho56) hb)
       replace HO133 := rB HO133 hb
       replace HO137 := Aside0.mk (Kd.R_elder' (rX HO137.out) (Kd.R_base ho56) hb)
       replace HO140 := Aside0.mk (Kd.R_elder' (rX HO140.out) (Kd.R_base ho56) hb)
       replace HO143 := Aside0.mk (Kd.R_elder' (rX HO143.out) (Kd.R_base ho56) hb)
       replace HO147 := Aside0.mk (Kd.R_elder' (rX HO147.out) (Kd.R_base ho56) hb)
       replace BK118 := kB BK118 hb
       replace BK126 := kB BK126 hb
       replace BK134 := kB BK134 hb
       replace HB := bS HB hb
       clear hb ho56
       obtain ⟨Ao57, co57, eo57⟩ := Kd.R_slice HO143.out
       (first | subst eo57 | (injection eo57 with f1_ f2_ f3_; have f4_ := f1_.symm; have f5_ := f3_.symm; clear f1_ f2_ f3_; subst f4_; subst f5_))
       obtain ⟨Ao58, co58, eo58⟩ := Kd.R_slice HO153.out
       (first | subst eo58 | (injection eo58 with f1_ f2_ f3_; have f4_ := f1_.symm; have f5_ := f3_.symm; clear f1_ f2_ f3_; subst f4_; subst f5_))
       refine hK.out _ _ ⟨(blk_cell BK126.out 0).trans rfl, (blk_cell BK126.out 1).trans rfl⟩ (fun hHeld => ?_)
       clear hK K
       refine normA (N := some 63) ?_
       refine oneA (i := 23) (N := some 64) HT_ (fun K hK => ?_)
       refine goesB Tryz.func19 #[.slice Ao57 t141.length co57, .slice Ao58 y151.length co58] ?_
       with_reducible refine (panachetop_ellInts.calls k _ _ t141 _ _ y151 t154 _ ?side1 ?side2 ?side3 ?side4 A48.out).mono ?_
       (case side1 => exact sX (Kd.R_reads' HO143.out).2.2)
       (case side2 => exact (Kd.R_reads' HO143.out).2.1)
       (case side3 => exact sX (Kd.R_reads' HO153.out).2.2)
       (case side4 => exact (Kd.R_reads' HO153.out).2.1)
       rintro e w' ⟨rfl, ⟨nd, rfl⟩⟩
       refine ⟨_, rfl, ?_⟩
       refine hK.out _ _ ⟨(blk_cell BK126.out 0).trans rfl, (blk_cell BK126.out 1).trans rfl⟩ (fun hHeld => ?_)
       clear hK K
       refine normA (N := some 64) ?_
       refine pureA (i := 24) (N := some 65) HT_ ?_
       refine pureA (i := 25) (N := some 0) HT_ ?_
       refine done_ (done_of HT_.out (by kernel_rfl)) ?_
       try go_wp2
       go_meet
       case rel => exact ⟨_, (t154), (by first | rfl | (simp; done) | (simp [*]; done)), H', ⟨by first | omega | exact Nat.le_refl _⟩, ⟨by (with_reducible repeat (first | apply Kd.R_alloc | apply Kd.R_drewN | apply Kd.R_drew)); exact Kd.R_mono HO110.out (fun _ hk => ⟨hk.1.2, hk.2⟩)⟩, ⟨by (with_reducible repeat (first | apply Kd.R_alloc | apply Kd.R_drewN | apply Kd.R_drew)); exact Kd.R_mono HO117.out (fun _ hk => ⟨hk.1.2, hk.2⟩)⟩, ⟨rX HO133.out⟩, ⟨kX BK118.out⟩, ⟨kX BK126.out⟩, ⟨kX BK134.out⟩, ⟨bX HB⟩⟩
      ·rw [if_neg c47] at H
       have c47b0 : (t123 == t149 && (t124 == t150)) = false := by simpa using c47
       (try (have c47b1 : decide (t123 = t149 && (t124 == t150)) = false := by simpa using c47))
       (try (have c47b2 : (t123 == t149 && (t124 == t150)) = false := by simpa using c47))
       (try (have c47b3 : ¬ (t123 = t149 && (t124 == t150)) := by simpa using c47))
       clear c47
       have H' := Aside0.mk H
       clear H
       try go_wp2
       replace HO110 := Aside0.mk (Kd.R_drew HO110.out)
       replace HO117 := Aside0.mk (Kd.R_drew HO117.out)
       replace HO121 := Aside0.mk (Kd.R_drew HO121.out)
       replace HO133 := Aside0.mk (Kd.R_drew HO133.out)
       replace HO137 := Aside0.mk (Kd.R_drew HO137.out)
       replace HO140 := Aside0.mk (Kd.R_drew HO140.out)
       replace HO143 := Aside0.mk (Kd.R_drew HO143.out)
       replace BK118 := Aside0.mk (blk_drew BK118.out)
       replace BK126 := Aside0.mk (blk_drew BK126.out)
       replace BK134 := Aside0.mk (blk_drew BK134.out)
       replace HB := Aside0.mk (below_drew1 HB.out)
       refine start_ (n := 26) (S := fun w' => w'.cell? ⟨gb126, 0, none⟩ = some (.int .i64 t123) ∧ w'.cell? ⟨gb126, 1, none⟩ = some (.int .i64 t124)) (ds := []) #[false, false, false, false, false, false, false, false, false, false, false, false, false, false, false, false, false, false, false, false, false, false, false, false, false, false] (by kernel_rfl) rfl rfl ⟨(blk_cell BK126.out 0).trans rfl, (blk_cell BK126.out 1).trans rfl⟩ (fun hHeld => ?_); refine with_tabW panachetop_ellKnown03.tab6 panachetop_ellKnown03.bits6 (fun HT_ HW_ => ?_)
       generalize w40.drew = w59 at HO110 HO117 HO121 HO133 HO137 HO140 HO143 BK118 BK126 BK134 HB hHeld ⊢
       refine pureA (i := 0) (N := some 41) HT_ ?_
       refine pureA (i := 1) (N := some 42) HT_ ?_
       refine pureA (i := 2) (N := some 43) HT_ ?_
       refine pureA (i := 3) (N := some 44) HT_ ?_
       refine pureA (i := 4) (N := some 45) HT_ ?_
       refine pureA (i := 5) (N := some 46) HT_ ?_
       refine pureA (i := 6) (N := some 47) HT_ ?_
       refine pureA (i := 7) (N := some 48) HT_ ?_
       refine pureA (i := 8) (N := some 49) HT_ ?_
       refine pureA (i := 9) (N := some 50) HT_ ?_
       refine pureA (i := 10) (N := some 51) HT_ ?_
       refine pureA (i := 11) (N := some 52) HT_ ?_
       refine oneA (i := 12) (N := some 53) HT_ (fun K hK => ?_)
       refine Kd.R_lit_step (Kd.int .i64) _ 3 ?hg (N := 53) ?hd (xs := ([2, 9, 16, 23] : List Int)) (inner := [.int .i64 2, .int .i64 9, .int .i64 16, .int .i64 23]) (ok := fun _ => True) (okp := fun _ => True) ?hr ?hp (fun _ hk => hk) trivial (Below.refl _ _) (Nat.le_refl _) (by simp) ?_; (case hd => rfl); (case hg => rfl); (case hr => first | (go_simp; done) | (go_simp; rfl)); (case hp => exact (Reps.one (show Kd.M (Kd.int .i64) _ _ _ 2 [.int .i64 2] from rfl) (Reps.one (show Kd.M (Kd.int .i64) _ _ _ 9 [.int .i64 9] from rfl) (Reps.one (show Kd.M (Kd.int .i64) _ _ _ 16 [.int .i64 16] from rfl) (Reps.one (show Kd.M (Kd.int .i64) _ _ _ 23 [.int .i64 23] from rfl) (Reps.none _ _))))))
       intro v146 w60 ho61 hb hg_ hnew_
       clear hg_ hnew_
       (first | rw [← Ny145.out] at ho61 | (simp only [Int.reduceToNat] at ho61; rw [← Ny145.out] at ho61))
       have HO147 := Aside0.mk (Kd.R_lower (Kd.R_new' (Kd.R_new' (Kd.R_new' (Kd.R_new' ho61 (Kd.R_lt (rX HO121.out))) (Kd.R_lt (rX HO137.out))) (Kd.R_lt (rX HO140.out))) (Kd.R_lt (rX HO143.out))) (below_size (bX HB)))
       replace HO110 := rB HO110 hb
       replace HO117 := rB HO117 hb
       replace HO121 := Aside0.mk (Kd.R_elder' (rX HO121.out) (Kd.R_base ho61) hb)
       replace HO133 := rB HO133 hb
       replace HO137 := Aside0.mk (Kd.R_elder' (rX HO137.out) (Kd.R_base ho61) hb)
       replace HO140 := Aside0.mk (Kd.R_elder' (rX HO140.out) (Kd.R_base ho61) hb)
       replace HO143 := Aside0.mk (Kd.R_elder' (rX HO143.out) (Kd.R_base ho61) hb)
       replace BK118 := kB BK118 hb
       replace BK126 := kB BK126 hb
       replace BK134 := kB BK134 hb
       replace HB := bS HB hb
       clear hb ho61
       obtain ⟨Ao62, co62, eo62⟩ := Kd.R_slice HO121.out
       (first | subst eo62 | (injection eo62 with f1_ f2_ f3_; have f4_ := f1_.symm; have f5_ := f3_.symm; clear f1_ f2_ f3_; subst f4_; subst f5_))
       obtain ⟨Ao63, co63, eo63⟩ := Kd.R_slice HO147.out
       (first | subst eo63 | (injection eo63 with f1_ f2_ f3_; have f4_ := f1_.symm; have f5_ := f3_.symm; clear f1_ f2_ f3_; subst f4_; subst f5_))
       refine hK.out _ _ ⟨(blk_cell BK126.out 0).trans rfl, (blk_cell BK126.out 1).trans rfl⟩ (fun hHeld => ?_)
       clear hK K
       refine normA (N := some 53) ?_
       refine oneA (i := 13) (N := some 54) HT_ (fun K hK => ?_)
       refine goesB Tryz.func19 #[.slice Ao62 t119.length co62, .slice Ao63 y145.length co63] ?_
       with_reducible refine (panachetop_ellInts.calls k _ _ t119 _ _ y145 true _ ?side1 ?side2 ?side3 ?side4 A44.out).mono ?_
       (case side1 => exact sX (Kd.R_reads' HO121.out).2.2)
       (case side2 => exact (Kd.R_reads' HO121.out).2.1)
       (case side3 => exact sX (Kd.R_reads' HO147.out).2.2)
       (case side4 => exact (Kd.R_reads' HO147.out).2.1)
       rintro e w' ⟨rfl, ⟨nd, rfl⟩⟩
       refine ⟨_, rfl, ?_⟩
       refine hK.out _ _ ⟨(blk_cell BK126.out 0).trans rfl, (blk_cell BK126.out 1).trans rfl⟩ (fun hHeld => ?_)
       clear hK K
       refine normA (N := some 54) ?_
       refine pureA (i := 14) (N := some 55) HT_ ?_
       refine pureA (i := 15) (N := some 56) HT_ ?_
       refine takeA (i := 16) (N := some 57) HT_ HW_ hHeld ?_
       refine oneA (i := 17) (N := some 58) HT_ (fun K hK => ?_)
       refine goesB Tryz.func15 #[.int .i64 22, .int .i64 25] ?_
       with_reducible refine (panachetop_ellSpan.calls 22 25 t149 t150 _ A46.out).mono ?_
       rintro e w64 ⟨rfl, hb⟩
       refine ⟨_, rfl, ?_⟩
       replace HO110 := rB HO110 hb
       replace HO117 := rB HO117 hb
       replace HO121 := rB HO121 hb
       replace HO133 := rB HO133 hb
       replace HO137 := rB HO137 hb
       replace HO140 := rB HO140 hb
       replace HO143 := rB HO143 hb
       replace HO147 := rB HO147 hb
       replace BK118 := kB BK118 hb
       replace BK126 := kB BK126 hb
       replace BK134 := kB BK134 hb
       replace HB := bS HB hb
       (try clear hb)
       (try clear hb2)
       (try clear hk)
       (try clear hi)
       refine hK.out _ _ ⟨(blk_cell BK126.out 0).trans rfl, (blk_cell BK126.out 1).trans rfl⟩ (fun hHeld => ?_)
       clear hK K
       refine normA (N := some 58) ?_
       refine pureA (i := 18) (N := some 59) HT_ ?_
       refine pureA (i := 19) (N := some 60) HT_ ?_
       refine pureA (i := 20) (N := some 61) HT_ ?_
       refine pureB (i := 21) (N := some 62) HT_ ?_
       refine pureB (i := 22) (N := some 63) HT_ ?_
       refine pureB (i := 23) (N := some 64) HT_ ?_
       refine pureA (i := 24) (N := some 65) HT_ ?_
       refine pureA (i := 25) (N := some 0) HT_ ?_
       refine done_ (done_of HT_.out (by kernel_rfl)) ?_
       try go_wp2
       go_meet
       case rel => exact ⟨_, (false), (by first | rfl | (simp; done) | (simp [*]; done)), H', ⟨by first | omega | exact Nat.le_refl _⟩, ⟨by (with_reducible repeat (first | apply Kd.R_alloc | apply Kd.R_drewN | apply Kd.R_drew)); exact Kd.R_mono HO110.out (fun _ hk => ⟨hk.1.2, hk.2⟩)⟩, ⟨by (with_reducible repeat (first | apply Kd.R_alloc | apply Kd.R_drewN | apply Kd.R_drew)); exact Kd.R_mono HO117.out (fun _ hk => ⟨hk.1.2, hk.2⟩)⟩, ⟨rX HO133.out⟩, ⟨kX BK118.out⟩, ⟨kX BK126.out⟩, ⟨kX BK134.out⟩, ⟨bX HB⟩⟩
     ·replace c45 := Bool.eq_false_iff.mpr c45
      subst c45
      have H1 : (panachetop_ellKnown03.j0 k false) = some r := by rw [if_neg (show ¬ (false = true) by decide)] at H; exact H
      clear H
      have H := H1
      clear H1
      have H' := Aside0.mk H
      clear H
      try go_wp2
      replace HO110 := Aside0.mk (Kd.R_drew HO110.out)
      replace HO117 := Aside0.mk (Kd.R_drew HO117.out)
      replace HO121 := Aside0.mk (Kd.R_drew HO121.out)
      replace HO133 := Aside0.mk (Kd.R_drew HO133.out)
      replace HO137 := Aside0.mk (Kd.R_drew HO137.out)
      replace HO140 := Aside0.mk (Kd.R_drew HO140.out)
      replace HO143 := Aside0.mk (Kd.R_drew HO143.out)
      replace BK118 := Aside0.mk (blk_drew BK118.out)
      replace BK126 := Aside0.mk (blk_drew BK126.out)
      replace BK134 := Aside0.mk (blk_drew BK134.out)
      replace HB := Aside0.mk (below_drew1 HB.out)
      refine start_ (n := 26) (S := fun w' => True) (ds := []) #[false, false, false, false, false, false, false, false, false, false, false, false, false, false, false, false, false, false, false, false, false, false, false, false, false, false] (by kernel_rfl) rfl rfl trivial (fun hHeld => ?_); refine with_tabW panachetop_ellKnown03.tab6 panachetop_ellKnown03.bits6 (fun HT_ HW_ => ?_)
      generalize w40.drew = w65 at HO110 HO117 HO121 HO133 HO137 HO140 HO143 BK118 BK126 BK134 HB hHeld ⊢
      refine pureA (i := 0) (N := some 41) HT_ ?_
      refine pureA (i := 1) (N := some 42) HT_ ?_
      refine pureA (i := 2) (N := some 43) HT_ ?_
      refine pureA (i := 3) (N := some 44) HT_ ?_
      refine pureA (i := 4) (N := some 45) HT_ ?_
      refine pureA (i := 5) (N := some 46) HT_ ?_
      refine pureA (i := 6) (N := some 47) HT_ ?_
      refine pureA (i := 7) (N := some 48) HT_ ?_
      refine pureA (i := 8) (N := some 49) HT_ ?_
      refine pureA (i := 9) (N := some 50) HT_ ?_
      refine pureA (i := 10) (N := some 51) HT_ ?_
      refine pureA (i := 11) (N := some 52) HT_ ?_
      refine oneA (i := 12) (N := some 53) HT_ (fun K hK => ?_)
      refine Kd.R_lit_step (Kd.int .i64) _ 3 ?hg (N := 53) ?hd (xs := ([2, 9, 16, 23] : List Int)) (inner := [.int .i64 2, .int .i64 9, .int .i64 16, .int .i64 23]) (ok := fun _ => True) (okp := fun _ => True) ?hr ?hp (fun _ hk => hk) trivial (Below.refl _ _) (Nat.le_refl _) (by simp) ?_; (case hd => rfl); (case hg => rfl); (case hr => first | (go_simp; done) | (go_simp; rfl)); (case hp => exact (Reps.one (show Kd.M (Kd.int .i64) _ _ _ 2 [.int .i64 2] from rfl) (Reps.one (show Kd.M (Kd.int .i64) _ _ _ 9 [.int .i64 9] from rfl) (Reps.one (show Kd.M (Kd.int .i64) _ _ _ 16 [.int .i64 16] from rfl) (Reps.one (show Kd.M (Kd.int .i64) _ _ _ 23 [.int .i64 23] from rfl) (Reps.none _ _))))))
      intro v146 w66 ho67 hb hg_ hnew_
      clear hg_ hnew_
      (first | rw [← Ny145.out] at ho67 | (simp only [Int.reduceToNat] at ho67; rw [← Ny145.out] at ho67))
      have HO147 := Aside0.mk (Kd.R_lower (Kd.R_new' (Kd.R_new' (Kd.R_new' (Kd.R_new' ho67 (Kd.R_lt (rX HO121.out))) (Kd.R_lt (rX HO137.out))) (Kd.R_lt (rX HO140.out))) (Kd.R_lt (rX HO143.out))) (below_size (bX HB)))
      replace HO110 := rB HO110 hb
      replace HO117 := rB HO117 hb
      replace HO121 := Aside0.mk (Kd.R_elder' (rX HO121.out) (Kd.R_base ho67) hb)
      replace HO133 := rB HO133 hb
      replace HO137 := Aside0.mk (Kd.R_elder' (rX HO137.out) (Kd.R_base ho67) hb)
      replace HO140 := Aside0.mk (Kd.R_elder' (rX HO140.out) (Kd.R_base ho67) hb)
      replace HO143 := Aside0.mk (Kd.R_elder' (rX HO143.out) (Kd.R_base ho67) hb)
      replace BK118 := kB BK118 hb
      replace BK126 := kB BK126 hb
      replace BK134 := kB BK134 hb
      replace HB := bS HB hb
      clear hb ho67
      obtain ⟨Ao68, co68, eo68⟩ := Kd.R_slice HO121.out
      (first | subst eo68 | (injection eo68 with f1_ f2_ f3_; have f4_ := f1_.symm; have f5_ := f3_.symm; clear f1_ f2_ f3_; subst f4_; subst f5_))
      obtain ⟨Ao69, co69, eo69⟩ := Kd.R_slice HO147.out
      (first | subst eo69 | (injection eo69 with f1_ f2_ f3_; have f4_ := f1_.symm; have f5_ := f3_.symm; clear f1_ f2_ f3_; subst f4_; subst f5_))
      refine hK.out _ _ trivial (fun hHeld => ?_)
      clear hK K
      refine normA (N := some 53) ?_
      refine oneA (i := 13) (N := some 54) HT_ (fun K hK => ?_)
      refine goesB Tryz.func19 #[.slice Ao68 t119.length co68, .slice Ao69 y145.length co69] ?_
      with_reducible refine (panachetop_ellInts.calls k _ _ t119 _ _ y145 false _ ?side1 ?side2 ?side3 ?side4 A44.out).mono ?_
      (case side1 => exact sX (Kd.R_reads' HO121.out).2.2)
      (case side2 => exact (Kd.R_reads' HO121.out).2.1)
      (case side3 => exact sX (Kd.R_reads' HO147.out).2.2)
      (case side4 => exact (Kd.R_reads' HO147.out).2.1)
      rintro e w' ⟨rfl, ⟨nd, rfl⟩⟩
      refine ⟨_, rfl, ?_⟩
      refine hK.out _ _ trivial (fun hHeld => ?_)
      clear hK K
      refine normA (N := some 54) ?_
      refine pureA (i := 14) (N := some 55) HT_ ?_
      refine pureA (i := 15) (N := some 56) HT_ ?_
      refine pureB (i := 16) (N := some 57) HT_ ?_
      refine pureB (i := 17) (N := some 58) HT_ ?_
      refine pureB (i := 18) (N := some 59) HT_ ?_
      refine pureA (i := 19) (N := some 60) HT_ ?_
      refine pureA (i := 20) (N := some 61) HT_ ?_
      refine pureB (i := 21) (N := some 62) HT_ ?_
      refine pureB (i := 22) (N := some 63) HT_ ?_
      refine pureB (i := 23) (N := some 64) HT_ ?_
      refine pureA (i := 24) (N := some 65) HT_ ?_
      refine pureA (i := 25) (N := some 0) HT_ ?_
      refine done_ (done_of HT_.out (by kernel_rfl)) ?_
      try go_wp2
      go_meet
      case rel => exact ⟨_, (false), (by first | rfl | (simp; done) | (simp [*]; done)), H', ⟨by first | omega | exact Nat.le_refl _⟩, ⟨by (with_reducible repeat (first | apply Kd.R_alloc | apply Kd.R_drewN | apply Kd.R_drew)); exact Kd.R_mono HO110.out (fun _ hk => ⟨hk.1.2, hk.2⟩)⟩, ⟨by (with_reducible repeat (first | apply Kd.R_alloc | apply Kd.R_drewN | apply Kd.R_drew)); exact Kd.R_mono HO117.out (fun _ hk => ⟨hk.1.2, hk.2⟩)⟩, ⟨rX HO133.out⟩, ⟨kX BK118.out⟩, ⟨kX BK126.out⟩, ⟨kX BK134.out⟩, ⟨bX HB⟩⟩
    ·rw [if_neg c43] at H
     have c43b0 : (t144 == 0) = false := beq_eq_false_iff_ne.mpr c43
     have c43b1 : (t144 != 0) = true := bne_iff_ne.mpr c43
     have H' := Aside0.mk H
     clear H
     try go_wp2
     replace HO110 := Aside0.mk (Kd.R_drew HO110.out)
     replace HO117 := Aside0.mk (Kd.R_drew HO117.out)
     replace HO121 := Aside0.mk (Kd.R_drew HO121.out)
     replace HO133 := Aside0.mk (Kd.R_drew HO133.out)
     replace HO137 := Aside0.mk (Kd.R_drew HO137.out)
     replace HO140 := Aside0.mk (Kd.R_drew HO140.out)
     replace HO143 := Aside0.mk (Kd.R_drew HO143.out)
     replace BK118 := Aside0.mk (blk_drew BK118.out)
     replace BK126 := Aside0.mk (blk_drew BK126.out)
     replace BK134 := Aside0.mk (blk_drew BK134.out)
     replace HB := Aside0.mk (below_drew1 HB.out)
     refine start_ (n := 26) (S := fun w' => True) (ds := []) #[false, false, false, false, false, false, false, false, false, false, false, false, false, false, false, false, false, false, false, false, false, false, false, false, false, false] (by kernel_rfl) rfl rfl trivial (fun hHeld => ?_); refine with_tabW panachetop_ellKnown03.tab6 panachetop_ellKnown03.bits6 (fun HT_ HW_ => ?_)
     generalize w40.drew = w70 at HO110 HO117 HO121 HO133 HO137 HO140 HO143 BK118 BK126 BK134 HB hHeld ⊢
     refine pureA (i := 0) (N := some 41) HT_ ?_
     refine pureA (i := 1) (N := some 42) HT_ ?_
     refine pureA (i := 2) (N := some 43) HT_ ?_
     refine pureA (i := 3) (N := some 44) HT_ ?_
     refine pureA (i := 4) (N := some 45) HT_ ?_
     refine pureA (i := 5) (N := some 46) HT_ ?_
     refine pureA (i := 6) (N := some 47) HT_ ?_
     refine pureA (i := 7) (N := some 48) HT_ ?_
     refine pureA (i := 8) (N := some 49) HT_ ?_
     refine pureA (i := 9) (N := some 50) HT_ ?_
     refine pureA (i := 10) (N := some 51) HT_ ?_
     refine pureB (i := 11) (N := some 52) HT_ ?_
     refine pureB (i := 12) (N := some 53) HT_ ?_
     refine pureB (i := 13) (N := some 54) HT_ ?_
     refine pureA (i := 14) (N := some 55) HT_ ?_
     refine pureA (i := 15) (N := some 56) HT_ ?_
     refine pureB (i := 16) (N := some 57) HT_ ?_
     refine pureB (i := 17) (N := some 58) HT_ ?_
     refine pureB (i := 18) (N := some 59) HT_ ?_
     refine pureA (i := 19) (N := some 60) HT_ ?_
     refine pureA (i := 20) (N := some 61) HT_ ?_
     refine pureB (i := 21) (N := some 62) HT_ ?_
     refine pureB (i := 22) (N := some 63) HT_ ?_
     refine pureB (i := 23) (N := some 64) HT_ ?_
     refine pureA (i := 24) (N := some 65) HT_ ?_
     refine pureA (i := 25) (N := some 0) HT_ ?_
     refine done_ (done_of HT_.out (by kernel_rfl)) ?_
     try go_wp2
     go_meet
     case rel => exact ⟨_, (false), (by first | rfl | (simp; done) | (simp [*]; done)), H', ⟨by first | omega | exact Nat.le_refl _⟩, ⟨by (with_reducible repeat (first | apply Kd.R_alloc | apply Kd.R_drewN | apply Kd.R_drew)); exact Kd.R_mono HO110.out (fun _ hk => ⟨hk.1.2, hk.2⟩)⟩, ⟨by (with_reducible repeat (first | apply Kd.R_alloc | apply Kd.R_drewN | apply Kd.R_drew)); exact Kd.R_mono HO117.out (fun _ hk => ⟨hk.1.2, hk.2⟩)⟩, ⟨rX HO133.out⟩, ⟨kX BK118.out⟩, ⟨kX BK126.out⟩, ⟨kX BK134.out⟩, ⟨bX HB⟩⟩
   ·rw [if_neg c42] at H
    have c42b0 : (t125 == 0) = false := beq_eq_false_iff_ne.mpr c42
    have c42b1 : (t125 != 0) = true := bne_iff_ne.mpr c42
    have H' := Aside0.mk H
    clear H
    try go_wp2
    replace HO110 := Aside0.mk (Kd.R_drew HO110.out)
    replace HO117 := Aside0.mk (Kd.R_drew HO117.out)
    replace HO121 := Aside0.mk (Kd.R_drew HO121.out)
    replace HO133 := Aside0.mk (Kd.R_drew HO133.out)
    replace HO137 := Aside0.mk (Kd.R_drew HO137.out)
    replace HO140 := Aside0.mk (Kd.R_drew HO140.out)
    replace HO143 := Aside0.mk (Kd.R_drew HO143.out)
    replace BK118 := Aside0.mk (blk_drew BK118.out)
    replace BK126 := Aside0.mk (blk_drew BK126.out)
    replace BK134 := Aside0.mk (blk_drew BK134.out)
    replace HB := Aside0.mk (below_drew1 HB.out)
    refine start_ (n := 26) (S := fun w' => True) (ds := []) #[false, false, false, false, false, false, false, false, false, false, false, false, false, false, false, false, false, false, false, false, false, false, false, false, false, false] (by kernel_rfl) rfl rfl trivial (fun hHeld => ?_); refine with_tabW panachetop_ellKnown03.tab6 panachetop_ellKnown03.bits6 (fun HT_ HW_ => ?_)
    generalize w40.drew = w71 at HO110 HO117 HO121 HO133 HO137 HO140 HO143 BK118 BK126 BK134 HB hHeld ⊢
    refine pureA (i := 0) (N := some 41) HT_ ?_
    refine pureA (i := 1) (N := some 42) HT_ ?_
    refine pureA (i := 2) (N := some 43) HT_ ?_
    refine pureA (i := 3) (N := some 44) HT_ ?_
    refine pureA (i := 4) (N := some 45) HT_ ?_
    refine pureA (i := 5) (N := some 46) HT_ ?_
    refine pureA (i := 6) (N := some 47) HT_ ?_
    refine pureB (i := 7) (N := some 48) HT_ ?_
    refine pureB (i := 8) (N := some 49) HT_ ?_
    refine pureA (i := 9) (N := some 50) HT_ ?_
    refine pureA (i := 10) (N := some 51) HT_ ?_
    refine pureB (i := 11) (N := some 52) HT_ ?_
    refine pureB (i := 12) (N := some 53) HT_ ?_
    refine pureB (i := 13) (N := some 54) HT_ ?_
    refine pureA (i := 14) (N := some 55) HT_ ?_
    refine pureA (i := 15) (N := some 56) HT_ ?_
    refine pureB (i := 16) (N := some 57) HT_ ?_
    refine pureB (i := 17) (N := some 58) HT_ ?_
    refine pureB (i := 18) (N := some 59) HT_ ?_
    refine pureA (i := 19) (N := some 60) HT_ ?_
    refine pureA (i := 20) (N := some 61) HT_ ?_
    refine pureB (i := 21) (N := some 62) HT_ ?_
    refine pureB (i := 22) (N := some 63) HT_ ?_
    refine pureB (i := 23) (N := some 64) HT_ ?_
    refine pureA (i := 24) (N := some 65) HT_ ?_
    refine pureA (i := 25) (N := some 0) HT_ ?_
    refine done_ (done_of HT_.out (by kernel_rfl)) ?_
    try go_wp2
    go_meet
    case rel => exact ⟨_, (false), (by first | rfl | (simp; done) | (simp [*]; done)), H', ⟨by first | omega | exact Nat.le_refl _⟩, ⟨by (with_reducible repeat (first | apply Kd.R_alloc | apply Kd.R_drewN | apply Kd.R_drew)); exact Kd.R_mono HO110.out (fun _ hk => ⟨hk.1.2, hk.2⟩)⟩, ⟨by (with_reducible repeat (first | apply Kd.R_alloc | apply Kd.R_drewN | apply Kd.R_drew)); exact Kd.R_mono HO117.out (fun _ hk => ⟨hk.1.2, hk.2⟩)⟩, ⟨rX HO133.out⟩, ⟨kX BK118.out⟩, ⟨kX BK126.out⟩, ⟨kX BK134.out⟩, ⟨bX HB⟩⟩
  ·rw [if_neg c41] at H
   have c41b0 : (t122 == 0) = false := beq_eq_false_iff_ne.mpr c41
   have c41b1 : (t122 != 0) = true := bne_iff_ne.mpr c41
   (first | rw [c41b0] | (simp only [i64_w, i32_w]; rw [c41b0]) | skip)
   have H' := Aside0.mk H
   clear H
   try go_wp2
   replace HO110 := Aside0.mk (Kd.R_drew HO110.out)
   replace HO117 := Aside0.mk (Kd.R_drew HO117.out)
   replace HO121 := Aside0.mk (Kd.R_drew HO121.out)
   replace HO133 := Aside0.mk (Kd.R_drew HO133.out)
   replace HO137 := Aside0.mk (Kd.R_drew HO137.out)
   replace HO140 := Aside0.mk (Kd.R_drew HO140.out)
   replace HO143 := Aside0.mk (Kd.R_drew HO143.out)
   replace BK118 := Aside0.mk (blk_drew BK118.out)
   replace BK126 := Aside0.mk (blk_drew BK126.out)
   replace BK134 := Aside0.mk (blk_drew BK134.out)
   replace HB := Aside0.mk (below_drew1 HB.out)
   refine start_ (n := 26) (S := fun w' => True) (ds := []) #[false, false, false, false, false, false, false, false, false, false, false, false, false, false, false, false, false, false, false, false, false, false, false, false, false, false] (by kernel_rfl) rfl rfl trivial (fun hHeld => ?_); refine with_tabW panachetop_ellKnown03.tab6 panachetop_ellKnown03.bits6 (fun HT_ HW_ => ?_)
   generalize w40.drew = w72 at HO110 HO117 HO121 HO133 HO137 HO140 HO143 BK118 BK126 BK134 HB hHeld ⊢
   refine pureA (i := 0) (N := some 41) HT_ ?_
   refine pureA (i := 1) (N := some 42) HT_ ?_
   refine pureA (i := 2) (N := some 43) HT_ ?_
   refine pureB (i := 3) (N := some 44) HT_ ?_
   refine pureB (i := 4) (N := some 45) HT_ ?_
   refine pureA (i := 5) (N := some 46) HT_ ?_
   refine pureA (i := 6) (N := some 47) HT_ ?_
   refine pureB (i := 7) (N := some 48) HT_ ?_
   refine pureB (i := 8) (N := some 49) HT_ ?_
   refine pureA (i := 9) (N := some 50) HT_ ?_
   refine pureA (i := 10) (N := some 51) HT_ ?_
   refine pureB (i := 11) (N := some 52) HT_ ?_
   refine pureB (i := 12) (N := some 53) HT_ ?_
   refine pureB (i := 13) (N := some 54) HT_ ?_
   refine pureA (i := 14) (N := some 55) HT_ ?_
   refine pureA (i := 15) (N := some 56) HT_ ?_
   refine pureB (i := 16) (N := some 57) HT_ ?_
   refine pureB (i := 17) (N := some 58) HT_ ?_
   refine pureB (i := 18) (N := some 59) HT_ ?_
   refine pureA (i := 19) (N := some 60) HT_ ?_
   refine pureA (i := 20) (N := some 61) HT_ ?_
   refine pureB (i := 21) (N := some 62) HT_ ?_
   refine pureB (i := 22) (N := some 63) HT_ ?_
   refine pureB (i := 23) (N := some 64) HT_ ?_
   refine pureA (i := 24) (N := some 65) HT_ ?_
   refine pureA (i := 25) (N := some 0) HT_ ?_
   refine done_ (done_of HT_.out (by kernel_rfl)) ?_
   try go_wp2
   go_meet
   case rel => exact ⟨_, (false), (by first | rfl | (simp; done) | (simp [*]; done)), H', ⟨by first | omega | exact Nat.le_refl _⟩, ⟨by (with_reducible repeat (first | apply Kd.R_alloc | apply Kd.R_drewN | apply Kd.R_drew)); exact Kd.R_mono HO110.out (fun _ hk => ⟨hk.1.2, hk.2⟩)⟩, ⟨by (with_reducible repeat (first | apply Kd.R_alloc | apply Kd.R_drewN | apply Kd.R_drew)); exact Kd.R_mono HO117.out (fun _ hk => ⟨hk.1.2, hk.2⟩)⟩, ⟨rX HO133.out⟩, ⟨kX BK118.out⟩, ⟨kX BK126.out⟩, ⟨kX BK134.out⟩, ⟨bX HB⟩⟩
 case rest =>
  clear HC10
  try clear p2
  try clear c4
  try clear c41
  try clear c41b0
  try clear c41b1
  try clear c42
  try clear c42b0
  try clear c42b1
  obtain ⟨kq, x0_9, rfl, HA, HJ9, HO_119000, HO_119001, HO_135001, BK118, BK126, BK134, HB⟩ := hcut
  cases kq with
  | zero => exact absurd HA.out (by simp [panachetop_ellKnown03.j0])
  | succ kj9 =>
   have H := HA.out
   clear HA
   simp only [panachetop_ellKnown03.j0] at H
   obtain rfl := Option.some.inj H
   go_wp2
   go_ret
   exact ⟨by first | rfl | (simp [errW_none, errW_some] <;> rfl) | (simp [*, errW_none, errW_some] <;> rfl), bX HB⟩
end Go.Proofs.YtgdkmadcegleiaaGreatDoor.PKno
end
section
namespace Go.Proofs.YtgdkmadcegleiaaGreatDoor.PKno
open Go.RowKit Go.Proofs.YtgdkmadcegleiaaGreatDoor.Sq Go.Proofs.YtgdkmadcegleiaaGreatDoorW.PrintWords Go.Proofs.YtgdkmadcegleiaaGreatDoorW.PrintLast Go.Proofs.YtgdkmadcegleiaaGreatDoorW.PrintMore Go.Proofs.YtgdkmadcegleiaaGreatDoor.X Go.Proofs.YtgdkmadcegleiaaGreatDoor.Z
attribute [local go_sem] max2_int min2_int max_two min_two max_three min_three max_four min_four   -- for this text's walks alone
set_option linter.unusedVariables false
set_option linter.unusedSimpArgs false
attribute [local go_sem high] eqA30
def panachetop_ellKnown05.j0 : Nat → Bool → Option (Bool)
 | 0, _ => none
 | k + 1, x0 => some x0
def panachetop_ellKnown05.f (k : Nat)  : Option (Bool) := (panachetop_ellSpan.f 900 1000).bind fun bt155 => ((panachetop_ellSpan.f 40 50).bind fun bt157 => ((panachetop_ellSpan.f 200 210).bind fun bt159 => ((panachetop_ellSpan.f 12 12).bind fun bt161 => ((panachetop_ellSpan.f 100 100).bind fun bt163 => ((panachetop_ellSpan.f 4 5).bind fun bt165 => ((some (([(⟨(⟨bt159.1, bt159.2⟩ : S30), (⟨bt161.1, bt161.2⟩ : S30)⟩ : S47), (⟨(⟨bt163.1, bt163.2⟩ : S30), (⟨bt165.1, bt165.2⟩ : S30)⟩ : S47)] : List (S47)) : List (S47))).bind fun y167 => ((rivet_Opens.f bt155.1 bt155.2 bt157.1 bt157.2 y167).bind fun bt171 => ((rivet_Sticks.f bt155.1 bt155.2 bt157.1 bt157.2 y167 45).bind fun bt175 => ((lattice_Show.f (([(⟨#[48, 49, 50]⟩ : ByteArray), (⟨#[51, 51, 48]⟩ : ByteArray)] : List ByteArray)) (([(⟨#[35, 46]⟩ : ByteArray), (⟨#[46, 46]⟩ : ByteArray)] : List ByteArray)) 0 0).bind fun bt183 => (if bt171.2.2 = 0 then (if bt175.2 = 0 then (if bt183.2 = 0 then ((panachetop_ellSpan.f 16 19).bind fun bt187 => (if (bt171.1 == bt187.1 && (bt171.2.1 == bt187.2)) = true then (if bt175.1 = 5 then (if (bt183.1.length : Int) = 2 then (if 0 < (bt183.1.length : Int) then (if (rdOf ByteArray.empty bt183.1 0).toList = ([63, 49, 63] : List UInt8) then ((panachetop_ellKnown03.f k).bind fun t190 => (panachetop_ellKnown05.j0 k t190)) else (panachetop_ellKnown05.j0 k false)) else (none)) else (panachetop_ellKnown05.j0 k false)) else (panachetop_ellKnown05.j0 k false)) else (panachetop_ellKnown05.j0 k false))) else (panachetop_ellKnown05.j0 k false)) else (panachetop_ellKnown05.j0 k false)) else (panachetop_ellKnown05.j0 k false)))))))))))
def panachetop_ellKnown05.T5 : Bool × List (List Nat × List Nat) := (true, [([], []), ([0], [0]), ([1], [1]), ([2], [2]), ([3, 2], [2, 3]), ([2, 4], [2, 4]), ([5, 2], [5]), ([6], [6]), ([7, 6], [6, 7]), ([6, 8], [6, 8]), ([9, 6], [9]), ([10], [10]), ([10, 10], [10]), ([11, 12, 10], [10, 11, 12]), ([10, 13], [10, 13]), ([14, 12], [14]), ([15], [15]), ([16, 15], [15, 16]), ([15, 17], [15, 17]), ([18, 15], [18]), ([19], [19]), ([20, 19], [19, 20]), ([21, 19], [19, 21]), ([19, 22], [19, 22]), ([23, 19], [23]), ([24], [24]), ([25, 24], [24, 25]), ([26, 24], [24, 26]), ([27, 24], [24, 27]), ([24, 28], [24, 28]), ([29, 24], [29]), ([30, 30], [30]), ([30, 31], [30, 31]), ([32, 31, 0, 1, 2, 3, 4, 5, 6, 7, 8, 9, 10, 11, 12, 13, 14, 15, 16, 17, 18, 19, 20, 21, 22, 23, 24, 25, 26, 27, 28, 29, 30, 31, 32], [32])])
def panachetop_ellKnown05.B5 : List Nat := [0, 1, 3, 7, 15, 31, 63, 127, 255, 511, 1023, 2047, 2047, 8191, 16383, 32767, 65535, 131071, 262143, 524287, 1048575, 2097151, 4194303, 8388607, 16777215, 33554431, 67108863, 134217727, 268435455, 536870911, 1073741823, 2147483647, 4294967295, 8589934591]
theorem panachetop_ellKnown05.tab5 : rtab .any (opsOf Tryz.f9 5) = panachetop_ellKnown05.T5 := by kernel_rfl
theorem panachetop_ellKnown05.bits5 : waitsOk panachetop_ellKnown05.T5.2 panachetop_ellKnown05.B5 = true := by kernel_rfl
set_option maxHeartbeats 8000000 in
set_option maxRecDepth 100000 in
theorem panachetop_ellKnown05.calls (k : Nat)  (r : Bool) (w : World) (h : panachetop_ellKnown05.f k  = some r) (hT : Tabs w) :
  Calls Tryz.prog 9 #[] w fun e w' => e = .returned (.bool r) ∧ Below w.heap.size w w' := by
 have HT := Aside0.mk hT
 clear hT
 have hu47 := Tryz.underlying47
 have hu33 := Tryz.underlying33
 have hu30 := Tryz.underlying30
 have hu84 := Tryz.underlying84
 have HB := Aside0.mk (Below.refl w.heap.size w)
 have H : ((panachetop_ellSpan.f 900 1000).bind fun bt155 => ((panachetop_ellSpan.f 40 50).bind fun bt157 => ((panachetop_ellSpan.f 200 210).bind fun bt159 => ((panachetop_ellSpan.f 12 12).bind fun bt161 => ((panachetop_ellSpan.f 100 100).bind fun bt163 => ((panachetop_ellSpan.f 4 5).bind fun bt165 => ((some (([(⟨(⟨bt159.1, bt159.2⟩ : S30), (⟨bt161.1, bt161.2⟩ : S30)⟩ : S47), (⟨(⟨bt163.1, bt163.2⟩ : S30), (⟨bt165.1, bt165.2⟩ : S30)⟩ : S47)] : List (S47)) : List (S47))).bind fun y167 => ((rivet_Opens.f bt155.1 bt155.2 bt157.1 bt157.2 y167).bind fun bt171 => ((rivet_Sticks.f bt155.1 bt155.2 bt157.1 bt157.2 y167 45).bind fun bt175 => ((lattice_Show.f (([(⟨#[48, 49, 50]⟩ : ByteArray), (⟨#[51, 51, 48]⟩ : ByteArray)] : List ByteArray)) (([(⟨#[35, 46]⟩ : ByteArray), (⟨#[46, 46]⟩ : ByteArray)] : List ByteArray)) 0 0).bind fun bt183 => (if bt171.2.2 = 0 then (if bt175.2 = 0 then (if bt183.2 = 0 then ((panachetop_ellSpan.f 16 19).bind fun bt187 => (if (bt171.1 == bt187.1 && (bt171.2.1 == bt187.2)) = true then (if bt175.1 = 5 then (if (bt183.1.length : Int) = 2 then (if 0 < (bt183.1.length : Int) then (if (rdOf ByteArray.empty bt183.1 0).toList = ([63, 49, 63] : List UInt8) then ((panachetop_ellKnown03.f k).bind fun t190 => (panachetop_ellKnown05.j0 k t190)) else (panachetop_ellKnown05.j0 k false)) else (none)) else (panachetop_ellKnown05.j0 k false)) else (panachetop_ellKnown05.j0 k false)) else (panachetop_ellKnown05.j0 k false))) else (panachetop_ellKnown05.j0 k false)) else (panachetop_ellKnown05.j0 k false)) else (panachetop_ellKnown05.j0 k false)))))))))))) = some r := h
 clear h
 replace H := Option.bind_eq_some_iff.mp H
 obtain ⟨⟨t155, t156⟩, A10, H⟩ := H
 try dsimp only at H
 have A1 := Aside0.mk A10
 clear A10
 replace H := Option.bind_eq_some_iff.mp H
 obtain ⟨⟨t157, t158⟩, A20, H⟩ := H
 try dsimp only at H
 have A2 := Aside0.mk A20
 clear A20
 replace H := Option.bind_eq_some_iff.mp H
 obtain ⟨⟨t159, t160⟩, A30, H⟩ := H
 try dsimp only at H
 have A3 := Aside0.mk A30
 clear A30
 replace H := Option.bind_eq_some_iff.mp H
 obtain ⟨⟨t161, t162⟩, A40, H⟩ := H
 try dsimp only at H
 have A4 := Aside0.mk A40
 clear A40
 replace H := Option.bind_eq_some_iff.mp H
 obtain ⟨⟨t163, t164⟩, A50, H⟩ := H
 try dsimp only at H
 have A5 := Aside0.mk A50
 clear A50
 replace H := Option.bind_eq_some_iff.mp H
 obtain ⟨⟨t165, t166⟩, A60, H⟩ := H
 try dsimp only at H
 have A6 := Aside0.mk A60
 clear A60
 obtain ⟨y167, hy167⟩ : ∃ y_ : List (S47), y_ = (([(⟨(⟨t159, t160⟩ : S30), (⟨t161, t162⟩ : S30)⟩ : S47), (⟨(⟨t163, t164⟩ : S30), (⟨t165, t166⟩ : S30)⟩ : S47)] : List (S47))) := ⟨_, rfl⟩
 replace H : ((rivet_Opens.f t155 t156 t157 t158 y167).bind fun bt171 => ((rivet_Sticks.f t155 t156 t157 t158 y167 45).bind fun bt175 => ((lattice_Show.f (([(⟨#[48, 49, 50]⟩ : ByteArray), (⟨#[51, 51, 48]⟩ : ByteArray)] : List ByteArray)) (([(⟨#[35, 46]⟩ : ByteArray), (⟨#[46, 46]⟩ : ByteArray)] : List ByteArray)) 0 0).bind fun bt183 => (if bt171.2.2 = 0 then (if bt175.2 = 0 then (if bt183.2 = 0 then ((panachetop_ellSpan.f 16 19).bind fun bt187 => (if (bt171.1 == bt187.1 && (bt171.2.1 == bt187.2)) = true then (if bt175.1 = 5 then (if (bt183.1.length : Int) = 2 then (if 0 < (bt183.1.length : Int) then (if (rdOf ByteArray.empty bt183.1 0).toList = ([63, 49, 63] : List UInt8) then ((panachetop_ellKnown03.f k).bind fun t190 => (panachetop_ellKnown05.j0 k t190)) else (panachetop_ellKnown05.j0 k false)) else (none)) else (panachetop_ellKnown05.j0 k false)) else (panachetop_ellKnown05.j0 k false)) else (panachetop_ellKnown05.j0 k false))) else (panachetop_ellKnown05.j0 k false)) else (panachetop_ellKnown05.j0 k false)) else (panachetop_ellKnown05.j0 k false))))) = some r := by first | (rw [hy167]; with_reducible exact H) | (have H2_ := (Option.bind_some _ _).symm.trans H; rw [hy167]; with_reducible exact H2_) | (have H2_ := (Option.bind_some _ _).symm.trans H; with_reducible exact H2_) | with_reducible exact H | (rw [hy167]; exact H) | exact H
 have Ny167 := Aside0.mk hy167
 clear hy167
 replace H := Option.bind_eq_some_iff.mp H
 obtain ⟨⟨t171, t172, t173⟩, A70, H⟩ := H
 try dsimp only at H
 have A7 := Aside0.mk A70
 clear A70
 replace H := Option.bind_eq_some_iff.mp H
 obtain ⟨⟨t175, t176⟩, A80, H⟩ := H
 try dsimp only at H
 have A8 := Aside0.mk A80
 clear A80
 obtain ⟨y177, hy177⟩ : ∃ y_ : List ByteArray, y_ = (([(⟨#[48, 49, 50]⟩ : ByteArray), (⟨#[51, 51, 48]⟩ : ByteArray)] : List ByteArray)) := ⟨_, rfl⟩
 replace H : ((lattice_Show.f y177 (([(⟨#[35, 46]⟩ : ByteArray), (⟨#[46, 46]⟩ : ByteArray)] : List ByteArray)) 0 0).bind fun bt183 => (if t173 = 0 then (if t176 = 0 then (if bt183.2 = 0 then ((panachetop_ellSpan.f 16 19).bind fun bt187 => (if (t171 == bt187.1 && (t172 == bt187.2)) = true then (if t175 = 5 then (if (bt183.1.length : Int) = 2 then (if 0 < (bt183.1.length : Int) then (if (rdOf ByteArray.empty bt183.1 0).toList = ([63, 49, 63] : List UInt8) then ((panachetop_ellKnown03.f k).bind fun t190 => (panachetop_ellKnown05.j0 k t190)) else (panachetop_ellKnown05.j0 k false)) else (none)) else (panachetop_ellKnown05.j0 k false)) else (panachetop_ellKnown05.j0 k false)) else (panachetop_ellKnown05.j0 k false))) else (panachetop_ellKnown05.j0 k false)) else (panachetop_ellKnown05.j0 k false)) else (panachetop_ellKnown05.j0 k false))) = some r := by first | (rw [hy177]; with_reducible exact H) | (have H2_ := (Option.bind_some _ _).symm.trans H; rw [hy177]; with_reducible exact H2_) | (have H2_ := (Option.bind_some _ _).symm.trans H; with_reducible exact H2_) | with_reducible exact H | (rw [hy177]; exact H) | exact H
 have Ny177 := Aside0.mk hy177
 clear hy177
 obtain ⟨y180, hy180⟩ : ∃ y_ : List ByteArray, y_ = (([(⟨#[35, 46]⟩ : ByteArray), (⟨#[46, 46]⟩ : ByteArray)] : List ByteArray)) := ⟨_, rfl⟩
 replace H : ((lattice_Show.f y177 y180 0 0).bind fun bt183 => (if t173 = 0 then (if t176 = 0 then (if bt183.2 = 0 then ((panachetop_ellSpan.f 16 19).bind fun bt187 => (if (t171 == bt187.1 && (t172 == bt187.2)) = true then (if t175 = 5 then (if (bt183.1.length : Int) = 2 then (if 0 < (bt183.1.length : Int) then (if (rdOf ByteArray.empty bt183.1 0).toList = ([63, 49, 63] : List UInt8) then ((panachetop_ellKnown03.f k).bind fun t190 => (panachetop_ellKnown05.j0 k t190)) else (panachetop_ellKnown05.j0 k false)) else (none)) else (panachetop_ellKnown05.j0 k false)) else (panachetop_ellKnown05.j0 k false)) else (panachetop_ellKnown05.j0 k false))) else (panachetop_ellKnown05.j0 k false)) else (panachetop_ellKnown05.j0 k false)) else (panachetop_ellKnown05.j0 k false))) = some r := by first | (rw [hy180]; with_reducible exact H) | (have H2_ := (Option.bind_some _ _).symm.trans H; rw [hy180]; with_reducible exact H2_) | (have H2_ := (Option.bind_some _ _).symm.trans H; with_reducible exact H2_) | with_reducible exact H | (rw [hy180]; exact H) | exact H
 have Ny180 := Aside0.mk hy180
 clear hy180
 replace H := Option.bind_eq_some_iff.mp H
 obtain ⟨⟨t183, t186⟩, A90, H⟩ := H
 try dsimp only at H
 have A9 := Aside0.mk A90
 clear A90
 have HC10 := Aside0.mk H
 clear H
 go_enter Tryz.func9, Tryz.ntmps9
 go_upto_region 5 with (first | ((with_reducible refine gate_callee (f := 15) rfl ?_); refine goesA (some 8) Tryz.func15 #[.int .i64 900, .int .i64 1000] ?_; (with_reducible refine (panachetop_ellSpan.calls 900 1000 t155 t156 _ A1.out).mono ?_); rintro e w11 ⟨rfl, hb⟩; refine ⟨_, rfl, ?_⟩; replace HB := bS HB hb; (try clear hb); (try clear hb2); (try clear hk); (try clear hi)) | ((with_reducible refine gate_callee (f := 15) rfl ?_); refine goesA (some 9) Tryz.func15 #[.int .i64 40, .int .i64 50] ?_; (with_reducible refine (panachetop_ellSpan.calls 40 50 t157 t158 _ A2.out).mono ?_); rintro e w12 ⟨rfl, hb⟩; refine ⟨_, rfl, ?_⟩; replace HB := bS HB hb; (try clear hb); (try clear hb2); (try clear hk); (try clear hi)) | ((with_reducible refine gate_callee (f := 15) rfl ?_); refine goesA (some 10) Tryz.func15 #[.int .i64 200, .int .i64 210] ?_; (with_reducible refine (panachetop_ellSpan.calls 200 210 t159 t160 _ A3.out).mono ?_); rintro e w13 ⟨rfl, hb⟩; refine ⟨_, rfl, ?_⟩; replace HB := bS HB hb; (try clear hb); (try clear hb2); (try clear hk); (try clear hi)) | ((with_reducible refine gate_callee (f := 15) rfl ?_); refine goesA (some 11) Tryz.func15 #[.int .i64 12, .int .i64 12] ?_; (with_reducible refine (panachetop_ellSpan.calls 12 12 t161 t162 _ A4.out).mono ?_); rintro e w14 ⟨rfl, hb⟩; refine ⟨_, rfl, ?_⟩; replace HB := bS HB hb; (try clear hb); (try clear hb2); (try clear hk); (try clear hi)) | ((with_reducible refine gate_callee (f := 15) rfl ?_); refine goesA (some 13) Tryz.func15 #[.int .i64 100, .int .i64 100] ?_; (with_reducible refine (panachetop_ellSpan.calls 100 100 t163 t164 _ A5.out).mono ?_); rintro e w15 ⟨rfl, hb⟩; refine ⟨_, rfl, ?_⟩; replace HB := bS HB hb; (try clear hb); (try clear hb2); (try clear hk); (try clear hi)) | ((with_reducible refine gate_callee (f := 15) rfl ?_); refine goesA (some 14) Tryz.func15 #[.int .i64 4, .int .i64 5] ?_; (with_reducible refine (panachetop_ellSpan.calls 4 5 t165 t166 _ A6.out).mono ?_); rintro e w16 ⟨rfl, hb⟩; refine ⟨_, rfl, ?_⟩; replace HB := bS HB hb; (try clear hb); (try clear hb2); (try clear hk); (try clear hi)) | ((with_reducible refine gate_dst (N := 16) rfl ?_); (try (refine gate_guard (by rfl) ?_; dsimp only)); refine Kd.R_lit k47 _ 47 ?hg (N := 16) ?hd (xs := ([(⟨(⟨t159, t160⟩ : S30), (⟨t161, t162⟩ : S30)⟩ : S47), (⟨(⟨t163, t164⟩ : S30), (⟨t165, t166⟩ : S30)⟩ : S47)] : List (S47))) (inner := [.int .i64 t159, .int .i64 t160, .int .i64 t161, .int .i64 t162, .int .i64 t163, .int .i64 t164, .int .i64 t165, .int .i64 t166]) (ok := fun _ => True) (okp := fun _ => True) ?hr ?hp (fun _ hk => hk) trivial (Below.refl _ _) (Nat.le_refl _) (by simp) ?_; (case hd => rfl); (case hg => rfl); (case hr => first | (go_simp; done) | (go_simp; rfl)); (case hp => exact (Reps.c4 (show Kd.M k47 _ _ _ (⟨(⟨t159, t160⟩ : S30), (⟨t161, t162⟩ : S30)⟩ : S47) [.int .i64 t159, .int .i64 t160, .int .i64 t161, .int .i64 t162] from (k47_mkM _ _ _ (⟨(⟨t159, t160⟩ : S30), (⟨t161, t162⟩ : S30)⟩ : S47) )) (Reps.c4 (show Kd.M k47 _ _ _ (⟨(⟨t163, t164⟩ : S30), (⟨t165, t166⟩ : S30)⟩ : S47) [.int .i64 t163, .int .i64 t164, .int .i64 t165, .int .i64 t166] from (k47_mkM _ _ _ (⟨(⟨t163, t164⟩ : S30), (⟨t165, t166⟩ : S30)⟩ : S47) )) (Reps.none _ _)))); intro v168 w17 ho18 hb hg_ hnew_; clear hg_ hnew_; (first | rw [← Ny167.out] at ho18 | (simp only [Int.reduceToNat] at ho18; rw [← Ny167.out] at ho18)); have HO169 := Aside0.mk (Kd.R_lower ho18 (below_size (bX HB))); replace HB := bS HB hb; clear hb ho18; obtain ⟨Ao19, co19, eo19⟩ := Kd.R_slice HO169.out; subst eo19) | ((with_reducible refine gate_dst (N := 1) rfl ?_); (try (refine gate_guard (by rfl) ?_; dsimp only)); refine boxA (N := 1) (cs := #[.int .i64 0, .int .i64 0, .int .i64 0, .int .i64 0, .slice none 0 0]) (t := 33) ?_; intro gb170 hg w20 hbox hb; have BK170 := Aside0.mk (hbox); have GW170 := bG HB hg; have GE170 := bG HB hg; replace HO169 := rB HO169 hb; replace HB := bS HB hb; clear hb hbox hg; obtain ⟨hcz21_0, hcz21_1, hcz21_2, hcz21_3, hcz21_4, hfz21_0, hfz21_1, hfz21_2, hfz21_3, hfz21_4⟩ := cc5 BK170) | ((with_reducible refine gate_callee (f := 13) rfl ?_); refine goesA (some 20) Tryz.func13 #[.agg #[.int .i64 t155, .int .i64 t156, .int .i64 t157, .int .i64 t158, .slice Ao19 y167.length co19]] ?_; (with_reducible refine (rivet_Opens.calls t155 t156 t157 t158 _ _ y167 t171 t172 t173 _ ?side1 ?side2 A7.out).mono ?_); (case side1 => refine (Kd.R_reads' (e := 47) (base := w.heap.size) (ok := fun k_ => True) (n := y167.length) (c := co19) ?_).2.2; exact (rX (Kd.R_mono (Kd.R_far (p := ⟨gb170, 4, none⟩) (Kd.R_far (p := ⟨gb170, 3, none⟩) (Kd.R_far (p := ⟨gb170, 2, none⟩) (Kd.R_far (p := ⟨gb170, 1, none⟩) (Kd.R_far (p := ⟨gb170, 0, none⟩) (Kd.R_types HO169.out BK170.out (by decide)) (fun _ hk => hk.2) (.int .i64 t155)) (fun _ hk => hk.2) (.int .i64 t156)) (fun _ hk => hk.2) (.int .i64 t157)) (fun _ hk => hk.2) (.int .i64 t158)) (fun _ hk => hk.2) (.slice Ao19 y167.length co19)) (fun _ h_ => h_.1)))); (case side2 => exact (Kd.R_reads' HO169.out).2.1); rintro e w22 ⟨rfl, hb⟩; refine ⟨_, rfl, ?_⟩; have n0_ := Aside0.mk (Kd.R_below (rX (Kd.R_mono (Kd.R_far (p := ⟨gb170, 4, none⟩) (Kd.R_far (p := ⟨gb170, 3, none⟩) (Kd.R_far (p := ⟨gb170, 2, none⟩) (Kd.R_far (p := ⟨gb170, 1, none⟩) (Kd.R_far (p := ⟨gb170, 0, none⟩) (Kd.R_types HO169.out BK170.out (by decide)) (fun _ hk => hk.2) (.int .i64 t155)) (fun _ hk => hk.2) (.int .i64 t156)) (fun _ hk => hk.2) (.int .i64 t157)) (fun _ hk => hk.2) (.int .i64 t158)) (fun _ hk => hk.2) (.slice Ao19 y167.length co19)) (fun _ h_ => h_.1))) hb); have n1_ := Aside0.mk (blk_below (g := gb170) (o := .cells #[.int .i64 t155, .int .i64 t156, .int .i64 t157, .int .i64 t158, .slice Ao19 y167.length co19] 33 (0, 0)) (by (with_reducible repeat (first | refine blk_drewN ?_ _ | refine blk_drew ?_ | refine blk_alloc ?_ _)); refine blk_put (cs := #[.int .i64 t155, .int .i64 t156, .int .i64 t157, .int .i64 t158, .slice none 0 0]) ?_ 4 _ rfl; (with_reducible repeat (first | refine blk_drewN ?_ _ | refine blk_drew ?_ | refine blk_alloc ?_ _)); refine blk_put (cs := #[.int .i64 t155, .int .i64 t156, .int .i64 t157, .int .i64 0, .slice none 0 0]) ?_ 3 _ rfl; (with_reducible repeat (first | refine blk_drewN ?_ _ | refine blk_drew ?_ | refine blk_alloc ?_ _)); refine blk_put (cs := #[.int .i64 t155, .int .i64 t156, .int .i64 0, .int .i64 0, .slice none 0 0]) ?_ 2 _ rfl; (with_reducible repeat (first | refine blk_drewN ?_ _ | refine blk_drew ?_ | refine blk_alloc ?_ _)); refine blk_put (cs := #[.int .i64 t155, .int .i64 0, .int .i64 0, .int .i64 0, .slice none 0 0]) ?_ 1 _ rfl; (with_reducible repeat (first | refine blk_drewN ?_ _ | refine blk_drew ?_ | refine blk_alloc ?_ _)); refine blk_put (cs := #[.int .i64 0, .int .i64 0, .int .i64 0, .int .i64 0, .slice none 0 0]) ?_ 0 _ rfl; (with_reducible repeat (first | refine blk_drewN ?_ _ | refine blk_drew ?_ | refine blk_alloc ?_ _)); exact BK170.out) hb); have n2_ := bS HB hb; clear HO169; clear BK170; clear HB; have HO169 := n0_; have BK170 := n1_; have HB := n2_; clear n0_ n1_ n2_; (try clear hb); (try clear hb2); (try clear hk); (try clear hi)) | ((with_reducible refine gate_dst (N := 2) rfl ?_); (try (refine gate_guard (by rfl) ?_; dsimp only)); refine boxA (N := 2) (cs := #[.int .i64 0, .int .i64 0]) (t := 30) ?_; intro gb174 hg w23 hbox hb; have BK174 := Aside0.mk (hbox); have GW174 := bG HB hg; have GE174 := bG HB hg; have NB170_174 := kN BK170 hg; have NB174_170 := kM BK170 hg; replace HO169 := rB HO169 hb; replace BK170 := kB BK170 hb; replace HB := bS HB hb; clear hb hbox hg; have hnb24 := NB174_170.out; have hnc24 := NB170_174.out; obtain ⟨hcz25_0, hcz25_1, hfz25_0, hfz25_1⟩ := cc2 BK174; obtain ⟨hcz26_0, hcz26_1, hcz26_2, hcz26_3, hcz26_4, hfz26_0, hfz26_1, hfz26_2, hfz26_3, hfz26_4⟩ := cc5 BK170) | ((with_reducible refine gate_callee (f := 7) rfl ?_); refine goesA (some 25) Tryz.func7 #[.agg #[.int .i64 t155, .int .i64 t156, .int .i64 t157, .int .i64 t158, .slice Ao19 y167.length co19], .int .i64 45] ?_; (with_reducible refine (rivet_Sticks.calls t155 t156 t157 t158 _ _ y167 45 t175 t176 _ ?side1 ?side2 A8.out).mono ?_); (case side1 => refine (Kd.R_reads' (e := 47) (base := w.heap.size) (ok := fun k_ => True) (n := y167.length) (c := co19) ?_).2.2; exact (rX (Kd.R_mono (Kd.R_far (p := ⟨gb174, 1, none⟩) (Kd.R_far (p := ⟨gb174, 0, none⟩) (Kd.R_types HO169.out BK174.out (by decide)) (fun _ hk => hk.2) (.int .i64 t171)) (fun _ hk => hk.2) (.int .i64 t172)) (fun _ h_ => h_.1)))); (case side2 => exact (Kd.R_reads' HO169.out).2.1); rintro e w27 ⟨rfl, hb⟩; refine ⟨_, rfl, ?_⟩; replace HO169 := Aside0.mk (Kd.R_below (rX (Kd.R_mono (Kd.R_far (p := ⟨gb174, 1, none⟩) (Kd.R_far (p := ⟨gb174, 0, none⟩) (Kd.R_types HO169.out BK174.out (by decide)) (fun _ hk => hk.2) (.int .i64 t171)) (fun _ hk => hk.2) (.int .i64 t172)) (fun _ h_ => h_.1))) hb); replace BK170 := Aside0.mk (blk_below (kF BK170 NB170_174) hb); replace BK174 := Aside0.mk (blk_below (g := gb174) (o := .cells #[.int .i64 t171, .int .i64 t172] 30 (0, 0)) (kP BK174) hb); replace HB := bS HB hb; (try clear hb); (try clear hb2); (try clear hk); (try clear hi)) | ((with_reducible refine gate_dst (N := 29) rfl ?_); (try (refine gate_guard (by rfl) ?_; dsimp only)); refine Kd.R_lit Kd.string _ 9 ?hg (N := 29) ?hd (xs := ([(⟨#[48, 49, 50]⟩ : ByteArray), (⟨#[51, 51, 48]⟩ : ByteArray)] : List ByteArray)) (inner := [.string (⟨#[48, 49, 50]⟩ : ByteArray), .string (⟨#[51, 51, 48]⟩ : ByteArray)]) (ok := fun _ => True) (okp := fun _ => True) ?hr ?hp (fun _ hk => hk) trivial (Below.refl _ _) (Nat.le_refl _) (by simp) ?_; (case hd => rfl); (case hg => rfl); (case hr => first | (go_simp; done) | (go_simp; rfl)); (case hp => exact (Reps.one (show Kd.M Kd.string _ _ _ (⟨#[48, 49, 50]⟩ : ByteArray) [.string (⟨#[48, 49, 50]⟩ : ByteArray)] from rfl) (Reps.one (show Kd.M Kd.string _ _ _ (⟨#[51, 51, 48]⟩ : ByteArray) [.string (⟨#[51, 51, 48]⟩ : ByteArray)] from rfl) (Reps.none _ _)))); intro v178 w28 ho29 hb hg_ hnew_; clear hg_ hnew_; (first | rw [← Ny177.out] at ho29 | (simp only [Int.reduceToNat] at ho29; rw [← Ny177.out] at ho29)); have HO179 := Aside0.mk (Kd.R_lower ho29 (below_size (bX HB))); replace HO169 := rB HO169 hb; replace BK170 := kB BK170 hb; replace BK174 := kB BK174 hb; replace HB := bS HB hb; clear hb ho29) | ((with_reducible refine gate_dst (N := 30) rfl ?_); (try (refine gate_guard (by rfl) ?_; dsimp only)); refine Kd.R_lit Kd.string _ 9 ?hg (N := 30) ?hd (xs := ([(⟨#[35, 46]⟩ : ByteArray), (⟨#[46, 46]⟩ : ByteArray)] : List ByteArray)) (inner := [.string (⟨#[35, 46]⟩ : ByteArray), .string (⟨#[46, 46]⟩ : ByteArray)]) (ok := fun _ => True) (okp := fun _ => True) ?hr ?hp (fun _ hk => hk) trivial (Below.refl _ _) (Nat.le_refl _) (by simp) ?_; (case hd => rfl); (case hg => rfl); (case hr => first | (go_simp; done) | (go_simp; rfl)); (case hp => exact (Reps.one (show Kd.M Kd.string _ _ _ (⟨#[35, 46]⟩ : ByteArray) [.string (⟨#[35, 46]⟩ : ByteArray)] from rfl) (Reps.one (show Kd.M Kd.string _ _ _ (⟨#[46, 46]⟩ : ByteArray) [.string (⟨#[46, 46]⟩ : ByteArray)] from rfl) (Reps.none _ _)))); intro v181 w30 ho31 hb hg_ hnew_; clear hg_ hnew_; (first | rw [← Ny180.out] at ho31 | (simp only [Int.reduceToNat] at ho31; rw [← Ny180.out] at ho31)); have HO182 := Aside0.mk (Kd.R_lower (Kd.R_new' ho31 (Kd.R_lt (rX HO179.out))) (below_size (bX HB))); replace HO169 := rB HO169 hb; replace HO179 := Aside0.mk (Kd.R_elder' (rX HO179.out) (Kd.R_base ho31) hb); replace BK170 := kB BK170 hb; replace BK174 := kB BK174 hb; replace HB := bS HB hb; clear hb ho31; obtain ⟨Ao32, co32, eo32⟩ := Kd.R_slice HO179.out; subst eo32; obtain ⟨Ao33, co33, eo33⟩ := Kd.R_slice HO182.out; subst eo33) | ((with_reducible refine gate_callee (f := 28) rfl ?_); refine goesA (some 32) Tryz.func28 #[.slice Ao32 y177.length co32, .slice Ao33 y180.length co33, .agg #[.int .i64 0, .int .i64 0]] ?_; (with_reducible refine (lattice_Show.calls _ _ y177 _ _ y180 0 0 t183 t186 _ ?side1 ?side2 ?side3 ?side4 A9.out (Tabs.below HT.out (bX HB))).mono ?_); (case side1 => exact sX (Kd.R_reads' HO179.out).2.2); (case side2 => exact (Kd.R_reads' HO179.out).2.1); (case side3 => exact sX (Kd.R_reads' HO182.out).2.2); (case side4 => exact (Kd.R_reads' HO182.out).2.1); rintro e w34 ⟨v184, rfl, ho0, hb⟩; refine ⟨_, rfl, ?_⟩; have HO185 := Aside0.mk (Kd.R_lower (Kd.R_new' (Kd.R_new' ho0 (Kd.R_lt (rX HO179.out))) (Kd.R_lt (rX HO182.out))) (below_size (bX HB))); replace HO169 := rB HO169 hb; replace HO179 := Aside0.mk (Kd.R_elder' (rX HO179.out) (Kd.R_base ho0) hb); replace HO182 := Aside0.mk (Kd.R_elder' (rX HO182.out) (Kd.R_base ho0) hb); replace BK170 := kB BK170 hb; replace BK174 := kB BK174 hb; replace HB := bS HB hb; (try clear hb); (try clear hb2); (try clear hk); (try clear hi); (try clear ho0)))
 (try simp only [Act.put, List.setIfInBounds_toArray, List.set_cons_zero, List.set_cons_succ])
 go_cut [0] (fun v0 wc => ∃ (kq : Nat) (x0_9 : Bool), v0 = .bool x0_9 ∧ Aside0 (panachetop_ellKnown05.j0 kq x0_9 = some r) ∧ Aside0 (kq ≤ k) ∧ Aside0 (Kd.R k47 47 wc w.heap.size (fun _ => True) (.slice Ao19 y167.length co19) y167) ∧ Aside0 (wc.heap[gb170]? = some (.cells #[.int .i64 t155, .int .i64 t156, .int .i64 t157, .int .i64 t158, (.slice Ao19 y167.length co19)] 33 (0, 0))) ∧ Aside0 (wc.heap[gb174]? = some (.cells #[.int .i64 t171, .int .i64 t172] 30 (0, 0))) ∧ Aside0 (Below w.heap.size w wc))
 case first =>
  have H := HC10.out
  clear HC10
  by_cases c35 : t173 = 0
  ·rw [if_pos c35] at H
   have c35b0 : (t173 == 0) = true := beq_iff_eq.mpr c35
   have c35b1 : (t173 != 0) = false := bne_eq_false_iff_eq.mpr c35
   clear c35
   (first | rw [c35b0] | (simp only [i64_w, i32_w]; rw [c35b0]) | skip)
   by_cases c36 : t176 = 0
   ·rw [if_pos c36] at H
    have c36b0 : (t176 == 0) = true := beq_iff_eq.mpr c36
    have c36b1 : (t176 != 0) = false := bne_eq_false_iff_eq.mpr c36
    clear c36
    by_cases c37 : t186 = 0
    ·rw [if_pos c37] at H
     have c37b0 : (t186 == 0) = true := beq_iff_eq.mpr c37
     have c37b1 : (t186 != 0) = false := bne_eq_false_iff_eq.mpr c37
     clear c37
     replace H := Option.bind_eq_some_iff.mp H
     obtain ⟨⟨t187, t188⟩, A380, H⟩ := H
     try dsimp only at H
     have A38 := Aside0.mk A380
     clear A380
     by_cases c39 : (t171 == t187 && (t172 == t188)) = true
     ·rw [if_pos c39] at H
      have c39b0 : (t171 == t187 && (t172 == t188)) = true := c39
      (try (have c39b1 : decide (t171 = t187 && (t172 == t188)) = true := by simpa using c39))
      (try (have c39b2 : (t171 == t187 && (t172 == t188)) = true := by simpa using c39))
      clear c39
      by_cases c40 : t175 = 5
      ·rw [if_pos c40] at H
       have c40b0 : (t175 == 5) = true := beq_iff_eq.mpr c40
       have c40b1 : (t175 != 5) = false := bne_eq_false_iff_eq.mpr c40
       clear c40
       by_cases c41 : (t183.length : Int) = 2
       ·rw [if_pos c41] at H
        have c41b0 : ((t183.length : Int) == 2) = true := beq_iff_eq.mpr c41
        have c41b1 : ((t183.length : Int) != 2) = false := bne_eq_false_iff_eq.mpr c41
        clear c41
        by_cases c42 : 0 < (t183.length : Int)
        ·rw [if_pos c42] at H
         have c42b0 : decide (0 < (t183.length : Int)) = true := decide_eq_true c42
         have c42b1 : decide (0 < t183.length) = true := decide_eq_true (by omega)
         clear c42
         by_cases c43 : (rdOf ByteArray.empty t183 0).toList = ([63, 49, 63] : List UInt8)
         ·rw [if_pos c43] at H
          have c43b0 : ((rdOf ByteArray.empty t183 0).toList == ([63, 49, 63] : List UInt8)) = true := beq_iff_eq.mpr c43
          have c43b1 : ((rdOf ByteArray.empty t183 0).toList != ([63, 49, 63] : List UInt8)) = false := bne_eq_false_iff_eq.mpr c43
          clear c43
          replace H := Option.bind_eq_some_iff.mp H
          obtain ⟨t190, A440, H⟩ := H
          try dsimp only at H
          have A44 := Aside0.mk A440
          clear A440
          have H' := Aside0.mk H
          clear H
          try go_wp2
          replace HO169 := Aside0.mk (Kd.R_drew HO169.out)
          replace HO179 := Aside0.mk (Kd.R_drew HO179.out)
          replace HO182 := Aside0.mk (Kd.R_drew HO182.out)
          replace HO185 := Aside0.mk (Kd.R_drew HO185.out)
          replace BK170 := Aside0.mk (blk_drew BK170.out)
          replace BK174 := Aside0.mk (blk_drew BK174.out)
          replace HB := Aside0.mk (below_drew1 HB.out)
          have p189 : 0 ≤ (0 : Int) := (by omega)
          have q189 : 0 < (t183.length : Int) := of_decide_eq_true (by first | (with_reducible assumption) | assumption)
          obtain ⟨Ao90, co90, eo90⟩ := Kd.R_slice HO185.out
          subst eo90
          obtain ⟨ad189, e189, hx189_0⟩ := Kd.at_string (Kd.R_reads' HO185.out).2.2 0 p189 q189
          cases e189
          have qi189 : (0 < t183.length) = True := eq_true (by omega)
          (try rw [show ((0 : Int)).toNat = 0 from rfl] at hx189_0)
          (try rw [Addr.add_zero'] at hx189_0)
          replace p189 := eq_true p189
          replace q189 := eq_true q189
          refine start_ (n := 34) (S := fun w' => w'.cell? ⟨gb174, 0, none⟩ = some (.int .i64 t171) ∧ w'.cell? ⟨gb174, 1, none⟩ = some (.int .i64 t172) ∧ w'.cell? ad189 = some (.string (rdOf ByteArray.empty t183 0))) (ds := []) #[false, false, false, false, false, false, false, false, false, false, false, false, false, false, false, false, false, false, false, false, false, false, false, false, false, false, false, false, false, false, false, false, false, false] (by kernel_rfl) rfl rfl ⟨(blk_cell BK174.out 0).trans rfl, (blk_cell BK174.out 1).trans rfl, hx189_0⟩ (fun hHeld => ?_); refine with_tabW panachetop_ellKnown05.tab5 panachetop_ellKnown05.bits5 (fun HT_ HW_ => ?_)
          generalize w34.drew = w45 at HO169 HO179 HO182 HO185 BK170 BK174 HB hx189_0 hHeld ⊢
          refine pureA (i := 0) (N := some 35) HT_ ?_
          refine pureA (i := 1) (N := some 36) HT_ ?_
          refine pureA (i := 2) (N := some 37) HT_ ?_
          refine pureA (i := 3) (N := some 38) HT_ ?_
          refine pureA (i := 4) (N := some 39) HT_ ?_
          refine pureA (i := 5) (N := some 40) HT_ ?_
          refine pureA (i := 6) (N := some 41) HT_ ?_
          refine pureA (i := 7) (N := some 42) HT_ ?_
          refine pureA (i := 8) (N := some 43) HT_ ?_
          refine pureA (i := 9) (N := some 44) HT_ ?_
          refine pureA (i := 10) (N := some 45) HT_ ?_
          refine takeA (i := 11) (N := some 46) HT_ HW_ hHeld ?_
          refine oneA (i := 12) (N := some 47) HT_ (fun K hK => ?_)
          refine goesB Tryz.func15 #[.int .i64 16, .int .i64 19] ?_
          with_reducible refine (panachetop_ellSpan.calls 16 19 t187 t188 _ A38.out).mono ?_
          rintro e w46 ⟨rfl, hb⟩
          have HS2_ := (hb.cell (World.block_lt_of_cell? _ _ (hHeld.2.2))).trans (hHeld.2.2)
          refine ⟨_, rfl, ?_⟩
          replace HO169 := rB HO169 hb
          replace HO179 := rB HO179 hb
          replace HO182 := rB HO182 hb
          replace HO185 := rB HO185 hb
          replace BK170 := kB BK170 hb
          replace BK174 := kB BK174 hb
          replace HB := bS HB hb
          (try clear hb)
          (try clear hb2)
          (try clear hk)
          (try clear hi)
          obtain ⟨Ao47, co47, eo47⟩ := Kd.R_slice HO185.out
          (first | subst eo47 | (injection eo47 with f1_ f2_ f3_; have f4_ := f1_.symm; have f5_ := f3_.symm; clear f1_ f2_ f3_; subst f4_; subst f5_))
          refine hK.out _ _ ⟨(blk_cell BK174.out 0).trans rfl, (blk_cell BK174.out 1).trans rfl, HS2_⟩ (fun hHeld => ?_)
          clear hK K
          refine normA (N := some 47) ?_
          refine pureA (i := 13) (N := some 48) HT_ ?_
          refine pureA (i := 14) (N := some 49) HT_ ?_
          refine pureA (i := 15) (N := some 50) HT_ ?_
          refine pureA (i := 16) (N := some 51) HT_ ?_
          refine pureA (i := 17) (N := some 52) HT_ ?_
          refine pureA (i := 18) (N := some 53) HT_ ?_
          refine pureA (i := 19) (N := some 54) HT_ ?_
          refine pureA (i := 20) (N := some 55) HT_ ?_
          refine pureA (i := 21) (N := some 56) HT_ ?_
          refine pureA (i := 22) (N := some 57) HT_ ?_
          refine pureA (i := 23) (N := some 58) HT_ ?_
          refine pureA (i := 24) (N := some 59) HT_ ?_
          refine pureA (i := 25) (N := some 60) HT_ ?_
          refine pureA (i := 26) (N := some 61) HT_ ?_
          refine takeA (i := 27) (N := some 62) HT_ HW_ hHeld ?_
          refine pureA (i := 28) (N := some 63) HT_ ?_
          refine pureA (i := 29) (N := some 64) HT_ ?_
          refine pureA (i := 30) (N := some 65) HT_ ?_
          refine oneA (i := 31) (N := some 66) HT_ (fun K hK => ?_)
          refine goesB Tryz.func29 #[] ?_
          with_reducible refine (panachetop_ellKnown03.calls k  t190 _ A44.out).mono ?_
          rintro e w48 ⟨rfl, hb⟩
          have HS2_ := (hb.cell (World.block_lt_of_cell? _ _ (hHeld.2.2))).trans (hHeld.2.2)
          refine ⟨_, rfl, ?_⟩
          replace HO169 := rB HO169 hb
          replace HO179 := rB HO179 hb
          replace HO182 := rB HO182 hb
          replace HO185 := rB HO185 hb
          replace BK170 := kB BK170 hb
          replace BK174 := kB BK174 hb
          replace HB := bS HB hb
          (try clear hb)
          (try clear hb2)
          (try clear hk)
          (try clear hi)
          refine hK.out _ _ ⟨(blk_cell BK174.out 0).trans rfl, (blk_cell BK174.out 1).trans rfl, HS2_⟩ (fun hHeld => ?_)
          clear hK K
          refine normA (N := some 66) ?_
          refine pureA (i := 32) (N := some 67) HT_ ?_
          refine pureA (i := 33) (N := some 0) HT_ ?_
          refine done_ (done_of HT_.out (by kernel_rfl)) ?_
          try go_wp2
          go_meet
          case rel => exact ⟨_, (t190), (by first | rfl | (simp; done) | (simp [*]; done)), H', ⟨by first | omega | exact Nat.le_refl _⟩, ⟨rX HO169.out⟩, ⟨kX BK170.out⟩, ⟨kX BK174.out⟩, ⟨bX HB⟩⟩
         ·rw [if_neg c43] at H
          have c43b0 : ((rdOf ByteArray.empty t183 0).toList == ([63, 49, 63] : List UInt8)) = false := beq_eq_false_iff_ne.mpr c43
          have c43b1 : ((rdOf ByteArray.empty t183 0).toList != ([63, 49, 63] : List UInt8)) = true := bne_iff_ne.mpr c43
          have H' := Aside0.mk H
          clear H
          try go_wp2
          replace HO169 := Aside0.mk (Kd.R_drew HO169.out)
          replace HO179 := Aside0.mk (Kd.R_drew HO179.out)
          replace HO182 := Aside0.mk (Kd.R_drew HO182.out)
          replace HO185 := Aside0.mk (Kd.R_drew HO185.out)
          replace BK170 := Aside0.mk (blk_drew BK170.out)
          replace BK174 := Aside0.mk (blk_drew BK174.out)
          replace HB := Aside0.mk (below_drew1 HB.out)
          have p189 : 0 ≤ (0 : Int) := (by omega)
          have q189 : 0 < (t183.length : Int) := of_decide_eq_true (by first | (with_reducible assumption) | assumption)
          obtain ⟨Ao90, co90, eo90⟩ := Kd.R_slice HO185.out
          subst eo90
          obtain ⟨ad189, e189, hx189_0⟩ := Kd.at_string (Kd.R_reads' HO185.out).2.2 0 p189 q189
          cases e189
          have qi189 : (0 < t183.length) = True := eq_true (by omega)
          (try rw [show ((0 : Int)).toNat = 0 from rfl] at hx189_0)
          (try rw [Addr.add_zero'] at hx189_0)
          replace p189 := eq_true p189
          replace q189 := eq_true q189
          refine start_ (n := 34) (S := fun w' => w'.cell? ⟨gb174, 0, none⟩ = some (.int .i64 t171) ∧ w'.cell? ⟨gb174, 1, none⟩ = some (.int .i64 t172) ∧ w'.cell? ad189 = some (.string (rdOf ByteArray.empty t183 0))) (ds := []) #[false, false, false, false, false, false, false, false, false, false, false, false, false, false, false, false, false, false, false, false, false, false, false, false, false, false, false, false, false, false, false, false, false, false] (by kernel_rfl) rfl rfl ⟨(blk_cell BK174.out 0).trans rfl, (blk_cell BK174.out 1).trans rfl, hx189_0⟩ (fun hHeld => ?_); refine with_tabW panachetop_ellKnown05.tab5 panachetop_ellKnown05.bits5 (fun HT_ HW_ => ?_)
          generalize w34.drew = w49 at HO169 HO179 HO182 HO185 BK170 BK174 HB hx189_0 hHeld ⊢
          refine pureA (i := 0) (N := some 35) HT_ ?_
          refine pureA (i := 1) (N := some 36) HT_ ?_
          refine pureA (i := 2) (N := some 37) HT_ ?_
          refine pureA (i := 3) (N := some 38) HT_ ?_
          refine pureA (i := 4) (N := some 39) HT_ ?_
          refine pureA (i := 5) (N := some 40) HT_ ?_
          refine pureA (i := 6) (N := some 41) HT_ ?_
          refine pureA (i := 7) (N := some 42) HT_ ?_
          refine pureA (i := 8) (N := some 43) HT_ ?_
          refine pureA (i := 9) (N := some 44) HT_ ?_
          refine pureA (i := 10) (N := some 45) HT_ ?_
          refine takeA (i := 11) (N := some 46) HT_ HW_ hHeld ?_
          refine oneA (i := 12) (N := some 47) HT_ (fun K hK => ?_)
          refine goesB Tryz.func15 #[.int .i64 16, .int .i64 19] ?_
          with_reducible refine (panachetop_ellSpan.calls 16 19 t187 t188 _ A38.out).mono ?_
          rintro e w50 ⟨rfl, hb⟩
          have HS2_ := (hb.cell (World.block_lt_of_cell? _ _ (hHeld.2.2))).trans (hHeld.2.2)
          refine ⟨_, rfl, ?_⟩
          replace HO169 := rB HO169 hb
          replace HO179 := rB HO179 hb
          replace HO182 := rB HO182 hb
          replace HO185 := rB HO185 hb
          replace BK170 := kB BK170 hb
          replace BK174 := kB BK174 hb
          replace HB := bS HB hb
          (try clear hb)
          (try clear hb2)
          (try clear hk)
          (try clear hi)
          obtain ⟨Ao51, co51, eo51⟩ := Kd.R_slice HO185.out
          (first | subst eo51 | (injection eo51 with f1_ f2_ f3_; have f4_ := f1_.symm; have f5_ := f3_.symm; clear f1_ f2_ f3_; subst f4_; subst f5_))
          refine hK.out _ _ ⟨(blk_cell BK174.out 0).trans rfl, (blk_cell BK174.out 1).trans rfl, HS2_⟩ (fun hHeld => ?_)
          clear hK K
          refine normA (N := some 47) ?_
          refine pureA (i := 13) (N := some 48) HT_ ?_
          refine pureA (i := 14) (N := some 49) HT_ ?_
          refine pureA (i := 15) (N := some 50) HT_ ?_
          refine pureA (i := 16) (N := some 51) HT_ ?_
          refine pureA (i := 17) (N := some 52) HT_ ?_
          refine pureA (i := 18) (N := some 53) HT_ ?_
          refine pureA (i := 19) (N := some 54) HT_ ?_
          refine pureA (i := 20) (N := some 55) HT_ ?_
          refine pureA (i := 21) (N := some 56) HT_ ?_
          refine pureA (i := 22) (N := some 57) HT_ ?_
          refine pureA (i := 23) (N := some 58) HT_ ?_
          refine pureA (i := 24) (N := some 59) HT_ ?_
          refine pureA (i := 25) (N := some 60) HT_ ?_
          refine pureA (i := 26) (N := some 61) HT_ ?_
          refine takeA (i := 27) (N := some 62) HT_ HW_ hHeld ?_
          refine pureA (i := 28) (N := some 63) HT_ ?_
          refine pureA (i := 29) (N := some 64) HT_ ?_
          refine pureA (i := 30) (N := some 65) HT_ ?_
          refine pureB (i := 31) (N := some 66) HT_ ?_
          refine pureA (i := 32) (N := some 67) HT_ ?_
          refine pureA (i := 33) (N := some 0) HT_ ?_
          refine done_ (done_of HT_.out (by kernel_rfl)) ?_
          try go_wp2
          go_meet
          case rel => exact ⟨_, (false), (by first | rfl | (simp; done) | (simp [*]; done)), H', ⟨by first | omega | exact Nat.le_refl _⟩, ⟨rX HO169.out⟩, ⟨kX BK170.out⟩, ⟨kX BK174.out⟩, ⟨bX HB⟩⟩
        ·rw [if_neg c42] at H
         exact absurd H (by simp)
       ·rw [if_neg c41] at H
        have c41b0 : ((t183.length : Int) == 2) = false := beq_eq_false_iff_ne.mpr c41
        have c41b1 : ((t183.length : Int) != 2) = true := bne_iff_ne.mpr c41
        have H' := Aside0.mk H
        clear H
        try go_wp2
        replace HO169 := Aside0.mk (Kd.R_drew HO169.out)
        replace HO179 := Aside0.mk (Kd.R_drew HO179.out)
        replace HO182 := Aside0.mk (Kd.R_drew HO182.out)
        replace HO185 := Aside0.mk (Kd.R_drew HO185.out)
        replace BK170 := Aside0.mk (blk_drew BK170.out)
        replace BK174 := Aside0.mk (blk_drew BK174.out)
        replace HB := Aside0.mk (below_drew1 HB.out)
        refine start_ (n := 34) (S := fun w' => w'.cell? ⟨gb174, 0, none⟩ = some (.int .i64 t171) ∧ w'.cell? ⟨gb174, 1, none⟩ = some (.int .i64 t172)) (ds := []) #[false, false, false, false, false, false, false, false, false, false, false, false, false, false, false, false, false, false, false, false, false, false, false, false, false, false, false, false, false, false, false, false, false, false] (by kernel_rfl) rfl rfl ⟨(blk_cell BK174.out 0).trans rfl, (blk_cell BK174.out 1).trans rfl⟩ (fun hHeld => ?_); refine with_tabW panachetop_ellKnown05.tab5 panachetop_ellKnown05.bits5 (fun HT_ HW_ => ?_)
        generalize w34.drew = w52 at HO169 HO179 HO182 HO185 BK170 BK174 HB hHeld ⊢
        refine pureA (i := 0) (N := some 35) HT_ ?_
        refine pureA (i := 1) (N := some 36) HT_ ?_
        refine pureA (i := 2) (N := some 37) HT_ ?_
        refine pureA (i := 3) (N := some 38) HT_ ?_
        refine pureA (i := 4) (N := some 39) HT_ ?_
        refine pureA (i := 5) (N := some 40) HT_ ?_
        refine pureA (i := 6) (N := some 41) HT_ ?_
        refine pureA (i := 7) (N := some 42) HT_ ?_
        refine pureA (i := 8) (N := some 43) HT_ ?_
        refine pureA (i := 9) (N := some 44) HT_ ?_
        refine pureA (i := 10) (N := some 45) HT_ ?_
        refine takeA (i := 11) (N := some 46) HT_ HW_ hHeld ?_
        refine oneA (i := 12) (N := some 47) HT_ (fun K hK => ?_)
        refine goesB Tryz.func15 #[.int .i64 16, .int .i64 19] ?_
        with_reducible refine (panachetop_ellSpan.calls 16 19 t187 t188 _ A38.out).mono ?_
        rintro e w53 ⟨rfl, hb⟩
        refine ⟨_, rfl, ?_⟩
        replace HO169 := rB HO169 hb
        replace HO179 := rB HO179 hb
        replace HO182 := rB HO182 hb
        replace HO185 := rB HO185 hb
        replace BK170 := kB BK170 hb
        replace BK174 := kB BK174 hb
        replace HB := bS HB hb
        (try clear hb)
        (try clear hb2)
        (try clear hk)
        (try clear hi)
        obtain ⟨Ao54, co54, eo54⟩ := Kd.R_slice HO185.out
        (first | subst eo54 | (injection eo54 with f1_ f2_ f3_; have f4_ := f1_.symm; have f5_ := f3_.symm; clear f1_ f2_ f3_; subst f4_; subst f5_))
        refine hK.out _ _ ⟨(blk_cell BK174.out 0).trans rfl, (blk_cell BK174.out 1).trans rfl⟩ (fun hHeld => ?_)
        clear hK K
        refine normA (N := some 47) ?_
        refine pureA (i := 13) (N := some 48) HT_ ?_
        refine pureA (i := 14) (N := some 49) HT_ ?_
        refine pureA (i := 15) (N := some 50) HT_ ?_
        refine pureA (i := 16) (N := some 51) HT_ ?_
        refine pureA (i := 17) (N := some 52) HT_ ?_
        refine pureA (i := 18) (N := some 53) HT_ ?_
        refine pureA (i := 19) (N := some 54) HT_ ?_
        refine pureA (i := 20) (N := some 55) HT_ ?_
        refine pureA (i := 21) (N := some 56) HT_ ?_
        refine pureA (i := 22) (N := some 57) HT_ ?_
        refine pureA (i := 23) (N := some 58) HT_ ?_
        refine pureA (i := 24) (N := some 59) HT_ ?_
        refine pureB (i := 25) (N := some 60) HT_ ?_
        refine pureB (i := 26) (N := some 61) HT_ ?_
        refine pureB (i := 27) (N := some 62) HT_ ?_
        refine pureB (i := 28) (N := some 63) HT_ ?_
        refine pureA (i := 29) (N := some 64) HT_ ?_
        refine pureA (i := 30) (N := some 65) HT_ ?_
        refine pureB (i := 31) (N := some 66) HT_ ?_
        refine pureA (i := 32) (N := some 67) HT_ ?_
        refine pureA (i := 33) (N := some 0) HT_ ?_
        refine done_ (done_of HT_.out (by kernel_rfl)) ?_
        try go_wp2
        go_meet
        case rel => exact ⟨_, (false), (by first | rfl | (simp; done) | (simp [*]; done)), H', ⟨by first | omega | exact Nat.le_refl _⟩, ⟨rX HO169.out⟩, ⟨kX BK170.out⟩, ⟨kX BK174.out⟩, ⟨bX HB⟩⟩
      ·rw [if_neg c40] at H
       have c40b0 : (t175 == 5) = false := beq_eq_false_iff_ne.mpr c40
       have c40b1 : (t175 != 5) = true := bne_iff_ne.mpr c40
       have H' := Aside0.mk H
       clear H
       try go_wp2
       replace HO169 := Aside0.mk (Kd.R_drew HO169.out)
       replace HO179 := Aside0.mk (Kd.R_drew HO179.out)
       replace HO182 := Aside0.mk (Kd.R_drew HO182.out)
       replace HO185 := Aside0.mk (Kd.R_drew HO185.out)
       replace BK170 := Aside0.mk (blk_drew BK170.out)
       replace BK174 := Aside0.mk (blk_drew BK174.out)
       replace HB := Aside0.mk (below_drew1 HB.out)
       refine start_ (n := 34) (S := fun w' => w'.cell? ⟨gb174, 0, none⟩ = some (.int .i64 t171) ∧ w'.cell? ⟨gb174, 1, none⟩ = some (.int .i64 t172)) (ds := []) #[false, false, false, false, false, false, false, false, false, false, false, false, false, false, false, false, false, false, false, false, false, false, false, false, false, false, false, false, false, false, false, false, false, false] (by kernel_rfl) rfl rfl ⟨(blk_cell BK174.out 0).trans rfl, (blk_cell BK174.out 1).trans rfl⟩ (fun hHeld => ?_); refine with_tabW panachetop_ellKnown05.tab5 panachetop_ellKnown05.bits5 (fun HT_ HW_ => ?_)
       generalize w34.drew = w55 at HO169 HO179 HO182 HO185 BK170 BK174 HB hHeld ⊢
       refine pureA (i := 0) (N := some 35) HT_ ?_
       refine pureA (i := 1) (N := some 36) HT_ ?_
       refine pureA (i := 2) (N := some 37) HT_ ?_
       refine pureA (i := 3) (N := some 38) HT_ ?_
       refine pureA (i := 4) (N := some 39) HT_ ?_
       refine pureA (i := 5) (N := some 40) HT_ ?_
       refine pureA (i := 6) (N := some 41) HT_ ?_
       refine pureA (i := 7) (N := some 42) HT_ ?_
       refine pureA (i := 8) (N := some 43) HT_ ?_
       refine pureA (i := 9) (N := some 44) HT_ ?_
       refine pureA (i := 10) (N := some 45) HT_ ?_
       refine takeA (i := 11) (N := some 46) HT_ HW_ hHeld ?_
       refine oneA (i := 12) (N := some 47) HT_ (fun K hK => ?_)
       refine goesB Tryz.func15 #[.int .i64 16, .int .i64 19] ?_
       with_reducible refine (panachetop_ellSpan.calls 16 19 t187 t188 _ A38.out).mono ?_
       rintro e w56 ⟨rfl, hb⟩
       refine ⟨_, rfl, ?_⟩
       replace HO169 := rB HO169 hb
       replace HO179 := rB HO179 hb
       replace HO182 := rB HO182 hb
       replace HO185 := rB HO185 hb
       replace BK170 := kB BK170 hb
       replace BK174 := kB BK174 hb
       replace HB := bS HB hb
       (try clear hb)
       (try clear hb2)
       (try clear hk)
       (try clear hi)
       refine hK.out _ _ ⟨(blk_cell BK174.out 0).trans rfl, (blk_cell BK174.out 1).trans rfl⟩ (fun hHeld => ?_)
       clear hK K
       refine normA (N := some 47) ?_
       refine pureA (i := 13) (N := some 48) HT_ ?_
       refine pureA (i := 14) (N := some 49) HT_ ?_
       refine pureA (i := 15) (N := some 50) HT_ ?_
       refine pureA (i := 16) (N := some 51) HT_ ?_
       refine pureA (i := 17) (N := some 52) HT_ ?_
       refine pureA (i := 18) (N := some 53) HT_ ?_
       refine pureA (i := 19) (N := some 54) HT_ ?_
       refine pureB (i := 20) (N := some 55) HT_ ?_
       refine pureB (i := 21) (N := some 56) HT_ ?_
       refine pureB (i := 22) (N := some 57) HT_ ?_
       refine pureA (i := 23) (N := some 58) HT_ ?_
       refine pureA (i := 24) (N := some 59) HT_ ?_
       refine pureB (i := 25) (N := some 60) HT_ ?_
       refine pureB (i := 26) (N := some 61) HT_ ?_
       refine pureB (i := 27) (N := some 62) HT_ ?_
       refine pureB (i := 28) (N := some 63) HT_ ?_
       refine pureA (i := 29) (N := some 64) HT_ ?_
       refine pureA (i := 30) (N := some 65) HT_ ?_
       refine pureB (i := 31) (N := some 66) HT_ ?_
       refine pureA (i := 32) (N := some 67) HT_ ?_
       refine pureA (i := 33) (N := some 0) HT_ ?_
       refine done_ (done_of HT_.out (by kernel_rfl)) ?_
       try go_wp2
       go_meet
       case rel => exact ⟨_, (false), (by first | rfl | (simp; done) | (simp [*]; done)), H', ⟨by first | omega | exact Nat.le_refl _⟩, ⟨rX HO169.out⟩, ⟨kX BK170.out⟩, ⟨kX BK174.out⟩, ⟨bX HB⟩⟩
     ·rw [if_neg c39] at H
      have c39b0 : (t171 == t187 && (t172 == t188)) = false := by simpa using c39
      (try (have c39b1 : decide (t171 = t187 && (t172 == t188)) = false := by simpa using c39))
      (try (have c39b2 : (t171 == t187 && (t172 == t188)) = false := by simpa using c39))
      (try (have c39b3 : ¬ (t171 = t187 && (t172 == t188)) := by simpa using c39))
      clear c39
      have H' := Aside0.mk H
      clear H
      try go_wp2
      replace HO169 := Aside0.mk (Kd.R_drew HO169.out)
      replace HO179 := Aside0.mk (Kd.R_drew HO179.out)
      replace HO182 := Aside0.mk (Kd.R_drew HO182.out)
      replace HO185 := Aside0.mk (Kd.R_drew HO185.out)
      replace BK170 := Aside0.mk (blk_drew BK170.out)
      replace BK174 := Aside0.mk (blk_drew BK174.out)
      replace HB := Aside0.mk (below_drew1 HB.out)
      refine start_ (n := 34) (S := fun w' => w'.cell? ⟨gb174, 0, none⟩ = some (.int .i64 t171) ∧ w'.cell? ⟨gb174, 1, none⟩ = some (.int .i64 t172)) (ds := []) #[false, false, false, false, false, false, false, false, false, false, false, false, false, false, false, false, false, false, false, false, false, false, false, false, false, false, false, false, false, false, false, false, false, false] (by kernel_rfl) rfl rfl ⟨(blk_cell BK174.out 0).trans rfl, (blk_cell BK174.out 1).trans rfl⟩ (fun hHeld => ?_); refine with_tabW panachetop_ellKnown05.tab5 panachetop_ellKnown05.bits5 (fun HT_ HW_ => ?_)
      generalize w34.drew = w57 at HO169 HO179 HO182 HO185 BK170 BK174 HB hHeld ⊢
      refine pureA (i := 0) (N := some 35) HT_ ?_
      refine pureA (i := 1) (N := some 36) HT_ ?_
      refine pureA (i := 2) (N := some 37) HT_ ?_
      refine pureA (i := 3) (N := some 38) HT_ ?_
      refine pureA (i := 4) (N := some 39) HT_ ?_
      refine pureA (i := 5) (N := some 40) HT_ ?_
      refine pureA (i := 6) (N := some 41) HT_ ?_
      refine pureA (i := 7) (N := some 42) HT_ ?_
      refine pureA (i := 8) (N := some 43) HT_ ?_
      refine pureA (i := 9) (N := some 44) HT_ ?_
      refine pureA (i := 10) (N := some 45) HT_ ?_
      refine takeA (i := 11) (N := some 46) HT_ HW_ hHeld ?_
      refine oneA (i := 12) (N := some 47) HT_ (fun K hK => ?_)
      refine goesB Tryz.func15 #[.int .i64 16, .int .i64 19] ?_
      with_reducible refine (panachetop_ellSpan.calls 16 19 t187 t188 _ A38.out).mono ?_
      rintro e w58 ⟨rfl, hb⟩
      refine ⟨_, rfl, ?_⟩
      replace HO169 := rB HO169 hb
      replace HO179 := rB HO179 hb
      replace HO182 := rB HO182 hb
      replace HO185 := rB HO185 hb
      replace BK170 := kB BK170 hb
      replace BK174 := kB BK174 hb
      replace HB := bS HB hb
      (try clear hb)
      (try clear hb2)
      (try clear hk)
      (try clear hi)
      refine hK.out _ _ ⟨(blk_cell BK174.out 0).trans rfl, (blk_cell BK174.out 1).trans rfl⟩ (fun hHeld => ?_)
      clear hK K
      refine normA (N := some 47) ?_
      refine pureA (i := 13) (N := some 48) HT_ ?_
      refine pureA (i := 14) (N := some 49) HT_ ?_
      refine pureA (i := 15) (N := some 50) HT_ ?_
      refine pureB (i := 16) (N := some 51) HT_ ?_
      refine pureB (i := 17) (N := some 52) HT_ ?_
      refine pureA (i := 18) (N := some 53) HT_ ?_
      refine pureA (i := 19) (N := some 54) HT_ ?_
      refine pureB (i := 20) (N := some 55) HT_ ?_
      refine pureB (i := 21) (N := some 56) HT_ ?_
      refine pureB (i := 22) (N := some 57) HT_ ?_
      refine pureA (i := 23) (N := some 58) HT_ ?_
      refine pureA (i := 24) (N := some 59) HT_ ?_
      refine pureB (i := 25) (N := some 60) HT_ ?_
      refine pureB (i := 26) (N := some 61) HT_ ?_
      refine pureB (i := 27) (N := some 62) HT_ ?_
      refine pureB (i := 28) (N := some 63) HT_ ?_
      refine pureA (i := 29) (N := some 64) HT_ ?_
      refine pureA (i := 30) (N := some 65) HT_ ?_
      refine pureB (i := 31) (N := some 66) HT_ ?_
      refine pureA (i := 32) (N := some 67) HT_ ?_
      refine pureA (i := 33) (N := some 0) HT_ ?_
      refine done_ (done_of HT_.out (by kernel_rfl)) ?_
      try go_wp2
      go_meet
      case rel => exact ⟨_, (false), (by first | rfl | (simp; done) | (simp [*]; done)), H', ⟨by first | omega | exact Nat.le_refl _⟩, ⟨rX HO169.out⟩, ⟨kX BK170.out⟩, ⟨kX BK174.out⟩, ⟨bX HB⟩⟩
    ·rw [if_neg c37] at H
     have c37b0 : (t186 == 0) = false := beq_eq_false_iff_ne.mpr c37
     have c37b1 : (t186 != 0) = true := bne_iff_ne.mpr c37
     have H' := Aside0.mk H
     clear H
     try go_wp2
     replace HO169 := Aside0.mk (Kd.R_drew HO169.out)
     replace HO179 := Aside0.mk (Kd.R_drew HO179.out)
     replace HO182 := Aside0.mk (Kd.R_drew HO182.out)
     replace HO185 := Aside0.mk (Kd.R_drew HO185.out)
     replace BK170 := Aside0.mk (blk_drew BK170.out)
     replace BK174 := Aside0.mk (blk_drew BK174.out)
     replace HB := Aside0.mk (below_drew1 HB.out)
     refine start_ (n := 34) (S := fun w' => True) (ds := []) #[false, false, false, false, false, false, false, false, false, false, false, false, false, false, false, false, false, false, false, false, false, false, false, false, false, false, false, false, false, false, false, false, false, false] (by kernel_rfl) rfl rfl trivial (fun hHeld => ?_); refine with_tabW panachetop_ellKnown05.tab5 panachetop_ellKnown05.bits5 (fun HT_ HW_ => ?_)
     generalize w34.drew = w59 at HO169 HO179 HO182 HO185 BK170 BK174 HB hHeld ⊢
     refine pureA (i := 0) (N := some 35) HT_ ?_
     refine pureA (i := 1) (N := some 36) HT_ ?_
     refine pureA (i := 2) (N := some 37) HT_ ?_
     refine pureA (i := 3) (N := some 38) HT_ ?_
     refine pureA (i := 4) (N := some 39) HT_ ?_
     refine pureA (i := 5) (N := some 40) HT_ ?_
     refine pureA (i := 6) (N := some 41) HT_ ?_
     refine pureA (i := 7) (N := some 42) HT_ ?_
     refine pureA (i := 8) (N := some 43) HT_ ?_
     refine pureA (i := 9) (N := some 44) HT_ ?_
     refine pureA (i := 10) (N := some 45) HT_ ?_
     refine pureB (i := 11) (N := some 46) HT_ ?_
     refine pureB (i := 12) (N := some 47) HT_ ?_
     refine pureB (i := 13) (N := some 48) HT_ ?_
     refine pureA (i := 14) (N := some 49) HT_ ?_
     refine pureA (i := 15) (N := some 50) HT_ ?_
     refine pureB (i := 16) (N := some 51) HT_ ?_
     refine pureB (i := 17) (N := some 52) HT_ ?_
     refine pureA (i := 18) (N := some 53) HT_ ?_
     refine pureA (i := 19) (N := some 54) HT_ ?_
     refine pureB (i := 20) (N := some 55) HT_ ?_
     refine pureB (i := 21) (N := some 56) HT_ ?_
     refine pureB (i := 22) (N := some 57) HT_ ?_
     refine pureA (i := 23) (N := some 58) HT_ ?_
     refine pureA (i := 24) (N := some 59) HT_ ?_
     refine pureB (i := 25) (N := some 60) HT_ ?_
     refine pureB (i := 26) (N := some 61) HT_ ?_
     refine pureB (i := 27) (N := some 62) HT_ ?_
     refine pureB (i := 28) (N := some 63) HT_ ?_
     refine pureA (i := 29) (N := some 64) HT_ ?_
     refine pureA (i := 30) (N := some 65) HT_ ?_
     refine pureB (i := 31) (N := some 66) HT_ ?_
     refine pureA (i := 32) (N := some 67) HT_ ?_
     refine pureA (i := 33) (N := some 0) HT_ ?_
     refine done_ (done_of HT_.out (by kernel_rfl)) ?_
     try go_wp2
     go_meet
     case rel => exact ⟨_, (false), (by first | rfl | (simp; done) | (simp [*]; done)), H', ⟨by first | omega | exact Nat.le_refl _⟩, ⟨rX HO169.out⟩, ⟨kX BK170.out⟩, ⟨kX BK174.out⟩, ⟨bX HB⟩⟩
   ·rw [if_neg c36] at H
    have c36b0 : (t176 == 0) = false := beq_eq_false_iff_ne.mpr c36
    have c36b1 : (t176 != 0) = true := bne_iff_ne.mpr c36
    have H' := Aside0.mk H
    clear H
    try go_wp2
    replace HO169 := Aside0.mk (Kd.R_drew HO169.out)
    replace HO179 := Aside0.mk (Kd.R_drew HO179.out)
    replace HO182 := Aside0.mk (Kd.R_drew HO182.out)
    replace HO185 := Aside0.mk (Kd.R_drew HO185.out)
    replace BK170 := Aside0.mk (blk_drew BK170.out)
    replace BK174 := Aside0.mk (blk_drew BK174.out)
    replace HB := Aside0.mk (below_drew1 HB.out)
    refine start_ (n := 34) (S := fun w' => True) (ds := []) #[false, false, false, false, false, false, false, false, false, false, false, false, false, false, false, false, false, false, false, false, false, false, false, false, false, false, false, false, false, false, false, false, false, false] (by kernel_rfl) rfl rfl trivial (fun hHeld => ?_); refine with_tabW panachetop_ellKnown05.tab5 panachetop_ellKnown05.bits5 (fun HT_ HW_ => ?_)
    generalize w34.drew = w60 at HO169 HO179 HO182 HO185 BK170 BK174 HB hHeld ⊢
    refine pureA (i := 0) (N := some 35) HT_ ?_
    refine pureA (i := 1) (N := some 36) HT_ ?_
    refine pureA (i := 2) (N := some 37) HT_ ?_
    refine pureA (i := 3) (N := some 38) HT_ ?_
    refine pureA (i := 4) (N := some 39) HT_ ?_
    refine pureA (i := 5) (N := some 40) HT_ ?_
    refine pureA (i := 6) (N := some 41) HT_ ?_
    refine pureB (i := 7) (N := some 42) HT_ ?_
    refine pureB (i := 8) (N := some 43) HT_ ?_
    refine pureA (i := 9) (N := some 44) HT_ ?_
    refine pureA (i := 10) (N := some 45) HT_ ?_
    refine pureB (i := 11) (N := some 46) HT_ ?_
    refine pureB (i := 12) (N := some 47) HT_ ?_
    refine pureB (i := 13) (N := some 48) HT_ ?_
    refine pureA (i := 14) (N := some 49) HT_ ?_
    refine pureA (i := 15) (N := some 50) HT_ ?_
    refine pureB (i := 16) (N := some 51) HT_ ?_
    refine pureB (i := 17) (N := some 52) HT_ ?_
    refine pureA (i := 18) (N := some 53) HT_ ?_
    refine pureA (i := 19) (N := some 54) HT_ ?_
    refine pureB (i := 20) (N := some 55) HT_ ?_
    refine pureB (i := 21) (N := some 56) HT_ ?_
    refine pureB (i := 22) (N := some 57) HT_ ?_
    refine pureA (i := 23) (N := some 58) HT_ ?_
    refine pureA (i := 24) (N := some 59) HT_ ?_
    refine pureB (i := 25) (N := some 60) HT_ ?_
    refine pureB (i := 26) (N := some 61) HT_ ?_
    refine pureB (i := 27) (N := some 62) HT_ ?_
    refine pureB (i := 28) (N := some 63) HT_ ?_
    refine pureA (i := 29) (N := some 64) HT_ ?_
    refine pureA (i := 30) (N := some 65) HT_ ?_
    refine pureB (i := 31) (N := some 66) HT_ ?_
    refine pureA (i := 32) (N := some 67) HT_ ?_
    refine pureA (i := 33) (N := some 0) HT_ ?_
    refine done_ (done_of HT_.out (by kernel_rfl)) ?_
    try go_wp2
    go_meet
    case rel => exact ⟨_, (false), (by first | rfl | (simp; done) | (simp [*]; done)), H', ⟨by first | omega | exact Nat.le_refl _⟩, ⟨rX HO169.out⟩, ⟨kX BK170.out⟩, ⟨kX BK174.out⟩, ⟨bX HB⟩⟩
  ·rw [if_neg c35] at H
   have c35b0 : (t173 == 0) = false := beq_eq_false_iff_ne.mpr c35
   have c35b1 : (t173 != 0) = true := bne_iff_ne.mpr c35
   (first | rw [c35b0] | (simp only [i64_w, i32_w]; rw [c35b0]) | skip)
   have H' := Aside0.mk H
   clear H
   try go_wp2
   replace HO169 := Aside0.mk (Kd.R_drew HO169.out)
   replace HO179 := Aside0.mk (Kd.R_drew HO179.out)
   replace HO182 := Aside0.mk (Kd.R_drew HO182.out)
   replace HO185 := Aside0.mk (Kd.R_drew HO185.out)
   replace BK170 := Aside0.mk (blk_drew BK170.out)
   replace BK174 := Aside0.mk (blk_drew BK174.out)
   replace HB := Aside0.mk (below_drew1 HB.out)
   refine start_ (n := 34) (S := fun w' => True) (ds := []) #[false, false, false, false, false, false, false, false, false, false, false, false, false, false, false, false, false, false, false, false, false, false, false, false, false, false, false, false, false, false, false, false, false, false] (by kernel_rfl) rfl rfl trivial (fun hHeld => ?_); refine with_tabW panachetop_ellKnown05.tab5 panachetop_ellKnown05.bits5 (fun HT_ HW_ => ?_)
   generalize w34.drew = w61 at HO169 HO179 HO182 HO185 BK170 BK174 HB hHeld ⊢
   refine pureA (i := 0) (N := some 35) HT_ ?_
   refine pureA (i := 1) (N := some 36) HT_ ?_
   refine pureA (i := 2) (N := some 37) HT_ ?_
   refine pureB (i := 3) (N := some 38) HT_ ?_
   refine pureB (i := 4) (N := some 39) HT_ ?_
   refine pureA (i := 5) (N := some 40) HT_ ?_
   refine pureA (i := 6) (N := some 41) HT_ ?_
   refine pureB (i := 7) (N := some 42) HT_ ?_
   refine pureB (i := 8) (N := some 43) HT_ ?_
   refine pureA (i := 9) (N := some 44) HT_ ?_
   refine pureA (i := 10) (N := some 45) HT_ ?_
   refine pureB (i := 11) (N := some 46) HT_ ?_
   refine pureB (i := 12) (N := some 47) HT_ ?_
   refine pureB (i := 13) (N := some 48) HT_ ?_
   refine pureA (i := 14) (N := some 49) HT_ ?_
   refine pureA (i := 15) (N := some 50) HT_ ?_
   refine pureB (i := 16) (N := some 51) HT_ ?_
   refine pureB (i := 17) (N := some 52) HT_ ?_
   refine pureA (i := 18) (N := some 53) HT_ ?_
   refine pureA (i := 19) (N := some 54) HT_ ?_
   refine pureB (i := 20) (N := some 55) HT_ ?_
   refine pureB (i := 21) (N := some 56) HT_ ?_
   refine pureB (i := 22) (N := some 57) HT_ ?_
   refine pureA (i := 23) (N := some 58) HT_ ?_
   refine pureA (i := 24) (N := some 59) HT_ ?_
   refine pureB (i := 25) (N := some 60) HT_ ?_
   refine pureB (i := 26) (N := some 61) HT_ ?_
   refine pureB (i := 27) (N := some 62) HT_ ?_
   refine pureB (i := 28) (N := some 63) HT_ ?_
   refine pureA (i := 29) (N := some 64) HT_ ?_
   refine pureA (i := 30) (N := some 65) HT_ ?_
   refine pureB (i := 31) (N := some 66) HT_ ?_
   refine pureA (i := 32) (N := some 67) HT_ ?_
   refine pureA (i := 33) (N := some 0) HT_ ?_
   refine done_ (done_of HT_.out (by kernel_rfl)) ?_
   try go_wp2
   go_meet
   case rel => exact ⟨_, (false), (by first | rfl | (simp; done) | (simp [*]; done)), H', ⟨by first | omega | exact Nat.le_refl _⟩, ⟨rX HO169.out⟩, ⟨kX BK170.out⟩, ⟨kX BK174.out⟩, ⟨bX HB⟩⟩
 case rest =>
  clear HC10
  try clear p2
  try clear c3
  try clear c35
  try clear c35b0
  try clear c35b1
  try clear c36
  try clear c36b0
  try clear c36b1
  obtain ⟨kq, x0_9, rfl, HA, HJ9, HO_171004, BK170, BK174, HB⟩ := hcut
  cases kq with
  | zero => exact absurd HA.out (by simp [panachetop_ellKnown05.j0])
  | succ kj9 =>
   have H := HA.out
   clear HA
   simp only [panachetop_ellKnown05.j0] at H
   obtain rfl := Option.some.inj H
   go_wp2
   go_ret
   exact ⟨by first | rfl | (simp [errW_none, errW_some] <;> rfl) | (simp [*, errW_none, errW_some] <;> rfl), bX HB⟩
end Go.Proofs.YtgdkmadcegleiaaGreatDoor.PKno
end
section
namespace Go.Proofs.YtgdkmadcegleiaaGreatDoor.PKno
open Go.RowKit Go.Proofs.YtgdkmadcegleiaaGreatDoorW.PrintWords Go.Proofs.YtgdkmadcegleiaaGreatDoorW.PrintLast Go.Proofs.YtgdkmadcegleiaaGreatDoorW.PrintMore Go.Proofs.YtgdkmadcegleiaaGreatDoor.X Go.Proofs.YtgdkmadcegleiaaGreatDoor.Z
attribute [local go_sem] max2_int min2_int max_two min_two max_three min_three max_four min_four   -- for this text's walks alone
set_option linter.unusedVariables false
set_option linter.unusedSimpArgs false
end Go.Proofs.YtgdkmadcegleiaaGreatDoor.PKno
end
section
/- The known answers of chapter 5 are what they should be. -/
namespace Go.Proofs.YtgdkmadcegleiaaGreatDoor.Z
open Go.RowKit Go.Proofs.YtgdkmadcegleiaaGreatDoor.X Go.Proofs.YtgdkmadcegleiaaGreatDoorW.PrintWords Go.Proofs.YtgdkmadcegleiaaGreatDoorW.PrintLast Go.Proofs.YtgdkmadcegleiaaGreatDoorW.PrintMore
def panachetop_ellKnown05.f : Option Bool := some true
theorem known_true : PKno.panachetop_ellKnown05.f 60 = some true := by decide +kernel
theorem panachetop_ellKnown05.calls (r : Bool) (w : World) (h : panachetop_ellKnown05.f = some r) (hT : Tabs w) :
    Calls Tryz.prog 9 #[] w fun e w' => e = .returned (.bool r) ∧ Below w.heap.size w w' := by
  obtain rfl := Option.some.inj h
  exact PKno.panachetop_ellKnown05.calls 60 true w known_true hT
end Go.Proofs.YtgdkmadcegleiaaGreatDoor.Z
end
section
/- What the row TopEnoughSticks takes as given besides: stick.Give, without fuel. -/
namespace Go.Proofs.YtgdkmadcegleiaaGreatDoor.Z
open Go.RowKit Go.Proofs.YtgdkmadcegleiaaGreatDoor.X Go.Proofs.YtgdkmadcegleiaaGreatDoorW.PrintWords Go.Proofs.YtgdkmadcegleiaaGreatDoorW.PrintLast Go.Proofs.YtgdkmadcegleiaaGreatDoorW.PrintMore
abbrev stick_Give.f := PGiv.stick_Give.f 60
theorem stick_Give.calls : type_of% (PGiv.stick_Give.calls 60) := PGiv.stick_Give.calls 60
end Go.Proofs.YtgdkmadcegleiaaGreatDoor.Z
end
section
namespace Go.Proofs.YtgdkmadcegleiaaGreatDoor.PEno
open Go.RowKit Go.Proofs.YtgdkmadcegleiaaGreatDoorW.PrintWords Go.Proofs.YtgdkmadcegleiaaGreatDoorW.PrintLast Go.Proofs.YtgdkmadcegleiaaGreatDoorW.PrintMore Go.Proofs.YtgdkmadcegleiaaGreatDoor.X Go.Proofs.YtgdkmadcegleiaaGreatDoor.Z
attribute [local go_sem] max2_int min2_int max_two min_two max_three min_three max_four min_four   -- for this text's walks alone
set_option linter.unusedVariables false
set_option linter.unusedSimpArgs false
def errW : Option Int → Value
  | none => .nilIface
  | some c => .iface 0 (.int .i64 c)
theorem errW_none : errW none = .nilIface := rfl
theorem errW_some (c : Int) : errW (some c) = .iface 0 (.int .i64 c) := rfl
theorem info47 : (Tryz.prog.info? 47).map (fun i => (i.zero, i.size, i.bytes)) = some (some (.agg #[(.int .i64 0), (.int .i64 0), (.int .i64 0), (.int .i64 0)]), 4, 32) := by kernel_rfl
-- the values' own types
structure S26 where
  f0 : Int
  f1 : Int
def z26 : S26 := ⟨(0 : Int), (0 : Int)⟩
def k26 : Kd S26 := Kd.iso (Kd.pair (Kd.int .u8) (Kd.int .u8)) (fun x : S26 => (x.f0, x.f1))
theorem k26_open {w : World} {x : S26} {cs : List Value} (h : k26.K w x cs) : cs = [.int .u8 x.f0, .int .u8 x.f1] := by
  obtain ⟨_, _, rfl, rfl, rfl⟩ := h
  exact rfl
theorem k26_mk (w : World) (x : S26)  : k26.K w x [.int .u8 x.f0, .int .u8 x.f1] := ⟨[.int .u8 x.f0], [.int .u8 x.f1], rfl, rfl, rfl⟩
def rd_T26 (xs : List S26) (i : Int) : S26 := xs.getD i.toNat z26
theorem at_T26 {w : World} {A : Option Addr} {n : Nat} {xs : List S26} (h : Kd.C k26 w A n xs) (i : Int) (h0 : 0 ≤ i) (h1 : i < n) : ∃ ad , A = some ad ∧ w.cell? (ad.add (i.toNat * 2)) = some (.int .u8 (rd_T26 xs i).f0) ∧ w.cell? ⟨(ad.add (i.toNat * 2)).block, (ad.add (i.toNat * 2)).off + 1, none⟩ = some (.int .u8 (rd_T26 xs i).f1) := by
  obtain ⟨ad, c, e, _, hK, hc0⟩ := Kd.C_get h z26 i h0 h1
  have hc : ∀ j u, c[j]? = some u → w.cell? (ad.add (i.toNat * 2 + j)) = some u := hc0
  obtain rfl := k26_open hK
  exact ⟨ad, e, hc 0 _ rfl, by rw [← add_field _ _ 1 (by omega)]; exact hc 1 _ rfl⟩
end Go.Proofs.YtgdkmadcegleiaaGreatDoor.PEno
end
