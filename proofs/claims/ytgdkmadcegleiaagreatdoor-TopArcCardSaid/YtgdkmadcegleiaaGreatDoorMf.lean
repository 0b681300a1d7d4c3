/- Part 6 of this claim's texts, put together by a program of its author: PTopArcx2, PTopArcx3, PTopArcx, ArcEnd, Horn, ArcLaw, ArcRow, ArcCard. -/
import Derived.Test.YtgdkmadcegleiaaGreatDoorMb
import Derived.Test.YtgdkmadcegleiaaGreatDoorMe
import Derived.Test.YtgdkmadcegleiaaGreatDoorRows
import Derived.Lib.LaidU8
import Derived.Deep.DeepHandedRow
import Derived.Deep.DeepWitnessRowRef
import Derived.ProofKit
import Derived.ChangeSame
import Derived.SizedLaws
import Derived.Carry
import Derived.OpenShut
import Derived.Laws.IdiomArrays
import Derived.Lib.LaidIn
import Derived.Test.YtgdkmadcegleiaaGreatDoorTie
import Derived.Test.YtgdkmadcegleiaaGreatDoorCards
import Derived.SevenTiedAt
section
namespace Go.Proofs.YtgdkmadcegleiaaGreatDoor.PTopArc
open Go.RowKit Go.Proofs.YtgdkmadcegleiaaGreatDoor.Sq Go.Proofs.YtgdkmadcegleiaaGreatDoorW.PrintWords Go.Proofs.YtgdkmadcegleiaaGreatDoorW.PrintLast Go.Proofs.YtgdkmadcegleiaaGreatDoorW.PrintMore Go.Proofs.YtgdkmadcegleiaaGreatDoor.X Go.Proofs.YtgdkmadcegleiaaGreatDoor.Z
attribute [local go_sem] max2_int min2_int max_two min_two max_three min_three max_four min_four   -- for this text's walks alone
set_option linter.unusedVariables false
set_option linter.unusedSimpArgs false
def panachetop_ellFan.f (a0_0 : Int) (a0_1 : Int) (a0_2 : Int) (a0_3 : Int) (l0_4 : List (S47)) : Option (Int × Int × Int × Int × (List (S47))) := (some (([] : List (S47)) : List (S47))).bind fun y120 => (if y120.length + l0_4.length < 4398046511104 then (some (a0_0, a0_1, a0_2, a0_3, (y120 ++ l0_4))) else (none))
def panachetop_ellFan.T1 : Bool × List (List Nat × List Nat) := (true, [([], []), ([0], [0]), ([], []), ([2], [2]), ([], []), ([], []), ([5], [5]), ([4, 6], [4, 6]), ([1, 3, 7], [1, 3, 7]), ([8, 7, 0, 1, 2, 3, 4, 5, 6, 7, 8], [8])])
def panachetop_ellFan.B1 : List Nat := [0, 1, 0, 4, 0, 0, 32, 112, 255, 511]
theorem panachetop_ellFan.tab1 : rtab .any (opsOf Tryz.f8 1) = panachetop_ellFan.T1 := by kernel_rfl
theorem panachetop_ellFan.bits1 : waitsOk panachetop_ellFan.T1.2 panachetop_ellFan.B1 = true := by kernel_rfl
set_option maxHeartbeats 8000000 in
set_option maxRecDepth 100000 in
theorem panachetop_ellFan.calls (a0_0 : Int) (a0_1 : Int) (a0_2 : Int) (a0_3 : Int) (A0_4 : Option Addr) (c0_4 : Nat) (l0_4 : List (S47)) (r1 : Int) (r2 : Int) (r3 : Int) (r4 : Int) (r5 : List (S47)) (w : World) (hr0_4 : Kd.C k47 w A0_4 l0_4.length l0_4) (hc0_4 : l0_4.length ≤ c0_4) (h : panachetop_ellFan.f a0_0 a0_1 a0_2 a0_3 l0_4 = some (r1, r2, r3, r4, r5)) :
  Calls Tryz.prog 8 #[.agg #[.int .i64 a0_0, .int .i64 a0_1, .int .i64 a0_2, .int .i64 a0_3, .slice A0_4 l0_4.length c0_4]] w fun e w' => ∃ v4_ : Value, e = .returned (.agg #[.int .i64 r1, .int .i64 r2, .int .i64 r3, .int .i64 r4, v4_]) ∧ Kd.R k47 47 w' w.heap.size (fun _ => True) v4_ r5 ∧ Below w.heap.size w w' := by
 have hu33 := Tryz.underlying33
 have hu30 := Tryz.underlying30
 have HR0_4 := Aside0.mk hr0_4
 have HC0_4 := Aside0.mk hc0_4
 clear hr0_4 hc0_4
 have HB := Aside0.mk (Below.refl w.heap.size w)
 have H : ((some (([] : List (S47)) : List (S47))).bind fun y120 => (if y120.length + l0_4.length < 4398046511104 then (some (a0_0, a0_1, a0_2, a0_3, (y120 ++ l0_4))) else (none))) = some (r1, r2, r3, r4, r5) := h
 clear h
 obtain ⟨y120, hy120⟩ : ∃ y_ : List (S47), y_ = (([] : List (S47))) := ⟨_, rfl⟩
 replace H : (if y120.length + l0_4.length < 4398046511104 then (some (a0_0, a0_1, a0_2, a0_3, (y120 ++ l0_4))) else (none)) = some (r1, r2, r3, r4, r5) := by first | (rw [hy120]; with_reducible exact H) | (have H2_ := (Option.bind_some _ _).symm.trans H; rw [hy120]; with_reducible exact H2_) | (have H2_ := (Option.bind_some _ _).symm.trans H; with_reducible exact H2_) | with_reducible exact H | (rw [hy120]; exact H) | exact H
 have Ny120 := Aside0.mk hy120
 clear hy120
 by_cases c2 : y120.length + l0_4.length < 4398046511104
 ·rw [if_pos c2] at H
  have LMc2 := Aside0.mk c2
  clear c2
  obtain ⟨y123, hy123⟩ : ∃ y_ : List (S47), y_ = (y120 ++ l0_4) := ⟨_, rfl⟩
  replace H : (some (a0_0, a0_1, a0_2, a0_3, y123)) = some (r1, r2, r3, r4, r5) := by first | (rw [hy123]; with_reducible exact H) | (have H2_ := (Option.bind_some _ _).symm.trans H; rw [hy123]; with_reducible exact H2_) | (have H2_ := (Option.bind_some _ _).symm.trans H; with_reducible exact H2_) | with_reducible exact H | (rw [hy123]; exact H) | exact H
  have Ny123 := Aside0.mk hy123
  clear hy123
  simp only [Option.some.injEq, Prod.mk.injEq] at H
  obtain ⟨rfl, rfl, rfl, rfl, rfl⟩ := H
  go_enter Tryz.func8, Tryz.ntmps8
  try go_wp2_with (first | ((with_reducible refine gate_dst (N := 1) rfl ?_); refine boxA (N := 1) (cs := #[.int .i64 a0_0, .int .i64 a0_1, .int .i64 a0_2, .int .i64 a0_3, .slice A0_4 l0_4.length c0_4]) (t := 33) ?_; intro gb118 hg w3 hbox hb; have BK118 := Aside0.mk (hbox); have GW118 := bG HB hg; have GE118 := bG HB hg; replace HB := bS HB hb; clear hb hbox hg) | ((with_reducible refine gate_dst (N := 2) rfl ?_); refine boxA (N := 2) (cs := #[.int .i64 0, .int .i64 0, .int .i64 0, .int .i64 0, .slice none 0 0]) (t := 33) ?_; intro gb119 hg w4 hbox hb; have BK119 := Aside0.mk (hbox); have GW119 := bG HB hg; have GE119 := bG HB hg; have NB118_119 := kN BK118 hg; have NB119_118 := kM BK118 hg; replace BK118 := kB BK118 hb; replace HB := bS HB hb; clear hb hbox hg))
  replace BK118 := Aside0.mk (blk_drew BK118.out)
  replace BK119 := Aside0.mk (blk_drew BK119.out)
  replace HB := Aside0.mk (below_drew1 HB.out)
  refine start_ (n := 10) (S := fun w' => w'.cell? ⟨gb118, 0, none⟩ = some (.int .i64 a0_0) ∧ w'.cell? ⟨gb118, 1, none⟩ = some (.int .i64 a0_1) ∧ w'.cell? ⟨gb118, 2, none⟩ = some (.int .i64 a0_2) ∧ w'.cell? ⟨gb118, 3, none⟩ = some (.int .i64 a0_3) ∧ w'.cell? ⟨gb118, 4, none⟩ = some (.slice A0_4 l0_4.length c0_4)) (ds := []) #[false, false, false, false, false, false, false, false, false, false] (by kernel_rfl) rfl rfl ⟨(blk_cell BK118.out 0).trans rfl, (blk_cell BK118.out 1).trans rfl, (blk_cell BK118.out 2).trans rfl, (blk_cell BK118.out 3).trans rfl, (blk_cell BK118.out 4).trans rfl⟩ (fun hHeld => ?_); refine with_tabW panachetop_ellFan.tab1 panachetop_ellFan.bits1 (fun HT_ HW_ => ?_)
  generalize w4.drew = w5 at BK118 BK119 HB hHeld ⊢
  refine pureA (i := 0) (N := some 3) HT_ ?_
  refine pureA (i := 2) (N := some 5) HT_ ?_
  refine pureA (i := 5) (N := some 8) HT_ ?_
  refine takeA (i := 1) (N := some 4) HT_ HW_ hHeld ?_
  refine takeA (i := 3) (N := some 6) HT_ HW_ hHeld ?_
  refine takeA (i := 6) (N := some 9) HT_ HW_ hHeld ?_
  refine oneA (i := 4) (N := some 7) HT_ (fun K hK => ?_)
  refine Kd.R_lit_step k47 _ 47 ?hg (N := 7) ?hd (xs := ([] : List (S47))) (inner := []) (ok := fun _ => True) (okp := fun _ => True) ?hr ?hp (fun _ hk => hk) trivial (Below.refl _ _) (Nat.le_refl _) (by simp) ?_; (case hd => rfl); (case hg => rfl); (case hr => first | (go_simp; done) | (go_simp; rfl)); (case hp => exact (Reps.none _ _))
  intro v121 w6 ho7 hb hg_ hnew_
  clear hg_ hnew_
  (first | rw [← Ny120.out] at ho7 | (simp only [Int.reduceToNat] at ho7; rw [← Ny120.out] at ho7))
  have HO122 := Aside0.mk (Kd.R_lower ho7 (below_size (bX HB)))
  replace BK118 := kB BK118 hb
  replace BK119 := kB BK119 hb
  replace HB := bS HB hb
  clear hb ho7
  refine hK.out _ _ ⟨(blk_cell BK118.out 0).trans rfl, (blk_cell BK118.out 1).trans rfl, (blk_cell BK118.out 2).trans rfl, (blk_cell BK118.out 3).trans rfl, (blk_cell BK118.out 4).trans rfl⟩ (fun hHeld => ?_)
  clear hK K
  refine normA (N := some 7) ?_
  refine oneA (i := 7) (N := some 10) HT_ (fun K hK => ?_)
  refine Kd.R_append_rows_step k47 (w0 := w) w.heap.size (by rfl) (.tmp 7) (.tmp 9) 31 47 (.agg #[(.int .i64 0), (.int .i64 0), (.int .i64 0), (.int .i64 0)]) 32 rfl Tryz.underlying31 info47 rfl (by decide) (by omega) v121 y120 l0_4 _ _ _ (fun _ => True) (fun _ => False) rfl rfl ?aO ?aR (fun _ _ h => h) (fun _ h => h.elim) ?aF ?aB ?aS ?aL ?_
  (case aR => repeat (first | exact (Kd.C_below HR0_4.out HB.out) | (with_reducible refine Kd.C_alloc ?_ _) | (with_reducible refine Kd.C_drewN ?_ _) | (with_reducible refine Kd.C_drew ?_)))
  (case aB => exact (bX HB))
  (case aF => exact (fun _ _ => trivial))
  (case aO => exact (rX HO122.out))
  (case aS => exact (below_size (bX HB)))
  (case aL => have := LMc2.out; omega)
  intro v124 w8 ho hb hg hat
  rw [← Ny123.out] at ho
  have n0_ := Aside0.mk (blk_grown (g := gb118) (o := .cells #[.int .i64 a0_0, .int .i64 a0_1, .int .i64 a0_2, .int .i64 a0_3, .slice A0_4 l0_4.length c0_4] 33 (0, 0)) (kX BK118.out) hg (Kd.R_ne HO122.out BK118.out (by decide)))
  have n1_ := Aside0.mk (blk_grown (g := gb119) (o := .cells #[.int .i64 0, .int .i64 0, .int .i64 0, .int .i64 0, .slice none 0 0] 33 (0, 0)) (kX BK119.out) hg (Kd.R_ne HO122.out BK119.out (by decide)))
  have n2_ := Aside0.mk (hb)
  have n3_ := Aside0.mk (ho)
  clear BK118
  clear BK119
  clear HB
  clear HO122
  have BK118 := n0_
  have BK119 := n1_
  have HB := n2_
  have HO125 := n3_
  clear n0_ n1_ n2_ n3_
  clear ho hb hg hat
  obtain ⟨Ao9, co9, eo9⟩ := Kd.R_slice HO125.out
  (first | subst eo9 | (injection eo9 with f1_ f2_ f3_; have f4_ := f1_.symm; have f5_ := f3_.symm; clear f1_ f2_ f3_; subst f4_; subst f5_))
  refine hK.out _ _ ⟨(blk_cell BK118.out 0).trans rfl, (blk_cell BK118.out 1).trans rfl, (blk_cell BK118.out 2).trans rfl, (blk_cell BK118.out 3).trans rfl, (blk_cell BK118.out 4).trans rfl⟩ (fun hHeld => ?_)
  clear hK K
  refine normA (N := some 10) ?_
  refine pureA (i := 8) (N := some 11) HT_ ?_
  refine one_ (i := 9) (N := none) #[true, true, true, true, true, true, true, true, true, true] rfl rfl (one_of HT_.out (by kernel_rfl)) (by decide) (fun K hK => ?_)
  have hs10 : w8.cell? ⟨gb119, 0, none⟩ = some (.int .i64 0) := (blk_cell BK119.out 0).trans rfl
  have hfs10 := blk_frozen BK119.out 0
  have hns10_0 := NB118_119.out
  have hms10_0 := NB119_118.out
  have hs11 : w8.cell? ⟨gb119, 1, none⟩ = some (.int .i64 0) := (blk_cell BK119.out 1).trans rfl
  have hfs11 := blk_frozen BK119.out 1
  have hns11_0 := NB118_119.out
  have hms11_0 := NB119_118.out
  have hs12 : w8.cell? ⟨gb119, 2, none⟩ = some (.int .i64 0) := (blk_cell BK119.out 2).trans rfl
  have hfs12 := blk_frozen BK119.out 2
  have hns12_0 := NB118_119.out
  have hms12_0 := NB119_118.out
  have hs13 : w8.cell? ⟨gb119, 3, none⟩ = some (.int .i64 0) := (blk_cell BK119.out 3).trans rfl
  have hfs13 := blk_frozen BK119.out 3
  have hns13_0 := NB118_119.out
  have hms13_0 := NB119_118.out
  have hs14 : w8.cell? ⟨gb119, 4, none⟩ = some (.slice none 0 0) := (blk_cell BK119.out 4).trans rfl
  have hfs14 := blk_frozen BK119.out 4
  have hns14_0 := NB118_119.out
  have hms14_0 := NB119_118.out
  refine skip_ (w1 := ?_) (by rfl) rfl ?_ ?_
  rotate_left
  ·go_simp
   rfl
  refine hK.out _ _ ⟨((cell_far (p := ⟨gb119, _, none⟩) NB118_119.out _).trans (((cell_far (p := ⟨gb119, _, none⟩) NB118_119.out _).trans (((cell_far (p := ⟨gb119, _, none⟩) NB118_119.out _).trans (((cell_far (p := ⟨gb119, _, none⟩) NB118_119.out _).trans (((cell_far (p := ⟨gb119, _, none⟩) NB118_119.out _).trans (hHeld.1)))))))))), ((cell_far (p := ⟨gb119, _, none⟩) NB118_119.out _).trans (((cell_far (p := ⟨gb119, _, none⟩) NB118_119.out _).trans (((cell_far (p := ⟨gb119, _, none⟩) NB118_119.out _).trans (((cell_far (p := ⟨gb119, _, none⟩) NB118_119.out _).trans (((cell_far (p := ⟨gb119, _, none⟩) NB118_119.out _).trans (hHeld.2.1)))))))))), ((cell_far (p := ⟨gb119, _, none⟩) NB118_119.out _).trans (((cell_far (p := ⟨gb119, _, none⟩) NB118_119.out _).trans (((cell_far (p := ⟨gb119, _, none⟩) NB118_119.out _).trans (((cell_far (p := ⟨gb119, _, none⟩) NB118_119.out _).trans (((cell_far (p := ⟨gb119, _, none⟩) NB118_119.out _).trans (hHeld.2.2.1)))))))))), ((cell_far (p := ⟨gb119, _, none⟩) NB118_119.out _).trans (((cell_far (p := ⟨gb119, _, none⟩) NB118_119.out _).trans (((cell_far (p := ⟨gb119, _, none⟩) NB118_119.out _).trans (((cell_far (p := ⟨gb119, _, none⟩) NB118_119.out _).trans (((cell_far (p := ⟨gb119, _, none⟩) NB118_119.out _).trans (hHeld.2.2.2.1)))))))))), ((cell_far (p := ⟨gb119, _, none⟩) NB118_119.out _).trans (((cell_far (p := ⟨gb119, _, none⟩) NB118_119.out _).trans (((cell_far (p := ⟨gb119, _, none⟩) NB118_119.out _).trans (((cell_far (p := ⟨gb119, _, none⟩) NB118_119.out _).trans (((cell_far (p := ⟨gb119, _, none⟩) NB118_119.out _).trans (hHeld.2.2.2.2))))))))))⟩ (fun hHeld => ?_)
  clear hK K
  refine done_ (done_of HT_.out (by kernel_rfl)) ?_
  try go_wp2
  refine bodyPost_ret (results_cell_row rfl _ _ gb119 33 #[.int .i64 a0_0, .int .i64 a0_1, .int .i64 a0_2, .int .i64 a0_3, .slice Ao9 y123.length co9] (0, 0) _ rfl (by (with_reducible repeat (first | refine blk_drewN ?_ _ | refine blk_drew ?_ | refine blk_alloc ?_ _)); refine blk_put (cs := #[.int .i64 a0_0, .int .i64 a0_1, .int .i64 a0_2, .int .i64 a0_3, .slice none 0 0]) ?_ 4 _ rfl; (with_reducible repeat (first | refine blk_drewN ?_ _ | refine blk_drew ?_ | refine blk_alloc ?_ _)); refine blk_put (cs := #[.int .i64 a0_0, .int .i64 a0_1, .int .i64 a0_2, .int .i64 0, .slice none 0 0]) ?_ 3 _ rfl; (with_reducible repeat (first | refine blk_drewN ?_ _ | refine blk_drew ?_ | refine blk_alloc ?_ _)); refine blk_put (cs := #[.int .i64 a0_0, .int .i64 a0_1, .int .i64 0, .int .i64 0, .slice none 0 0]) ?_ 2 _ rfl; (with_reducible repeat (first | refine blk_drewN ?_ _ | refine blk_drew ?_ | refine blk_alloc ?_ _)); refine blk_put (cs := #[.int .i64 a0_0, .int .i64 0, .int .i64 0, .int .i64 0, .slice none 0 0]) ?_ 1 _ rfl; (with_reducible repeat (first | refine blk_drewN ?_ _ | refine blk_drew ?_ | refine blk_alloc ?_ _)); refine blk_put (cs := #[.int .i64 0, .int .i64 0, .int .i64 0, .int .i64 0, .slice none 0 0]) ?_ 0 _ rfl; (with_reducible repeat (first | refine blk_drewN ?_ _ | refine blk_drew ?_ | refine blk_alloc ?_ _)); exact BK119.out) Tryz.underlying33 rfl (by kernel_rfl)) rfl ?_
  exact ⟨_, by first | rfl | (simp [errW_none, errW_some] <;> rfl) | (simp [*, errW_none, errW_some] <;> rfl), by (with_reducible repeat (first | apply Kd.R_alloc | apply Kd.R_drewN | apply Kd.R_drew)); exact Kd.R_mono (Kd.R_far (p := ⟨gb119, 4, none⟩) (Kd.R_far (p := ⟨gb119, 3, none⟩) (Kd.R_far (p := ⟨gb119, 2, none⟩) (Kd.R_far (p := ⟨gb119, 1, none⟩) (Kd.R_far (p := ⟨gb119, 0, none⟩) (Kd.R_types HO125.out BK119.out (by decide)) (fun _ hk => hk.2) (.int .i64 a0_0)) (fun _ hk => hk.2) (.int .i64 a0_1)) (fun _ hk => hk.2) (.int .i64 a0_2)) (fun _ hk => hk.2) (.int .i64 a0_3)) (fun _ hk => hk.2) (.slice Ao9 y123.length co9)) (fun _ hk => trivial), bX HB⟩
 ·rw [if_neg c2] at H
  exact absurd H (by simp)
def panachetop_ellMould.f (l0_0 : List Int) (a0_1 : Int) (a0_2 : Int) (a0_3 : Int) : Option (List Int × Int × Int × Int) := (some (([] : List Int) : List Int)).bind fun y128 => (if y128.length + l0_0.length < 17592186044416 then (some ((y128 ++ l0_0), a0_1, a0_2, a0_3)) else (none))
set_option maxHeartbeats 8000000 in
set_option maxRecDepth 100000 in
theorem panachetop_ellMould.calls (A0_0 : Option Addr) (c0_0 : Nat) (l0_0 : List Int) (a0_1 : Int) (a0_2 : Int) (a0_3 : Int) (r1 : List Int) (r2 : Int) (r3 : Int) (r4 : Int) (w : World) (hr0_0 : Kd.C (Kd.int .i64) w A0_0 l0_0.length l0_0) (hc0_0 : l0_0.length ≤ c0_0) (h : panachetop_ellMould.f l0_0 a0_1 a0_2 a0_3 = some (r1, r2, r3, r4)) :
  Calls Tryz.prog 18 #[.agg #[.slice A0_0 l0_0.length c0_0, .int .i64 a0_1, .int .i64 a0_2, .int .i64 a0_3]] w fun e w' => ∃ v0_ : Value, e = .returned (.agg #[v0_, .int .i64 r2, .int .i64 r3, .int .i64 r4]) ∧ Kd.R (Kd.int .i64) 3 w' w.heap.size (fun _ => True) v0_ r1 ∧ Below w.heap.size w w' := by
 have hu53 := Tryz.underlying53
 have HR0_0 := Aside0.mk hr0_0
 have HC0_0 := Aside0.mk hc0_0
 clear hr0_0 hc0_0
 have HB := Aside0.mk (Below.refl w.heap.size w)
 have H : ((some (([] : List Int) : List Int)).bind fun y128 => (if y128.length + l0_0.length < 17592186044416 then (some ((y128 ++ l0_0), a0_1, a0_2, a0_3)) else (none))) = some (r1, r2, r3, r4) := h
 clear h
 obtain ⟨y128, hy128⟩ : ∃ y_ : List Int, y_ = (([] : List Int)) := ⟨_, rfl⟩
 replace H : (if y128.length + l0_0.length < 17592186044416 then (some ((y128 ++ l0_0), a0_1, a0_2, a0_3)) else (none)) = some (r1, r2, r3, r4) := by first | (rw [hy128]; with_reducible exact H) | (have H2_ := (Option.bind_some _ _).symm.trans H; rw [hy128]; with_reducible exact H2_) | (have H2_ := (Option.bind_some _ _).symm.trans H; with_reducible exact H2_) | with_reducible exact H | (rw [hy128]; exact H) | exact H
 have Ny128 := Aside0.mk hy128
 clear hy128
 by_cases c2 : y128.length + l0_0.length < 17592186044416
 ·rw [if_pos c2] at H
  have LMc2 := Aside0.mk c2
  clear c2
  obtain ⟨y131, hy131⟩ : ∃ y_ : List Int, y_ = (y128 ++ l0_0) := ⟨_, rfl⟩
  replace H : (some (y131, a0_1, a0_2, a0_3)) = some (r1, r2, r3, r4) := by first | (rw [hy131]; with_reducible exact H) | (have H2_ := (Option.bind_some _ _).symm.trans H; rw [hy131]; with_reducible exact H2_) | (have H2_ := (Option.bind_some _ _).symm.trans H; with_reducible exact H2_) | with_reducible exact H | (rw [hy131]; exact H) | exact H
  have Ny131 := Aside0.mk hy131
  clear hy131
  simp only [Option.some.injEq, Prod.mk.injEq] at H
  obtain ⟨rfl, rfl, rfl, rfl⟩ := H
  go_enter Tryz.func18, Tryz.ntmps18
  go_wp2_with (first | ((with_reducible refine gate_dst (N := 1) rfl ?_); refine boxA (N := 1) (cs := #[.slice A0_0 l0_0.length c0_0, .int .i64 a0_1, .int .i64 a0_2, .int .i64 a0_3]) (t := 53) ?_; intro gb126 hg w3 hbox hb; have BK126 := Aside0.mk (hbox); have GW126 := bG HB hg; have GE126 := bG HB hg; replace HB := bS HB hb; clear hb hbox hg) | ((with_reducible refine gate_dst (N := 2) rfl ?_); refine boxA (N := 2) (cs := #[.slice none 0 0, .int .i64 0, .int .i64 0, .int .i64 0]) (t := 53) ?_; intro gb127 hg w4 hbox hb; have BK127 := Aside0.mk (hbox); have GW127 := bG HB hg; have GE127 := bG HB hg; have NB126_127 := kN BK126 hg; have NB127_126 := kM BK126 hg; replace BK126 := kB BK126 hb; replace HB := bS HB hb; clear hb hbox hg) | ((with_reducible refine gate_dst (N := 3) rfl ?_); refine Kd.R_lit (Kd.int .i64) _ 3 ?hg (N := 3) ?hd (xs := ([] : List Int)) (inner := []) (ok := fun _ => True) (okp := fun _ => True) ?hr ?hp (fun _ hk => hk) trivial (Below.refl _ _) (Nat.le_refl _) (by simp) ?_; (case hd => rfl); (case hg => rfl); (case hr => first | (go_simp; done) | (go_simp; rfl)); (case hp => exact (Reps.none _ _)); intro v129 w5 ho6 hb hg_ hnew_; clear hg_ hnew_; (first | rw [← Ny128.out] at ho6 | (simp only [Int.reduceToNat] at ho6; rw [← Ny128.out] at ho6)); have HO130 := Aside0.mk (Kd.R_lower ho6 (below_size (bX HB))); replace BK126 := kB BK126 hb; replace BK127 := kB BK127 hb; replace HB := bS HB hb; clear hb ho6; have hnb7 := NB126_127.out; have hnc7 := NB127_126.out; obtain ⟨hcz8_0, hcz8_1, hcz8_2, hcz8_3, hfz8_0, hfz8_1, hfz8_2, hfz8_3⟩ := cc4 BK126) | ((with_reducible refine gate_builtin (b := .append) (xs := #[.tmp 3, .tmp 5]) rfl ?_); at_builtin; refine Kd.R_append_rows (Kd.int .i64) (w0 := w) w.heap.size rfl (.tmp 3) (.tmp 5) 51 3 (.int .i64 0) 8 rfl Tryz.underlying51 info3 rfl (by decide) (by omega) v129 y128 l0_0 _ _ _ (fun _ => True) (fun _ => False) rfl rfl ?aO ?aR (fun _ _ h => h) (fun _ h => h.elim) ?aF ?aB ?aS ?aL ?_; (case aR => repeat (first | exact (Kd.C_below HR0_0.out HB.out) | (with_reducible refine Kd.C_alloc ?_ _) | (with_reducible refine Kd.C_drewN ?_ _) | (with_reducible refine Kd.C_drew ?_))); (case aB => exact (bX HB)); (case aF => exact (fun _ _ => trivial)); (case aO => exact (rX HO130.out)); (case aS => exact (below_size (bX HB))); (case aL => have := LMc2.out; omega); intro v132 w9 ho hb hg hat; rw [← Ny131.out] at ho; have n0_ := Aside0.mk (blk_grown (g := gb126) (o := .cells #[.slice A0_0 l0_0.length c0_0, .int .i64 a0_1, .int .i64 a0_2, .int .i64 a0_3] 53 (0, 0)) (kX BK126.out) hg (Kd.R_ne HO130.out BK126.out (by decide))); have n1_ := Aside0.mk (blk_grown (g := gb127) (o := .cells #[.slice none 0 0, .int .i64 0, .int .i64 0, .int .i64 0] 53 (0, 0)) (kX BK127.out) hg (Kd.R_ne HO130.out BK127.out (by decide))); have n2_ := Aside0.mk (hb); have n3_ := Aside0.mk (ho); clear BK126; clear BK127; clear HB; clear HO130; have BK126 := n0_; have BK127 := n1_; have HB := n2_; have HO133 := n3_; clear n0_ n1_ n2_ n3_; clear ho hb hg hat; obtain ⟨Ao10, co10, eo10⟩ := Kd.R_slice HO133.out; subst eo10; obtain ⟨hcz11_0, hcz11_1, hcz11_2, hcz11_3, hfz11_0, hfz11_1, hfz11_2, hfz11_3⟩ := cc4 BK126; obtain ⟨hcz12_0, hcz12_1, hcz12_2, hcz12_3, hfz12_0, hfz12_1, hfz12_2, hfz12_3⟩ := cc4 BK127))
  refine bodyPost_ret (results_cell_row rfl _ _ gb127 53 #[.slice Ao10 y131.length co10, .int .i64 a0_1, .int .i64 a0_2, .int .i64 a0_3] (0, 0) _ rfl (by (with_reducible repeat (first | refine blk_drewN ?_ _ | refine blk_drew ?_ | refine blk_alloc ?_ _)); refine blk_put (cs := #[.slice Ao10 y131.length co10, .int .i64 a0_1, .int .i64 a0_2, .int .i64 0]) ?_ 3 _ rfl; (with_reducible repeat (first | refine blk_drewN ?_ _ | refine blk_drew ?_ | refine blk_alloc ?_ _)); refine blk_put (cs := #[.slice Ao10 y131.length co10, .int .i64 a0_1, .int .i64 0, .int .i64 0]) ?_ 2 _ rfl; (with_reducible repeat (first | refine blk_drewN ?_ _ | refine blk_drew ?_ | refine blk_alloc ?_ _)); refine blk_put (cs := #[.slice Ao10 y131.length co10, .int .i64 0, .int .i64 0, .int .i64 0]) ?_ 1 _ rfl; (with_reducible repeat (first | refine blk_drewN ?_ _ | refine blk_drew ?_ | refine blk_alloc ?_ _)); refine blk_put (cs := #[.slice none 0 0, .int .i64 0, .int .i64 0, .int .i64 0]) ?_ 0 _ rfl; (with_reducible repeat (first | refine blk_drewN ?_ _ | refine blk_drew ?_ | refine blk_alloc ?_ _)); refine blk_far ?_ NB127_126.out _; (with_reducible repeat (first | refine blk_drewN ?_ _ | refine blk_drew ?_ | refine blk_alloc ?_ _)); exact BK127.out) Tryz.underlying53 rfl (by kernel_rfl)) rfl ?_
  exact ⟨_, by first | rfl | (simp [errW_none, errW_some] <;> rfl) | (simp [*, errW_none, errW_some] <;> rfl), by (with_reducible repeat (first | apply Kd.R_alloc | apply Kd.R_drewN | apply Kd.R_drew)); exact Kd.R_mono (Kd.R_far (p := ⟨gb127, 3, none⟩) (Kd.R_far (p := ⟨gb127, 2, none⟩) (Kd.R_far (p := ⟨gb127, 1, none⟩) (Kd.R_far (p := ⟨gb127, 0, none⟩) (Kd.R_far (p := ⟨gb126, 0, none⟩) (Kd.R_types (Kd.R_types HO133.out BK126.out (by decide)) BK127.out (by decide)) (fun _ hk => hk.1.2) (.slice Ao10 y131.length co10)) (fun _ hk => hk.2) (.slice Ao10 y131.length co10)) (fun _ hk => hk.2) (.int .i64 a0_1)) (fun _ hk => hk.2) (.int .i64 a0_2)) (fun _ hk => hk.2) (.int .i64 a0_3)) (fun _ hk => trivial), bX HB⟩
 ·rw [if_neg c2] at H
  exact absurd H (by simp)
def panachetop_ellInts.l0 : Nat → List Int → List Int → Int → Option (Bool)
 | 0, _, _, _ => none
 | k + 1, x0, x1, x5 => if x5 < (x0.length : Int) then (if 0 ≤ x5 then (if x5 < (x1.length : Int) then (if (rd x0 x5) = (rd x1 x5) then (panachetop_ellInts.l0 k x0 x1 (wrap64 (x5 + 1))) else (some false)) else (none)) else (none)) else (some true)
def panachetop_ellInts.f (k : Nat) (l0 : List Int) (l1 : List Int) : Option (Bool) := if (l0.length : Int) = (l1.length : Int) then (panachetop_ellInts.l0 k l0 l1 0) else (some false)
set_option maxHeartbeats 8000000 in
set_option maxRecDepth 100000 in
theorem panachetop_ellInts.calls (k : Nat) (A0 : Option Addr) (c0 : Nat) (l0 : List Int) (A1 : Option Addr) (c1 : Nat) (l1 : List Int) (r : Bool) (w : World) (hr0 : Kd.C (Kd.int .i64) w A0 l0.length l0) (hc0 : l0.length ≤ c0) (hr1 : Kd.C (Kd.int .i64) w A1 l1.length l1) (hc1 : l1.length ≤ c1) (h : panachetop_ellInts.f k l0 l1 = some r) :
  Calls Tryz.prog 19 #[.slice A0 l0.length c0, .slice A1 l1.length c1] w fun e w' => e = .returned (.bool r) ∧ Drawn0 w w' := by
 have HR0 := Aside0.mk hr0
 have HC0 := Aside0.mk hc0
 clear hr0 hc0
 have HR1 := Aside0.mk hr1
 have HC1 := Aside0.mk hc1
 clear hr1 hc1
 have H : (if (l0.length : Int) = (l1.length : Int) then (panachetop_ellInts.l0 k l0 l1 0) else (some false)) = some r := h
 clear h
 by_cases c3 : (l0.length : Int) = (l1.length : Int)
 ·rw [if_pos c3] at H
  have c3b0 : ((l0.length : Int) == (l1.length : Int)) = true := beq_iff_eq.mpr c3
  have c3b1 : ((l0.length : Int) != (l1.length : Int)) = false := bne_eq_false_iff_eq.mpr c3
  have c3b2 : (l0.length == l1.length) = true := by first | simpa using c3 | (simp at c3 ⊢; omega)
  clear c3
  have H' := Aside0.mk H
  clear H
  go_enter Tryz.func19, Tryz.ntmps19
  go_wp2
  repeat (go_quiet (fail); try go_wp2)
  go_loopg [5] k (fun kq v5 w' => ∃ (x5_1 : Int), v5 = .int .i64 x5_1 ∧ Aside0 (panachetop_ellInts.l0 kq l0 l1 x5_1 = some r) ∧ Aside0 (kq ≤ k) ∧ Drawn0 w w')
  case atStart => exact ⟨(0), (by first | rfl | (simp; done) | (simp [*]; done)), H', ⟨Nat.le_refl _⟩, by repeat (first | exact Drawn0.refl _ | apply Drawn0.step)⟩
  case round =>
   clear H'
   try clear c1
   try clear p2
   try clear c3
   try clear c3b0
   try clear c3b1
   try clear c3b2
   obtain ⟨x5_1, rfl, HA, HK1, ⟨m1, rfl⟩⟩ := hrel
   cases gk with
   | zero => exact absurd HA.out (by simp [panachetop_ellInts.l0])
   | succ k1 =>
    have H := HA.out
    clear HA
    simp only [panachetop_ellInts.l0] at H
    by_cases c4 : x5_1 < (l0.length : Int)
    ·rw [if_pos c4] at H
     have c4b0 : decide (x5_1 < (l0.length : Int)) = true := decide_eq_true c4
     clear c4
     by_cases c5 : 0 ≤ x5_1
     ·rw [if_pos c5] at H
      have c5b0 : decide (0 ≤ x5_1) = true := decide_eq_true c5
      clear c5
      by_cases c6 : x5_1 < (l1.length : Int)
      ·rw [if_pos c6] at H
       have c6b0 : decide (x5_1 < (l1.length : Int)) = true := decide_eq_true c6
       clear c6
       by_cases c7 : (rd l0 x5_1) = (rd l1 x5_1)
       ·rw [if_pos c7] at H
        have c7b0 : ((rd l0 x5_1) == (rd l1 x5_1)) = true := beq_iff_eq.mpr c7
        have c7b1 : ((rd l0 x5_1) != (rd l1 x5_1)) = false := bne_eq_false_iff_eq.mpr c7
        clear c7
        have H' := Aside0.mk H
        clear H
        have p134 : 0 ≤ (x5_1 : Int) := of_decide_eq_true (by first | (with_reducible assumption) | assumption)
        have q134 : x5_1 < (l0.length : Int) := of_decide_eq_true (by first | (with_reducible assumption) | assumption)
        obtain ⟨ad134, e134, hx134_0⟩ := Kd.at_int HR0.out x5_1 p134 q134
        cases e134
        replace p134 := eq_true p134
        replace q134 := eq_true q134
        have p135 : 0 ≤ (x5_1 : Int) := of_decide_eq_true (by first | (with_reducible assumption) | assumption)
        have q135 : x5_1 < (l1.length : Int) := of_decide_eq_true (by first | (with_reducible assumption) | assumption)
        obtain ⟨ad135, e135, hx135_0⟩ := Kd.at_int HR1.out x5_1 p135 q135
        cases e135
        replace p135 := eq_true p135
        replace q135 := eq_true q135
        go_wp2
        repeat (go_quiet (fail); try go_wp2)
        go_roundg k1
        case measure => have := HK1.out; omega
        case rel => exact ⟨(wrap64 (x5_1 + 1)), (by first | rfl | (simp; done) | (simp [*]; done)), H', ⟨by have := HK1.out; omega⟩, by repeat (first | exact Drawn0.refl _ | apply Drawn0.step)⟩
       ·rw [if_neg c7] at H
        have c7b0 : ((rd l0 x5_1) == (rd l1 x5_1)) = false := beq_eq_false_iff_ne.mpr c7
        have c7b1 : ((rd l0 x5_1) != (rd l1 x5_1)) = true := bne_iff_ne.mpr c7
        obtain rfl := Option.some.inj H
        have p134 : 0 ≤ (x5_1 : Int) := of_decide_eq_true (by first | (with_reducible assumption) | assumption)
        have q134 : x5_1 < (l0.length : Int) := of_decide_eq_true (by first | (with_reducible assumption) | assumption)
        obtain ⟨ad134, e134, hx134_0⟩ := Kd.at_int HR0.out x5_1 p134 q134
        cases e134
        replace p134 := eq_true p134
        replace q134 := eq_true q134
        have p135 : 0 ≤ (x5_1 : Int) := of_decide_eq_true (by first | (with_reducible assumption) | assumption)
        have q135 : x5_1 < (l1.length : Int) := of_decide_eq_true (by first | (with_reducible assumption) | assumption)
        obtain ⟨ad135, e135, hx135_0⟩ := Kd.at_int HR1.out x5_1 p135 q135
        cases e135
        replace p135 := eq_true p135
        replace q135 := eq_true q135
        go_wp2
        repeat (go_quiet (fail); try go_wp2)
        go_ret
        exact ⟨by first | rfl | (simp; done) | (simp [*]; done), by repeat (first | exact Drawn0.refl _ | apply Drawn0.step)⟩
      ·rw [if_neg c6] at H
       exact absurd H (by simp)
     ·rw [if_neg c5] at H
      exact absurd H (by simp)
    ·rw [if_neg c4] at H
     have c4b0 : decide (x5_1 < (l0.length : Int)) = false := decide_eq_false c4
     clear c4
     obtain rfl := Option.some.inj H
     go_wp2
     repeat (go_quiet (fail); try go_wp2)
     go_ret
     exact ⟨by first | rfl | (simp; done) | (simp [*]; done), by repeat (first | exact Drawn0.refl _ | apply Drawn0.step)⟩
 ·rw [if_neg c3] at H
  have c3b0 : ((l0.length : Int) == (l1.length : Int)) = false := beq_eq_false_iff_ne.mpr c3
  have c3b1 : ((l0.length : Int) != (l1.length : Int)) = true := bne_iff_ne.mpr c3
  have c3b2 : (l0.length == l1.length) = false := by first | simpa using c3 | (simp at c3 ⊢; omega)
  obtain rfl := Option.some.inj H
  go_enter Tryz.func19, Tryz.ntmps19
  go_wp2
  repeat (go_quiet (fail); try go_wp2)
  go_ret
  exact ⟨by first | rfl | (simp; done) | (simp [*]; done), by repeat (first | exact Drawn0.refl _ | apply Drawn0.step)⟩
end Go.Proofs.YtgdkmadcegleiaaGreatDoor.PTopArc
end
section
namespace Go.Proofs.YtgdkmadcegleiaaGreatDoor.PTopArc
open Go.RowKit Go.Proofs.YtgdkmadcegleiaaGreatDoor.Sq Go.Proofs.YtgdkmadcegleiaaGreatDoorW.PrintWords Go.Proofs.YtgdkmadcegleiaaGreatDoorW.PrintLast Go.Proofs.YtgdkmadcegleiaaGreatDoorW.PrintMore Go.Proofs.YtgdkmadcegleiaaGreatDoor.X Go.Proofs.YtgdkmadcegleiaaGreatDoor.Z
attribute [local go_sem] max2_int min2_int max_two min_two max_three min_three max_four min_four   -- for this text's walks alone
set_option linter.unusedVariables false
set_option linter.unusedSimpArgs false
mutual
def panachetop_TopArc.j1 : Nat → Int → Int → Int → Bool → Int → Int → Int → Int → List (S47) → Option (Bool)
 | 0, _, _, _, _, _, _, _, _, _ => none
 | k + 1, x1, x8, x9, x49, x145000, x145001, x145002, x145003, x145004 => if x49 = true then (some false) else (panachetop_TopArc.l0 k x1 x8 x9 0 x145000 x145001 x145002 x145003 x145004)
def panachetop_TopArc.l0 : Nat → Int → Int → Int → Int → Int → Int → Int → Int → List (S47) → Option (Bool)
 | 0, _, _, _, _, _, _, _, _, _ => none
 | k + 1, x1, x8, x9, x11, x145000, x145001, x145002, x145003, x145004 => if x11 < (x145004.length : Int) then ((panachetop_ellSpan.f x9 x9).bind fun bt155 => (if 0 ≤ x11 then (panachetop_TopArc.l0 k x1 x8 x9 (wrap64 (x11 + 1)) x145000 x145001 x145002 x145003 (x145004.set (x11 : Int).toNat (⟨(⟨bt155.1, bt155.2⟩ : S30), (⟨(rd_T47 x145004 x11).f1.f0, (rd_T47 x145004 x11).f1.f1⟩ : S30)⟩ : S47))) else (none))) else ((rivet_Opens.f x145000 x145001 x145002 x145003 x145004).bind fun bt158 => (if bt158.2.2 = 0 then (panachetop_TopArc.j3 k x8 x9 (decide (bt158.1 < (wrap64 (x1))))) else (panachetop_TopArc.j3 k x8 x9 true)))
def panachetop_TopArc.j3 : Nat → Int → Int → Bool → Option (Bool)
 | 0, _, _, _ => none
 | k + 1, x8, x9, x78 => if x78 = true then (some false) else ((some (([0, wrap64 ((mx 1 x9) + (wrap64 (2 * x8))), wrap64 (2 * (wrap64 ((mx 1 x9) + (wrap64 (2 * x8)))))] : List Int) : List Int)).bind fun y162 => ((panachetop_ellSpan.f x8 x8).bind fun bt166 => ((panachetop_ellSpan.f (wrap64 (x8 + (mx 1 x9))) (wrap64 (x8 + (mx 1 x9)))).bind fun bt168 => ((panachetop_ellSpan.f x8 x8).bind fun bt170 => ((panachetop_ellSpan.f (wrap64 ((wrap64 (x8 + (mx 1 x9))) + 1)) (wrap64 ((wrap64 (x8 + (mx 1 x9))) + 1))).bind fun bt172 => ((pleat_Hit.f (wrap64 (3 * (wrap64 ((mx 1 x9) + (wrap64 (2 * x8)))))) (([(⟨(⟨bt166.1, bt166.2⟩ : S30), (⟨bt168.1, bt168.2⟩ : S30)⟩ : S55), (⟨(⟨bt170.1, bt170.2⟩ : S30), (⟨bt172.1, bt172.2⟩ : S30)⟩ : S55)] : List (S55))) y162 x8 (mx 1 x9) 0 0).bind fun bt178 => ((panachetop_ellMould.f y162 x8 (mx 1 x9) 0).bind fun bt185 => ((pleat_Mould.f bt185.1 bt185.2.1 bt185.2.2.1 bt185.2.2.2).bind fun t191 => (if t191 = 0 then (if bt178.2.2 = 0 then ((panachetop_ellInts.f k bt178.1 (([1] : List Int))).bind fun t195 => (if t195 = true then ((panachetop_ellInts.f k bt178.2.1 bt178.1).bind fun t196 => (if t196 = true then ((panachetop_ellKnown05.f).bind fun t197 => (panachetop_TopArc.j4 k t197)) else (panachetop_TopArc.j4 k false))) else (panachetop_TopArc.j4 k false))) else (panachetop_TopArc.j4 k false)) else (panachetop_TopArc.j4 k false))))))))))
def panachetop_TopArc.j4 : Nat → Bool → Option (Bool)
 | 0, _ => none
 | k + 1, x6 => some x6
def panachetop_TopArc.j0 : Nat → Bool → Option (Bool)
 | 0, _ => none
 | k + 1, x6 => some x6
end
def panachetop_TopArc.f (k : Nat) (l0_0 : List (S26)) (a1 : Int) (a2 : Int) : Option (Bool) := (panachetop_Horn_fan.f k l0_0).bind fun bt137 => ((panachetop_ellFan.f bt137.1 bt137.2.1 bt137.2.2.1 bt137.2.2.2.1 bt137.2.2.2.2).bind fun bt145 => ((rivet_Pleat.f bt145.1 bt145.2.1 bt145.2.2.1 bt145.2.2.2.1 bt145.2.2.2.2 (wrap64 (a1))).bind fun bt152 => (if bt152.2 = 0 then (if bt152.1 < 0 then (panachetop_TopArc.j1 k a1 (Int.tmod (wrap64 (a2)) 30) bt152.1 true bt137.1 bt137.2.1 bt137.2.2.1 bt137.2.2.2.1 bt137.2.2.2.2) else (panachetop_TopArc.j1 k a1 (Int.tmod (wrap64 (a2)) 30) bt152.1 (decide (bt152.1 > 1000)) bt137.1 bt137.2.1 bt137.2.2.1 bt137.2.2.2.1 bt137.2.2.2.2)) else (if bt152.2 = 7 then (if bt152.1 = 0 then ((panachetop_ellKnown05.f).bind fun t154 => (panachetop_TopArc.j0 k t154)) else (panachetop_TopArc.j0 k false)) else (panachetop_TopArc.j0 k false)))))
def panachetop_TopArc.T10 : Bool × List (List Nat × List Nat) := (true, [([], []), ([0], [0]), ([], []), ([], []), ([], []), ([3, 4], [3, 4]), ([1, 2, 0, 1, 2, 3, 4, 5], [1, 2]), ([6, 0, 1, 2, 3, 4, 5], [6]), ([7, 5, 5, 0, 1, 2, 3, 4, 5], [5, 7])])
def panachetop_TopArc.B10 : List Nat := [0, 1, 0, 0, 0, 24, 63, 127, 255]
theorem panachetop_TopArc.tab10 : rtab .any (opsOf Tryz.f4 10) = panachetop_TopArc.T10 := by kernel_rfl
theorem panachetop_TopArc.bits10 : waitsOk panachetop_TopArc.T10.2 panachetop_TopArc.B10 = true := by kernel_rfl
set_option maxHeartbeats 8000000 in
set_option maxRecDepth 100000 in
theorem panachetop_TopArc.calls (k : Nat) (A0_0 : Option Addr) (c0_0 : Nat) (l0_0 : List (S26)) (a1 : Int) (a2 : Int) (r : Bool) (w : World) (hr0_0 : Kd.C k26 w A0_0 l0_0.length l0_0) (hc0_0 : l0_0.length ≤ c0_0) (h : panachetop_TopArc.f k l0_0 a1 a2 = some r) (hT : Tabs w) :
  Calls Tryz.prog 4 #[.agg #[.slice A0_0 l0_0.length c0_0], .int .u8 a1, .int .u8 a2] w fun e w' => e = .returned (.bool r) ∧ Below w.heap.size w w' := by
 have HT := Aside0.mk hT
 clear hT
 have hu24 := Tryz.underlying24
 have hu33 := Tryz.underlying33
 have hu30 := Tryz.underlying30
 have hu53 := Tryz.underlying53
 have hu55 := Tryz.underlying55
 have hu58 := Tryz.underlying58
 have HR0_0 := Aside0.mk hr0_0
 have HC0_0 := Aside0.mk hc0_0
 clear hr0_0 hc0_0
 have HB := Aside0.mk (Below.refl w.heap.size w)
 have H : ((panachetop_Horn_fan.f k l0_0).bind fun bt137 => ((panachetop_ellFan.f bt137.1 bt137.2.1 bt137.2.2.1 bt137.2.2.2.1 bt137.2.2.2.2).bind fun bt145 => ((rivet_Pleat.f bt145.1 bt145.2.1 bt145.2.2.1 bt145.2.2.2.1 bt145.2.2.2.2 (wrap64 (a1))).bind fun bt152 => (if bt152.2 = 0 then (if bt152.1 < 0 then (panachetop_TopArc.j1 k a1 (Int.tmod (wrap64 (a2)) 30) bt152.1 true bt137.1 bt137.2.1 bt137.2.2.1 bt137.2.2.2.1 bt137.2.2.2.2) else (panachetop_TopArc.j1 k a1 (Int.tmod (wrap64 (a2)) 30) bt152.1 (decide (bt152.1 > 1000)) bt137.1 bt137.2.1 bt137.2.2.1 bt137.2.2.2.1 bt137.2.2.2.2)) else (if bt152.2 = 7 then (if bt152.1 = 0 then ((panachetop_ellKnown05.f).bind fun t154 => (panachetop_TopArc.j0 k t154)) else (panachetop_TopArc.j0 k false)) else (panachetop_TopArc.j0 k false)))))) = some r := h
 clear h
 replace H := Option.bind_eq_some_iff.mp H
 obtain ⟨⟨t137, t138, t139, t140, t141⟩, A40, H⟩ := H
 try dsimp only at H
 have A4 := Aside0.mk A40
 clear A40
 replace H := Option.bind_eq_some_iff.mp H
 obtain ⟨⟨t145, t146, t147, t148, t149⟩, A50, H⟩ := H
 try dsimp only at H
 have A5 := Aside0.mk A50
 clear A50
 replace H := Option.bind_eq_some_iff.mp H
 obtain ⟨⟨t152, t153⟩, A60, H⟩ := H
 try dsimp only at H
 have A6 := Aside0.mk A60
 clear A60
 by_cases c7 : t153 = 0
 ·rw [if_pos c7] at H
  have c7b0 : (t153 == 0) = true := beq_iff_eq.mpr c7
  have c7b1 : (t153 != 0) = false := bne_eq_false_iff_eq.mpr c7
  clear c7
  have HC8 := Aside0.mk H
  clear H
  go_enter Tryz.func4, Tryz.ntmps4
  go_upto_region 5 with (first | ((with_reducible refine gate_dst (N := 3) rfl ?_); (try (refine gate_guard (by rfl) ?_; dsimp only)); refine boxA (N := 3) (cs := #[.slice A0_0 l0_0.length c0_0]) (t := 24) ?_; intro gb136 hg w9 hbox hb; have BK136 := Aside0.mk (hbox); have GW136 := bG HB hg; have GE136 := bG HB hg; replace HB := bS HB hb; clear hb hbox hg; obtain ⟨hcz10_0, hfz10_0⟩ := cc1 BK136) | ((with_reducible refine gate_callee (f := 6) rfl ?_); refine goesA (some 21) Tryz.func6 #[.agg #[.slice A0_0 l0_0.length c0_0]] ?_; (with_reducible refine (panachetop_Horn_fan.calls k _ _ l0_0 t137 t138 t139 t140 t141 _ ?side1 ?side2 A4.out).mono ?_); (case side1 => exact sX (Kd.C_below HR0_0.out HB.out)); (case side2 => exact HC0_0.out); rintro e w11 ⟨v142, rfl, ho0, hb⟩; refine ⟨_, rfl, ?_⟩; have HO143 := Aside0.mk (Kd.R_lower ho0 (below_size (bX HB))); replace BK136 := kB BK136 hb; replace HB := bS HB hb; (try clear hb); (try clear hb2); (try clear hk); (try clear hi); (try clear ho0)) | ((with_reducible refine gate_dst (N := 7) rfl ?_); (try (refine gate_guard (by rfl) ?_; dsimp only)); refine boxA (N := 7) (cs := #[.int .i64 0, .int .i64 0, .int .i64 0, .int .i64 0, .slice none 0 0]) (t := 33) ?_; intro gb144 hg w12 hbox hb; have BK144 := Aside0.mk (hbox); have GW144 := bG HB hg; have GE144 := bG HB hg; have NB136_144 := kN BK136 hg; have NB144_136 := kM BK136 hg; replace HO143 := rB HO143 hb; replace BK136 := kB BK136 hb; replace HB := bS HB hb; clear hb hbox hg; have hnb13 := NB144_136.out; have hnc13 := NB136_144.out; obtain ⟨hcz14_0, hcz14_1, hcz14_2, hcz14_3, hcz14_4, hfz14_0, hfz14_1, hfz14_2, hfz14_3, hfz14_4⟩ := cc5 BK144; obtain ⟨Ao15, co15, eo15⟩ := Kd.R_slice HO143.out; subst eo15) | ((with_reducible refine gate_callee (f := 8) rfl ?_); refine goesA (some 27) Tryz.func8 #[.agg #[.int .i64 t137, .int .i64 t138, .int .i64 t139, .int .i64 t140, .slice Ao15 t141.length co15]] ?_; (with_reducible refine (panachetop_ellFan.calls t137 t138 t139 t140 _ _ t141 t145 t146 t147 t148 t149 _ ?side1 ?side2 A5.out).mono ?_); (case side1 => refine (Kd.R_reads' (e := 47) (base := w.heap.size) (ok := fun k_ => True) (n := t141.length) (c := co15) ?_).2.2; exact (rX (Kd.R_mono (Kd.R_far (p := ⟨gb144, 4, none⟩) (Kd.R_far (p := ⟨gb144, 3, none⟩) (Kd.R_far (p := ⟨gb144, 2, none⟩) (Kd.R_far (p := ⟨gb144, 1, none⟩) (Kd.R_far (p := ⟨gb144, 0, none⟩) (Kd.R_types HO143.out BK144.out (by decide)) (fun _ hk => hk.2) (.int .i64 t137)) (fun _ hk => hk.2) (.int .i64 t138)) (fun _ hk => hk.2) (.int .i64 t139)) (fun _ hk => hk.2) (.int .i64 t140)) (fun _ hk => hk.2) (.slice Ao15 t141.length co15)) (fun _ h_ => h_.1)))); (case side2 => exact (Kd.R_reads' HO143.out).2.1); rintro e w16 ⟨v150, rfl, ho0, hb⟩; refine ⟨_, rfl, ?_⟩; have n0_ := Aside0.mk (Kd.R_elder' (rX (Kd.R_mono (Kd.R_far (p := ⟨gb144, 4, none⟩) (Kd.R_far (p := ⟨gb144, 3, none⟩) (Kd.R_far (p := ⟨gb144, 2, none⟩) (Kd.R_far (p := ⟨gb144, 1, none⟩) (Kd.R_far (p := ⟨gb144, 0, none⟩) (Kd.R_types HO143.out BK144.out (by decide)) (fun _ hk => hk.2) (.int .i64 t137)) (fun _ hk => hk.2) (.int .i64 t138)) (fun _ hk => hk.2) (.int .i64 t139)) (fun _ hk => hk.2) (.int .i64 t140)) (fun _ hk => hk.2) (.slice Ao15 t141.length co15)) (fun _ h_ => h_.1))) (Kd.R_base ho0) hb); have n1_ := Aside0.mk (Kd.R_lower (Kd.R_new' ho0 (Kd.R_lt (rX (Kd.R_mono (Kd.R_far (p := ⟨gb144, 4, none⟩) (Kd.R_far (p := ⟨gb144, 3, none⟩) (Kd.R_far (p := ⟨gb144, 2, none⟩) (Kd.R_far (p := ⟨gb144, 1, none⟩) (Kd.R_far (p := ⟨gb144, 0, none⟩) (Kd.R_types HO143.out BK144.out (by decide)) (fun _ hk => hk.2) (.int .i64 t137)) (fun _ hk => hk.2) (.int .i64 t138)) (fun _ hk => hk.2) (.int .i64 t139)) (fun _ hk => hk.2) (.int .i64 t140)) (fun _ hk => hk.2) (.slice Ao15 t141.length co15)) (fun _ h_ => h_.1))))) (below_size (bX HB))); have n2_ := Aside0.mk (blk_below (kF BK136 NB136_144) hb); have n3_ := Aside0.mk (blk_below (g := gb144) (o := .cells #[.int .i64 t137, .int .i64 t138, .int .i64 t139, .int .i64 t140, .slice Ao15 t141.length co15] 33 (0, 0)) (by (with_reducible repeat (first | refine blk_drewN ?_ _ | refine blk_drew ?_ | refine blk_alloc ?_ _)); refine blk_put (cs := #[.int .i64 t137, .int .i64 t138, .int .i64 t139, .int .i64 t140, .slice none 0 0]) ?_ 4 _ rfl; (with_reducible repeat (first | refine blk_drewN ?_ _ | refine blk_drew ?_ | refine blk_alloc ?_ _)); refine blk_put (cs := #[.int .i64 t137, .int .i64 t138, .int .i64 t139, .int .i64 0, .slice none 0 0]) ?_ 3 _ rfl; (with_reducible repeat (first | refine blk_drewN ?_ _ | refine blk_drew ?_ | refine blk_alloc ?_ _)); refine blk_put (cs := #[.int .i64 t137, .int .i64 t138, .int .i64 0, .int .i64 0, .slice none 0 0]) ?_ 2 _ rfl; (with_reducible repeat (first | refine blk_drewN ?_ _ | refine blk_drew ?_ | refine blk_alloc ?_ _)); refine blk_put (cs := #[.int .i64 t137, .int .i64 0, .int .i64 0, .int .i64 0, .slice none 0 0]) ?_ 1 _ rfl; (with_reducible repeat (first | refine blk_drewN ?_ _ | refine blk_drew ?_ | refine blk_alloc ?_ _)); refine blk_put (cs := #[.int .i64 0, .int .i64 0, .int .i64 0, .int .i64 0, .slice none 0 0]) ?_ 0 _ rfl; (with_reducible repeat (first | refine blk_drewN ?_ _ | refine blk_drew ?_ | refine blk_alloc ?_ _)); exact BK144.out) hb); have n4_ := bS HB hb; clear HO143; clear BK136; clear BK144; clear HB; have HO143 := n0_; have HO151 := n1_; have BK136 := n2_; have BK144 := n3_; have HB := n4_; clear n0_ n1_ n2_ n3_ n4_; (try clear hb); (try clear hb2); (try clear hk); (try clear hi); (try clear ho0); obtain ⟨Ao17, co17, eo17⟩ := Kd.R_slice HO151.out; subst eo17) | ((with_reducible refine gate_callee (f := 14) rfl ?_); refine goesA (some 30) Tryz.func14 #[.agg #[.int .i64 t145, .int .i64 t146, .int .i64 t147, .int .i64 t148, .slice Ao17 t149.length co17], .int .i64 (wrap64 (a1))] ?_; (with_reducible refine (rivet_Pleat.calls t145 t146 t147 t148 _ _ t149 (wrap64 (a1)) t152 t153 _ ?side1 ?side2 A6.out).mono ?_); (case side1 => exact sX (Kd.R_reads' HO151.out).2.2); (case side2 => exact (Kd.R_reads' HO151.out).2.1); rintro e w18 ⟨rfl, hb⟩; refine ⟨_, rfl, ?_⟩; replace HO143 := rB HO143 hb; replace HO151 := rB HO151 hb; replace BK136 := kB BK136 hb; replace BK144 := kB BK144 hb; replace HB := bS HB hb; (try clear hb); (try clear hb2); (try clear hk); (try clear hi)))
  (try simp only [Act.put, List.setIfInBounds_toArray, List.set_cons_zero, List.set_cons_succ])
  go_cut [49] (fun v49 wc => ∃ (kq : Nat) (x49_7 : Bool), v49 = .bool x49_7 ∧ Aside0 (panachetop_TopArc.j1 kq a1 (Int.tmod (wrap64 (a2)) 30) t152 x49_7 t137 t138 t139 t140 t141 = some r) ∧ Aside0 (kq ≤ k) ∧ Aside0 (Kd.R k47 47 wc w.heap.size (fun _ => True) (.slice Ao15 t141.length co15) t141) ∧ Aside0 (wc.heap[gb136]? = some (.cells #[(.slice A0_0 l0_0.length c0_0)] 24 (0, 0))) ∧ Aside0 (wc.heap[gb144]? = some (.cells #[.int .i64 t137, .int .i64 t138, .int .i64 t139, .int .i64 t140, (.slice Ao15 t141.length co15)] 33 (0, 0))) ∧ Aside0 (Below w.heap.size w wc))
  case first =>
   have H := HC8.out
   clear HC8
   by_cases c19 : t152 < 0
   ·rw [if_pos c19] at H
    have c19b0 : decide (t152 < 0) = true := decide_eq_true c19
    clear c19
    (first | rw [c19b0] | (simp only [i64_w, i32_w]; rw [c19b0]) | skip)
    have H' := Aside0.mk H
    clear H
    go_wp2
    go_meet
    case rel => exact ⟨_, (true), (by first | rfl | (simp; done) | (simp [*]; done)), H', ⟨by first | omega | exact Nat.le_refl _⟩, ⟨by (with_reducible repeat (first | apply Kd.R_alloc | apply Kd.R_drewN | apply Kd.R_drew)); exact Kd.R_mono HO143.out (fun _ hk => trivial)⟩, ⟨kX BK136.out⟩, ⟨kX BK144.out⟩, ⟨bX HB⟩⟩
   ·rw [if_neg c19] at H
    have c19b0 : decide (t152 < 0) = false := decide_eq_false c19
    clear c19
    (first | rw [c19b0] | (simp only [i64_w, i32_w]; rw [c19b0]) | skip)
    have H' := Aside0.mk H
    clear H
    go_wp2
    go_meet
    case rel => exact ⟨_, (decide (t152 > 1000)), (by first | rfl | (simp; done) | (simp [*]; done)), H', ⟨by first | omega | exact Nat.le_refl _⟩, ⟨by (with_reducible repeat (first | apply Kd.R_alloc | apply Kd.R_drewN | apply Kd.R_drew)); exact Kd.R_mono HO143.out (fun _ hk => trivial)⟩, ⟨kX BK136.out⟩, ⟨kX BK144.out⟩, ⟨bX HB⟩⟩
  case rest =>
   clear HC8
   try clear c1
   try clear p2
   try clear c4
   try clear c6
   try clear p6
   try clear c7
   try clear c7b0
   try clear c7b1
   try clear c8
   try clear c13
   try clear c14
   try clear c19
   try clear c19b0
   try clear hcz10_0 hfz10_0
   try clear hcz14_0 hcz14_1 hcz14_2 hcz14_3 hcz14_4 hfz14_0 hfz14_1 hfz14_2 hfz14_3 hfz14_4
   obtain ⟨kq, x49_7, rfl, HA, HJ7, HO_145004, BK136, BK144, HB⟩ := hcut
   cases kq with
   | zero => exact absurd HA.out (by simp [panachetop_TopArc.j1])
   | succ kj7 =>
    have H := HA.out
    clear HA
    simp only [panachetop_TopArc.j1] at H
    by_cases c20 : x49_7 = true
    ·subst c20
     have H1 : (some false) = some r := by rw [if_pos rfl] at H; exact H
     clear H
     have H := H1
     clear H1
     obtain rfl := Option.some.inj H
     go_wp2
     go_ret
     exact ⟨by first | rfl | (simp [errW_none, errW_some] <;> rfl) | (simp [*, errW_none, errW_some] <;> rfl), bX HB⟩
    ·replace c20 := Bool.eq_false_iff.mpr c20
     subst c20
     have H1 : (panachetop_TopArc.l0 kj7 a1 (Int.tmod (wrap64 (a2)) 30) t152 0 t137 t138 t139 t140 t141) = some r := by rw [if_neg (show ¬ (false = true) by decide)] at H; exact H
     clear H
     have H := H1
     clear H1
     have H' := Aside0.mk H
     clear H
     go_wp2
     go_loopg [11] kj7 (fun kq v11 w' => ∃ (x11_2 : Int) (x145004_2 : List (S47)) (u145004 : Value), v11 = .int .i64 x11_2 ∧ Aside0 (panachetop_TopArc.l0 kq a1 (Int.tmod (wrap64 (a2)) 30) t152 x11_2 t137 t138 t139 t140 x145004_2 = some r) ∧ Aside0 (kq ≤ kj7) ∧ Aside0 (Kd.R k47 47 w' w.heap.size (fun _ => True) u145004 x145004_2) ∧ Aside0 (w'.heap[gb136]? = some (.cells #[(.slice A0_0 l0_0.length c0_0)] 24 (0, 0))) ∧ Aside0 (w'.heap[gb144]? = some (.cells #[.int .i64 t137, .int .i64 t138, .int .i64 t139, .int .i64 t140, u145004] 33 (0, 0))) ∧ Aside0 (Below w.heap.size w w'))
     case atStart => exact ⟨(0), (t141), (.slice Ao15 t141.length co15), (by first | rfl | (simp; done) | (simp [*]; done)), H', ⟨Nat.le_refl _⟩, ⟨rX HO_145004.out⟩, ⟨kX BK136.out⟩, ⟨kX BK144.out⟩, ⟨bX HB⟩⟩
     case round =>
      clear H'
      try clear c1
      try clear c2
      try clear p2
      try clear c4
      try clear c6
      try clear p6
      try clear c7
      try clear c7b0
      try clear c7b1
      try clear c8
      try clear c13
      try clear c14
      try clear c19
      try clear c19b0
      try clear c20
      try clear hcz10_0 hfz10_0
      try clear hcz14_0 hcz14_1 hcz14_2 hcz14_3 hcz14_4 hfz14_0 hfz14_1 hfz14_2 hfz14_3 hfz14_4
      try clear p2
      try clear p6
      obtain ⟨x11_2, x145004_2, u145004, rfl, HA, HK2, HO_145004, BK136, BK144, HB⟩ := hrel
      cases gk with
      | zero => exact absurd HA.out (by simp [panachetop_TopArc.l0])
      | succ k2 =>
       have H := HA.out
       clear HA
       simp only [panachetop_TopArc.l0] at H
       by_cases c21 : x11_2 < (x145004_2.length : Int)
       ·rw [if_pos c21] at H
        have c21b0 : decide (x11_2 < (x145004_2.length : Int)) = true := decide_eq_true c21
        clear c21
        replace H := Option.bind_eq_some_iff.mp H
        obtain ⟨⟨t155, t156⟩, A220, H⟩ := H
        try dsimp only at H
        have A22 := Aside0.mk A220
        clear A220
        by_cases c23 : 0 ≤ x11_2
        ·rw [if_pos c23] at H
         have c23b0 : decide (0 ≤ x11_2) = true := decide_eq_true c23
         clear c23
         obtain ⟨y157, hy157⟩ : ∃ y_ : List (S47), y_ = (x145004_2.set (x11_2 : Int).toNat (⟨(⟨t155, t156⟩ : S30), (⟨(rd_T47 x145004_2 x11_2).f1.f0, (rd_T47 x145004_2 x11_2).f1.f1⟩ : S30)⟩ : S47)) := ⟨_, rfl⟩
         replace H : (panachetop_TopArc.l0 k2 a1 (Int.tmod (wrap64 (a2)) 30) t152 (wrap64 (x11_2 + 1)) t137 t138 t139 t140 y157) = some r := by first | (rw [hy157]; with_reducible exact H) | (have H2_ := (Option.bind_some _ _).symm.trans H; rw [hy157]; with_reducible exact H2_) | (have H2_ := (Option.bind_some _ _).symm.trans H; with_reducible exact H2_) | with_reducible exact H | (rw [hy157]; exact H) | exact H
         have Ny157 := Aside0.mk hy157
         clear hy157
         have H' := Aside0.mk H
         clear H
         have hnb25 := NB144_136.out
         have hnc25 := NB136_144.out
         obtain ⟨hcz26_0, hcz26_1, hcz26_2, hcz26_3, hcz26_4, hfz26_0, hfz26_1, hfz26_2, hfz26_3, hfz26_4⟩ := cc5 BK144
         obtain ⟨Ao27, co27, eo27⟩ := Kd.R_slice HO_145004.out
         subst eo27
         try go_wp2
         replace HO_145004 := Aside0.mk (Kd.R_drew HO_145004.out)
         replace BK136 := Aside0.mk (blk_drew BK136.out)
         replace BK144 := Aside0.mk (blk_drew BK144.out)
         replace HB := Aside0.mk (below_drew1 HB.out)
         refine start_ (n := 9) (S := fun w' => w'.cell? ⟨gb144, 0, none⟩ = some (.int .i64 t137) ∧ w'.cell? ⟨gb144, 1, none⟩ = some (.int .i64 t138) ∧ w'.cell? ⟨gb144, 2, none⟩ = some (.int .i64 t139) ∧ w'.cell? ⟨gb144, 3, none⟩ = some (.int .i64 t140) ∧ w'.cell? ⟨gb144, 4, none⟩ = some (.slice Ao27 x145004_2.length co27)) (ds := [8]) #[false, false, false, false, false, false, false, false, false] (by kernel_rfl) rfl rfl ⟨(blk_cell BK144.out 0).trans rfl, (blk_cell BK144.out 1).trans rfl, (blk_cell BK144.out 2).trans rfl, (blk_cell BK144.out 3).trans rfl, (blk_cell BK144.out 4).trans rfl⟩ (fun hHeld => ?_); refine with_tabW panachetop_TopArc.tab10 panachetop_TopArc.bits10 (fun HT_ HW_ => ?_)
         generalize wr.drew = w28 at HO_145004 BK136 BK144 HB hHeld ⊢
         refine pureA (i := 0) (N := some 57) HT_ ?_
         refine pureA (i := 2) (N := some 59) HT_ ?_
         refine pureA (i := 3) (N := some 60) HT_ ?_
         refine pureA (i := 4) (N := some 61) HT_ ?_
         refine takeA (i := 1) (N := some 58) HT_ HW_ hHeld ?_
         refine oneA (i := 5) (N := some 62) HT_ (fun K hK => ?_)
         refine goesB Tryz.func15 #[.int .i64 t152, .int .i64 t152] ?_
         with_reducible refine (panachetop_ellSpan.calls t152 t152 t155 t156 _ A22.out).mono ?_
         rintro e w29 ⟨rfl, hb⟩
         refine ⟨_, rfl, ?_⟩
         replace HO_145004 := rB HO_145004 hb
         replace BK136 := kB BK136 hb
         replace BK144 := kB BK144 hb
         replace HB := bS HB hb
         (try clear hb)
         (try clear hb2)
         (try clear hk)
         (try clear hi)
         have p24 : 0 ≤ (x11_2 : Int) := of_decide_eq_true (by first | (with_reducible assumption) | assumption)
         have q24 : (x11_2 : Int) < ((x145004_2.length : Int) : Int) := of_decide_eq_true (by first | (with_reducible assumption) | assumption)
         obtain ⟨go24, co24, eo24, gb24, gl24, cl24, HG24⟩ := Kd.R_form HO_145004.out (by omega)
         (first | cases eo24 | (injection eo24 with ea_ en_ ec_; (first | subst ea_ | (injection ea_ with ea_; subst ea_)); subst ec_; clear en_))
         have GB24 := Aside0.mk gb24
         have GG24 := Aside0.mk HG24
         clear gb24 gl24 HG24
         obtain ⟨ce24, hcl24, hM24, hcc24, hfr24⟩ := Kd.R_elem HO_145004.out z47 (x11_2 : Int) p24 q24
         obtain rfl := k47_openM hM24
         have hx24_0 : World.cell? _ ⟨go24, (x11_2 : Int).toNat * 4, none⟩ = some (.int .i64 ((rd_T47 x145004_2 x11_2).f0.f0)) := hcc24 0 _ rfl
         have hx24_1 : World.cell? _ ⟨go24, (x11_2 : Int).toNat * 4 + 1, none⟩ = some (.int .i64 ((rd_T47 x145004_2 x11_2).f0.f1)) := hcc24 1 _ rfl
         have hx24_2 : World.cell? _ ⟨go24, (x11_2 : Int).toNat * 4 + 2, none⟩ = some (.int .i64 ((rd_T47 x145004_2 x11_2).f1.f0)) := hcc24 2 _ rfl
         have hx24_3 : World.cell? _ ⟨go24, (x11_2 : Int).toNat * 4 + 3, none⟩ = some (.int .i64 ((rd_T47 x145004_2 x11_2).f1.f1)) := hcc24 3 _ rfl
         have hf24_0 : World.frozen? _ ⟨go24, (x11_2 : Int).toNat * 4, none⟩ = false := hfr24 0
         have hf24_1 : World.frozen? _ ⟨go24, (x11_2 : Int).toNat * 4 + 1, none⟩ = false := hfr24 1
         have hf24_2 : World.frozen? _ ⟨go24, (x11_2 : Int).toNat * 4 + 2, none⟩ = false := hfr24 2
         have hf24_3 : World.frozen? _ ⟨go24, (x11_2 : Int).toNat * 4 + 3, none⟩ = false := hfr24 3
         clear hcl24 hcc24 hfr24 hM24
         replace p24 := eq_true p24
         replace q24 := eq_true q24
         obtain ⟨ce30, hcl30, hM30, hcc30, hfr30⟩ := Kd.R_elem HO_145004.out z47 (x11_2 : Int) (of_decide_eq_true (by first | (with_reducible assumption) | assumption)) (by have h_ : (x11_2 : Int) < ((x145004_2.length : Int) : Int) := of_decide_eq_true (by first | (with_reducible assumption) | assumption); first | exact h_ | (have e_ := (Kd.R_reads' HO_145004.out).1; omega) | simpa using h_)
         obtain rfl := k47_openM hM30
         have HP30 := (Kd.R_seg HO_145004.out (x11_2 : Int) (of_decide_eq_true (by first | (with_reducible assumption) | assumption)) (by have h_ : (x11_2 : Int) < ((x145004_2.length : Int) : Int) := of_decide_eq_true (by first | (with_reducible assumption) | assumption); first | exact h_ | (have e_ := (Kd.R_reads' HO_145004.out).1; omega) | simpa using h_) (seg := [.int .i64 t155, .int .i64 t156]) (j := 0) hcl30 hcc30 (show 2 ≤ 4 from by decide) (x' := (⟨(⟨t155, t156⟩ : S30), (⟨(rd_T47 x145004_2 x11_2).f1.f0, (rd_T47 x145004_2 x11_2).f1.f1⟩ : S30)⟩ : S47)) (k47_mkM _ _ _ (⟨(⟨t155, t156⟩ : S30), (⟨(rd_T47 x145004_2 x11_2).f1.f0, (rd_T47 x145004_2 x11_2).f1.f1⟩ : S30)⟩ : S47) ) (fun _ hk => hk)).1
         rw [← Ny157.out] at HP30
         have HQ30 := Aside0.mk HP30
         clear hcl30 hcc30 hfr30 hM30 HP30
         refine hK.out _ _ ⟨(blk_cell BK144.out 0).trans rfl, (blk_cell BK144.out 1).trans rfl, (blk_cell BK144.out 2).trans rfl, (blk_cell BK144.out 3).trans rfl, (blk_cell BK144.out 4).trans rfl⟩ (fun hHeld => ?_)
         clear hK K
         refine normA (N := some 62) ?_
         refine pureA (i := 6) (N := some 63) HT_ ?_
         refine pureA (i := 7) (N := some 64) HT_ ?_
         refine last_ (i := 8) (N := none) #[true, true, true, true, true, true, true, true, true] rfl rfl (one_of HT_.out (by kernel_rfl)) (by decide) (fun K hK => ?_)
         refine skip_ (w1 := ?_) (by rfl) rfl ?_ ?_
         rotate_left
         ·go_simp
          rfl
         refine hK.out _ _ ?_
         clear hK K
         refine done_ (done_of HT_.out (by kernel_rfl)) ?_
         try go_wp2
         go_roundg k2
         case measure => have := HJ7.out; have := HK2.out; omega
         case rel => exact ⟨(wrap64 (x11_2 + 1)), (y157), (.slice (some ⟨go24, 0, none⟩) x145004_2.length co27), (by first | rfl | (simp; done) | (simp [*]; done)), H', ⟨by have := HJ7.out; have := HK2.out; omega⟩, ⟨rX HQ30.out⟩, ⟨by (with_reducible repeat (first | refine blk_drewN ?_ _ | refine blk_drew ?_ | refine blk_alloc ?_ _)); refine blk_far ?_ (by have h_ := Kd.R_ne HO_145004.out BK136.out (by decide); intro e_; exact h_ (by rw [e_]; rfl)) _; (with_reducible repeat (first | refine blk_drewN ?_ _ | refine blk_drew ?_ | refine blk_alloc ?_ _)); refine blk_far ?_ (by have h_ := Kd.R_ne HO_145004.out BK136.out (by decide); intro e_; exact h_ (by rw [e_]; rfl)) _; (with_reducible repeat (first | refine blk_drewN ?_ _ | refine blk_drew ?_ | refine blk_alloc ?_ _)); exact BK136.out⟩, ⟨by (with_reducible repeat (first | refine blk_drewN ?_ _ | refine blk_drew ?_ | refine blk_alloc ?_ _)); refine blk_far ?_ (by have h_ := Kd.R_ne HO_145004.out BK144.out (by decide); intro e_; exact h_ (by rw [e_]; rfl)) _; (with_reducible repeat (first | refine blk_drewN ?_ _ | refine blk_drew ?_ | refine blk_alloc ?_ _)); refine blk_far ?_ (by have h_ := Kd.R_ne HO_145004.out BK144.out (by decide); intro e_; exact h_ (by rw [e_]; rfl)) _; (with_reducible repeat (first | refine blk_drewN ?_ _ | refine blk_drew ?_ | refine blk_alloc ?_ _)); exact BK144.out⟩, ⟨bX HB⟩⟩
        ·rw [if_neg c23] at H
         exact absurd H (by simp)
       ·rw [if_neg c21] at H
        have c21b0 : decide (x11_2 < (x145004_2.length : Int)) = false := decide_eq_false c21
        clear c21
        replace H := Option.bind_eq_some_iff.mp H
        obtain ⟨⟨t158, t159, t160⟩, A310, H⟩ := H
        try dsimp only at H
        have A31 := Aside0.mk A310
        clear A310
        have HC32 := Aside0.mk H
        clear H
        have hnb33 := NB144_136.out
        have hnc33 := NB136_144.out
        obtain ⟨hcz34_0, hcz34_1, hcz34_2, hcz34_3, hcz34_4, hfz34_0, hfz34_1, hfz34_2, hfz34_3, hfz34_4⟩ := cc5 BK144
        obtain ⟨Ao35, co35, eo35⟩ := Kd.R_slice HO_145004.out
        subst eo35
        go_upto_region 12 with (first | ((with_reducible refine gate_callee (f := 13) rfl ?_); refine goesA (some 67) Tryz.func13 #[.agg #[.int .i64 t137, .int .i64 t138, .int .i64 t139, .int .i64 t140, .slice Ao35 x145004_2.length co35]] ?_; (with_reducible refine (rivet_Opens.calls t137 t138 t139 t140 _ _ x145004_2 t158 t159 t160 _ ?side1 ?side2 A31.out).mono ?_); (case side1 => exact sX (Kd.R_reads' HO_145004.out).2.2); (case side2 => exact (Kd.R_reads' HO_145004.out).2.1); rintro e w36 ⟨rfl, hb⟩; refine ⟨_, rfl, ?_⟩; replace HO_145004 := rB HO_145004 hb; replace BK136 := kB BK136 hb; replace BK144 := kB BK144 hb; replace HB := bS HB hb; (try clear hb); (try clear hb2); (try clear hk); (try clear hi)) | ((with_reducible refine gate_dst (N := 12) rfl ?_); (try (refine gate_guard (by rfl) ?_; dsimp only)); refine boxA (N := 12) (cs := #[.int .i64 0, .int .i64 0]) (t := 30) ?_; intro gb161 hg w37 hbox hb; have BK161 := Aside0.mk (hbox); have GW161 := bG HB hg; have GE161 := bG HB hg; have NB136_161 := kN BK136 hg; have NB161_136 := kM BK136 hg; have NB144_161 := kN BK144 hg; have NB161_144 := kM BK144 hg; replace HO_145004 := rB HO_145004 hb; replace BK136 := kB BK136 hb; replace BK144 := kB BK144 hb; replace HB := bS HB hb; clear hb hbox hg; have hnb38 := NB161_136.out; have hnc38 := NB136_161.out; have hnb39 := NB161_144.out; have hnc39 := NB144_161.out; obtain ⟨hcz40_0, hcz40_1, hfz40_0, hfz40_1⟩ := cc2 BK161))
        (try simp only [Act.put, List.setIfInBounds_toArray, List.set_cons_zero, List.set_cons_succ])
        go_cut [78] (fun v78 wc => ∃ (kq : Nat) (x78_31 : Bool), v78 = .bool x78_31 ∧ Aside0 (panachetop_TopArc.j3 kq (Int.tmod (wrap64 (a2)) 30) t152 x78_31 = some r) ∧ Aside0 (kq ≤ k2) ∧ Aside0 (Kd.R k47 47 wc w.heap.size (fun _ => True) (.slice Ao35 x145004_2.length co35) x145004_2) ∧ Aside0 (wc.heap[gb136]? = some (.cells #[(.slice A0_0 l0_0.length c0_0)] 24 (0, 0))) ∧ Aside0 (wc.heap[gb144]? = some (.cells #[.int .i64 t137, .int .i64 t138, .int .i64 t139, .int .i64 t140, (.slice Ao35 x145004_2.length co35)] 33 (0, 0))) ∧ Aside0 (wc.heap[gb161]? = some (.cells #[.int .i64 t158, .int .i64 t159] 30 (0, 0))) ∧ Aside0 (Below w.heap.size w wc))
        case first =>
         have H := HC32.out
         clear HC32
         by_cases c41 : t160 = 0
         ·rw [if_pos c41] at H
          have c41b0 : (t160 == 0) = true := beq_iff_eq.mpr c41
          have c41b1 : (t160 != 0) = false := bne_eq_false_iff_eq.mpr c41
          clear c41
          (first | rw [c41b0] | (simp only [i64_w, i32_w]; rw [c41b0]) | skip)
          have H' := Aside0.mk H
          clear H
          have hnb42 := NB161_136.out
          have hnc42 := NB136_161.out
          have hnb43 := NB161_144.out
          have hnc43 := NB144_161.out
          obtain ⟨hcz44_0, hcz44_1, hfz44_0, hfz44_1⟩ := cc2 BK161
          go_wp2
          go_meet
          case rel => exact ⟨_, (decide (t158 < (wrap64 (a1)))), (by first | rfl | (simp; done) | (simp [*]; done)), H', ⟨by have := HJ7.out; have := HK2.out; first | omega | exact Nat.le_refl _⟩, ⟨by (with_reducible repeat (first | apply Kd.R_alloc | apply Kd.R_drewN | apply Kd.R_drew)); exact Kd.R_mono (Kd.R_far (p := ⟨gb161, 1, none⟩) (Kd.R_far (p := ⟨gb161, 0, none⟩) (Kd.R_types HO_145004.out BK161.out (by decide)) (fun _ hk => hk.2) (.int .i64 t158)) (fun _ hk => hk.2) (.int .i64 t159)) (fun _ hk => trivial)⟩, ⟨by (with_reducible repeat (first | refine blk_drewN ?_ _ | refine blk_drew ?_ | refine blk_alloc ?_ _)); refine blk_far ?_ NB136_161.out _; (with_reducible repeat (first | refine blk_drewN ?_ _ | refine blk_drew ?_ | refine blk_alloc ?_ _)); refine blk_far ?_ NB136_161.out _; (with_reducible repeat (first | refine blk_drewN ?_ _ | refine blk_drew ?_ | refine blk_alloc ?_ _)); exact BK136.out⟩, ⟨by (with_reducible repeat (first | refine blk_drewN ?_ _ | refine blk_drew ?_ | refine blk_alloc ?_ _)); refine blk_far ?_ NB144_161.out _; (with_reducible repeat (first | refine blk_drewN ?_ _ | refine blk_drew ?_ | refine blk_alloc ?_ _)); refine blk_far ?_ NB144_161.out _; (with_reducible repeat (first | refine blk_drewN ?_ _ | refine blk_drew ?_ | refine blk_alloc ?_ _)); exact BK144.out⟩, ⟨by (with_reducible repeat (first | refine blk_drewN ?_ _ | refine blk_drew ?_ | refine blk_alloc ?_ _)); refine blk_put (cs := #[.int .i64 t158, .int .i64 0]) ?_ 1 _ rfl; (with_reducible repeat (first | refine blk_drewN ?_ _ | refine blk_drew ?_ | refine blk_alloc ?_ _)); refine blk_put (cs := #[.int .i64 0, .int .i64 0]) ?_ 0 _ rfl; (with_reducible repeat (first | refine blk_drewN ?_ _ | refine blk_drew ?_ | refine blk_alloc ?_ _)); exact BK161.out⟩, ⟨bX HB⟩⟩
         ·rw [if_neg c41] at H
          have c41b0 : (t160 == 0) = false := beq_eq_false_iff_ne.mpr c41
          have c41b1 : (t160 != 0) = true := bne_iff_ne.mpr c41
          (first | rw [c41b0] | (simp only [i64_w, i32_w]; rw [c41b0]) | skip)
          have H' := Aside0.mk H
          clear H
          go_wp2
          go_meet
          case rel => exact ⟨_, (true), (by first | rfl | (simp; done) | (simp [*]; done)), H', ⟨by have := HJ7.out; have := HK2.out; first | omega | exact Nat.le_refl _⟩, ⟨by (with_reducible repeat (first | apply Kd.R_alloc | apply Kd.R_drewN | apply Kd.R_drew)); exact Kd.R_mono (Kd.R_far (p := ⟨gb161, 1, none⟩) (Kd.R_far (p := ⟨gb161, 0, none⟩) (Kd.R_types HO_145004.out BK161.out (by decide)) (fun _ hk => hk.2) (.int .i64 t158)) (fun _ hk => hk.2) (.int .i64 t159)) (fun _ hk => trivial)⟩, ⟨by (with_reducible repeat (first | refine blk_drewN ?_ _ | refine blk_drew ?_ | refine blk_alloc ?_ _)); refine blk_far ?_ NB136_161.out _; (with_reducible repeat (first | refine blk_drewN ?_ _ | refine blk_drew ?_ | refine blk_alloc ?_ _)); refine blk_far ?_ NB136_161.out _; (with_reducible repeat (first | refine blk_drewN ?_ _ | refine blk_drew ?_ | refine blk_alloc ?_ _)); exact BK136.out⟩, ⟨by (with_reducible repeat (first | refine blk_drewN ?_ _ | refine blk_drew ?_ | refine blk_alloc ?_ _)); refine blk_far ?_ NB144_161.out _; (with_reducible repeat (first | refine blk_drewN ?_ _ | refine blk_drew ?_ | refine blk_alloc ?_ _)); refine blk_far ?_ NB144_161.out _; (with_reducible repeat (first | refine blk_drewN ?_ _ | refine blk_drew ?_ | refine blk_alloc ?_ _)); exact BK144.out⟩, ⟨by (with_reducible repeat (first | refine blk_drewN ?_ _ | refine blk_drew ?_ | refine blk_alloc ?_ _)); refine blk_put (cs := #[.int .i64 t158, .int .i64 0]) ?_ 1 _ rfl; (with_reducible repeat (first | refine blk_drewN ?_ _ | refine blk_drew ?_ | refine blk_alloc ?_ _)); refine blk_put (cs := #[.int .i64 0, .int .i64 0]) ?_ 0 _ rfl; (with_reducible repeat (first | refine blk_drewN ?_ _ | refine blk_drew ?_ | refine blk_alloc ?_ _)); exact BK161.out⟩, ⟨bX HB⟩⟩
        case rest =>
         clear HC32
         try clear c1
         try clear c2
         try clear p2
         try clear q2
         try clear hx2
         try clear c3
         try clear c4
         try clear c6
         try clear p6
         try clear c7
         try clear c7b0
         try clear c7b1
         try clear c8
         try clear c13
         try clear c14
         try clear c15
         try clear c19
         try clear c19b0
         try clear c20
         try clear c21
         try clear c21b0
         try clear c23
         try clear c23b0
         try clear c24
         try clear p24
         try clear q24
         try clear hx24
         try clear hf24
         try clear c25
         try clear c30
         try clear c33
         try clear c38
         try clear c39
         try clear c41
         try clear c41b0
         try clear c41b1
         try clear c42
         try clear c43
         try clear hcz10_0 hfz10_0
         try clear hcz14_0 hcz14_1 hcz14_2 hcz14_3 hcz14_4 hfz14_0 hfz14_1 hfz14_2 hfz14_3 hfz14_4
         try clear hcz26_0 hcz26_1 hcz26_2 hcz26_3 hcz26_4 hfz26_0 hfz26_1 hfz26_2 hfz26_3 hfz26_4
         try clear hcz34_0 hcz34_1 hcz34_2 hcz34_3 hcz34_4 hfz34_0 hfz34_1 hfz34_2 hfz34_3 hfz34_4
         try clear hcz40_0 hcz40_1 hfz40_0 hfz40_1
         try clear hcz44_0 hcz44_1 hfz44_0 hfz44_1
         try clear hx24_0
         try clear hx24_1
         try clear hx24_2
         try clear hx24_3
         try clear p2
         try clear p24
         try clear p6
         try clear q24
         obtain ⟨kq, x78_31, rfl, HA, HJ31, HO_145004, BK136, BK144, BK161, HB⟩ := hcut
         cases kq with
         | zero => exact absurd HA.out (by simp [panachetop_TopArc.j3])
         | succ kj31 =>
          have H := HA.out
          clear HA
          simp only [panachetop_TopArc.j3] at H
          by_cases c45 : x78_31 = true
          ·subst c45
           have H1 : (some false) = some r := by rw [if_pos rfl] at H; exact H
           clear H
           have H := H1
           clear H1
           obtain rfl := Option.some.inj H
           go_wp2
           go_ret
           exact ⟨by first | rfl | (simp [errW_none, errW_some] <;> rfl) | (simp [*, errW_none, errW_some] <;> rfl), bX HB⟩
          ·replace c45 := Bool.eq_false_iff.mpr c45
           subst c45
           have H1 : ((some (([0, wrap64 ((mx 1 t152) + (wrap64 (2 * (Int.tmod (wrap64 (a2)) 30)))), wrap64 (2 * (wrap64 ((mx 1 t152) + (wrap64 (2 * (Int.tmod (wrap64 (a2)) 30))))))] : List Int) : List Int)).bind fun y162 => ((panachetop_ellSpan.f (Int.tmod (wrap64 (a2)) 30) (Int.tmod (wrap64 (a2)) 30)).bind fun bt166 => ((panachetop_ellSpan.f (wrap64 ((Int.tmod (wrap64 (a2)) 30) + (mx 1 t152))) (wrap64 ((Int.tmod (wrap64 (a2)) 30) + (mx 1 t152)))).bind fun bt168 => ((panachetop_ellSpan.f (Int.tmod (wrap64 (a2)) 30) (Int.tmod (wrap64 (a2)) 30)).bind fun bt170 => ((panachetop_ellSpan.f (wrap64 ((wrap64 ((Int.tmod (wrap64 (a2)) 30) + (mx 1 t152))) + 1)) (wrap64 ((wrap64 ((Int.tmod (wrap64 (a2)) 30) + (mx 1 t152))) + 1))).bind fun bt172 => ((pleat_Hit.f (wrap64 (3 * (wrap64 ((mx 1 t152) + (wrap64 (2 * (Int.tmod (wrap64 (a2)) 30))))))) (([(⟨(⟨bt166.1, bt166.2⟩ : S30), (⟨bt168.1, bt168.2⟩ : S30)⟩ : S55), (⟨(⟨bt170.1, bt170.2⟩ : S30), (⟨bt172.1, bt172.2⟩ : S30)⟩ : S55)] : List (S55))) y162 (Int.tmod (wrap64 (a2)) 30) (mx 1 t152) 0 0).bind fun bt178 => ((panachetop_ellMould.f y162 (Int.tmod (wrap64 (a2)) 30) (mx 1 t152) 0).bind fun bt185 => ((pleat_Mould.f bt185.1 bt185.2.1 bt185.2.2.1 bt185.2.2.2).bind fun t191 => (if t191 = 0 then (if bt178.2.2 = 0 then ((panachetop_ellInts.f kj31 bt178.1 (([1] : List Int))).bind fun t195 => (if t195 = true then ((panachetop_ellInts.f kj31 bt178.2.1 bt178.1).bind fun t196 => (if t196 = true then ((panachetop_ellKnown05.f).bind fun t197 => (panachetop_TopArc.j4 kj31 t197)) else (panachetop_TopArc.j4 kj31 false))) else (panachetop_TopArc.j4 kj31 false))) else (panachetop_TopArc.j4 kj31 false)) else (panachetop_TopArc.j4 kj31 false)))))))))) = some r := by rw [if_neg (show ¬ (false = true) by decide)] at H; exact H
           clear H
           have H := H1
           clear H1
           obtain ⟨ji46, hji46⟩ : ∃ j_ : Int, (mx 1 t152) = j_ := ⟨_, rfl⟩
           replace H : ((some (([0, wrap64 ((ji46) + (wrap64 (2 * (Int.tmod (wrap64 (a2)) 30)))), wrap64 (2 * (wrap64 ((ji46) + (wrap64 (2 * (Int.tmod (wrap64 (a2)) 30))))))] : List Int) : List Int)).bind fun y162 => ((panachetop_ellSpan.f (Int.tmod (wrap64 (a2)) 30) (Int.tmod (wrap64 (a2)) 30)).bind fun bt166 => ((panachetop_ellSpan.f (wrap64 ((Int.tmod (wrap64 (a2)) 30) + (ji46))) (wrap64 ((Int.tmod (wrap64 (a2)) 30) + (ji46)))).bind fun bt168 => ((panachetop_ellSpan.f (Int.tmod (wrap64 (a2)) 30) (Int.tmod (wrap64 (a2)) 30)).bind fun bt170 => ((panachetop_ellSpan.f (wrap64 ((wrap64 ((Int.tmod (wrap64 (a2)) 30) + (ji46))) + 1)) (wrap64 ((wrap64 ((Int.tmod (wrap64 (a2)) 30) + (ji46))) + 1))).bind fun bt172 => ((pleat_Hit.f (wrap64 (3 * (wrap64 ((ji46) + (wrap64 (2 * (Int.tmod (wrap64 (a2)) 30))))))) (([(⟨(⟨bt166.1, bt166.2⟩ : S30), (⟨bt168.1, bt168.2⟩ : S30)⟩ : S55), (⟨(⟨bt170.1, bt170.2⟩ : S30), (⟨bt172.1, bt172.2⟩ : S30)⟩ : S55)] : List (S55))) y162 (Int.tmod (wrap64 (a2)) 30) (ji46) 0 0).bind fun bt178 => ((panachetop_ellMould.f y162 (Int.tmod (wrap64 (a2)) 30) (ji46) 0).bind fun bt185 => ((pleat_Mould.f bt185.1 bt185.2.1 bt185.2.2.1 bt185.2.2.2).bind fun t191 => (if t191 = 0 then (if bt178.2.2 = 0 then ((panachetop_ellInts.f kj31 bt178.1 (([1] : List Int))).bind fun t195 => (if t195 = true then ((panachetop_ellInts.f kj31 bt178.2.1 bt178.1).bind fun t196 => (if t196 = true then ((panachetop_ellKnown05.f).bind fun t197 => (panachetop_TopArc.j4 kj31 t197)) else (panachetop_TopArc.j4 kj31 false))) else (panachetop_TopArc.j4 kj31 false))) else (panachetop_TopArc.j4 kj31 false)) else (panachetop_TopArc.j4 kj31 false)))))))))) = some r := by first | (rw [hji46] at H; exact H) | (simp only [hji46] at H ⊢; exact H)
           have hji46_ : (if 1 < t152 then t152 else 1) = ji46 := hji46
           obtain ⟨y162, hy162⟩ : ∃ y_ : List Int, y_ = (([0, wrap64 ((ji46) + (wrap64 (2 * (Int.tmod (wrap64 (a2)) 30)))), wrap64 (2 * (wrap64 ((ji46) + (wrap64 (2 * (Int.tmod (wrap64 (a2)) 30))))))] : List Int)) := ⟨_, rfl⟩
           replace H : ((panachetop_ellSpan.f (Int.tmod (wrap64 (a2)) 30) (Int.tmod (wrap64 (a2)) 30)).bind fun bt166 => ((panachetop_ellSpan.f (wrap64 ((Int.tmod (wrap64 (a2)) 30) + (ji46))) (wrap64 ((Int.tmod (wrap64 (a2)) 30) + (ji46)))).bind fun bt168 => ((panachetop_ellSpan.f (Int.tmod (wrap64 (a2)) 30) (Int.tmod (wrap64 (a2)) 30)).bind fun bt170 => ((panachetop_ellSpan.f (wrap64 ((wrap64 ((Int.tmod (wrap64 (a2)) 30) + (ji46))) + 1)) (wrap64 ((wrap64 ((Int.tmod (wrap64 (a2)) 30) + (ji46))) + 1))).bind fun bt172 => ((pleat_Hit.f (wrap64 (3 * (wrap64 ((ji46) + (wrap64 (2 * (Int.tmod (wrap64 (a2)) 30))))))) (([(⟨(⟨bt166.1, bt166.2⟩ : S30), (⟨bt168.1, bt168.2⟩ : S30)⟩ : S55), (⟨(⟨bt170.1, bt170.2⟩ : S30), (⟨bt172.1, bt172.2⟩ : S30)⟩ : S55)] : List (S55))) y162 (Int.tmod (wrap64 (a2)) 30) (ji46) 0 0).bind fun bt178 => ((panachetop_ellMould.f y162 (Int.tmod (wrap64 (a2)) 30) (ji46) 0).bind fun bt185 => ((pleat_Mould.f bt185.1 bt185.2.1 bt185.2.2.1 bt185.2.2.2).bind fun t191 => (if t191 = 0 then (if bt178.2.2 = 0 then ((panachetop_ellInts.f kj31 bt178.1 (([1] : List Int))).bind fun t195 => (if t195 = true then ((panachetop_ellInts.f kj31 bt178.2.1 bt178.1).bind fun t196 => (if t196 = true then ((panachetop_ellKnown05.f).bind fun t197 => (panachetop_TopArc.j4 kj31 t197)) else (panachetop_TopArc.j4 kj31 false))) else (panachetop_TopArc.j4 kj31 false))) else (panachetop_TopArc.j4 kj31 false)) else (panachetop_TopArc.j4 kj31 false))))))))) = some r := by first | (rw [hy162]; with_reducible exact H) | (have H2_ := (Option.bind_some _ _).symm.trans H; rw [hy162]; with_reducible exact H2_) | (have H2_ := (Option.bind_some _ _).symm.trans H; with_reducible exact H2_) | with_reducible exact H | (rw [hy162]; exact H) | exact H
           have Ny162 := Aside0.mk hy162
           clear hy162
           replace H := Option.bind_eq_some_iff.mp H
           obtain ⟨⟨t166, t167⟩, A470, H⟩ := H
           try dsimp only at H
           have A47 := Aside0.mk A470
           clear A470
           replace H := Option.bind_eq_some_iff.mp H
           obtain ⟨⟨t168, t169⟩, A480, H⟩ := H
           try dsimp only at H
           have A48 := Aside0.mk A480
           clear A480
           replace H := Option.bind_eq_some_iff.mp H
           obtain ⟨⟨t170, t171⟩, A490, H⟩ := H
           try dsimp only at H
           have A49 := Aside0.mk A490
           clear A490
           replace H := Option.bind_eq_some_iff.mp H
           obtain ⟨⟨t172, t173⟩, A500, H⟩ := H
           try dsimp only at H
           have A50 := Aside0.mk A500
           clear A500
           obtain ⟨y174, hy174⟩ : ∃ y_ : List (S55), y_ = (([(⟨(⟨t166, t167⟩ : S30), (⟨t168, t169⟩ : S30)⟩ : S55), (⟨(⟨t170, t171⟩ : S30), (⟨t172, t173⟩ : S30)⟩ : S55)] : List (S55))) := ⟨_, rfl⟩
           replace H : ((pleat_Hit.f (wrap64 (3 * (wrap64 ((ji46) + (wrap64 (2 * (Int.tmod (wrap64 (a2)) 30))))))) y174 y162 (Int.tmod (wrap64 (a2)) 30) (ji46) 0 0).bind fun bt178 => ((panachetop_ellMould.f y162 (Int.tmod (wrap64 (a2)) 30) (ji46) 0).bind fun bt185 => ((pleat_Mould.f bt185.1 bt185.2.1 bt185.2.2.1 bt185.2.2.2).bind fun t191 => (if t191 = 0 then (if bt178.2.2 = 0 then ((panachetop_ellInts.f kj31 bt178.1 (([1] : List Int))).bind fun t195 => (if t195 = true then ((panachetop_ellInts.f kj31 bt178.2.1 bt178.1).bind fun t196 => (if t196 = true then ((panachetop_ellKnown05.f).bind fun t197 => (panachetop_TopArc.j4 kj31 t197)) else (panachetop_TopArc.j4 kj31 false))) else (panachetop_TopArc.j4 kj31 false))) else (panachetop_TopArc.j4 kj31 false)) else (panachetop_TopArc.j4 kj31 false))))) = some r := by first | (rw [hy174]; with_reducible exact H) | (have H2_ := (Option.bind_some _ _).symm.trans H; rw [hy174]; with_reducible exact H2_) | (have H2_ := (Option.bind_some _ _).symm.trans H; with_reducible exact H2_) | with_reducible exact H | (rw [hy174]; exact H) | exact H
           have Ny174 := Aside0.mk hy174
           clear hy174
           replace H := Option.bind_eq_some_iff.mp H
           obtain ⟨⟨t178, t181, t184⟩, A510, H⟩ := H
           try dsimp only at H
           have A51 := Aside0.mk A510
           clear A510
           have HC52 := Aside0.mk H
           clear H
           go_upto_region 18 with (first | ((with_reducible refine gate_dst (N := 92) rfl ?_); (try (refine gate_guard (by rfl) ?_; dsimp only)); refine Kd.R_lit (Kd.int .i64) _ 3 ?hg (N := 92) ?hd (xs := ([0, wrap64 ((ji46) + (wrap64 (2 * (Int.tmod (wrap64 (a2)) 30)))), wrap64 (2 * (wrap64 ((ji46) + (wrap64 (2 * (Int.tmod (wrap64 (a2)) 30))))))] : List Int)) (inner := [.int .i64 0, .int .i64 (wrap64 ((ji46) + (wrap64 (2 * (Int.tmod (wrap64 (a2)) 30))))), .int .i64 (wrap64 (2 * (wrap64 ((ji46) + (wrap64 (2 * (Int.tmod (wrap64 (a2)) 30)))))))]) (ok := fun _ => True) (okp := fun _ => True) ?hr ?hp (fun _ hk => hk) trivial (Below.refl _ _) (Nat.le_refl _) (by simp) ?_; (case hd => rfl); (case hg => rfl); (case hr => first | (go_simp; done) | (go_simp; rfl)); (case hp => exact (Reps.one (show Kd.M (Kd.int .i64) _ _ _ 0 [.int .i64 0] from rfl) (Reps.one (show Kd.M (Kd.int .i64) _ _ _ (wrap64 ((ji46) + (wrap64 (2 * (Int.tmod (wrap64 (a2)) 30))))) [.int .i64 (wrap64 ((ji46) + (wrap64 (2 * (Int.tmod (wrap64 (a2)) 30)))))] from rfl) (Reps.one (show Kd.M (Kd.int .i64) _ _ _ (wrap64 (2 * (wrap64 ((ji46) + (wrap64 (2 * (Int.tmod (wrap64 (a2)) 30))))))) [.int .i64 (wrap64 (2 * (wrap64 ((ji46) + (wrap64 (2 * (Int.tmod (wrap64 (a2)) 30)))))))] from rfl) (Reps.none _ _))))); intro v163 w53 ho54 hb hg_ hnew_; clear hg_ hnew_; (first | rw [← Ny162.out] at ho54 | (simp only [Int.reduceToNat] at ho54; rw [← Ny162.out] at ho54)); have HO164 := Aside0.mk (Kd.R_lower ho54 (below_size (bX HB))); replace HO_145004 := rB HO_145004 hb; replace BK136 := kB BK136 hb; replace BK144 := kB BK144 hb; replace BK161 := kB BK161 hb; replace HB := bS HB hb; clear hb ho54; obtain ⟨Ao55, co55, eo55⟩ := Kd.R_slice HO164.out; subst eo55) | ((with_reducible refine gate_dst (N := 15) rfl ?_); (try (refine gate_guard (by rfl) ?_; dsimp only)); refine boxA (N := 15) (cs := #[.slice none 0 0, .int .i64 0, .int .i64 0, .int .i64 0]) (t := 53) ?_; intro gb165 hg w56 hbox hb; have BK165 := Aside0.mk (hbox); have GW165 := bG HB hg; have GE165 := bG HB hg; have NB136_165 := kN BK136 hg; have NB165_136 := kM BK136 hg; have NB144_165 := kN BK144 hg; have NB165_144 := kM BK144 hg; have NB161_165 := kN BK161 hg; have NB165_161 := kM BK161 hg; replace HO_145004 := rB HO_145004 hb; replace HO164 := rB HO164 hb; replace BK136 := kB BK136 hb; replace BK144 := kB BK144 hb; replace BK161 := kB BK161 hb; replace HB := bS HB hb; clear hb hbox hg; have hnb57 := NB165_136.out; have hnc57 := NB136_165.out; have hnb58 := NB165_144.out; have hnc58 := NB144_165.out; have hnb59 := NB165_161.out; have hnc59 := NB161_165.out; obtain ⟨hcz60_0, hcz60_1, hcz60_2, hcz60_3, hfz60_0, hfz60_1, hfz60_2, hfz60_3⟩ := cc4 BK165) | ((with_reducible refine gate_callee (f := 15) rfl ?_); refine goesA (some 101) Tryz.func15 #[.int .i64 (Int.tmod (wrap64 (a2)) 30), .int .i64 (Int.tmod (wrap64 (a2)) 30)] ?_; (with_reducible refine (panachetop_ellSpan.calls (Int.tmod (wrap64 (a2)) 30) (Int.tmod (wrap64 (a2)) 30) t166 t167 _ A47.out).mono ?_); rintro e w61 ⟨rfl, hb⟩; refine ⟨_, rfl, ?_⟩; have n0_ := Aside0.mk (Kd.R_below (rX (Kd.R_mono (Kd.R_far (p := ⟨gb165, 3, none⟩) (Kd.R_far (p := ⟨gb165, 2, none⟩) (Kd.R_far (p := ⟨gb165, 1, none⟩) (Kd.R_far (p := ⟨gb165, 0, none⟩) (Kd.R_types HO_145004.out BK165.out (by decide)) (fun _ hk => hk.2) (.slice Ao55 y162.length co55)) (fun _ hk => hk.2) (.int .i64 (Int.tmod (wrap64 (a2)) 30))) (fun _ hk => hk.2) (.int .i64 ji46)) (fun _ hk => hk.2) (.int .i64 0)) (fun _ h_ => h_.1))) hb); have n1_ := Aside0.mk (Kd.R_below (rX (Kd.R_mono (Kd.R_far (p := ⟨gb165, 3, none⟩) (Kd.R_far (p := ⟨gb165, 2, none⟩) (Kd.R_far (p := ⟨gb165, 1, none⟩) (Kd.R_far (p := ⟨gb165, 0, none⟩) (Kd.R_types HO164.out BK165.out (by decide)) (fun _ hk => hk.2) (.slice Ao55 y162.length co55)) (fun _ hk => hk.2) (.int .i64 (Int.tmod (wrap64 (a2)) 30))) (fun _ hk => hk.2) (.int .i64 ji46)) (fun _ hk => hk.2) (.int .i64 0)) (fun _ h_ => h_.1))) hb); have n2_ := Aside0.mk (blk_below (kF BK136 NB136_165) hb); have n3_ := Aside0.mk (blk_below (kF BK144 NB144_165) hb); have n4_ := Aside0.mk (blk_below (kF BK161 NB161_165) hb); have n5_ := Aside0.mk (blk_below (g := gb165) (o := .cells #[.slice Ao55 y162.length co55, .int .i64 (Int.tmod (wrap64 (a2)) 30), .int .i64 ji46, .int .i64 0] 53 (0, 0)) (by (with_reducible repeat (first | refine blk_drewN ?_ _ | refine blk_drew ?_ | refine blk_alloc ?_ _)); refine blk_put (cs := #[.slice Ao55 y162.length co55, .int .i64 (Int.tmod (wrap64 (a2)) 30), .int .i64 ji46, .int .i64 0]) ?_ 3 _ rfl; (with_reducible repeat (first | refine blk_drewN ?_ _ | refine blk_drew ?_ | refine blk_alloc ?_ _)); refine blk_put (cs := #[.slice Ao55 y162.length co55, .int .i64 (Int.tmod (wrap64 (a2)) 30), .int .i64 0, .int .i64 0]) ?_ 2 _ rfl; (with_reducible repeat (first | refine blk_drewN ?_ _ | refine blk_drew ?_ | refine blk_alloc ?_ _)); refine blk_put (cs := #[.slice Ao55 y162.length co55, .int .i64 0, .int .i64 0, .int .i64 0]) ?_ 1 _ rfl; (with_reducible repeat (first | refine blk_drewN ?_ _ | refine blk_drew ?_ | refine blk_alloc ?_ _)); refine blk_put (cs := #[.slice none 0 0, .int .i64 0, .int .i64 0, .int .i64 0]) ?_ 0 _ rfl; (with_reducible repeat (first | refine blk_drewN ?_ _ | refine blk_drew ?_ | refine blk_alloc ?_ _)); exact BK165.out) hb); have n6_ := bS HB hb; clear HO_145004; clear HO164; clear BK136; clear BK144; clear BK161; clear BK165; clear HB; have HO_145004 := n0_; have HO164 := n1_; have BK136 := n2_; have BK144 := n3_; have BK161 := n4_; have BK165 := n5_; have HB := n6_; clear n0_ n1_ n2_ n3_ n4_ n5_ n6_; (try clear hb); (try clear hb2); (try clear hk); (try clear hi)) | ((with_reducible refine gate_callee (f := 15) rfl ?_); refine goesL_ (some 108) rfl rfl Tryz.func15 (by kernel_rfl) rfl #[.int .i64 (wrap64 ((Int.tmod (wrap64 (a2)) 30) + (ji46))), .int .i64 (wrap64 ((Int.tmod (wrap64 (a2)) 30) + (ji46)))] rfl (by (try simp only [List.map_toArray, List.map_cons, List.map_nil]); first | done | (simp only [hji46]; rfl) | rfl | (simp only [List.length_drop, List.length_take]; rfl)) ?_; (with_reducible refine (panachetop_ellSpan.calls (wrap64 ((Int.tmod (wrap64 (a2)) 30) + (ji46))) (wrap64 ((Int.tmod (wrap64 (a2)) 30) + (ji46))) t168 t169 _ A48.out).mono ?_); rintro e w62 ⟨rfl, hb⟩; refine ⟨_, rfl, ?_⟩; replace HO_145004 := rB HO_145004 hb; replace HO164 := rB HO164 hb; replace BK136 := kB BK136 hb; replace BK144 := kB BK144 hb; replace BK161 := kB BK161 hb; replace BK165 := kB BK165 hb; replace HB := bS HB hb; (try clear hb); (try clear hb2); (try clear hk); (try clear hi)) | ((with_reducible refine gate_callee (f := 15) rfl ?_); refine goesA (some 112) Tryz.func15 #[.int .i64 (Int.tmod (wrap64 (a2)) 30), .int .i64 (Int.tmod (wrap64 (a2)) 30)] ?_; (with_reducible refine (panachetop_ellSpan.calls (Int.tmod (wrap64 (a2)) 30) (Int.tmod (wrap64 (a2)) 30) t170 t171 _ A49.out).mono ?_); rintro e w63 ⟨rfl, hb⟩; refine ⟨_, rfl, ?_⟩; replace HO_145004 := rB HO_145004 hb; replace HO164 := rB HO164 hb; replace BK136 := kB BK136 hb; replace BK144 := kB BK144 hb; replace BK161 := kB BK161 hb; replace BK165 := kB BK165 hb; replace HB := bS HB hb; (try clear hb); (try clear hb2); (try clear hk); (try clear hi)) | ((with_reducible refine gate_callee (f := 15) rfl ?_); refine goesL_ (some 121) rfl rfl Tryz.func15 (by kernel_rfl) rfl #[.int .i64 (wrap64 ((wrap64 ((Int.tmod (wrap64 (a2)) 30) + (ji46))) + 1)), .int .i64 (wrap64 ((wrap64 ((Int.tmod (wrap64 (a2)) 30) + (ji46))) + 1))] rfl (by (try simp only [List.map_toArray, List.map_cons, List.map_nil]); first | done | (simp only [hji46]; rfl) | rfl | (simp only [List.length_drop, List.length_take]; rfl)) ?_; (with_reducible refine (panachetop_ellSpan.calls (wrap64 ((wrap64 ((Int.tmod (wrap64 (a2)) 30) + (ji46))) + 1)) (wrap64 ((wrap64 ((Int.tmod (wrap64 (a2)) 30) + (ji46))) + 1)) t172 t173 _ A50.out).mono ?_); rintro e w64 ⟨rfl, hb⟩; refine ⟨_, rfl, ?_⟩; replace HO_145004 := rB HO_145004 hb; replace HO164 := rB HO164 hb; replace BK136 := kB BK136 hb; replace BK144 := kB BK144 hb; replace BK161 := kB BK161 hb; replace BK165 := kB BK165 hb; replace HB := bS HB hb; (try clear hb); (try clear hb2); (try clear hk); (try clear hi)) | ((with_reducible refine gate_dst (N := 123) rfl ?_); (try (refine gate_guard (by rfl) ?_; dsimp only)); refine Kd.R_lit k55 _ 55 ?hg (N := 123) ?hd (xs := ([(⟨(⟨t166, t167⟩ : S30), (⟨t168, t169⟩ : S30)⟩ : S55), (⟨(⟨t170, t171⟩ : S30), (⟨t172, t173⟩ : S30)⟩ : S55)] : List (S55))) (inner := [.int .i64 t166, .int .i64 t167, .int .i64 t168, .int .i64 t169, .int .i64 t170, .int .i64 t171, .int .i64 t172, .int .i64 t173]) (ok := fun _ => True) (okp := fun _ => True) ?hr ?hp (fun _ hk => hk) trivial (Below.refl _ _) (Nat.le_refl _) (by simp) ?_; (case hd => rfl); (case hg => rfl); (case hr => first | (go_simp; done) | (go_simp; rfl)); (case hp => exact (Reps.c4 (show Kd.M k55 _ _ _ (⟨(⟨t166, t167⟩ : S30), (⟨t168, t169⟩ : S30)⟩ : S55) [.int .i64 t166, .int .i64 t167, .int .i64 t168, .int .i64 t169] from (k55_mkM _ _ _ (⟨(⟨t166, t167⟩ : S30), (⟨t168, t169⟩ : S30)⟩ : S55) )) (Reps.c4 (show Kd.M k55 _ _ _ (⟨(⟨t170, t171⟩ : S30), (⟨t172, t173⟩ : S30)⟩ : S55) [.int .i64 t170, .int .i64 t171, .int .i64 t172, .int .i64 t173] from (k55_mkM _ _ _ (⟨(⟨t170, t171⟩ : S30), (⟨t172, t173⟩ : S30)⟩ : S55) )) (Reps.none _ _)))); intro v175 w65 ho66 hb hg_ hnew_; clear hg_ hnew_; (first | rw [← Ny174.out] at ho66 | (simp only [Int.reduceToNat] at ho66; rw [← Ny174.out] at ho66)); have HO176 := Aside0.mk (Kd.R_lower ho66 (below_size (bX HB))); replace HO_145004 := rB HO_145004 hb; replace HO164 := rB HO164 hb; replace BK136 := kB BK136 hb; replace BK144 := kB BK144 hb; replace BK161 := kB BK161 hb; replace BK165 := kB BK165 hb; replace HB := bS HB hb; clear hb ho66; obtain ⟨Ao67, co67, eo67⟩ := Kd.R_slice HO176.out; subst eo67) | ((with_reducible refine gate_dst (N := 16) rfl ?_); (try (refine gate_guard (by rfl) ?_; dsimp only)); refine boxA (N := 16) (cs := #[.int .i64 0, .slice none 0 0]) (t := 58) ?_; intro gb177 hg w68 hbox hb; have BK177 := Aside0.mk (hbox); have GW177 := bG HB hg; have GE177 := bG HB hg; have NB136_177 := kN BK136 hg; have NB177_136 := kM BK136 hg; have NB144_177 := kN BK144 hg; have NB177_144 := kM BK144 hg; have NB161_177 := kN BK161 hg; have NB177_161 := kM BK161 hg; have NB165_177 := kN BK165 hg; have NB177_165 := kM BK165 hg; replace HO_145004 := rB HO_145004 hb; replace HO164 := rB HO164 hb; replace HO176 := rB HO176 hb; replace BK136 := kB BK136 hb; replace BK144 := kB BK144 hb; replace BK161 := kB BK161 hb; replace BK165 := kB BK165 hb; replace HB := bS HB hb; clear hb hbox hg; have hnb69 := NB177_136.out; have hnc69 := NB136_177.out; have hnb70 := NB177_144.out; have hnc70 := NB144_177.out; have hnb71 := NB177_161.out; have hnc71 := NB161_177.out; have hnb72 := NB177_165.out; have hnc72 := NB165_177.out; obtain ⟨hcz73_0, hcz73_1, hfz73_0, hfz73_1⟩ := cc2 BK177; obtain ⟨hcz74_0, hcz74_1, hcz74_2, hcz74_3, hfz74_0, hfz74_1, hfz74_2, hfz74_3⟩ := cc4 BK165) | ((with_reducible refine gate_callee (f := 16) rfl ?_); refine goesL_ (some 128) rfl rfl Tryz.func16 (by kernel_rfl) rfl #[.agg #[.int .i64 (wrap64 (3 * (wrap64 ((ji46) + (wrap64 (2 * (Int.tmod (wrap64 (a2)) 30))))))), .slice Ao67 y174.length co67], .agg #[.slice Ao55 y162.length co55, .int .i64 (Int.tmod (wrap64 (a2)) 30), .int .i64 ji46, .int .i64 0], .int .i64 0] rfl (by (try simp only [List.map_toArray, List.map_cons, List.map_nil]); first | done | (simp only [hji46]; rfl) | rfl | (simp only [List.length_drop, List.length_take]; rfl)) ?_; (with_reducible refine (pleat_Hit.calls (wrap64 (3 * (wrap64 ((ji46) + (wrap64 (2 * (Int.tmod (wrap64 (a2)) 30))))))) _ _ y174 _ _ y162 (Int.tmod (wrap64 (a2)) 30) ji46 0 0 t178 t181 t184 _ ?side1 ?side2 ?side3 ?side4 A51.out).mono ?_); (case side1 => refine (Kd.R_reads' (e := 55) (base := w.heap.size) (ok := fun k_ => True) (n := y174.length) (c := co67) ?_).2.2; exact (rX (Kd.R_mono (Kd.R_far (p := ⟨gb177, 1, none⟩) (Kd.R_far (p := ⟨gb177, 0, none⟩) (Kd.R_types HO176.out BK177.out (by decide)) (fun _ hk => hk.2) (.int .i64 (wrap64 (3 * (wrap64 ((ji46) + (wrap64 (2 * (Int.tmod (wrap64 (a2)) 30))))))))) (fun _ hk => hk.2) (.slice Ao67 y174.length co67)) (fun _ h_ => h_.1)))); (case side2 => exact (Kd.R_reads' HO176.out).2.1); (case side3 => refine (Kd.R_reads' (e := 3) (base := w.heap.size) (ok := fun k_ => True) (n := y162.length) (c := co55) ?_).2.2; exact (rX (Kd.R_mono (Kd.R_far (p := ⟨gb177, 1, none⟩) (Kd.R_far (p := ⟨gb177, 0, none⟩) (Kd.R_types HO164.out BK177.out (by decide)) (fun _ hk => hk.2) (.int .i64 (wrap64 (3 * (wrap64 ((ji46) + (wrap64 (2 * (Int.tmod (wrap64 (a2)) 30))))))))) (fun _ hk => hk.2) (.slice Ao67 y174.length co67)) (fun _ h_ => h_.1)))); (case side4 => exact (Kd.R_reads' HO164.out).2.1); rintro e w75 ⟨v179, v182, rfl, ho0, ho1, hb⟩; refine ⟨_, rfl, ?_⟩; have HO180 := Aside0.mk (Kd.R_lower (Kd.R_new' ho0 (Kd.R_lt (rX (Kd.R_mono (Kd.R_far (p := ⟨gb177, 1, none⟩) (Kd.R_far (p := ⟨gb177, 0, none⟩) (Kd.R_types HO164.out BK177.out (by decide)) (fun _ hk => hk.2) (.int .i64 (wrap64 (3 * (wrap64 ((ji46) + (wrap64 (2 * (Int.tmod (wrap64 (a2)) 30))))))))) (fun _ hk => hk.2) (.slice Ao67 y174.length co67)) (fun _ h_ => h_.1))))) (below_size (bX HB))); have HO183 := Aside0.mk (Kd.R_lower (Kd.R_new' ho1 (Kd.R_lt (rX (Kd.R_mono (Kd.R_far (p := ⟨gb177, 1, none⟩) (Kd.R_far (p := ⟨gb177, 0, none⟩) (Kd.R_types HO164.out BK177.out (by decide)) (fun _ hk => hk.2) (.int .i64 (wrap64 (3 * (wrap64 ((ji46) + (wrap64 (2 * (Int.tmod (wrap64 (a2)) 30))))))))) (fun _ hk => hk.2) (.slice Ao67 y174.length co67)) (fun _ h_ => h_.1))))) (below_size (bX HB))); replace HO_145004 := Aside0.mk (Kd.R_below (rX (Kd.R_mono (Kd.R_far (p := ⟨gb177, 1, none⟩) (Kd.R_far (p := ⟨gb177, 0, none⟩) (Kd.R_types HO_145004.out BK177.out (by decide)) (fun _ hk => hk.2) (.int .i64 (wrap64 (3 * (wrap64 ((ji46) + (wrap64 (2 * (Int.tmod (wrap64 (a2)) 30))))))))) (fun _ hk => hk.2) (.slice Ao67 y174.length co67)) (fun _ h_ => h_.1))) hb); replace HO164 := Aside0.mk (Kd.R_mono (Kd.R_told (Kd.R_told (Kd.R_old (rX (Kd.R_mono (Kd.R_far (p := ⟨gb177, 1, none⟩) (Kd.R_far (p := ⟨gb177, 0, none⟩) (Kd.R_types HO164.out BK177.out (by decide)) (fun _ hk => hk.2) (.int .i64 (wrap64 (3 * (wrap64 ((ji46) + (wrap64 (2 * (Int.tmod (wrap64 (a2)) 30))))))))) (fun _ hk => hk.2) (.slice Ao67 y174.length co67)) (fun _ h_ => h_.1))) hb) (Kd.R_base ho0)) (Kd.R_base ho1)) (fun _ h_ => h_.1)); replace HO176 := Aside0.mk (Kd.R_below (rX (Kd.R_mono (Kd.R_far (p := ⟨gb177, 1, none⟩) (Kd.R_far (p := ⟨gb177, 0, none⟩) (Kd.R_types HO176.out BK177.out (by decide)) (fun _ hk => hk.2) (.int .i64 (wrap64 (3 * (wrap64 ((ji46) + (wrap64 (2 * (Int.tmod (wrap64 (a2)) 30))))))))) (fun _ hk => hk.2) (.slice Ao67 y174.length co67)) (fun _ h_ => h_.1))) hb); replace BK136 := Aside0.mk (blk_below (kF BK136 NB136_177) hb); replace BK144 := Aside0.mk (blk_below (kF BK144 NB144_177) hb); replace BK161 := Aside0.mk (blk_below (kF BK161 NB161_177) hb); replace BK165 := Aside0.mk (blk_below (kF BK165 NB165_177) hb); replace BK177 := Aside0.mk (blk_below (g := gb177) (o := .cells #[.int .i64 (wrap64 (3 * (wrap64 ((ji46) + (wrap64 (2 * (Int.tmod (wrap64 (a2)) 30))))))), .slice Ao67 y174.length co67] 58 (0, 0)) (kP BK177) hb); replace HB := bS HB hb; (try clear hb); (try clear hb2); (try clear hk); (try clear hi); (try clear ho0); (try clear ho1)))
           (try simp only [Act.put, List.setIfInBounds_toArray, List.set_cons_zero, List.set_cons_succ])
           go_cut [6] (fun v6 wc => ∃ (kq : Nat) (x6_51 : Bool), v6 = .bool x6_51 ∧ Aside0 (panachetop_TopArc.j4 kq x6_51 = some r) ∧ Aside0 (kq ≤ kj31) ∧ Aside0 (Kd.R k47 47 wc w.heap.size (fun _ => True) (.slice Ao35 x145004_2.length co35) x145004_2) ∧ Aside0 (Kd.R (Kd.int .i64) 3 wc w.heap.size (fun _ => True) (.slice Ao55 y162.length co55) y162) ∧ Aside0 (Kd.R k55 55 wc w.heap.size (fun _ => True) (.slice Ao67 y174.length co67) y174) ∧ Aside0 (wc.heap[gb136]? = some (.cells #[(.slice A0_0 l0_0.length c0_0)] 24 (0, 0))) ∧ Aside0 (wc.heap[gb144]? = some (.cells #[.int .i64 t137, .int .i64 t138, .int .i64 t139, .int .i64 t140, (.slice Ao35 x145004_2.length co35)] 33 (0, 0))) ∧ Aside0 (wc.heap[gb161]? = some (.cells #[.int .i64 t158, .int .i64 t159] 30 (0, 0))) ∧ Aside0 (wc.heap[gb165]? = some (.cells #[(.slice Ao55 y162.length co55), .int .i64 (Int.tmod (wrap64 (a2)) 30), .int .i64 ji46, .int .i64 0] 53 (0, 0))) ∧ Aside0 (wc.heap[gb177]? = some (.cells #[.int .i64 (wrap64 (3 * (wrap64 ((ji46) + (wrap64 (2 * (Int.tmod (wrap64 (a2)) 30))))))), (.slice Ao67 y174.length co67)] 58 (0, 0))) ∧ Aside0 (Below w.heap.size w wc))
           case first =>
            have H := HC52.out
            clear HC52
            replace H := Option.bind_eq_some_iff.mp H
            obtain ⟨⟨t185, t188, t189, t190⟩, A760, H⟩ := H
            try dsimp only at H
            have A76 := Aside0.mk A760
            clear A760
            replace H := Option.bind_eq_some_iff.mp H
            obtain ⟨t191, A770, H⟩ := H
            try dsimp only at H
            have A77 := Aside0.mk A770
            clear A770
            by_cases c78 : t191 = 0
            ·rw [if_pos c78] at H
             have c78b0 : (t191 == 0) = true := beq_iff_eq.mpr c78
             have c78b1 : (t191 != 0) = false := bne_eq_false_iff_eq.mpr c78
             clear c78
             (first | rw [c78b0] | (simp only [i64_w, i32_w]; rw [c78b0]) | skip)
             by_cases c79 : t184 = 0
             ·rw [if_pos c79] at H
              have c79b0 : (t184 == 0) = true := beq_iff_eq.mpr c79
              have c79b1 : (t184 != 0) = false := bne_eq_false_iff_eq.mpr c79
              clear c79
              obtain ⟨y192, hy192⟩ : ∃ y_ : List Int, y_ = (([1] : List Int)) := ⟨_, rfl⟩
              replace H : ((panachetop_ellInts.f kj31 t178 y192).bind fun t195 => (if t195 = true then ((panachetop_ellInts.f kj31 t181 t178).bind fun t196 => (if t196 = true then ((panachetop_ellKnown05.f).bind fun t197 => (panachetop_TopArc.j4 kj31 t197)) else (panachetop_TopArc.j4 kj31 false))) else (panachetop_TopArc.j4 kj31 false))) = some r := by first | (rw [hy192]; with_reducible exact H) | (have H2_ := (Option.bind_some _ _).symm.trans H; rw [hy192]; with_reducible exact H2_) | (have H2_ := (Option.bind_some _ _).symm.trans H; with_reducible exact H2_) | with_reducible exact H | (rw [hy192]; exact H) | exact H
              have Ny192 := Aside0.mk hy192
              clear hy192
              replace H := Option.bind_eq_some_iff.mp H
              obtain ⟨t195, A800, H⟩ := H
              try dsimp only at H
              have A80 := Aside0.mk A800
              clear A800
              by_cases c81 : t195 = true
              ·subst c81
               have H1 : ((panachetop_ellInts.f kj31 t181 t178).bind fun t196 => (if t196 = true then ((panachetop_ellKnown05.f).bind fun t197 => (panachetop_TopArc.j4 kj31 t197)) else (panachetop_TopArc.j4 kj31 false))) = some r := by rw [if_pos rfl] at H; exact H
               clear H
               have H := H1
               clear H1
               replace H := Option.bind_eq_some_iff.mp H
               obtain ⟨t196, A820, H⟩ := H
               try dsimp only at H
               have A82 := Aside0.mk A820
               clear A820
               by_cases c83 : t196 = true
               ·subst c83
                have H1 : ((panachetop_ellKnown05.f).bind fun t197 => (panachetop_TopArc.j4 kj31 t197)) = some r := by rw [if_pos rfl] at H; exact H
                clear H
                have H := H1
                clear H1
                replace H := Option.bind_eq_some_iff.mp H
                obtain ⟨t197, A840, H⟩ := H
                try dsimp only at H
                have A84 := Aside0.mk A840
                clear A840
                have H' := Aside0.mk H
                clear H
                have hnb85 := NB165_136.out
                have hnc85 := NB136_165.out
                have hnb86 := NB165_144.out
                have hnc86 := NB144_165.out
                have hnb87 := NB165_161.out
                have hnc87 := NB161_165.out
                have hnb88 := NB165_177.out
                have hnc88 := NB177_165.out
                obtain ⟨hcz89_0, hcz89_1, hcz89_2, hcz89_3, hfz89_0, hfz89_1, hfz89_2, hfz89_3⟩ := cc4 BK165
                go_wp2_with (first | ((with_reducible refine gate_callee (f := 18) rfl ?_); refine goesL_ (some 133) rfl rfl Tryz.func18 (by kernel_rfl) rfl #[.agg #[.slice Ao55 y162.length co55, .int .i64 (Int.tmod (wrap64 (a2)) 30), .int .i64 ji46, .int .i64 0]] rfl (by (try simp only [List.map_toArray, List.map_cons, List.map_nil]); first | done | (simp only [hji46]; rfl) | rfl | (simp only [List.length_drop, List.length_take]; rfl)) ?_; (with_reducible refine (panachetop_ellMould.calls _ _ y162 (Int.tmod (wrap64 (a2)) 30) ji46 0 t185 t188 t189 t190 _ ?side1 ?side2 A76.out).mono ?_); (case side1 => exact sX (Kd.R_reads' HO164.out).2.2); (case side2 => exact (Kd.R_reads' HO164.out).2.1); rintro e w90 ⟨v186, rfl, ho0, hb⟩; refine ⟨_, rfl, ?_⟩; have HO187 := Aside0.mk (Kd.R_lower (Kd.R_new' (Kd.R_new' (Kd.R_new' ho0 (Kd.R_lt (rX HO164.out))) (Kd.R_lt (rX HO180.out))) (Kd.R_lt (rX HO183.out))) (below_size (bX HB))); replace HO_145004 := rB HO_145004 hb; replace HO164 := Aside0.mk (Kd.R_elder' (rX HO164.out) (Kd.R_base ho0) hb); replace HO176 := rB HO176 hb; replace HO180 := Aside0.mk (Kd.R_elder' (rX HO180.out) (Kd.R_base ho0) hb); replace HO183 := Aside0.mk (Kd.R_elder' (rX HO183.out) (Kd.R_base ho0) hb); replace BK136 := kB BK136 hb; replace BK144 := kB BK144 hb; replace BK161 := kB BK161 hb; replace BK165 := kB BK165 hb; replace BK177 := Aside0.mk (blk_below (g := gb177) (o := .cells #[.int .i64 (wrap64 (3 * (wrap64 ((ji46) + (wrap64 (2 * (Int.tmod (wrap64 (a2)) 30))))))), .slice Ao67 y174.length co67] 58 (0, 0)) (kX BK177.out) hb); replace HB := bS HB hb; (try clear hb); (try clear hb2); (try clear hk); (try clear hi); (try clear ho0); obtain ⟨Ao91, co91, eo91⟩ := Kd.R_slice HO187.out; subst eo91) | ((with_reducible refine gate_callee (f := 17) rfl ?_); refine goesA (some 134) Tryz.func17 #[.agg #[.slice Ao91 t185.length co91, .int .i64 t188, .int .i64 t189, .int .i64 t190]] ?_; (with_reducible refine (pleat_Mould.calls _ _ t185 t188 t189 t190 t191 _ ?side1 ?side2 A77.out).mono ?_); (case side1 => exact sX (Kd.R_reads' HO187.out).2.2); (case side2 => exact (Kd.R_reads' HO187.out).2.1); rintro e w92 ⟨rfl, hb⟩; refine ⟨_, rfl, ?_⟩; replace HO_145004 := rB HO_145004 hb; replace HO164 := rB HO164 hb; replace HO176 := rB HO176 hb; replace HO180 := rB HO180 hb; replace HO183 := rB HO183 hb; replace HO187 := rB HO187 hb; replace BK136 := kB BK136 hb; replace BK144 := kB BK144 hb; replace BK161 := kB BK161 hb; replace BK165 := kB BK165 hb; replace BK177 := Aside0.mk (blk_below (g := gb177) (o := .cells #[.int .i64 (wrap64 (3 * (wrap64 ((ji46) + (wrap64 (2 * (Int.tmod (wrap64 (a2)) 30))))))), .slice Ao67 y174.length co67] 58 (0, 0)) (kX BK177.out) hb); replace HB := bS HB hb; (try clear hb); (try clear hb2); (try clear hk); (try clear hi)) | ((with_reducible refine gate_dst (N := 142) rfl ?_); (try (refine gate_guard (by rfl) ?_; dsimp only)); refine Kd.R_lit (Kd.int .i64) _ 3 ?hg (N := 142) ?hd (xs := ([1] : List Int)) (inner := [.int .i64 1]) (ok := fun _ => True) (okp := fun _ => True) ?hr ?hp (fun _ hk => hk) trivial (Below.refl _ _) (Nat.le_refl _) (by simp) ?_; (case hd => rfl); (case hg => rfl); (case hr => first | (go_simp; done) | (go_simp; rfl)); (case hp => exact (Reps.one (show Kd.M (Kd.int .i64) _ _ _ 1 [.int .i64 1] from rfl) (Reps.none _ _))); intro v193 w93 ho94 hb hg_ hnew_; clear hg_ hnew_; (first | rw [← Ny192.out] at ho94 | (simp only [Int.reduceToNat] at ho94; rw [← Ny192.out] at ho94)); have HO194 := Aside0.mk (Kd.R_lower (Kd.R_new' (Kd.R_new' (Kd.R_new' (Kd.R_new' ho94 (Kd.R_lt (rX HO164.out))) (Kd.R_lt (rX HO180.out))) (Kd.R_lt (rX HO183.out))) (Kd.R_lt (rX HO187.out))) (below_size (bX HB))); replace HO_145004 := rB HO_145004 hb; replace HO164 := Aside0.mk (Kd.R_elder' (rX HO164.out) (Kd.R_base ho94) hb); replace HO176 := rB HO176 hb; replace HO180 := Aside0.mk (Kd.R_elder' (rX HO180.out) (Kd.R_base ho94) hb); replace HO183 := Aside0.mk (Kd.R_elder' (rX HO183.out) (Kd.R_base ho94) hb); replace HO187 := Aside0.mk (Kd.R_elder' (rX HO187.out) (Kd.R_base ho94) hb); replace BK136 := kB BK136 hb; replace BK144 := kB BK144 hb; replace BK161 := kB BK161 hb; replace BK165 := kB BK165 hb; replace BK177 := Aside0.mk (blk_below (g := gb177) (o := .cells #[.int .i64 (wrap64 (3 * (wrap64 ((ji46) + (wrap64 (2 * (Int.tmod (wrap64 (a2)) 30))))))), .slice Ao67 y174.length co67] 58 (0, 0)) (kX BK177.out) hb); replace HB := bS HB hb; clear hb ho94; obtain ⟨Ao95, co95, eo95⟩ := Kd.R_slice HO180.out; subst eo95; obtain ⟨Ao96, co96, eo96⟩ := Kd.R_slice HO194.out; subst eo96) | (go_at_call 19; (with_reducible refine (panachetop_ellInts.calls kj31 _ _ t178 _ _ y192 true _ ?side1 ?side2 ?side3 ?side4 A80.out).mono ?_); (case side1 => exact sX (Kd.R_reads' HO180.out).2.2); (case side2 => exact (Kd.R_reads' HO180.out).2.1); (case side3 => exact sX (Kd.R_reads' HO194.out).2.2); (case side4 => exact (Kd.R_reads' HO194.out).2.1); rintro e w' ⟨rfl, ⟨nd, rfl⟩⟩; obtain ⟨Ao97, co97, eo97⟩ := Kd.R_slice HO183.out; subst eo97) | (go_at_call 19; (with_reducible refine (panachetop_ellInts.calls kj31 _ _ t181 _ _ t178 true _ ?side1 ?side2 ?side3 ?side4 A82.out).mono ?_); (case side1 => exact sX (Kd.R_reads' HO183.out).2.2); (case side2 => exact (Kd.R_reads' HO183.out).2.1); (case side3 => exact sX (Kd.R_reads' HO180.out).2.2); (case side4 => exact (Kd.R_reads' HO180.out).2.1); rintro e w' ⟨rfl, ⟨nd, rfl⟩⟩) | (go_at_call 9; (with_reducible refine (panachetop_ellKnown05.calls  t197 _ A84.out (Tabs.below HT.out (bX HB))).mono ?_); rintro e w98 ⟨rfl, hb⟩; replace HO_145004 := rB HO_145004 hb; replace HO164 := rB HO164 hb; replace HO176 := rB HO176 hb; replace HO180 := rB HO180 hb; replace HO183 := rB HO183 hb; replace HO187 := rB HO187 hb; replace HO194 := rB HO194 hb; replace BK136 := kB BK136 hb; replace BK144 := kB BK144 hb; replace BK161 := kB BK161 hb; replace BK165 := kB BK165 hb; replace BK177 := Aside0.mk (blk_below (g := gb177) (o := .cells #[.int .i64 (wrap64 (3 * (wrap64 ((ji46) + (wrap64 (2 * (Int.tmod (wrap64 (a2)) 30))))))), .slice Ao67 y174.length co67] 58 (0, 0)) (kX BK177.out) hb); replace HB := bS HB hb; (try clear hb); (try clear hb2); (try clear hk); (try clear hi)))
                go_meet
                case rel => exact ⟨_, (t197), (by first | rfl | (simp; done) | (simp [*]; done)), H', ⟨by have := HJ7.out; have := HK2.out; have := HJ31.out; first | omega | exact Nat.le_refl _⟩, ⟨rX HO_145004.out⟩, ⟨by (with_reducible repeat (first | apply Kd.R_alloc | apply Kd.R_drewN | apply Kd.R_drew)); exact Kd.R_mono HO164.out (fun _ hk => trivial)⟩, ⟨rX HO176.out⟩, ⟨kX BK136.out⟩, ⟨kX BK144.out⟩, ⟨kX BK161.out⟩, ⟨kX BK165.out⟩, ⟨kX BK177.out⟩, ⟨bX HB⟩⟩
               ·replace c83 := Bool.eq_false_iff.mpr c83
                subst c83
                have H1 : (panachetop_TopArc.j4 kj31 false) = some r := by rw [if_neg (show ¬ (false = true) by decide)] at H; exact H
                clear H
                have H := H1
                clear H1
                have H' := Aside0.mk H
                clear H
                have hnb99 := NB165_136.out
                have hnc99 := NB136_165.out
                have hnb100 := NB165_144.out
                have hnc100 := NB144_165.out
                have hnb101 := NB165_161.out
                have hnc101 := NB161_165.out
                have hnb102 := NB165_177.out
                have hnc102 := NB177_165.out
                obtain ⟨hcz103_0, hcz103_1, hcz103_2, hcz103_3, hfz103_0, hfz103_1, hfz103_2, hfz103_3⟩ := cc4 BK165
                go_wp2_with (first | ((with_reducible refine gate_callee (f := 18) rfl ?_); refine goesL_ (some 133) rfl rfl Tryz.func18 (by kernel_rfl) rfl #[.agg #[.slice Ao55 y162.length co55, .int .i64 (Int.tmod (wrap64 (a2)) 30), .int .i64 ji46, .int .i64 0]] rfl (by (try simp only [List.map_toArray, List.map_cons, List.map_nil]); first | done | (simp only [hji46]; rfl) | rfl | (simp only [List.length_drop, List.length_take]; rfl)) ?_; (with_reducible refine (panachetop_ellMould.calls _ _ y162 (Int.tmod (wrap64 (a2)) 30) ji46 0 t185 t188 t189 t190 _ ?side1 ?side2 A76.out).mono ?_); (case side1 => exact sX (Kd.R_reads' HO164.out).2.2); (case side2 => exact (Kd.R_reads' HO164.out).2.1); rintro e w104 ⟨v186, rfl, ho0, hb⟩; refine ⟨_, rfl, ?_⟩; have HO187 := Aside0.mk (Kd.R_lower (Kd.R_new' (Kd.R_new' (Kd.R_new' ho0 (Kd.R_lt (rX HO164.out))) (Kd.R_lt (rX HO180.out))) (Kd.R_lt (rX HO183.out))) (below_size (bX HB))); replace HO_145004 := rB HO_145004 hb; replace HO164 := Aside0.mk (Kd.R_elder' (rX HO164.out) (Kd.R_base ho0) hb); replace HO176 := rB HO176 hb; replace HO180 := Aside0.mk (Kd.R_elder' (rX HO180.out) (Kd.R_base ho0) hb); replace HO183 := Aside0.mk (Kd.R_elder' (rX HO183.out) (Kd.R_base ho0) hb); replace BK136 := kB BK136 hb; replace BK144 := kB BK144 hb; replace BK161 := kB BK161 hb; replace BK165 := kB BK165 hb; replace BK177 := Aside0.mk (blk_below (g := gb177) (o := .cells #[.int .i64 (wrap64 (3 * (wrap64 ((ji46) + (wrap64 (2 * (Int.tmod (wrap64 (a2)) 30))))))), .slice Ao67 y174.length co67] 58 (0, 0)) (kX BK177.out) hb); replace HB := bS HB hb; (try clear hb); (try clear hb2); (try clear hk); (try clear hi); (try clear ho0); obtain ⟨Ao105, co105, eo105⟩ := Kd.R_slice HO187.out; subst eo105) | ((with_reducible refine gate_callee (f := 17) rfl ?_); refine goesA (some 134) Tryz.func17 #[.agg #[.slice Ao105 t185.length co105, .int .i64 t188, .int .i64 t189, .int .i64 t190]] ?_; (with_reducible refine (pleat_Mould.calls _ _ t185 t188 t189 t190 t191 _ ?side1 ?side2 A77.out).mono ?_); (case side1 => exact sX (Kd.R_reads' HO187.out).2.2); (case side2 => exact (Kd.R_reads' HO187.out).2.1); rintro e w106 ⟨rfl, hb⟩; refine ⟨_, rfl, ?_⟩; replace HO_145004 := rB HO_145004 hb; replace HO164 := rB HO164 hb; replace HO176 := rB HO176 hb; replace HO180 := rB HO180 hb; replace HO183 := rB HO183 hb; replace HO187 := rB HO187 hb; replace BK136 := kB BK136 hb; replace BK144 := kB BK144 hb; replace BK161 := kB BK161 hb; replace BK165 := kB BK165 hb; replace BK177 := Aside0.mk (blk_below (g := gb177) (o := .cells #[.int .i64 (wrap64 (3 * (wrap64 ((ji46) + (wrap64 (2 * (Int.tmod (wrap64 (a2)) 30))))))), .slice Ao67 y174.length co67] 58 (0, 0)) (kX BK177.out) hb); replace HB := bS HB hb; (try clear hb); (try clear hb2); (try clear hk); (try clear hi)) | ((with_reducible refine gate_dst (N := 142) rfl ?_); (try (refine gate_guard (by rfl) ?_; dsimp only)); refine Kd.R_lit (Kd.int .i64) _ 3 ?hg (N := 142) ?hd (xs := ([1] : List Int)) (inner := [.int .i64 1]) (ok := fun _ => True) (okp := fun _ => True) ?hr ?hp (fun _ hk => hk) trivial (Below.refl _ _) (Nat.le_refl _) (by simp) ?_; (case hd => rfl); (case hg => rfl); (case hr => first | (go_simp; done) | (go_simp; rfl)); (case hp => exact (Reps.one (show Kd.M (Kd.int .i64) _ _ _ 1 [.int .i64 1] from rfl) (Reps.none _ _))); intro v193 w107 ho108 hb hg_ hnew_; clear hg_ hnew_; (first | rw [← Ny192.out] at ho108 | (simp only [Int.reduceToNat] at ho108; rw [← Ny192.out] at ho108)); have HO194 := Aside0.mk (Kd.R_lower (Kd.R_new' (Kd.R_new' (Kd.R_new' (Kd.R_new' ho108 (Kd.R_lt (rX HO164.out))) (Kd.R_lt (rX HO180.out))) (Kd.R_lt (rX HO183.out))) (Kd.R_lt (rX HO187.out))) (below_size (bX HB))); replace HO_145004 := rB HO_145004 hb; replace HO164 := Aside0.mk (Kd.R_elder' (rX HO164.out) (Kd.R_base ho108) hb); replace HO176 := rB HO176 hb; replace HO180 := Aside0.mk (Kd.R_elder' (rX HO180.out) (Kd.R_base ho108) hb); replace HO183 := Aside0.mk (Kd.R_elder' (rX HO183.out) (Kd.R_base ho108) hb); replace HO187 := Aside0.mk (Kd.R_elder' (rX HO187.out) (Kd.R_base ho108) hb); replace BK136 := kB BK136 hb; replace BK144 := kB BK144 hb; replace BK161 := kB BK161 hb; replace BK165 := kB BK165 hb; replace BK177 := Aside0.mk (blk_below (g := gb177) (o := .cells #[.int .i64 (wrap64 (3 * (wrap64 ((ji46) + (wrap64 (2 * (Int.tmod (wrap64 (a2)) 30))))))), .slice Ao67 y174.length co67] 58 (0, 0)) (kX BK177.out) hb); replace HB := bS HB hb; clear hb ho108; obtain ⟨Ao109, co109, eo109⟩ := Kd.R_slice HO180.out; subst eo109; obtain ⟨Ao110, co110, eo110⟩ := Kd.R_slice HO194.out; subst eo110) | (go_at_call 19; (with_reducible refine (panachetop_ellInts.calls kj31 _ _ t178 _ _ y192 true _ ?side1 ?side2 ?side3 ?side4 A80.out).mono ?_); (case side1 => exact sX (Kd.R_reads' HO180.out).2.2); (case side2 => exact (Kd.R_reads' HO180.out).2.1); (case side3 => exact sX (Kd.R_reads' HO194.out).2.2); (case side4 => exact (Kd.R_reads' HO194.out).2.1); rintro e w' ⟨rfl, ⟨nd, rfl⟩⟩; obtain ⟨Ao111, co111, eo111⟩ := Kd.R_slice HO183.out; subst eo111) | (go_at_call 19; (with_reducible refine (panachetop_ellInts.calls kj31 _ _ t181 _ _ t178 false _ ?side1 ?side2 ?side3 ?side4 A82.out).mono ?_); (case side1 => exact sX (Kd.R_reads' HO183.out).2.2); (case side2 => exact (Kd.R_reads' HO183.out).2.1); (case side3 => exact sX (Kd.R_reads' HO180.out).2.2); (case side4 => exact (Kd.R_reads' HO180.out).2.1); rintro e w' ⟨rfl, ⟨nd, rfl⟩⟩))
                go_meet
                case rel => exact ⟨_, (false), (by first | rfl | (simp; done) | (simp [*]; done)), H', ⟨by have := HJ7.out; have := HK2.out; have := HJ31.out; first | omega | exact Nat.le_refl _⟩, ⟨rX HO_145004.out⟩, ⟨by (with_reducible repeat (first | apply Kd.R_alloc | apply Kd.R_drewN | apply Kd.R_drew)); exact Kd.R_mono HO164.out (fun _ hk => trivial)⟩, ⟨rX HO176.out⟩, ⟨kX BK136.out⟩, ⟨kX BK144.out⟩, ⟨kX BK161.out⟩, ⟨kX BK165.out⟩, ⟨kX BK177.out⟩, ⟨bX HB⟩⟩
              ·replace c81 := Bool.eq_false_iff.mpr c81
               subst c81
               have H1 : (panachetop_TopArc.j4 kj31 false) = some r := by rw [if_neg (show ¬ (false = true) by decide)] at H; exact H
               clear H
               have H := H1
               clear H1
               have H' := Aside0.mk H
               clear H
               have hnb112 := NB165_136.out
               have hnc112 := NB136_165.out
               have hnb113 := NB165_144.out
               have hnc113 := NB144_165.out
               have hnb114 := NB165_161.out
               have hnc114 := NB161_165.out
               have hnb115 := NB165_177.out
               have hnc115 := NB177_165.out
               obtain ⟨hcz116_0, hcz116_1, hcz116_2, hcz116_3, hfz116_0, hfz116_1, hfz116_2, hfz116_3⟩ := cc4 BK165
               go_wp2_with (first | ((with_reducible refine gate_callee (f := 18) rfl ?_); refine goesL_ (some 133) rfl rfl Tryz.func18 (by kernel_rfl) rfl #[.agg #[.slice Ao55 y162.length co55, .int .i64 (Int.tmod (wrap64 (a2)) 30), .int .i64 ji46, .int .i64 0]] rfl (by (try simp only [List.map_toArray, List.map_cons, List.map_nil]); first | done | (simp only [hji46]; rfl) | rfl | (simp only [List.length_drop, List.length_take]; rfl)) ?_; (with_reducible refine (panachetop_ellMould.calls _ _ y162 (Int.tmod (wrap64 (a2)) 30) ji46 0 t185 t188 t189 t190 _ ?side1 ?side2 A76.out).mono ?_); (case side1 => exact sX (Kd.R_reads' HO164.out).2.2); (case side2 => exact (Kd.R_reads' HO164.out).2.1); rintro e w117 ⟨v186, rfl, ho0, hb⟩; refine ⟨_, rfl, ?_⟩; have HO187 := Aside0.mk (Kd.R_lower (Kd.R_new' (Kd.R_new' (Kd.R_new' ho0 (Kd.R_lt (rX HO164.out))) (Kd.R_lt (rX HO180.out))) (Kd.R_lt (rX HO183.out))) (below_size (bX HB))); replace HO_145004 := rB HO_145004 hb; replace HO164 := Aside0.mk (Kd.R_elder' (rX HO164.out) (Kd.R_base ho0) hb); replace HO176 := rB HO176 hb; replace HO180 := Aside0.mk (Kd.R_elder' (rX HO180.out) (Kd.R_base ho0) hb); replace HO183 := Aside0.mk (Kd.R_elder' (rX HO183.out) (Kd.R_base ho0) hb); replace BK136 := kB BK136 hb; replace BK144 := kB BK144 hb; replace BK161 := kB BK161 hb; replace BK165 := kB BK165 hb; replace BK177 := Aside0.mk (blk_below (g := gb177) (o := .cells #[.int .i64 (wrap64 (3 * (wrap64 ((ji46) + (wrap64 (2 * (Int.tmod (wrap64 (a2)) 30))))))), .slice Ao67 y174.length co67] 58 (0, 0)) (kX BK177.out) hb); replace HB := bS HB hb; (try clear hb); (try clear hb2); (try clear hk); (try clear hi); (try clear ho0); obtain ⟨Ao118, co118, eo118⟩ := Kd.R_slice HO187.out; subst eo118) | ((with_reducible refine gate_callee (f := 17) rfl ?_); refine goesA (some 134) Tryz.func17 #[.agg #[.slice Ao118 t185.length co118, .int .i64 t188, .int .i64 t189, .int .i64 t190]] ?_; (with_reducible refine (pleat_Mould.calls _ _ t185 t188 t189 t190 t191 _ ?side1 ?side2 A77.out).mono ?_); (case side1 => exact sX (Kd.R_reads' HO187.out).2.2); (case side2 => exact (Kd.R_reads' HO187.out).2.1); rintro e w119 ⟨rfl, hb⟩; refine ⟨_, rfl, ?_⟩; replace HO_145004 := rB HO_145004 hb; replace HO164 := rB HO164 hb; replace HO176 := rB HO176 hb; replace HO180 := rB HO180 hb; replace HO183 := rB HO183 hb; replace HO187 := rB HO187 hb; replace BK136 := kB BK136 hb; replace BK144 := kB BK144 hb; replace BK161 := kB BK161 hb; replace BK165 := kB BK165 hb; replace BK177 := Aside0.mk (blk_below (g := gb177) (o := .cells #[.int .i64 (wrap64 (3 * (wrap64 ((ji46) + (wrap64 (2 * (Int.tmod (wrap64 (a2)) 30))))))), .slice Ao67 y174.length co67] 58 (0, 0)) (kX BK177.out) hb); replace HB := bS HB hb; (try clear hb); (try clear hb2); (try clear hk); (try clear hi)) | ((with_reducible refine gate_dst (N := 142) rfl ?_); (try (refine gate_guard (by rfl) ?_; dsimp only)); refine Kd.R_lit (Kd.int .i64) _ 3 ?hg (N := 142) ?hd (xs := ([1] : List Int)) (inner := [.int .i64 1]) (ok := fun _ => True) (okp := fun _ => True) ?hr ?hp (fun _ hk => hk) trivial (Below.refl _ _) (Nat.le_refl _) (by simp) ?_; (case hd => rfl); (case hg => rfl); (case hr => first | (go_simp; done) | (go_simp; rfl)); (case hp => exact (Reps.one (show Kd.M (Kd.int .i64) _ _ _ 1 [.int .i64 1] from rfl) (Reps.none _ _))); intro v193 w120 ho121 hb hg_ hnew_; clear hg_ hnew_; (first | rw [← Ny192.out] at ho121 | (simp only [Int.reduceToNat] at ho121; rw [← Ny192.out] at ho121)); have HO194 := Aside0.mk (Kd.R_lower (Kd.R_new' (Kd.R_new' (Kd.R_new' (Kd.R_new' ho121 (Kd.R_lt (rX HO164.out))) (Kd.R_lt (rX HO180.out))) (Kd.R_lt (rX HO183.out))) (Kd.R_lt (rX HO187.out))) (below_size (bX HB))); replace HO_145004 := rB HO_145004 hb; replace HO164 := Aside0.mk (Kd.R_elder' (rX HO164.out) (Kd.R_base ho121) hb); replace HO176 := rB HO176 hb; replace HO180 := Aside0.mk (Kd.R_elder' (rX HO180.out) (Kd.R_base ho121) hb); replace HO183 := Aside0.mk (Kd.R_elder' (rX HO183.out) (Kd.R_base ho121) hb); replace HO187 := Aside0.mk (Kd.R_elder' (rX HO187.out) (Kd.R_base ho121) hb); replace BK136 := kB BK136 hb; replace BK144 := kB BK144 hb; replace BK161 := kB BK161 hb; replace BK165 := kB BK165 hb; replace BK177 := Aside0.mk (blk_below (g := gb177) (o := .cells #[.int .i64 (wrap64 (3 * (wrap64 ((ji46) + (wrap64 (2 * (Int.tmod (wrap64 (a2)) 30))))))), .slice Ao67 y174.length co67] 58 (0, 0)) (kX BK177.out) hb); replace HB := bS HB hb; clear hb ho121; obtain ⟨Ao122, co122, eo122⟩ := Kd.R_slice HO180.out; subst eo122; obtain ⟨Ao123, co123, eo123⟩ := Kd.R_slice HO194.out; subst eo123) | (go_at_call 19; (with_reducible refine (panachetop_ellInts.calls kj31 _ _ t178 _ _ y192 false _ ?side1 ?side2 ?side3 ?side4 A80.out).mono ?_); (case side1 => exact sX (Kd.R_reads' HO180.out).2.2); (case side2 => exact (Kd.R_reads' HO180.out).2.1); (case side3 => exact sX (Kd.R_reads' HO194.out).2.2); (case side4 => exact (Kd.R_reads' HO194.out).2.1); rintro e w' ⟨rfl, ⟨nd, rfl⟩⟩))
               go_meet
               case rel => exact ⟨_, (false), (by first | rfl | (simp; done) | (simp [*]; done)), H', ⟨by have := HJ7.out; have := HK2.out; have := HJ31.out; first | omega | exact Nat.le_refl _⟩, ⟨rX HO_145004.out⟩, ⟨by (with_reducible repeat (first | apply Kd.R_alloc | apply Kd.R_drewN | apply Kd.R_drew)); exact Kd.R_mono HO164.out (fun _ hk => trivial)⟩, ⟨rX HO176.out⟩, ⟨kX BK136.out⟩, ⟨kX BK144.out⟩, ⟨kX BK161.out⟩, ⟨kX BK165.out⟩, ⟨kX BK177.out⟩, ⟨bX HB⟩⟩
             ·rw [if_neg c79] at H
              have c79b0 : (t184 == 0) = false := beq_eq_false_iff_ne.mpr c79
              have c79b1 : (t184 != 0) = true := bne_iff_ne.mpr c79
              have H' := Aside0.mk H
              clear H
              have hnb124 := NB165_136.out
              have hnc124 := NB136_165.out
              have hnb125 := NB165_144.out
              have hnc125 := NB144_165.out
              have hnb126 := NB165_161.out
              have hnc126 := NB161_165.out
              have hnb127 := NB165_177.out
              have hnc127 := NB177_165.out
              obtain ⟨hcz128_0, hcz128_1, hcz128_2, hcz128_3, hfz128_0, hfz128_1, hfz128_2, hfz128_3⟩ := cc4 BK165
              go_wp2_with (first | ((with_reducible refine gate_callee (f := 18) rfl ?_); refine goesL_ (some 133) rfl rfl Tryz.func18 (by kernel_rfl) rfl #[.agg #[.slice Ao55 y162.length co55, .int .i64 (Int.tmod (wrap64 (a2)) 30), .int .i64 ji46, .int .i64 0]] rfl (by (try simp only [List.map_toArray, List.map_cons, List.map_nil]); first | done | (simp only [hji46]; rfl) | rfl | (simp only [List.length_drop, List.length_take]; rfl)) ?_; (with_reducible refine (panachetop_ellMould.calls _ _ y162 (Int.tmod (wrap64 (a2)) 30) ji46 0 t185 t188 t189 t190 _ ?side1 ?side2 A76.out).mono ?_); (case side1 => exact sX (Kd.R_reads' HO164.out).2.2); (case side2 => exact (Kd.R_reads' HO164.out).2.1); rintro e w129 ⟨v186, rfl, ho0, hb⟩; refine ⟨_, rfl, ?_⟩; have HO187 := Aside0.mk (Kd.R_lower (Kd.R_new' (Kd.R_new' (Kd.R_new' ho0 (Kd.R_lt (rX HO164.out))) (Kd.R_lt (rX HO180.out))) (Kd.R_lt (rX HO183.out))) (below_size (bX HB))); replace HO_145004 := rB HO_145004 hb; replace HO164 := Aside0.mk (Kd.R_elder' (rX HO164.out) (Kd.R_base ho0) hb); replace HO176 := rB HO176 hb; replace HO180 := Aside0.mk (Kd.R_elder' (rX HO180.out) (Kd.R_base ho0) hb); replace HO183 := Aside0.mk (Kd.R_elder' (rX HO183.out) (Kd.R_base ho0) hb); replace BK136 := kB BK136 hb; replace BK144 := kB BK144 hb; replace BK161 := kB BK161 hb; replace BK165 := kB BK165 hb; replace BK177 := Aside0.mk (blk_below (g := gb177) (o := .cells #[.int .i64 (wrap64 (3 * (wrap64 ((ji46) + (wrap64 (2 * (Int.tmod (wrap64 (a2)) 30))))))), .slice Ao67 y174.length co67] 58 (0, 0)) (kX BK177.out) hb); replace HB := bS HB hb; (try clear hb); (try clear hb2); (try clear hk); (try clear hi); (try clear ho0); obtain ⟨Ao130, co130, eo130⟩ := Kd.R_slice HO187.out; subst eo130) | ((with_reducible refine gate_callee (f := 17) rfl ?_); refine goesA (some 134) Tryz.func17 #[.agg #[.slice Ao130 t185.length co130, .int .i64 t188, .int .i64 t189, .int .i64 t190]] ?_; (with_reducible refine (pleat_Mould.calls _ _ t185 t188 t189 t190 t191 _ ?side1 ?side2 A77.out).mono ?_); (case side1 => exact sX (Kd.R_reads' HO187.out).2.2); (case side2 => exact (Kd.R_reads' HO187.out).2.1); rintro e w131 ⟨rfl, hb⟩; refine ⟨_, rfl, ?_⟩; replace HO_145004 := rB HO_145004 hb; replace HO164 := rB HO164 hb; replace HO176 := rB HO176 hb; replace HO180 := rB HO180 hb; replace HO183 := rB HO183 hb; replace HO187 := rB HO187 hb; replace BK136 := kB BK136 hb; replace BK144 := kB BK144 hb; replace BK161 := kB BK161 hb; replace BK165 := kB BK165 hb; replace BK177 := Aside0.mk (blk_below (g := gb177) (o := .cells #[.int .i64 (wrap64 (3 * (wrap64 ((ji46) + (wrap64 (2 * (Int.tmod (wrap64 (a2)) 30))))))), .slice Ao67 y174.length co67] 58 (0, 0)) (kX BK177.out) hb); replace HB := bS HB hb; (try clear hb); (try clear hb2); (try clear hk); (try clear hi)))
              go_meet
              case rel => exact ⟨_, (false), (by first | rfl | (simp; done) | (simp [*]; done)), H', ⟨by have := HJ7.out; have := HK2.out; have := HJ31.out; first | omega | exact Nat.le_refl _⟩, ⟨rX HO_145004.out⟩, ⟨by (with_reducible repeat (first | apply Kd.R_alloc | apply Kd.R_drewN | apply Kd.R_drew)); exact Kd.R_mono HO164.out (fun _ hk => trivial)⟩, ⟨rX HO176.out⟩, ⟨kX BK136.out⟩, ⟨kX BK144.out⟩, ⟨kX BK161.out⟩, ⟨kX BK165.out⟩, ⟨kX BK177.out⟩, ⟨bX HB⟩⟩
            ·rw [if_neg c78] at H
             have c78b0 : (t191 == 0) = false := beq_eq_false_iff_ne.mpr c78
             have c78b1 : (t191 != 0) = true := bne_iff_ne.mpr c78
             (first | rw [c78b0] | (simp only [i64_w, i32_w]; rw [c78b0]) | skip)
             have H' := Aside0.mk H
             clear H
             have hnb132 := NB165_136.out
             have hnc132 := NB136_165.out
             have hnb133 := NB165_144.out
             have hnc133 := NB144_165.out
             have hnb134 := NB165_161.out
             have hnc134 := NB161_165.out
             have hnb135 := NB165_177.out
             have hnc135 := NB177_165.out
             obtain ⟨hcz136_0, hcz136_1, hcz136_2, hcz136_3, hfz136_0, hfz136_1, hfz136_2, hfz136_3⟩ := cc4 BK165
             go_wp2_with (first | ((with_reducible refine gate_callee (f := 18) rfl ?_); refine goesL_ (some 133) rfl rfl Tryz.func18 (by kernel_rfl) rfl #[.agg #[.slice Ao55 y162.length co55, .int .i64 (Int.tmod (wrap64 (a2)) 30), .int .i64 ji46, .int .i64 0]] rfl (by (try simp only [List.map_toArray, List.map_cons, List.map_nil]); first | done | (simp only [hji46]; rfl) | rfl | (simp only [List.length_drop, List.length_take]; rfl)) ?_; (with_reducible refine (panachetop_ellMould.calls _ _ y162 (Int.tmod (wrap64 (a2)) 30) ji46 0 t185 t188 t189 t190 _ ?side1 ?side2 A76.out).mono ?_); (case side1 => exact sX (Kd.R_reads' HO164.out).2.2); (case side2 => exact (Kd.R_reads' HO164.out).2.1); rintro e w137 ⟨v186, rfl, ho0, hb⟩; refine ⟨_, rfl, ?_⟩; have HO187 := Aside0.mk (Kd.R_lower (Kd.R_new' (Kd.R_new' (Kd.R_new' ho0 (Kd.R_lt (rX HO164.out))) (Kd.R_lt (rX HO180.out))) (Kd.R_lt (rX HO183.out))) (below_size (bX HB))); replace HO_145004 := rB HO_145004 hb; replace HO164 := Aside0.mk (Kd.R_elder' (rX HO164.out) (Kd.R_base ho0) hb); replace HO176 := rB HO176 hb; replace HO180 := Aside0.mk (Kd.R_elder' (rX HO180.out) (Kd.R_base ho0) hb); replace HO183 := Aside0.mk (Kd.R_elder' (rX HO183.out) (Kd.R_base ho0) hb); replace BK136 := kB BK136 hb; replace BK144 := kB BK144 hb; replace BK161 := kB BK161 hb; replace BK165 := kB BK165 hb; replace BK177 := Aside0.mk (blk_below (g := gb177) (o := .cells #[.int .i64 (wrap64 (3 * (wrap64 ((ji46) + (wrap64 (2 * (Int.tmod (wrap64 (a2)) 30))))))), .slice Ao67 y174.length co67] 58 (0, 0)) (kX BK177.out) hb); replace HB := bS HB hb; (try clear hb); (try clear hb2); (try clear hk); (try clear hi); (try clear ho0); obtain ⟨Ao138, co138, eo138⟩ := Kd.R_slice HO187.out; subst eo138) | ((with_reducible refine gate_callee (f := 17) rfl ?_); refine goesA (some 134) Tryz.func17 #[.agg #[.slice Ao138 t185.length co138, .int .i64 t188, .int .i64 t189, .int .i64 t190]] ?_; (with_reducible refine (pleat_Mould.calls _ _ t185 t188 t189 t190 t191 _ ?side1 ?side2 A77.out).mono ?_); (case side1 => exact sX (Kd.R_reads' HO187.out).2.2); (case side2 => exact (Kd.R_reads' HO187.out).2.1); rintro e w139 ⟨rfl, hb⟩; refine ⟨_, rfl, ?_⟩; replace HO_145004 := rB HO_145004 hb; replace HO164 := rB HO164 hb; replace HO176 := rB HO176 hb; replace HO180 := rB HO180 hb; replace HO183 := rB HO183 hb; replace HO187 := rB HO187 hb; replace BK136 := kB BK136 hb; replace BK144 := kB BK144 hb; replace BK161 := kB BK161 hb; replace BK165 := kB BK165 hb; replace BK177 := Aside0.mk (blk_below (g := gb177) (o := .cells #[.int .i64 (wrap64 (3 * (wrap64 ((ji46) + (wrap64 (2 * (Int.tmod (wrap64 (a2)) 30))))))), .slice Ao67 y174.length co67] 58 (0, 0)) (kX BK177.out) hb); replace HB := bS HB hb; (try clear hb); (try clear hb2); (try clear hk); (try clear hi)))
             go_meet
             case rel => exact ⟨_, (false), (by first | rfl | (simp; done) | (simp [*]; done)), H', ⟨by have := HJ7.out; have := HK2.out; have := HJ31.out; first | omega | exact Nat.le_refl _⟩, ⟨rX HO_145004.out⟩, ⟨by (with_reducible repeat (first | apply Kd.R_alloc | apply Kd.R_drewN | apply Kd.R_drew)); exact Kd.R_mono HO164.out (fun _ hk => trivial)⟩, ⟨rX HO176.out⟩, ⟨kX BK136.out⟩, ⟨kX BK144.out⟩, ⟨kX BK161.out⟩, ⟨kX BK165.out⟩, ⟨kX BK177.out⟩, ⟨bX HB⟩⟩
           case rest =>
            clear HC52
            try clear c1
            try clear c2
            try clear p2
            try clear q2
            try clear hx2
            try clear c3
            try clear c4
            try clear c5
            try clear c6
            try clear p6
            try clear c7
            try clear c7b0
            try clear c7b1
            try clear c8
            try clear c9
            try clear c10
            try clear c11
            try clear c12
            try clear c13
            try clear c14
            try clear c15
            try clear c16
            try clear c17
            try clear c18
            try clear c19
            try clear c19b0
            try clear c20
            try clear c21
            try clear c21b0
            try clear c23
            try clear c23b0
            try clear c24
            try clear p24
            try clear q24
            try clear hx24
            try clear hf24
            try clear c25
            try clear c30
            try clear c33
            try clear c38
            try clear c39
            try clear c41
            try clear c41b0
            try clear c41b1
            try clear c42
            try clear c43
            try clear c45
            try clear c57
            try clear c58
            try clear c59
            try clear p64
            try clear c69
            try clear c70
            try clear c71
            try clear c72
            try clear c78
            try clear c78b0
            try clear c78b1
            try clear c79
            try clear c79b0
            try clear c79b1
            try clear c81
            try clear c83
            try clear c85
            try clear c86
            try clear c87
            try clear c88
            try clear c99
            try clear c100
            try clear c101
            try clear c102
            try clear c112
            try clear c113
            try clear c114
            try clear c115
            try clear c124
            try clear c125
            try clear c126
            try clear c127
            try clear c132
            try clear c133
            try clear c134
            try clear c135
            try clear hcz103_0 hcz103_1 hcz103_2 hcz103_3 hfz103_0 hfz103_1 hfz103_2 hfz103_3
            try clear hcz10_0 hfz10_0
            try clear hcz116_0 hcz116_1 hcz116_2 hcz116_3 hfz116_0 hfz116_1 hfz116_2 hfz116_3
            try clear hcz128_0 hcz128_1 hcz128_2 hcz128_3 hfz128_0 hfz128_1 hfz128_2 hfz128_3
            try clear hcz136_0 hcz136_1 hcz136_2 hcz136_3 hfz136_0 hfz136_1 hfz136_2 hfz136_3
            try clear hcz14_0 hcz14_1 hcz14_2 hcz14_3 hcz14_4 hfz14_0 hfz14_1 hfz14_2 hfz14_3 hfz14_4
            try clear hcz26_0 hcz26_1 hcz26_2 hcz26_3 hcz26_4 hfz26_0 hfz26_1 hfz26_2 hfz26_3 hfz26_4
            try clear hcz34_0 hcz34_1 hcz34_2 hcz34_3 hcz34_4 hfz34_0 hfz34_1 hfz34_2 hfz34_3 hfz34_4
            try clear hcz40_0 hcz40_1 hfz40_0 hfz40_1
            try clear hcz44_0 hcz44_1 hfz44_0 hfz44_1
            try clear hcz60_0 hcz60_1 hcz60_2 hcz60_3 hfz60_0 hfz60_1 hfz60_2 hfz60_3
            try clear hcz73_0 hcz73_1 hfz73_0 hfz73_1
            try clear hcz74_0 hcz74_1 hcz74_2 hcz74_3 hfz74_0 hfz74_1 hfz74_2 hfz74_3
            try clear hcz89_0 hcz89_1 hcz89_2 hcz89_3 hfz89_0 hfz89_1 hfz89_2 hfz89_3
            try clear hx24_0
            try clear hx24_1
            try clear hx24_2
            try clear hx24_3
            try clear p2
            try clear p24
            try clear p6
            try clear q2
            try clear q24
            obtain ⟨kq, x6_51, rfl, HA, HJ51, HO_145004, HO_166000, HO_178001, BK136, BK144, BK161, BK165, BK177, HB⟩ := hcut
            cases kq with
            | zero => exact absurd HA.out (by simp [panachetop_TopArc.j4])
            | succ kj51 =>
             have H := HA.out
             clear HA
             simp only [panachetop_TopArc.j4] at H
             obtain rfl := Option.some.inj H
             go_wp2
             go_ret
             exact ⟨by first | rfl | (simp [errW_none, errW_some] <;> rfl) | (simp only [← hji46]; first | rfl | (simp [errW_none, errW_some] <;> rfl)) | (simp [*, errW_none, errW_some] <;> rfl), bX HB⟩
 ·rw [if_neg c7] at H
  have c7b0 : (t153 == 0) = false := beq_eq_false_iff_ne.mpr c7
  have c7b1 : (t153 != 0) = true := bne_iff_ne.mpr c7
  have HC140 := Aside0.mk H
  clear H
  go_enter Tryz.func4, Tryz.ntmps4
  go_upto_region 4 with (first | ((with_reducible refine gate_dst (N := 3) rfl ?_); (try (refine gate_guard (by rfl) ?_; dsimp only)); refine boxA (N := 3) (cs := #[.slice A0_0 l0_0.length c0_0]) (t := 24) ?_; intro gb136 hg w141 hbox hb; have BK136 := Aside0.mk (hbox); have GW136 := bG HB hg; have GE136 := bG HB hg; replace HB := bS HB hb; clear hb hbox hg; obtain ⟨hcz142_0, hfz142_0⟩ := cc1 BK136) | ((with_reducible refine gate_callee (f := 6) rfl ?_); refine goesA (some 21) Tryz.func6 #[.agg #[.slice A0_0 l0_0.length c0_0]] ?_; (with_reducible refine (panachetop_Horn_fan.calls k _ _ l0_0 t137 t138 t139 t140 t141 _ ?side1 ?side2 A4.out).mono ?_); (case side1 => exact sX (Kd.C_below HR0_0.out HB.out)); (case side2 => exact HC0_0.out); rintro e w143 ⟨v142, rfl, ho0, hb⟩; refine ⟨_, rfl, ?_⟩; have HO143 := Aside0.mk (Kd.R_lower ho0 (below_size (bX HB))); replace BK136 := kB BK136 hb; replace HB := bS HB hb; (try clear hb); (try clear hb2); (try clear hk); (try clear hi); (try clear ho0)) | ((with_reducible refine gate_dst (N := 7) rfl ?_); (try (refine gate_guard (by rfl) ?_; dsimp only)); refine boxA (N := 7) (cs := #[.int .i64 0, .int .i64 0, .int .i64 0, .int .i64 0, .slice none 0 0]) (t := 33) ?_; intro gb144 hg w144 hbox hb; have BK144 := Aside0.mk (hbox); have GW144 := bG HB hg; have GE144 := bG HB hg; have NB136_144 := kN BK136 hg; have NB144_136 := kM BK136 hg; replace HO143 := rB HO143 hb; replace BK136 := kB BK136 hb; replace HB := bS HB hb; clear hb hbox hg; have hnb145 := NB144_136.out; have hnc145 := NB136_144.out; obtain ⟨hcz146_0, hcz146_1, hcz146_2, hcz146_3, hcz146_4, hfz146_0, hfz146_1, hfz146_2, hfz146_3, hfz146_4⟩ := cc5 BK144; obtain ⟨Ao147, co147, eo147⟩ := Kd.R_slice HO143.out; subst eo147) | ((with_reducible refine gate_callee (f := 8) rfl ?_); refine goesA (some 27) Tryz.func8 #[.agg #[.int .i64 t137, .int .i64 t138, .int .i64 t139, .int .i64 t140, .slice Ao147 t141.length co147]] ?_; (with_reducible refine (panachetop_ellFan.calls t137 t138 t139 t140 _ _ t141 t145 t146 t147 t148 t149 _ ?side1 ?side2 A5.out).mono ?_); (case side1 => refine (Kd.R_reads' (e := 47) (base := w.heap.size) (ok := fun k_ => True) (n := t141.length) (c := co147) ?_).2.2; exact (rX (Kd.R_mono (Kd.R_far (p := ⟨gb144, 4, none⟩) (Kd.R_far (p := ⟨gb144, 3, none⟩) (Kd.R_far (p := ⟨gb144, 2, none⟩) (Kd.R_far (p := ⟨gb144, 1, none⟩) (Kd.R_far (p := ⟨gb144, 0, none⟩) (Kd.R_types HO143.out BK144.out (by decide)) (fun _ hk => hk.2) (.int .i64 t137)) (fun _ hk => hk.2) (.int .i64 t138)) (fun _ hk => hk.2) (.int .i64 t139)) (fun _ hk => hk.2) (.int .i64 t140)) (fun _ hk => hk.2) (.slice Ao147 t141.length co147)) (fun _ h_ => h_.1)))); (case side2 => exact (Kd.R_reads' HO143.out).2.1); rintro e w148 ⟨v150, rfl, ho0, hb⟩; refine ⟨_, rfl, ?_⟩; have n0_ := Aside0.mk (Kd.R_elder' (rX (Kd.R_mono (Kd.R_far (p := ⟨gb144, 4, none⟩) (Kd.R_far (p := ⟨gb144, 3, none⟩) (Kd.R_far (p := ⟨gb144, 2, none⟩) (Kd.R_far (p := ⟨gb144, 1, none⟩) (Kd.R_far (p := ⟨gb144, 0, none⟩) (Kd.R_types HO143.out BK144.out (by decide)) (fun _ hk => hk.2) (.int .i64 t137)) (fun _ hk => hk.2) (.int .i64 t138)) (fun _ hk => hk.2) (.int .i64 t139)) (fun _ hk => hk.2) (.int .i64 t140)) (fun _ hk => hk.2) (.slice Ao147 t141.length co147)) (fun _ h_ => h_.1))) (Kd.R_base ho0) hb); have n1_ := Aside0.mk (Kd.R_lower (Kd.R_new' ho0 (Kd.R_lt (rX (Kd.R_mono (Kd.R_far (p := ⟨gb144, 4, none⟩) (Kd.R_far (p := ⟨gb144, 3, none⟩) (Kd.R_far (p := ⟨gb144, 2, none⟩) (Kd.R_far (p := ⟨gb144, 1, none⟩) (Kd.R_far (p := ⟨gb144, 0, none⟩) (Kd.R_types HO143.out BK144.out (by decide)) (fun _ hk => hk.2) (.int .i64 t137)) (fun _ hk => hk.2) (.int .i64 t138)) (fun _ hk => hk.2) (.int .i64 t139)) (fun _ hk => hk.2) (.int .i64 t140)) (fun _ hk => hk.2) (.slice Ao147 t141.length co147)) (fun _ h_ => h_.1))))) (below_size (bX HB))); have n2_ := Aside0.mk (blk_below (kF BK136 NB136_144) hb); have n3_ := Aside0.mk (blk_below (g := gb144) (o := .cells #[.int .i64 t137, .int .i64 t138, .int .i64 t139, .int .i64 t140, .slice Ao147 t141.length co147] 33 (0, 0)) (by (with_reducible repeat (first | refine blk_drewN ?_ _ | refine blk_drew ?_ | refine blk_alloc ?_ _)); refine blk_put (cs := #[.int .i64 t137, .int .i64 t138, .int .i64 t139, .int .i64 t140, .slice none 0 0]) ?_ 4 _ rfl; (with_reducible repeat (first | refine blk_drewN ?_ _ | refine blk_drew ?_ | refine blk_alloc ?_ _)); refine blk_put (cs := #[.int .i64 t137, .int .i64 t138, .int .i64 t139, .int .i64 0, .slice none 0 0]) ?_ 3 _ rfl; (with_reducible repeat (first | refine blk_drewN ?_ _ | refine blk_drew ?_ | refine blk_alloc ?_ _)); refine blk_put (cs := #[.int .i64 t137, .int .i64 t138, .int .i64 0, .int .i64 0, .slice none 0 0]) ?_ 2 _ rfl; (with_reducible repeat (first | refine blk_drewN ?_ _ | refine blk_drew ?_ | refine blk_alloc ?_ _)); refine blk_put (cs := #[.int .i64 t137, .int .i64 0, .int .i64 0, .int .i64 0, .slice none 0 0]) ?_ 1 _ rfl; (with_reducible repeat (first | refine blk_drewN ?_ _ | refine blk_drew ?_ | refine blk_alloc ?_ _)); refine blk_put (cs := #[.int .i64 0, .int .i64 0, .int .i64 0, .int .i64 0, .slice none 0 0]) ?_ 0 _ rfl; (with_reducible repeat (first | refine blk_drewN ?_ _ | refine blk_drew ?_ | refine blk_alloc ?_ _)); exact BK144.out) hb); have n4_ := bS HB hb; clear HO143; clear BK136; clear BK144; clear HB; have HO143 := n0_; have HO151 := n1_; have BK136 := n2_; have BK144 := n3_; have HB := n4_; clear n0_ n1_ n2_ n3_ n4_; (try clear hb); (try clear hb2); (try clear hk); (try clear hi); (try clear ho0); obtain ⟨Ao149, co149, eo149⟩ := Kd.R_slice HO151.out; subst eo149) | ((with_reducible refine gate_callee (f := 14) rfl ?_); refine goesA (some 30) Tryz.func14 #[.agg #[.int .i64 t145, .int .i64 t146, .int .i64 t147, .int .i64 t148, .slice Ao149 t149.length co149], .int .i64 (wrap64 (a1))] ?_; (with_reducible refine (rivet_Pleat.calls t145 t146 t147 t148 _ _ t149 (wrap64 (a1)) t152 t153 _ ?side1 ?side2 A6.out).mono ?_); (case side1 => exact sX (Kd.R_reads' HO151.out).2.2); (case side2 => exact (Kd.R_reads' HO151.out).2.1); rintro e w150 ⟨rfl, hb⟩; refine ⟨_, rfl, ?_⟩; replace HO143 := rB HO143 hb; replace HO151 := rB HO151 hb; replace BK136 := kB BK136 hb; replace BK144 := kB BK144 hb; replace HB := bS HB hb; (try clear hb); (try clear hb2); (try clear hk); (try clear hi)))
  (try simp only [Act.put, List.setIfInBounds_toArray, List.set_cons_zero, List.set_cons_succ])
  go_cut [6] (fun v6 wc => ∃ (kq : Nat) (x6_139 : Bool), v6 = .bool x6_139 ∧ Aside0 (panachetop_TopArc.j0 kq x6_139 = some r) ∧ Aside0 (kq ≤ k) ∧ Aside0 (Kd.R k47 47 wc w.heap.size (fun _ => True) (.slice Ao147 t141.length co147) t141) ∧ Aside0 (wc.heap[gb136]? = some (.cells #[(.slice A0_0 l0_0.length c0_0)] 24 (0, 0))) ∧ Aside0 (wc.heap[gb144]? = some (.cells #[.int .i64 t137, .int .i64 t138, .int .i64 t139, .int .i64 t140, (.slice Ao147 t141.length co147)] 33 (0, 0))) ∧ Aside0 (Below w.heap.size w wc))
  case first =>
   have H := HC140.out
   clear HC140
   by_cases c151 : t153 = 7
   ·rw [if_pos c151] at H
    have c151b0 : (t153 == 7) = true := beq_iff_eq.mpr c151
    have c151b1 : (t153 != 7) = false := bne_eq_false_iff_eq.mpr c151
    clear c151
    (first | rw [c151b0] | (simp only [i64_w, i32_w]; rw [c151b0]) | skip)
    by_cases c152 : t152 = 0
    ·rw [if_pos c152] at H
     have c152b0 : (t152 == 0) = true := beq_iff_eq.mpr c152
     have c152b1 : (t152 != 0) = false := bne_eq_false_iff_eq.mpr c152
     clear c152
     replace H := Option.bind_eq_some_iff.mp H
     obtain ⟨t154, A1530, H⟩ := H
     try dsimp only at H
     have A153 := Aside0.mk A1530
     clear A1530
     have H' := Aside0.mk H
     clear H
     go_wp2_with (first | (go_at_call 9; (with_reducible refine (panachetop_ellKnown05.calls  t154 _ A153.out (Tabs.below HT.out (bX HB))).mono ?_); rintro e w154 ⟨rfl, hb⟩; replace HO143 := rB HO143 hb; replace HO151 := rB HO151 hb; replace BK136 := kB BK136 hb; replace BK144 := kB BK144 hb; replace HB := bS HB hb; (try clear hb); (try clear hb2); (try clear hk); (try clear hi)))
     go_meet
     case rel => exact ⟨_, (t154), (by first | rfl | (simp; done) | (simp [*]; done)), H', ⟨by first | omega | exact Nat.le_refl _⟩, ⟨by (with_reducible repeat (first | apply Kd.R_alloc | apply Kd.R_drewN | apply Kd.R_drew)); exact Kd.R_mono HO143.out (fun _ hk => trivial)⟩, ⟨kX BK136.out⟩, ⟨kX BK144.out⟩, ⟨bX HB⟩⟩
    ·rw [if_neg c152] at H
     have c152b0 : (t152 == 0) = false := beq_eq_false_iff_ne.mpr c152
     have c152b1 : (t152 != 0) = true := bne_iff_ne.mpr c152
     have H' := Aside0.mk H
     clear H
     go_wp2
     go_meet
     case rel => exact ⟨_, (false), (by first | rfl | (simp; done) | (simp [*]; done)), H', ⟨by first | omega | exact Nat.le_refl _⟩, ⟨by (with_reducible repeat (first | apply Kd.R_alloc | apply Kd.R_drewN | apply Kd.R_drew)); exact Kd.R_mono HO143.out (fun _ hk => trivial)⟩, ⟨kX BK136.out⟩, ⟨kX BK144.out⟩, ⟨bX HB⟩⟩
   ·rw [if_neg c151] at H
    have c151b0 : (t153 == 7) = false := beq_eq_false_iff_ne.mpr c151
    have c151b1 : (t153 != 7) = true := bne_iff_ne.mpr c151
    (first | rw [c151b0] | (simp only [i64_w, i32_w]; rw [c151b0]) | skip)
    have H' := Aside0.mk H
    clear H
    go_wp2
    go_meet
    case rel => exact ⟨_, (false), (by first | rfl | (simp; done) | (simp [*]; done)), H', ⟨by first | omega | exact Nat.le_refl _⟩, ⟨by (with_reducible repeat (first | apply Kd.R_alloc | apply Kd.R_drewN | apply Kd.R_drew)); exact Kd.R_mono HO143.out (fun _ hk => trivial)⟩, ⟨kX BK136.out⟩, ⟨kX BK144.out⟩, ⟨bX HB⟩⟩
  case rest =>
   clear HC140
   try clear c1
   try clear c2
   try clear p2
   try clear q2
   try clear hx2
   try clear c3
   try clear c4
   try clear c5
   try clear c6
   try clear p6
   try clear c7
   try clear c7b0
   try clear c7b1
   try clear c8
   try clear c9
   try clear c10
   try clear c11
   try clear c12
   try clear c13
   try clear c14
   try clear c15
   try clear c16
   try clear c17
   try clear c18
   try clear c19
   try clear c19b0
   try clear c20
   try clear c21
   try clear c21b0
   try clear c23
   try clear c23b0
   try clear c24
   try clear p24
   try clear q24
   try clear hx24
   try clear hf24
   try clear c25
   try clear c30
   try clear c33
   try clear c38
   try clear c39
   try clear c41
   try clear c41b0
   try clear c41b1
   try clear c42
   try clear c43
   try clear c45
   try clear c57
   try clear c58
   try clear c59
   try clear p64
   try clear c69
   try clear c70
   try clear c71
   try clear c72
   try clear c78
   try clear c78b0
   try clear c78b1
   try clear c79
   try clear c79b0
   try clear c79b1
   try clear c81
   try clear c83
   try clear c85
   try clear c86
   try clear c87
   try clear c88
   try clear c99
   try clear c100
   try clear c101
   try clear c102
   try clear c112
   try clear c113
   try clear c114
   try clear c115
   try clear c124
   try clear c125
   try clear c126
   try clear c127
   try clear c132
   try clear c133
   try clear c134
   try clear c135
   try clear c145
   try clear c151
   try clear c151b0
   try clear c151b1
   try clear c152
   try clear c152b0
   try clear c152b1
   try clear hcz103_0 hcz103_1 hcz103_2 hcz103_3 hfz103_0 hfz103_1 hfz103_2 hfz103_3
   try clear hcz10_0 hfz10_0
   try clear hcz116_0 hcz116_1 hcz116_2 hcz116_3 hfz116_0 hfz116_1 hfz116_2 hfz116_3
   try clear hcz128_0 hcz128_1 hcz128_2 hcz128_3 hfz128_0 hfz128_1 hfz128_2 hfz128_3
   try clear hcz136_0 hcz136_1 hcz136_2 hcz136_3 hfz136_0 hfz136_1 hfz136_2 hfz136_3
   try clear hcz142_0 hfz142_0
   try clear hcz146_0 hcz146_1 hcz146_2 hcz146_3 hcz146_4 hfz146_0 hfz146_1 hfz146_2 hfz146_3 hfz146_4
   try clear hcz14_0 hcz14_1 hcz14_2 hcz14_3 hcz14_4 hfz14_0 hfz14_1 hfz14_2 hfz14_3 hfz14_4
   try clear hcz26_0 hcz26_1 hcz26_2 hcz26_3 hcz26_4 hfz26_0 hfz26_1 hfz26_2 hfz26_3 hfz26_4
   try clear hcz34_0 hcz34_1 hcz34_2 hcz34_3 hcz34_4 hfz34_0 hfz34_1 hfz34_2 hfz34_3 hfz34_4
   try clear hcz40_0 hcz40_1 hfz40_0 hfz40_1
   try clear hcz44_0 hcz44_1 hfz44_0 hfz44_1
   try clear hcz60_0 hcz60_1 hcz60_2 hcz60_3 hfz60_0 hfz60_1 hfz60_2 hfz60_3
   try clear hcz73_0 hcz73_1 hfz73_0 hfz73_1
   try clear hcz74_0 hcz74_1 hcz74_2 hcz74_3 hfz74_0 hfz74_1 hfz74_2 hfz74_3
   try clear hcz89_0 hcz89_1 hcz89_2 hcz89_3 hfz89_0 hfz89_1 hfz89_2 hfz89_3
   try clear hx24_0
   try clear hx24_1
   try clear hx24_2
   try clear hx24_3
   try clear p2
   try clear p24
   try clear p6
   try clear p64
   try clear q2
   try clear q24
   obtain ⟨kq, x6_139, rfl, HA, HJ139, HO_145004, BK136, BK144, HB⟩ := hcut
   cases kq with
   | zero => exact absurd HA.out (by simp [panachetop_TopArc.j0])
   | succ kj139 =>
    have H := HA.out
    clear HA
    simp only [panachetop_TopArc.j0] at H
    obtain rfl := Option.some.inj H
    go_wp2
    go_ret
    exact ⟨by first | rfl | (simp [errW_none, errW_some] <;> rfl) | (simp [*, errW_none, errW_some] <;> rfl), bX HB⟩
end Go.Proofs.YtgdkmadcegleiaaGreatDoor.PTopArc
end
section
namespace Go.Proofs.YtgdkmadcegleiaaGreatDoor.PTopArc
open Go.RowKit Go.Proofs.YtgdkmadcegleiaaGreatDoorW.PrintWords Go.Proofs.YtgdkmadcegleiaaGreatDoorW.PrintLast Go.Proofs.YtgdkmadcegleiaaGreatDoorW.PrintMore Go.Proofs.YtgdkmadcegleiaaGreatDoor.X Go.Proofs.YtgdkmadcegleiaaGreatDoor.Z
attribute [local go_sem] max2_int min2_int max_two min_two max_three min_three max_four min_four   -- for this text's walks alone
set_option linter.unusedVariables false
set_option linter.unusedSimpArgs false
end Go.Proofs.YtgdkmadcegleiaaGreatDoor.PTopArc
end
section
/- TopArc, the plain law: the mould beside the folds; the fan of the bytes; all together. -/
namespace Go.Proofs.YtgdkmadcegleiaaGreatDoor.Arc
open Go.RowKit Go.Proofs.YtgdkmadcegleiaaGreatDoor.X Go.Proofs.YtgdkmadcegleiaaGreatDoor.Z Go.Proofs.YtgdkmadcegleiaaGreatDoor.PTopArc Go.Proofs.YtgdkmadcegleiaaGreatDoorW.PrintWords Go.Proofs.YtgdkmadcegleiaaGreatDoorW.PrintLast Go.Proofs.YtgdkmadcegleiaaGreatDoorW.PrintMore
abbrev Face := S55
def gr3 (s : Int) : List Int := [0, s, 2 * s]
theorem rd0 (s : Int) : rd (gr3 s) 0 = 0 := rfl
theorem rd1 (s : Int) : rd (gr3 s) 1 = s := rfl
theorem rd2 (s : Int) : rd (gr3 s) 2 = 2 * s := rfl
theorem away3 (k : Nat) (long h room a b s : Int) (l : List Face) (hs0 : 0 ≤ s) (hs1 : s ≤ 1100) (hh0 : 0 ≤ h) (hh1 : h < 30) (ha0 : 0 ≤ a) (ha1 : a ≤ 5000) (hb0 : 0 ≤ b) (hb1 : b ≤ 5000) :
    PPle.pleat_bed_away.f (k + 4) long l (gr3 s) h room 0 0 a b = some (mn (mn (mn 5000 (mx (a - 0) (0 - b) - h)) (mx (a - s) (s - b) - h)) (mx (a - 2 * s) (2 * s - b) - h)) := by
  unfold PPle.pleat_bed_away.f
  have hl : ((gr3 s).length : Int) = 3 := rfl
  rw [hl]
  have m0 : ∀ x y : Int, -9000 ≤ x → x ≤ 9000 → -9000 ≤ y → y ≤ 9000 → -9000 ≤ mx x y ∧ mx x y ≤ 9000 := by intro x y h1 h2 h3 h4; unfold mx; split <;> omega
  obtain ⟨p0, q0⟩ := m0 (a - 0) (0 - b) (by omega) (by omega) (by omega) (by omega)
  obtain ⟨p1, q1⟩ := m0 (a - s) (s - b) (by omega) (by omega) (by omega) (by omega)
  obtain ⟨p2, q2⟩ := m0 (a - 2 * s) (2 * s - b) (by omega) (by omega) (by omega) (by omega)
  rw [PPle.pleat_bed_away.l0, if_pos (by omega), if_pos (by omega), if_pos (by omega), rd0, w64 (x := 0 + 0) (by omega) (by omega), w64 (x := (0 : Int) + 1) (by omega) (by omega)]
  rw [show (0 : Int) + 0 = 0 from rfl, show (0 : Int) + 1 = 1 from rfl]
  rw [w64 (x := a - 0) (by omega) (by omega), w64 (x := 0 - b) (by omega) (by omega), w64 (x := mx (a - 0) (0 - b) - h) (by omega) (by omega)]
  rw [PPle.pleat_bed_away.l0, if_pos (by omega), if_pos (by omega), if_pos (by omega), rd1, w64 (x := s + 0) (by omega) (by omega), w64 (x := (1 : Int) + 1) (by omega) (by omega)]
  rw [show s + 0 = s by omega, show (1 : Int) + 1 = 2 from rfl]
  rw [w64 (x := a - s) (by omega) (by omega), w64 (x := s - b) (by omega) (by omega), w64 (x := mx (a - s) (s - b) - h) (by omega) (by omega)]
  rw [PPle.pleat_bed_away.l0, if_pos (by omega), if_pos (by omega), if_pos (by omega), rd2, w64 (x := 2 * s + 0) (by omega) (by omega), w64 (x := (2 : Int) + 1) (by omega) (by omega)]
  rw [show 2 * s + 0 = 2 * s by omega, show (2 : Int) + 1 = 3 from rfl]
  rw [w64 (x := a - 2 * s) (by omega) (by omega), w64 (x := 2 * s - b) (by omega) (by omega), w64 (x := mx (a - 2 * s) (2 * s - b) - h) (by omega) (by omega)]
  rw [PPle.pleat_bed_away.l0, if_neg (by omega)]
theorem within_one (a b x : Int) (h0 : a ≤ x) (h1 : x ≤ b) : pleat_within.f a b [x] = some true := by
  unfold pleat_within.f
  simp [h0, h1]
theorem mould_ok (k : Nat) (h room s : Int) (hs : s = room + 2 * h) (hh0 : 0 ≤ h) (hh1 : h < 30) (hr0 : 1 ≤ room) (hr1 : room ≤ 1000) : PPlM.pleat_Mould.f (k + 6) (gr3 s) h room 0 = some 0 := by
  unfold PPlM.pleat_Mould.f
  rw [within_one 0 50 h hh0 (by omega), within_one 0 5000 room (by omega) (by omega), within_one 0 500 0 (by omega) (by omega)]
  simp only [Option.bind_some, if_true]
  rw [PPlM.pleat_Mould.j0, if_neg (by decide), within_one 1 40 ((gr3 s).length : Int) (show (1 : Int) ≤ 3 by decide) (show (3 : Int) ≤ 40 by decide)]
  have e1 : pleat_within.f 0 5000 (gr3 s) = some true := by
    unfold pleat_within.f gr3
    simp only [List.all_cons, List.all_nil, Bool.and_true, Option.some.injEq, Bool.and_eq_true, decide_eq_true_eq]
    omega
  simp only [Option.bind_some, if_true]
  rw [e1]
  simp only [Option.bind_some]
  have hl : ((gr3 s).length : Int) = 3 := rfl
  have hm : mx 1 s = s := by unfold mx; split <;> omega
  rw [PPlM.pleat_Mould.j1, if_neg (by decide)]
  rw [PPlM.pleat_Mould.l0, hl, if_pos (by omega), if_pos (by omega), w64 (x := (1 : Int) - 1) (by omega) (by omega), if_pos (by omega), if_pos (by omega), show (1 : Int) - 1 = 0 from rfl, rd1, rd0, w64 (x := s - 0) (by omega) (by omega), w64 (x := 2 * h) (by omega) (by omega), w64 (x := room + 2 * h) (by omega) (by omega), ← hs, hm, if_neg (by omega), w64 (x := (1 : Int) + 1) (by omega) (by omega), show (1 : Int) + 1 = 2 from rfl]
  rw [PPlM.pleat_Mould.l0, hl, if_pos (by omega), if_pos (by omega), w64 (x := (2 : Int) - 1) (by omega) (by omega), if_pos (by omega), if_pos (by omega), show (2 : Int) - 1 = 1 from rfl, rd2, rd1, w64 (x := 2 * s - s) (by omega) (by omega), w64 (x := 2 * h) (by omega) (by omega), w64 (x := room + 2 * h) (by omega) (by omega), ← hs, hm, if_neg (by omega), w64 (x := (2 : Int) + 1) (by omega) (by omega), show (2 : Int) + 1 = 3 from rfl]
  rw [PPlM.pleat_Mould.l0, hl, if_neg (by omega)]
def face (a b : Int) : Face := ⟨⟨a, a⟩, ⟨b, b⟩⟩
theorem aw_in (long h room s : Int) (l : List Face) (hs : s = room + 2 * h) (hh0 : 0 ≤ h) (hh1 : h < 30) (hr0 : 1 ≤ room) (hr1 : room ≤ 1000) : awO long l (gr3 s) h room 0 0 h (h + room) = some 0 := by
  show PPle.pleat_bed_away.f (96 + 4) long l (gr3 s) h room 0 0 h (h + room) = some 0
  rw [away3 96 long h room h (h + room) s l (by omega) (by omega) hh0 hh1 (by omega) (by omega) (by omega) (by omega)]
  congr 1
  unfold mn mx
  repeat' split
  all_goals omega
theorem aw_out (long h room s : Int) (l : List Face) (hs : s = room + 2 * h) (hh0 : 0 ≤ h) (hh1 : h < 30) (hr0 : 1 ≤ room) (hr1 : room ≤ 1000) : awO long l (gr3 s) h room 0 0 h (h + room + 1) = some (-1) := by
  show PPle.pleat_bed_away.f (96 + 4) long l (gr3 s) h room 0 0 h (h + room + 1) = some (-1)
  rw [away3 96 long h room h (h + room + 1) s l (by omega) (by omega) hh0 hh1 (by omega) (by omega) (by omega) (by omega)]
  congr 1
  unfold mn mx
  repeat' split
  all_goals omega
theorem hit_ok (h room s long : Int) (hs : s = room + 2 * h) (hg : long = 3 * s) (hh0 : 0 ≤ h) (hh1 : h < 30) (hr0 : 1 ≤ room) (hr1 : room ≤ 1000) :
    pleat_Hit.f long [face h (h + room), face h (h + room + 1)] (gr3 s) h room 0 0 = some ([1], [1], 0) := by
  unfold pleat_Hit.f
  have em : PPlM.pleat_Mould.f 100 (gr3 s) h room 0 = some 0 := mould_ok 94 h room s hs hh0 hh1 hr0 hr1
  rw [em]
  generalize hl : [face h (h + room), face h (h + room + 1)] = l
  have ein := aw_in long h room s l hs hh0 hh1 hr0 hr1
  have eout := aw_out long h room s l hs hh0 hh1 hr0 hr1
  have ec : pcheckF long l = 0 := by
    unfold pcheckF
    rw [if_pos (by simp only [Bool.and_eq_true, decide_eq_true_eq]; omega)]
    subst hl
    rw [if_neg (by simp)]
    have : [face h (h + room), face h (h + room + 1)].any (faceBad long) = false := by
      simp only [List.any_cons, List.any_nil, Bool.or_false, face, faceBad, spanB]
      rw [Bool.or_eq_false_iff]
      constructor <;> simp only [Bool.or_eq_false_iff, Bool.not_eq_false', Bool.and_eq_true, decide_eq_true_eq, decide_eq_false_iff_not] <;> omega
    rw [this]
    rfl
  simp only [Option.bind_some]
  rw [ec, if_pos rfl, if_pos rfl, if_pos (by decide)]
  have hlen : l.length = 2 := by subst hl; rfl
  have f1 : fineT long l (gr3 s) h room 0 0 leastT = true := by
    unfold fineT
    rw [List.all_eq_true]
    intro x hx
    subst hl
    simp only [List.mem_cons, List.not_mem_nil, or_false] at hx
    rcases hx with rfl | rfl
    · show (awO _ _ _ _ _ _ _ h (h + room)).isSome = true; rw [ein]; rfl
    · show (awO _ _ _ _ _ _ _ h (h + room + 1)).isSome = true; rw [eout]; rfl
  have f2 : fineT long l (gr3 s) h room 0 0 mostT = true := by
    unfold fineT
    rw [List.all_eq_true]
    intro x hx
    subst hl
    simp only [List.mem_cons, List.not_mem_nil, or_false] at hx
    rcases hx with rfl | rfl
    · show (awO _ _ _ _ _ _ _ h (h + room)).isSome = true; rw [ein]; rfl
    · show (awO _ _ _ _ _ _ _ h (h + room + 1)).isSome = true; rw [eout]; rfl
  have e0 : l.getD 0 z55 = face h (h + room) := by subst hl; rfl
  have e1 : l.getD 1 z55 = face h (h + room + 1) := by subst hl; rfl
  have t1 : hitsT long l (gr3 s) h room 0 0 leastT = [1] := by
    unfold hitsT
    rw [hlen]
    have p1 : hitP long l (gr3 s) h room 0 0 leastT (face h (h + room + 1)) = true := by
      show decide ((awO _ _ _ _ _ _ _ h (h + room + 1)).getD 0 < 0) = true; rw [eout]; rfl
    have p0 : hitP long l (gr3 s) h room 0 0 leastT (face h (h + room)) = false := by
      show decide ((awO _ _ _ _ _ _ _ h (h + room)).getD 0 < 0) = false; rw [ein]; rfl
    simp only [hitsUp, e0, e1, p0, p1]
    rfl
  have t2 : hitsT long l (gr3 s) h room 0 0 mostT = [1] := by
    unfold hitsT
    rw [hlen]
    have p1 : hitP long l (gr3 s) h room 0 0 mostT (face h (h + room + 1)) = true := by
      show decide ((awO _ _ _ _ _ _ _ h (h + room + 1)).getD 0 < 0) = true; rw [eout]; rfl
    have p0 : hitP long l (gr3 s) h room 0 0 mostT (face h (h + room)) = false := by
      show decide ((awO _ _ _ _ _ _ _ h (h + room)).getD 0 < 0) = false; rw [ein]; rfl
    simp only [hitsUp, e0, e1, p0, p1]
    rfl
  rw [if_pos ⟨by omega, f1, f2⟩, t1, t2]
theorem ints_one (k : Nat) : panachetop_ellInts.f (k + 2) [1] [1] = some true := by
  unfold panachetop_ellInts.f
  rw [if_pos rfl]
  rw [panachetop_ellInts.l0, if_pos (by decide), if_pos (by decide), if_pos (by decide), if_pos rfl, w64 (by omega) (by omega)]
  rw [panachetop_ellInts.l0, if_neg (by decide)]
theorem last_ok (k : Nat) (h arc : Int) (hh0 : 0 ≤ h) (hh1 : h < 30) (hr0 : 0 ≤ arc) (hr1 : arc ≤ 1000) : panachetop_TopArc.j3 (k + 3) h arc false = some true := by
  rw [panachetop_TopArc.j3, if_neg (by decide)]
  obtain ⟨room, hroom⟩ : ∃ room, room = mx 1 arc := ⟨_, rfl⟩
  have r0 : 1 ≤ room := by rw [hroom]; unfold mx; split <;> omega
  have r1 : room ≤ 1000 := by rw [hroom]; unfold mx; split <;> omega
  rw [← hroom]
  unfold panachetop_ellSpan.f
  simp only [Option.bind_some]
  rw [w64 (x := 2 * h) (by omega) (by omega), w64 (x := room + 2 * h) (by omega) (by omega), w64 (x := 2 * (room + 2 * h)) (by omega) (by omega), w64 (x := h + room) (by omega) (by omega), w64 (x := h + room + 1) (by omega) (by omega), w64 (x := 3 * (room + 2 * h)) (by omega) (by omega)]
  have eh := hit_ok h room (room + 2 * h) (3 * (room + 2 * h)) rfl rfl hh0 hh1 r0 r1
  have em : pleat_Mould.f (gr3 (room + 2 * h)) h room 0 = some 0 := mould_ok 54 h room (room + 2 * h) rfl hh0 hh1 r0 r1
  have ec : panachetop_ellMould.f (gr3 (room + 2 * h)) h room 0 = some (gr3 (room + 2 * h), h, room, 0) := by
    unfold panachetop_ellMould.f
    simp only [Option.bind_some]
    rw [if_pos (by simp [gr3])]
    rfl
  show (pleat_Hit.f (3 * (room + 2 * h)) [face h (h + room), face h (h + room + 1)] (gr3 (room + 2 * h)) h room 0 0).bind _ = some true
  rw [eh]
  simp only [Option.bind_some]
  show (panachetop_ellMould.f (gr3 (room + 2 * h)) h room 0).bind _ = some true
  rw [ec]
  simp only [Option.bind_some]
  rw [em]
  simp only [Option.bind_some, if_true]
  rw [ints_one k]
  simp only [Option.bind_some, if_true]
  rfl
def Bytes (l : List S26) : Prop := ∀ x ∈ l, 0 ≤ x.f0 ∧ x.f0 ≤ 255 ∧ 0 ≤ x.f1 ∧ x.f1 ≤ 255
theorem gap_ok (a b : Int) (h0 : 0 ≤ a) (h1 : a ≤ 255) (h2 : 0 ≤ b) (h3 : b ≤ 255) :
    gapBad ⟨⟨wrap64 a, wrap64 (wrap64 a + Int.tmod (wrap64 b) 20)⟩, ⟨wrap64 (Int.tdiv (wrap64 b) 16), wrap64 (wrap64 (Int.tdiv (wrap64 b) 16) + Int.tmod (wrap64 a) 3)⟩⟩ = false := by
  rw [w64 (x := a) (by omega) (by omega), w64 (x := b) (by omega) (by omega), Int.tmod_eq_emod_of_nonneg h2, Int.tmod_eq_emod_of_nonneg h0, Int.tdiv_eq_ediv_of_nonneg h2, w64 (x := b / 16) (by omega) (by omega), w64 (x := a + b % 20) (by omega) (by omega), w64 (x := b / 16 + a % 3) (by omega) (by omega)]
  unfold gapBad spanB
  simp only [Bool.or_eq_false_iff, Bool.not_eq_false', Bool.and_eq_true, decide_eq_true_eq]
  omega
theorem fan_loop (l : List S26) (hB : Bytes l) : ∀ (m k i : Nat) (gs : List Gap), gs.length = i → i ≤ l.length → i ≤ 10 → 10 - i ≤ m → 2 * m + 2 ≤ k → gs.any gapBad = false →
    ∃ gs', panachetop_Horn_fan.l0 k (i : Int) l 900 1000 40 50 gs = some (900, 1000, 40, 50, gs') ∧ gs'.length ≤ 10 ∧ gs'.any gapBad = false := by
  intro m
  induction m with
  | zero =>
    intro k i gs hg hi h10 hm hk hb
    obtain ⟨k, rfl⟩ := Nat.exists_eq_add_of_le' (show 2 ≤ k by omega)
    show ∃ gs', panachetop_Horn_fan.l0 (k + 1 + 1) (i : Int) l 900 1000 40 50 gs = _ ∧ _
    have hd : decide ((i : Int) < 10) = false := decide_eq_false (by omega)
    refine ⟨gs, ?_, by omega, hb⟩
    rw [panachetop_Horn_fan.l0, hd]
    split <;> rw [panachetop_Horn_fan.j1, if_neg (by decide)]
  | succ m ih =>
    intro k i gs hg hi h10 hm hk hb
    obtain ⟨k, rfl⟩ := Nat.exists_eq_add_of_le' (show 2 ≤ k by omega)
    show ∃ gs', panachetop_Horn_fan.l0 (k + 1 + 1) (i : Int) l 900 1000 40 50 gs = _ ∧ _
    rw [panachetop_Horn_fan.l0]
    by_cases hlt : i < l.length
    · rw [if_pos (by omega)]
      by_cases h : i < 10
      · have hd : decide ((i : Int) < 10) = true := decide_eq_true (by omega)
        rw [hd, panachetop_Horn_fan.j1, if_pos rfl, if_pos (by omega), if_pos (by omega)]
        unfold panachetop_ellSpan.f
        simp only [Option.bind_some]
        rw [if_pos (by omega), w64 (x := (i : Int) + 1) (by omega) (by omega)]
        have hx : rd_T26 l (i : Int) ∈ l := by
          unfold rd_T26
          rw [Int.toNat_natCast, List.getD_eq_getElem?_getD, List.getElem?_eq_getElem hlt]
          exact List.getElem_mem hlt
        obtain ⟨b0, b1, b2, b3⟩ := hB _ hx
        have := ih k (i + 1) (gs ++ [_]) (by rw [List.length_append]; simp; omega) (by omega) (by omega) (by omega) (by omega) (by rw [List.any_append, hb]; simp only [List.any_cons, List.any_nil, Bool.or_false, Bool.false_or]; exact gap_ok _ _ b0 b1 b2 b3)
        exact this
      · have hd : decide ((i : Int) < 10) = false := decide_eq_false (by omega)
        rw [hd, panachetop_Horn_fan.j1, if_neg (by decide)]
        exact ⟨gs, rfl, by omega, hb⟩
    · rw [if_neg (by omega), panachetop_Horn_fan.j1, if_neg (by decide)]
      exact ⟨gs, rfl, by omega, hb⟩
theorem fan_f (l : List S26) (hB : Bytes l) (k : Nat) (hk : 22 ≤ k) : ∃ gs, panachetop_Horn_fan.f k l = some (900, 1000, 40, 50, gs) ∧ gs.length ≤ 10 ∧ gs.any gapBad = false := by
  unfold panachetop_Horn_fan.f panachetop_ellSpan.f
  simp only [Option.bind_some]
  exact fan_loop l hB 10 k 0 [] rfl (Nat.zero_le _) (by omega) (by omega) (by omega) rfl
theorem set_loop (l : List Gap) (h a deg : Int) (hl : l.length ≤ 10) (hb : l.any gapBad = false) (ha0 : 0 ≤ a) (ha1 : a ≤ 1000) (hh0 : 0 ≤ h) (hh1 : h < 30) (hd0 : 0 ≤ deg) (hd1 : deg ≤ 255) (hE : E l deg a = true) : ∀ (m k i : Nat), i + m = l.length → m + 4 ≤ k →
    panachetop_TopArc.l0 k deg h a (i : Int) 900 1000 40 50 (setUp a l i) = some true := by
  intro m
  induction m with
  | zero =>
    intro k i hi hk
    obtain ⟨k, rfl⟩ := Nat.exists_eq_add_of_le' (show 4 ≤ k by omega)
    obtain rfl : i = l.length := by omega
    show panachetop_TopArc.l0 (k + 3 + 1) _ _ _ _ _ _ _ _ _ = some true
    rw [panachetop_TopArc.l0, if_neg (by rw [setUp_length]; omega)]
    obtain ⟨hi2, e⟩ := opens_low (setUp a l l.length) (by rw [setUp_length]; omega)
    have eo : rivet_Opens.f 900 1000 40 50 (setUp a l l.length) = some (lowOf (setUp a l l.length), hi2, 0) := by
      show PRst.rivet_Opens.f 900 1000 40 50 (setUp a l l.length) = _
      unfold PRst.rivet_Opens.f
      have ec := check_ok (setUp a l l.length) (by rw [setUp_length]; omega) (setUp_bad a l ha0 ha1 hb)
      show (Y.rivet_Check.f 900 1000 40 50 (setUp a l l.length)).bind _ = _
      rw [ec]
      simp only [Option.bind_some, if_true]
      show (Y.rivet_opens.f 900 1000 40 50 (setUp a l l.length)).bind _ = _
      rw [e]
      rfl
    rw [eo]
    simp only [Option.bind_some, if_true]
    have hge : lowOf (setUp a l l.length) ≥ deg := of_decide_eq_true hE
    rw [w64 (x := deg) (by omega) (by omega), decide_eq_false (show ¬ lowOf (setUp a l l.length) < deg by omega)]
    exact last_ok k h a hh0 hh1 ha0 ha1
  | succ m ih =>
    intro k i hi hk
    obtain ⟨k, rfl⟩ := Nat.exists_eq_add_of_le' (show 1 ≤ k by omega)
    rw [panachetop_TopArc.l0, if_pos (by rw [setUp_length]; omega)]
    unfold panachetop_ellSpan.f
    simp only [Option.bind_some]
    rw [if_pos (by omega), w64 (by omega) (by omega), Int.toNat_natCast]
    have := ih k (i + 1) (by omega) (by omega)
    rw [← setUp_step a l i (by omega)] at this
    exact this
theorem law (l : List S26) (hB : Bytes l) (a1 a2 : Int) (h10 : 0 ≤ a1) (h11 : a1 ≤ 255) (h20 : 0 ≤ a2) (h21 : a2 ≤ 255) : panachetop_TopArc.f 60 l a1 a2 = some true := by
  obtain ⟨gs, e1, hl, hb⟩ := fan_f l hB 60 (by omega)
  unfold panachetop_TopArc.f
  rw [e1]
  simp only [Option.bind_some]
  have e2 : panachetop_ellFan.f 900 1000 40 50 gs = some (900, 1000, 40, 50, gs) := by
    unfold panachetop_ellFan.f
    simp only [Option.bind_some]
    rw [if_pos (by rw [List.length_nil]; omega)]
    rfl
  rw [e2]
  simp only [Option.bind_some]
  rw [w64 (x := a1) (by omega) (by omega), w64 (x := a2) (by omega) (by omega), Int.tmod_eq_emod_of_nonneg h20]
  obtain ⟨a, e, ep, hcase⟩ := pleat_some gs a1 (by omega) hb h10 (by omega)
  rw [ep]
  simp only [Option.bind_some]
  rcases hcase with ⟨rfl, rfl⟩ | ⟨rfl, ha0, ha1, hE⟩
  · rw [if_neg (by decide), if_pos rfl, if_pos rfl]
    rfl
  · rw [if_pos rfl, if_neg (by omega), decide_eq_false (show ¬ a > 1000 by omega)]
    show panachetop_TopArc.j1 (59 + 1) _ _ _ _ _ _ _ _ _ = some true
    rw [panachetop_TopArc.j1, if_neg (by decide)]
    have := set_loop gs (a2 % 30) a a1 hl hb ha0 ha1 (by omega) (by omega) h10 h11 hE gs.length 59 0 (by omega) (by omega)
    rw [setUp_zero] at this
    exact this
end Go.Proofs.YtgdkmadcegleiaaGreatDoor.Arc
end
section
/- A fan in bytes (Horn) as the reader reads it: a row of pairs of bytes. -/
namespace Go.Proofs.YtgdkmadcegleiaaGreatDoor.Horn
open Go.Shelf Go.ChangeShapes Go.WideShapes Go.ChangeAt Go.RowKit Go.Lib
section
variable {H : Type} {enc : TypeId × Value → H} {P : Program} {w : World} {base : Nat} {spare : Nat → Bool} {held : Bool}
theorem trod_array2 {t e : TypeId} {fuel : Nat} {c0 c1 : Value} {x : DataW H × List MemPlace} (ht : P.underlying t = some (.array 2 e)) (hce : P.cellsOf e = 1)
    (h : DataW.trod enc P w base spare held fuel t [c0, c1] = some x) :
    ∃ y0 y1 n, x = (.agg [y0.1, y1.1], y0.2 ++ y1.2) ∧ DataW.trod enc P w base spare held n e [c0] = some y0 ∧ DataW.trod enc P w base spare held n e [c1] = some y1 := by
  cases fuel with
  | zero => simp [DataW.trod] at h
  | succ n =>
    unfold DataW.trod at h
    rw [ht] at h
    have r2 : List.range 2 = [0, 1] := rfl
    simp [r2, hce] at h
    obtain ⟨_, h⟩ := h
    cases h0 : DataW.trod enc P w base spare held n e [c0] with
    | none => simp [h0] at h
    | some y0 =>
      cases h1 : DataW.trod enc P w base spare held n e [c1] with
      | none => simp [h0, h1] at h
      | some y1 =>
        simp [h0, h1] at h
        exact ⟨y0, y1, n, h.symm, h0, h1⟩
end
theorem list_of {α : Type} {Q : Nat → α → Prop} : ∀ n : Nat, (∀ i, i < n → ∃ x, Q i x) → ∃ l : List α, l.length = n ∧ ∀ i x, l[i]? = some x → Q i x := by
  intro n
  induction n with
  | zero => exact fun _ => ⟨[], rfl, fun i x h => by simp at h⟩
  | succ n ih =>
    intro h
    obtain ⟨l, hl, hq⟩ := ih (fun i hi => h i (by omega))
    obtain ⟨x, hx⟩ := h n (by omega)
    refine ⟨l ++ [x], by simp [hl], fun i y hy => ?_⟩
    by_cases hi : i < n
    · rw [List.getElem?_append_left (by omega)] at hy
      exact hq i y hy
    · rw [List.getElem?_append_right (by omega)] at hy
      have : i = n := by
        have := (List.getElem?_eq_some_iff.1 hy).1
        simp at this
        omega
      subst this
      simp [hl] at hy
      subst hy
      exact hx
/-- Pairs of bytes in memory. -/
def Pairs (w : World) (A : Option Addr) (l : List (Int × Int)) : Prop :=
  0 < l.length → ∃ ad, A = some ad ∧ ∀ j x, l[j]? = some x → w.cell? (ad.add (j * 2)) = some (.int .u8 x.1) ∧ w.cell? (ad.add (j * 2 + 1)) = some (.int .u8 x.2)
def Bytes2 (l : List (Int × Int)) : Prop := ∀ x ∈ l, 0 ≤ x.1 ∧ x.1 ≤ 255 ∧ 0 ≤ x.2 ∧ x.2 ≤ 255
set_option maxRecDepth 100000 in
theorem open_horn {H : Type} {enc : TypeId × Value → H} {W : World} {b0 : Nat} {sp : Nat → Bool} {held : Bool} {v : Value} {d : DataW H} {ps : List MemPlace}
    (hval : Value.okWide Tryz.prog W .any b0 24 v) (hd : DataW.Trod enc Tryz.prog W 0 sp held 24 v d ps) :
    ∃ (A : Option Addr) (c : Nat) (l : List (Int × Int)), v = .agg #[.slice A l.length c] ∧ l.length ≤ c ∧ l.length ≤ 9223372036854775807 ∧ Pairs W A l ∧ Bytes2 l := by
  obtain ⟨cs, rfl, hsz, _⟩ : ∃ cs, v = .agg cs ∧ cs.size = Tryz.prog.cellsOf 24 ∧ Row.okWide Tryz.prog W .any b0 24 cs := by
    simpa [Value.okWide, Tryz.underlying24] using hval
  rw [show Tryz.prog.cellsOf 24 = 1 from by kernel_rfl] at hsz
  obtain ⟨l0⟩ := cs
  obtain ⟨c0, rfl⟩ : ∃ c0, l0 = [c0] := by
    match l0, hsz with
    | [c0], _ => exact ⟨c0, rfl⟩
  obtain ⟨fuel, hf⟩ := hd
  obtain ⟨y0, n, _, _, hs⟩ := trod_struct1 Tryz.underlying24 hf
  have hs2 : DataW.trod enc Tryz.prog W 0 sp held n 22 [c0] = some y0 := hs
  rcases DataW.trod_slice Tryz.underlying22 hs2 with ⟨e, _⟩ | ⟨a, len, cap, elems, rest, m, _, e, _, _, hlc, hcm, hel, hcell, _⟩
  · obtain rfl : c0 = .slice none 0 0 := by simpa using e
    exact ⟨none, 0, [], rfl, Nat.le_refl _, by simp, fun h => absurd h (by simp), fun x hx => by simp at hx⟩
  · obtain rfl : c0 = .slice (some a) len cap := by simpa using e
    have hc2 : Tryz.prog.cellsOf 26 = 2 := by kernel_rfl
    have hc1 : Tryz.prog.cellsOf 5 = 1 := by kernel_rfl
    have key : ∀ i, i < len → ∃ x : Int × Int, (W.cell? (a.add (i * 2)) = some (.int .u8 x.1) ∧ W.cell? (a.add (i * 2 + 1)) = some (.int .u8 x.2)) ∧ (0 ≤ x.1 ∧ x.1 ≤ 255 ∧ 0 ≤ x.2 ∧ x.2 ≤ 255) := by
      intro i hi
      have h := hcell i hi
      rw [List.getElem?_eq_getElem (by omega), hc2] at h
      obtain ⟨cs, h1, h2⟩ := Option.bind_eq_some_iff.1 h
      obtain ⟨_, hl2, hc⟩ := World.cells?_some h1
      match cs, hl2 with
      | [u0, u1], _ =>
        obtain ⟨y0, y1, q, _, hy0, hy1⟩ := trod_array2 Tryz.underlying26 hc1 h2
        obtain ⟨x0, e0, _, w0⟩ := DataW.trod_int Tryz.underlying5 hy0
        obtain ⟨x1, e1, _, w1⟩ := DataW.trod_int Tryz.underlying5 hy1
        obtain rfl : u0 = .int .u8 x0 := by simpa using e0
        obtain rfl : u1 = .int .u8 x1 := by simpa using e1
        have g0 := hc 0 (by omega)
        have g1 := hc 1 (by omega)
        have k0 := bounds_u8 w0
        have k1 := bounds_u8 w1
        refine ⟨(x0, x1), ⟨?_, ?_⟩, by omega⟩
        · rw [Addr.add_zero'] at g0
          exact g0
        · rw [Addr.add_add] at g1
          exact g1
    obtain ⟨l, hl, hq⟩ := list_of len key
    refine ⟨some a, cap, l, by rw [hl], by omega, by rw [hl]; simp only [maxLen] at hcm; omega, fun _ => ⟨a, rfl, fun j x hx => (hq j x hx).1⟩, fun x hx => ?_⟩
    obtain ⟨j, hj, e⟩ := List.mem_iff_getElem.1 hx
    exact (hq j x (by rw [List.getElem?_eq_getElem hj, e])).2
end Go.Proofs.YtgdkmadcegleiaaGreatDoor.Horn
end
section
/- TopArc, called with a fan in bytes and two bytes, returns true. -/
namespace Go.Proofs.YtgdkmadcegleiaaGreatDoor.Arc
open Go.RowKit Go.Proofs.YtgdkmadcegleiaaGreatDoor.X Go.Proofs.YtgdkmadcegleiaaGreatDoor.Z Go.Proofs.YtgdkmadcegleiaaGreatDoor.PTopArc Go.Proofs.YtgdkmadcegleiaaGreatDoorW.PrintWords Go.Proofs.YtgdkmadcegleiaaGreatDoorW.PrintLast Go.Proofs.YtgdkmadcegleiaaGreatDoorW.PrintMore
theorem pairs_C {W : World} {A : Option Addr} {l : List (Int × Int)} (hm : l.length ≤ 9223372036854775807) (hP : Horn.Pairs W A l) : Kd.C k26 W A l.length (l.map fun x => (⟨x.1, x.2⟩ : S26)) := by
  refine ⟨by rw [List.length_map], hm, fun h => ?_⟩
  obtain ⟨ad, e, hc⟩ := hP h
  refine ⟨ad, e, fun j p hj => ?_⟩
  rw [List.getElem?_map] at hj
  obtain ⟨x, hx, e2⟩ := Option.map_eq_some_iff.1 hj
  subst e2
  refine ⟨[.int .u8 x.1, .int .u8 x.2], rfl, k26_mk W _, fun i u hu => ?_⟩
  obtain ⟨g0, g1⟩ := hc j x hx
  match i with
  | 0 =>
    obtain rfl : Value.int .u8 x.1 = u := Option.some.inj hu
    exact g0
  | 1 =>
    obtain rfl : Value.int .u8 x.2 = u := Option.some.inj hu
    exact g1
  | i + 2 => simp at hu
theorem law_calls {W : World} {A : Option Addr} {c n0 n1 : Nat} {l : List (Int × Int)} (hT : Tabs W) (hc : l.length ≤ c) (hm : l.length ≤ 9223372036854775807) (hP : Horn.Pairs W A l) (hB : Horn.Bytes2 l) (h0 : n0 < 256) (h1 : n1 < 256) :
    Calls Tryz.prog 4 #[.agg #[.slice A l.length c], .int .u8 (n0 : Int), .int .u8 (n1 : Int)] W fun e w' => e = .returned (.bool true) ∧ Below W.heap.size W w' := by
  have hb : Bytes (l.map fun x => (⟨x.1, x.2⟩ : S26)) := by
    intro x hx
    obtain ⟨y, hy, rfl⟩ := List.mem_map.1 hx
    exact hB y hy
  have := panachetop_TopArc.calls 60 A c (l.map fun x => (⟨x.1, x.2⟩ : S26)) (n0 : Int) (n1 : Int) true W (by rw [List.length_map]; exact pairs_C hm hP) (by rw [List.length_map]; exact hc)
    (law _ hb (n0 : Int) (n1 : Int) (by omega) (by omega) (by omega) (by omega)) hT
  rw [List.length_map] at this
  exact this
end Go.Proofs.YtgdkmadcegleiaaGreatDoor.Arc
end
section
/- The row of TopArc: an arc for a mould (chapters 3 and 5), whatever the fan and the bytes -/
namespace Go.Proofs.YtgdkmadcegleiaaGreatDoor.topArc
open Go.Shelf Go.ChangeShapes Go.WideShapes Go.ChangeAt Go.RowKit Go.Lib
open Go.Proofs.YtgdkmadcegleiaaGreatDoor.X Go.Proofs.YtgdkmadcegleiaaGreatDoorW.PrintWords
theorem own : ownKnob Tryz.prog.godebug = none := by kernel_rfl
theorem laidOut : laidOutB Tryz.prog = true := by kernel_rfl
/-- The witness: the settled world, the two variables holding what their initialisers lay. -/
noncomputable def laidWorld (os : Os) : World :=
  let w0 := World.holding Tryz.prog os ⟨#[], #[], []⟩
  let put (h : Array Obj) (g : Nat) (cs : Array Value) : Array Obj := h.modify g fun
    | .cells _ t frozen => .cells cs t frozen
    | o => o
  let h1 := put w0.heap 0 (Lib.firstTab.map fun z => Value.int .u8 z).toArray
  let h2 := put h1 1 ((List.range 16).flatMap fun i => [Value.int .u8 (Lib.accLo i), Value.int .u8 (Lib.accHi i)]).toArray
  { w0 with heap := h2 }
theorem laid_met (os : Os) (args : Array Value) : laidMet Tryz.prog Rows.topArcRow.laid ((laidWorld os).forCall (fun _ _ => 0) ⟨#[], args, []⟩).memory :=
  (LaidIn.of_run (l := Rows.topArcRow.laid) [0, 1] 8 (by kernel_rfl) (by kernel_rfl) (by kernel_rfl) (by kernel_rfl)).met
theorem first_eq : (Rows.laid_unicode_utf8_first : DataW Unit) = Lib.firstData := by kernel_rfl
theorem accept_eq : (Rows.laid_unicode_utf8_acceptRanges : DataW Unit) = Lib.acceptData := by kernel_rfl
theorem reads_first {W : World} (hL : laidMet Tryz.prog Rows.topArcRow.laid W) : VarReads Tryz.prog W "unicode/utf8.first" Lib.firstData := by
  rw [← first_eq]
  exact Lib.laidMet.reads hL (.tail _ (.head _))
theorem reads_accept {W : World} (hL : laidMet Tryz.prog Rows.topArcRow.laid W) : VarReads Tryz.prog W "unicode/utf8.acceptRanges" Lib.acceptData := by
  rw [← accept_eq]
  exact Lib.laidMet.reads hL (.head _)
abbrev spec : OpenSpec := OpenSpec.ofChange Rows.topArcSpec
theorem witness_row (os : Os) {H : Type} (enc : TypeId × Value → H) :
    spec.preRow enc Tryz.prog Tryz.f4 Rows.topArcRow.domain false Rows.topArcRow.laid ((laidWorld os).forCall (fun _ _ => 0) ⟨#[], #[.agg #[.slice none 0 0], .int .u8 0, .int .u8 0], []⟩).memory #[.agg #[.slice none 0 0], .int .u8 0, .int .u8 0] := by
  have hw : (DataW.whole enc Tryz.prog ((laidWorld os).forCall (fun _ _ => 0) ⟨#[], #[.agg #[.slice none 0 0], .int .u8 0, .int .u8 0], []⟩).memory Tryz.f4.params.toList spec.vars false (#[.agg #[.slice none 0 0], .int .u8 0, .int .u8 0] : Array Value).toList 8).map (fun x => (x.1, x.2.1)) =
      some ([.agg [.nil], .lit (.int .u8 0), .lit (.int .u8 0)], []) := by kernel_rfl
  obtain ⟨⟨x1, x2, x3⟩, hx, hx1⟩ := Option.map_eq_some_iff.1 hw
  simp only [Prod.mk.injEq] at hx1
  obtain ⟨rfl, rfl⟩ := hx1
  exact OpenSpec.preRow_of_cond 8 hx (by kernel_rfl) (fun k hk => by cases hk) (by kernel_rfl) (laid_met os _)
set_option maxRecDepth 100000 in
set_option maxHeartbeats 2000000 in
theorem lifted (os : Os) (started : os.Started) (H : Type) (enc : TypeId × Value → H) (F : Stop.Interp) :
    ReturnsInHanded {} Tryz.checked os 4 .any (spec.preRow enc Tryz.prog Tryz.f4 Rows.topArcRow.domain false Rows.topArcRow.laid) ((spec.at F).post enc Tryz.prog Tryz.f4 false true false false) := by
  refine returnsInHanded_of_row (C := Tryz.checked) (s := spec) own started (by kernel_rfl) Tryz.func4
    (witness_row_atRef (enc := enc) (C := Tryz.checked) false (laidWorld os) #[.agg #[.slice none 0 0], .int .u8 0, .int .u8 0] rfl (by kernel_rfl) (by kernel_rfl) (by kernel_rfl) (witness_row os enc)) ?_
  intro W base args ds gs before hval0 hW _ _ _ hL _ _
  have hval : ∀ (j : Nat) t v, Tryz.f4.params[j]? = some t → args[j]? = some v → Value.okWide Tryz.prog W .any base t v := hval0
  have hW' := hW
  obtain ⟨p, q, hA0, hV0, rfl, _, _⟩ := hW
  have hA : DataW.TrodAll enc Tryz.prog W 0 (fun _ => true) true Tryz.f4.params.toList args.toList ds p := hA0
  rw [Tryz.params4] at hA hval
  obtain ⟨v0, v1, v2, d0, d1, d2, pp0, pp1, pp2, rfl, rfl, rfl, t0, t1, t2⟩ := trodAll_three hA
  obtain ⟨rfl, rfl⟩ := trodVars_none hV0
  have t0k := t0
  obtain ⟨A0, c0, l0, rfl, hlc0, hlm0, hP0, hB0⟩ := Horn.open_horn (hval 0 24 v0 rfl rfl) t0
  have t1k := t1
  obtain ⟨x0, rfl, rfl, rfl, w0⟩ := open_int Tryz.underlying5 (hval 1 5 v1 rfl rfl) t1
  have t2k := t2
  obtain ⟨x1, rfl, rfl, rfl, w1⟩ := open_int Tryz.underlying5 (hval 2 5 v2 rfl rfl) t2
  clear hA0 hV0 hval0
  simp only [List.append_nil] at hW' t0k t1k t2k
  have htab : Tabs W :=
    utf8Tabs_of_reads (ρ := Tryz.lays260_ren) Tryz.lays260 ⟨by kernel_rfl, by kernel_rfl, by kernel_rfl, by kernel_rfl, by kernel_rfl, by kernel_rfl, by kernel_rfl⟩
      (reads_first hL) (reads_accept hL)
  have k0 := bounds_u8 w0
  obtain ⟨n0, rfl⟩ := Int.eq_ofNat_of_zero_le k0.1
  have h0 : n0 < 256 := by omega
  have k1 := bounds_u8 w1
  obtain ⟨n1, rfl⟩ := Int.eq_ofNat_of_zero_le k1.1
  have h1 : n1 < 256 := by omega
  refine (Arc.law_calls htab hlc0 hlm0 hP0 hB0 h0 h1).mono ?_
  rintro e W' ⟨rfl, bel⟩
  have e1 : (spec.at F).fn H ([d0, .lit (.int .u8 n0), .lit (.int .u8 n1)] ++ []) = { results := [.lit (.bool true)], args := [d0, .lit (.int .u8 n0), .lit (.int .u8 n1)] } := rfl
  refine ⟨_, rfl, _, _, _, [], (pp0 ++ ([] ++ [])), [], hW', ?_, ?_, ?_, bel.frame _, fun h => by cases h⟩
  · rw [e1]; exact trodAll_mk1 (shut_bool Tryz.underlying4 _)
  · rw [e1]; exact trodAll_mk3 (Below.trod laidOut (by kernel_rfl) (of_decide_eq_true (by kernel_rfl)) t0k bel (fun x hx => DataW.TrodAll.lt (trodAll_mk1 t0k) x hx)) (Below.trod laidOut (by kernel_rfl) (of_decide_eq_true (by kernel_rfl)) t1k bel (fun x hx => by cases hx)) (Below.trod laidOut (by kernel_rfl) (of_decide_eq_true (by kernel_rfl)) t2k bel (fun x hx => by cases hx))
  · rw [e1]; rfl
theorem over : Rows.TopArcSaid :=
  OpenClaim.holds_of_cond 4 Tryz.f4 rfl rfl rfl rfl rfl rfl rfl ⟨rfl, rfl, rfl, rfl, rfl⟩ rfl rfl rfl rfl rfl (by kernel_rfl) Tryz.func4 (by kernel_rfl)
    (of_decide_eq_true (by kernel_rfl)) (by unfold Func.isWrapper; first | (rw [if_pos (by decide +kernel)]; kernel_rfl) | (rw [if_neg (by decide +kernel)]; exact ⟨rfl, rfl⟩))
    (fun os started H enc _ F0 => by rw [OpenClaim.pre_eq_preRow]; exact lifted os started H enc F0)
end Go.Proofs.YtgdkmadcegleiaaGreatDoor.topArc
end
section
/- TopArc: the tied card: an arc for a mould (chapters 3 and 5), whatever the fan and the bytes; what the two tables of package unicode/utf8 hold is tied to the program's text. -/
namespace Go.Proofs.YtgdkmadcegleiaaGreatDoor
open Go
theorem topArc_card : Rows.TopArcCardSaid :=
  Claim7.holds_tied_plain_at .later [] [.data, .pinned] true (true, "82de06f7255eb502618943862a66e4787df31cbe1188102f901122773568cc1d") false
    topArc.over (fun _ h => by cases h) (by kernel_rfl) (fun _ h => by cases h) topArc_row_tie rfl ⟨rfl, rfl⟩ (by kernel_rfl) rfl
    (fun f fn hf hfn => by
      obtain rfl : f = 4 := Option.some.inj ((show Tryz.prog.funcNamed "panache/panachetop.TopArc" = some 4 by kernel_rfl).symm.trans hf) |>.symm
      obtain rfl : fn = Tryz.f4 := (Option.some.inj (Tryz.func4.symm.trans hfn)).symm
      exact ⟨by kernel_rfl, fun j t ht => by
        rw [Tryz.params4] at ht
        have h3 : t = 24 ∨ t = 5 := by
          rcases j with _ | _ | _ | j
          · have e : t = 24 := by simpa using ht.symm
            simp [e]
          · have e : t = 5 := by simpa using ht.symm
            simp [e]
          · have e : t = 5 := by simpa using ht.symm
            simp [e]
          · simp at ht
        rcases h3 with rfl | rfl
        · exact (show Tryz.prog.wantsStandIn 24 = false by kernel_rfl)
        · exact (show Tryz.prog.wantsStandIn 5 = false by kernel_rfl)⟩)
    (by kernel_rfl)
#print axioms topArc_card
end Go.Proofs.YtgdkmadcegleiaaGreatDoor
end
