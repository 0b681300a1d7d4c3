/- Part 6 of this claim's texts, put together by a program of its author: PEnox1, PEnox2, PEnox3, PEnox, EnoEnd, Horn, Ivory, EnoLaw, EnoRow, EnoCard. -/
import Derived.Test.YtgdkmadcegleiaaGreatDoorMb
import Derived.Test.YtgdkmadcegleiaaGreatDoorMe
import Derived.Test.YtgdkmadcegleiaaGreatDoorRows
import Derived.Lib.LaidU8
import Derived.Deep.DeepHandedRow
import Derived.Deep.DeepWitnessRowRef
import Derived.ProofKit
import Derived.ChangeSame
import Derived.SizedLaws
import Derived.Carry
import Derived.OpenShut
import Derived.Lib.SmallJoins
import Derived.Laws.IdiomArrays
import Derived.Lib.LaidIn
import Derived.Test.YtgdkmadcegleiaaGreatDoorTie
import Derived.Test.YtgdkmadcegleiaaGreatDoorCards
import Derived.SevenTiedAt
section
namespace Go.Proofs.YtgdkmadcegleiaaGreatDoor.PEno
open Go.RowKit Go.Proofs.YtgdkmadcegleiaaGreatDoor.Sq Go.Proofs.YtgdkmadcegleiaaGreatDoorW.PrintWords Go.Proofs.YtgdkmadcegleiaaGreatDoorW.PrintLast Go.Proofs.YtgdkmadcegleiaaGreatDoorW.PrintMore Go.Proofs.YtgdkmadcegleiaaGreatDoor.X Go.Proofs.YtgdkmadcegleiaaGreatDoor.Z
attribute [local go_sem] max2_int min2_int max_two min_two max_three min_three max_four min_four   -- for this text's walks alone
set_option linter.unusedVariables false
set_option linter.unusedSimpArgs false
def panachetop_ellSpan.f (a0 : Int) (a1 : Int) : Option (Int × Int) := some (a0, a1)
set_option maxHeartbeats 8000000 in
set_option maxRecDepth 100000 in
theorem panachetop_ellSpan.calls (a0 : Int) (a1 : Int) (r1 : Int) (r2 : Int) (w : World) (h : panachetop_ellSpan.f a0 a1 = some (r1, r2)) :
  Calls Tryz.prog 15 #[.int .i64 a0, .int .i64 a1] w fun e w' => e = .returned (.agg #[.int .i64 r1, .int .i64 r2]) ∧ Below w.heap.size w w' := by
 have hu30 := Tryz.underlying30
 have HB := Aside0.mk (Below.refl w.heap.size w)
 have H : (some (a0, a1)) = some (r1, r2) := h
 clear h
 simp only [Option.some.injEq, Prod.mk.injEq] at H
 obtain ⟨rfl, rfl⟩ := H
 go_enter Tryz.func15, Tryz.ntmps15
 go_wp2_with (first | ((with_reducible refine gate_dst (N := 4) rfl ?_); refine boxA (N := 4) (cs := #[.int .i64 0, .int .i64 0]) (t := 30) ?_; intro gb101 hg w3 hbox hb; have BK101 := Aside0.mk (hbox); have GW101 := bG HB hg; have GE101 := bG HB hg; replace HB := bS HB hb; clear hb hbox hg; obtain ⟨hcz4_0, hcz4_1, hfz4_0, hfz4_1⟩ := cc2 BK101))
 refine bodyPost_ret (results_cell_row rfl _ _ gb101 30 #[.int .i64 a0, .int .i64 a1] (0, 0) _ rfl (kP BK101) Tryz.underlying30 rfl (by kernel_rfl)) rfl ?_
 exact ⟨by first | rfl | (simp [errW_none, errW_some] <;> rfl) | (simp [*, errW_none, errW_some] <;> rfl), bX HB⟩
mutual
def panachetop_Horn_fan.l0 : Nat → Int → List (S26) → Int → Int → Int → Int → List (S47) → Option (Int × Int × Int × Int × (List (S47)))
 | 0, _, _, _, _, _, _, _ => none
 | k + 1, x4, x103000, x109000, x109001, x109002, x109003, x109004 => if x4 < (x103000.length : Int) then (panachetop_Horn_fan.j1 k x4 (decide (x4 < 10)) x103000 x109000 x109001 x109002 x109003 x109004) else (panachetop_Horn_fan.j1 k x4 false x103000 x109000 x109001 x109002 x109003 x109004)
def panachetop_Horn_fan.j1 : Nat → Int → Bool → List (S26) → Int → Int → Int → Int → List (S47) → Option (Int × Int × Int × Int × (List (S47)))
 | 0, _, _, _, _, _, _, _, _ => none
 | k + 1, x4, x17, x103000, x109000, x109001, x109002, x109003, x109004 => if x17 = true then (if 0 ≤ x4 then (if x4 < (x103000.length : Int) then ((panachetop_ellSpan.f (wrap64 ((rd_T26 x103000 x4).f0)) (wrap64 ((wrap64 ((rd_T26 x103000 x4).f0)) + (Int.tmod (wrap64 ((rd_T26 x103000 x4).f1)) 20)))).bind fun bt111 => ((panachetop_ellSpan.f (wrap64 (Int.tdiv (wrap64 ((rd_T26 x103000 x4).f1)) 16)) (wrap64 ((wrap64 (Int.tdiv (wrap64 ((rd_T26 x103000 x4).f1)) 16)) + (Int.tmod (wrap64 ((rd_T26 x103000 x4).f0)) 3)))).bind fun bt113 => (if x109004.length < 4398046511104 then (panachetop_Horn_fan.l0 k (wrap64 (x4 + 1)) x103000 x109000 x109001 x109002 x109003 (x109004 ++ [(⟨(⟨bt111.1, bt111.2⟩ : S30), (⟨bt113.1, bt113.2⟩ : S30)⟩ : S47)])) else (none)))) else (none)) else (none)) else (some (x109000, x109001, x109002, x109003, x109004))
end
def panachetop_Horn_fan.f (k : Nat) (l0_0 : List (S26)) : Option (Int × Int × Int × Int × (List (S47))) := (panachetop_ellSpan.f 900 1000).bind fun bt104 => ((panachetop_ellSpan.f 40 50).bind fun bt106 => (panachetop_Horn_fan.l0 k 0 l0_0 bt104.1 bt104.2 bt106.1 bt106.2 ([] : List (S47))))
def panachetop_Horn_fan.T6 : Bool × List (List Nat × List Nat) := (true, [([], []), ([0], [0]), ([], []), ([2], [2]), ([3], [3]), ([], []), ([5], [5]), ([6], [6]), ([], []), ([8], [8]), ([9], [9]), ([10], [10]), ([7, 11], [7, 11]), ([4, 12], [4, 12]), ([], []), ([14], [14]), ([15], [15]), ([16], [16]), ([], []), ([18], [18]), ([19], [19]), ([20], [20]), ([], []), ([22], [22]), ([23], [23]), ([24], [24]), ([21, 25], [21, 25]), ([17, 26, 13], [17, 26]), ([13, 27], [13, 27]), ([28], [28]), ([1, 29, 27], [1, 29]), ([0, 1, 2, 3, 4, 5, 6, 7, 8, 9, 10, 11, 12, 13, 14, 15, 16, 17, 18, 19, 20, 21, 22, 23, 24, 25, 26, 27, 28, 29, 30], []), ([31, 30, 30, 0, 1, 2, 3, 4, 5, 6, 7, 8, 9, 10, 11, 12, 13, 14, 15, 16, 17, 18, 19, 20, 21, 22, 23, 24, 25, 26, 27, 28, 29, 30], [30, 31])])
def panachetop_Horn_fan.B6 : List Nat := [0, 1, 0, 4, 12, 0, 32, 96, 0, 256, 768, 1792, 4064, 8188, 0, 16384, 49152, 114688, 0, 262144, 786432, 1835008, 0, 4194304, 12582912, 29360128, 66846720, 134217724, 268435452, 536870908, 1073741823, 2147483647, 4294967295]
theorem panachetop_Horn_fan.tab6 : rtab .any (opsOf Tryz.f6 6) = panachetop_Horn_fan.T6 := by kernel_rfl
theorem panachetop_Horn_fan.bits6 : waitsOk panachetop_Horn_fan.T6.2 panachetop_Horn_fan.B6 = true := by kernel_rfl
set_option maxHeartbeats 8000000 in
set_option maxRecDepth 100000 in
theorem panachetop_Horn_fan.calls (k : Nat) (A0_0 : Option Addr) (c0_0 : Nat) (l0_0 : List (S26)) (r1 : Int) (r2 : Int) (r3 : Int) (r4 : Int) (r5 : List (S47)) (w : World) (hr0_0 : Kd.C k26 w A0_0 l0_0.length l0_0) (hc0_0 : l0_0.length ≤ c0_0) (h : panachetop_Horn_fan.f k l0_0 = some (r1, r2, r3, r4, r5)) :
  Calls Tryz.prog 6 #[.agg #[.slice A0_0 l0_0.length c0_0]] w fun e w' => ∃ v4_ : Value, e = .returned (.agg #[.int .i64 r1, .int .i64 r2, .int .i64 r3, .int .i64 r4, v4_]) ∧ Kd.R k47 47 w' w.heap.size (fun _ => True) v4_ r5 ∧ Below w.heap.size w w' := by
 have hu24 := Tryz.underlying24
 have hu33 := Tryz.underlying33
 have hu26 := Tryz.underlying26
 have hu47 := Tryz.underlying47
 have HR0_0 := Aside0.mk hr0_0
 have HC0_0 := Aside0.mk hc0_0
 clear hr0_0 hc0_0
 have HB := Aside0.mk (Below.refl w.heap.size w)
 have H : ((panachetop_ellSpan.f 900 1000).bind fun bt104 => ((panachetop_ellSpan.f 40 50).bind fun bt106 => (panachetop_Horn_fan.l0 k 0 l0_0 bt104.1 bt104.2 bt106.1 bt106.2 ([] : List (S47))))) = some (r1, r2, r3, r4, r5) := h
 clear h
 replace H := Option.bind_eq_some_iff.mp H
 obtain ⟨⟨t104, t105⟩, A20, H⟩ := H
 try dsimp only at H
 have A2 := Aside0.mk A20
 clear A20
 replace H := Option.bind_eq_some_iff.mp H
 obtain ⟨⟨t106, t107⟩, A30, H⟩ := H
 try dsimp only at H
 have A3 := Aside0.mk A30
 clear A30
 have H' := Aside0.mk H
 clear H
 go_enter Tryz.func6, Tryz.ntmps6
 go_wp2_with (first | ((with_reducible refine gate_dst (N := 1) rfl ?_); refine boxA (N := 1) (cs := #[.slice A0_0 l0_0.length c0_0]) (t := 24) ?_; intro gb102 hg w4 hbox hb; have BK102 := Aside0.mk (hbox); have GW102 := bG HB hg; have GE102 := bG HB hg; replace HB := bS HB hb; clear hb hbox hg) | ((with_reducible refine gate_dst (N := 2) rfl ?_); refine boxA (N := 2) (cs := #[.int .i64 0, .int .i64 0, .int .i64 0, .int .i64 0, .slice none 0 0]) (t := 33) ?_; intro gb103 hg w5 hbox hb; have BK103 := Aside0.mk (hbox); have GW103 := bG HB hg; have GE103 := bG HB hg; have NB102_103 := kN BK102 hg; have NB103_102 := kM BK102 hg; replace BK102 := kB BK102 hb; replace HB := bS HB hb; clear hb hbox hg) | ((with_reducible refine gate_callee (f := 15) rfl ?_); refine goesA (some 6) Tryz.func15 #[.int .i64 900, .int .i64 1000] ?_; (with_reducible refine (panachetop_ellSpan.calls 900 1000 t104 t105 _ A2.out).mono ?_); rintro e w6 ⟨rfl, hb⟩; refine ⟨_, rfl, ?_⟩; replace BK102 := kB BK102 hb; replace BK103 := kB BK103 hb; replace HB := bS HB hb; (try clear hb); (try clear hb2); (try clear hk); (try clear hi)) | ((with_reducible refine gate_callee (f := 15) rfl ?_); refine goesA (some 7) Tryz.func15 #[.int .i64 40, .int .i64 50] ?_; (with_reducible refine (panachetop_ellSpan.calls 40 50 t106 t107 _ A3.out).mono ?_); rintro e w7 ⟨rfl, hb⟩; refine ⟨_, rfl, ?_⟩; replace BK102 := kB BK102 hb; replace BK103 := kB BK103 hb; replace HB := bS HB hb; (try clear hb); (try clear hb2); (try clear hk); (try clear hi)) | ((with_reducible refine gate_dst (N := 3) rfl ?_); refine boxA (N := 3) (cs := #[.int .i64 0, .int .i64 0, .int .i64 0, .int .i64 0, .slice none 0 0]) (t := 33) ?_; intro gb108 hg w8 hbox hb; have BK108 := Aside0.mk (hbox); have GW108 := bG HB hg; have GE108 := bG HB hg; have NB102_108 := kN BK102 hg; have NB108_102 := kM BK102 hg; have NB103_108 := kN BK103 hg; have NB108_103 := kM BK103 hg; replace BK102 := kB BK102 hb; replace BK103 := kB BK103 hb; replace HB := bS HB hb; clear hb hbox hg; have hnb9 := NB108_102.out; have hnc9 := NB102_108.out; have hnb10 := NB108_103.out; have hnc10 := NB103_108.out; obtain ⟨hcz11_0, hcz11_1, hcz11_2, hcz11_3, hcz11_4, hfz11_0, hfz11_1, hfz11_2, hfz11_3, hfz11_4⟩ := cc5 BK108))
 go_loopg [4] k (fun kq v4 w' => ∃ (x4_1 : Int) (x109004_1 : List (S47)) (u109004 : Value), v4 = .int .i64 x4_1 ∧ Aside0 (panachetop_Horn_fan.l0 kq x4_1 l0_0 t104 t105 t106 t107 x109004_1 = some (r1, r2, r3, r4, r5)) ∧ Aside0 (kq ≤ k) ∧ Aside0 (Kd.R k47 47 w' w.heap.size (fun _ => True) u109004 x109004_1) ∧ Aside0 (w'.heap[gb102]? = some (.cells #[(.slice A0_0 l0_0.length c0_0)] 24 (0, 0))) ∧ Aside0 (w'.heap[gb103]? = some (.cells #[.int .i64 0, .int .i64 0, .int .i64 0, .int .i64 0, (.slice none 0 0)] 33 (0, 0))) ∧ Aside0 (w'.heap[gb108]? = some (.cells #[.int .i64 t104, .int .i64 t105, .int .i64 t106, .int .i64 t107, u109004] 33 (0, 0))) ∧ Aside0 (Below w.heap.size w w'))
 case atStart => exact ⟨(0), (([] : List (S47))), (.slice none 0 0), (by first | rfl | (simp; done) | (simp [*]; done)), H', ⟨Nat.le_refl _⟩, ⟨by first | exact Kd.R_nil _ _ _ _ _ | exact Kd.N_nil _ _ _ _ _ | exact Kd.V_nil _ _ _ _ _ | exact Kd.Q_nil _ _ _ _ _ | exact Kd.S_nil _ _ _ _ _⟩, ⟨by (with_reducible repeat (first | refine blk_drewN ?_ _ | refine blk_drew ?_ | refine blk_alloc ?_ _)); refine blk_far ?_ NB102_108.out _; (with_reducible repeat (first | refine blk_drewN ?_ _ | refine blk_drew ?_ | refine blk_alloc ?_ _)); refine blk_far ?_ NB102_108.out _; (with_reducible repeat (first | refine blk_drewN ?_ _ | refine blk_drew ?_ | refine blk_alloc ?_ _)); refine blk_far ?_ NB102_108.out _; (with_reducible repeat (first | refine blk_drewN ?_ _ | refine blk_drew ?_ | refine blk_alloc ?_ _)); refine blk_far ?_ NB102_108.out _; (with_reducible repeat (first | refine blk_drewN ?_ _ | refine blk_drew ?_ | refine blk_alloc ?_ _)); refine blk_far ?_ NB102_108.out _; (with_reducible repeat (first | refine blk_drewN ?_ _ | refine blk_drew ?_ | refine blk_alloc ?_ _)); exact BK102.out⟩, ⟨by (with_reducible repeat (first | refine blk_drewN ?_ _ | refine blk_drew ?_ | refine blk_alloc ?_ _)); refine blk_far ?_ NB103_108.out _; (with_reducible repeat (first | refine blk_drewN ?_ _ | refine blk_drew ?_ | refine blk_alloc ?_ _)); refine blk_far ?_ NB103_108.out _; (with_reducible repeat (first | refine blk_drewN ?_ _ | refine blk_drew ?_ | refine blk_alloc ?_ _)); refine blk_far ?_ NB103_108.out _; (with_reducible repeat (first | refine blk_drewN ?_ _ | refine blk_drew ?_ | refine blk_alloc ?_ _)); refine blk_far ?_ NB103_108.out _; (with_reducible repeat (first | refine blk_drewN ?_ _ | refine blk_drew ?_ | refine blk_alloc ?_ _)); refine blk_far ?_ NB103_108.out _; (with_reducible repeat (first | refine blk_drewN ?_ _ | refine blk_drew ?_ | refine blk_alloc ?_ _)); exact BK103.out⟩, ⟨by (with_reducible repeat (first | refine blk_drewN ?_ _ | refine blk_drew ?_ | refine blk_alloc ?_ _)); refine blk_put (cs := #[.int .i64 t104, .int .i64 t105, .int .i64 t106, .int .i64 t107, .slice none 0 0]) ?_ 4 _ rfl; (with_reducible repeat (first | refine blk_drewN ?_ _ | refine blk_drew ?_ | refine blk_alloc ?_ _)); refine blk_put (cs := #[.int .i64 t104, .int .i64 t105, .int .i64 t106, .int .i64 0, .slice none 0 0]) ?_ 3 _ rfl; (with_reducible repeat (first | refine blk_drewN ?_ _ | refine blk_drew ?_ | refine blk_alloc ?_ _)); refine blk_put (cs := #[.int .i64 t104, .int .i64 t105, .int .i64 0, .int .i64 0, .slice none 0 0]) ?_ 2 _ rfl; (with_reducible repeat (first | refine blk_drewN ?_ _ | refine blk_drew ?_ | refine blk_alloc ?_ _)); refine blk_put (cs := #[.int .i64 t104, .int .i64 0, .int .i64 0, .int .i64 0, .slice none 0 0]) ?_ 1 _ rfl; (with_reducible repeat (first | refine blk_drewN ?_ _ | refine blk_drew ?_ | refine blk_alloc ?_ _)); refine blk_put (cs := #[.int .i64 0, .int .i64 0, .int .i64 0, .int .i64 0, .slice none 0 0]) ?_ 0 _ rfl; (with_reducible repeat (first | refine blk_drewN ?_ _ | refine blk_drew ?_ | refine blk_alloc ?_ _)); exact BK108.out⟩, ⟨bX HB⟩⟩
 case round =>
  clear H'
  try clear c1
  try clear p2
  try clear c6
  try clear c9
  try clear c10
  try clear hcz11_0 hcz11_1 hcz11_2 hcz11_3 hcz11_4 hfz11_0 hfz11_1 hfz11_2 hfz11_3 hfz11_4
  obtain ⟨x4_1, x109004_1, u109004, rfl, HA, HK1, HO_109004, BK102, BK103, BK108, HB⟩ := hrel
  cases gk with
  | zero => exact absurd HA.out (by simp [panachetop_Horn_fan.l0])
  | succ k1 =>
   have H := HA.out
   clear HA
   simp only [panachetop_Horn_fan.l0] at H
   have HC12 := Aside0.mk H
   clear H
   go_upto_region 3 with (fail)
   go_cut [17] (fun v17 wc => ∃ (kq : Nat) (x17_11 : Bool), v17 = .bool x17_11 ∧ Aside0 (panachetop_Horn_fan.j1 kq x4_1 x17_11 l0_0 t104 t105 t106 t107 x109004_1 = some (r1, r2, r3, r4, r5)) ∧ Aside0 (kq ≤ k1) ∧ Aside0 (Kd.R k47 47 wc w.heap.size (fun _ => True) u109004 x109004_1) ∧ Aside0 (wc.heap[gb102]? = some (.cells #[(.slice A0_0 l0_0.length c0_0)] 24 (0, 0))) ∧ Aside0 (wc.heap[gb103]? = some (.cells #[.int .i64 0, .int .i64 0, .int .i64 0, .int .i64 0, (.slice none 0 0)] 33 (0, 0))) ∧ Aside0 (wc.heap[gb108]? = some (.cells #[.int .i64 t104, .int .i64 t105, .int .i64 t106, .int .i64 t107, u109004] 33 (0, 0))) ∧ Aside0 (Below w.heap.size w wc))
   case first =>
    have H := HC12.out
    clear HC12
    by_cases c13 : x4_1 < (l0_0.length : Int)
    ·rw [if_pos c13] at H
     have c13b0 : decide (x4_1 < (l0_0.length : Int)) = true := decide_eq_true c13
     clear c13
     (first | rw [c13b0] | (simp only [i64_w, i32_w]; rw [c13b0]) | skip)
     have H' := Aside0.mk H
     clear H
     have hnb14 := NB102_103.out
     have hnc14 := NB103_102.out
     have hnb15 := NB102_108.out
     have hnc15 := NB108_102.out
     obtain ⟨hcz16_0, hfz16_0⟩ := cc1 BK102
     go_wp2
     go_meet
     case rel => exact ⟨_, (decide (x4_1 < 10)), (by first | rfl | (simp; done) | (simp [*]; done)), H', ⟨by have := HK1.out; first | omega | exact Nat.le_refl _⟩, ⟨rX HO_109004.out⟩, ⟨kX BK102.out⟩, ⟨kX BK103.out⟩, ⟨kX BK108.out⟩, ⟨bX HB⟩⟩
    ·rw [if_neg c13] at H
     have c13b0 : decide (x4_1 < (l0_0.length : Int)) = false := decide_eq_false c13
     clear c13
     (first | rw [c13b0] | (simp only [i64_w, i32_w]; rw [c13b0]) | skip)
     have H' := Aside0.mk H
     clear H
     have hnb17 := NB102_103.out
     have hnc17 := NB103_102.out
     have hnb18 := NB102_108.out
     have hnc18 := NB108_102.out
     obtain ⟨hcz19_0, hfz19_0⟩ := cc1 BK102
     go_wp2
     go_meet
     case rel => exact ⟨_, (false), (by first | rfl | (simp; done) | (simp [*]; done)), H', ⟨by have := HK1.out; first | omega | exact Nat.le_refl _⟩, ⟨rX HO_109004.out⟩, ⟨kX BK102.out⟩, ⟨kX BK103.out⟩, ⟨kX BK108.out⟩, ⟨bX HB⟩⟩
   case rest =>
    clear HC12
    try clear c1
    try clear p2
    try clear c6
    try clear c9
    try clear c10
    try clear c13
    try clear c13b0
    try clear c14
    try clear c15
    try clear c17
    try clear c18
    try clear hcz11_0 hcz11_1 hcz11_2 hcz11_3 hcz11_4 hfz11_0 hfz11_1 hfz11_2 hfz11_3 hfz11_4
    try clear hcz16_0 hfz16_0
    try clear hcz19_0 hfz19_0
    try clear p2
    obtain ⟨kq, x17_11, rfl, HA, HJ11, HO_109004, BK102, BK103, BK108, HB⟩ := hcut
    cases kq with
    | zero => exact absurd HA.out (by simp [panachetop_Horn_fan.j1])
    | succ kj11 =>
     have H := HA.out
     clear HA
     simp only [panachetop_Horn_fan.j1] at H
     by_cases c20 : x17_11 = true
     ·subst c20
      have H1 : (if 0 ≤ x4_1 then (if x4_1 < (l0_0.length : Int) then ((panachetop_ellSpan.f (wrap64 ((rd_T26 l0_0 x4_1).f0)) (wrap64 ((wrap64 ((rd_T26 l0_0 x4_1).f0)) + (Int.tmod (wrap64 ((rd_T26 l0_0 x4_1).f1)) 20)))).bind fun bt111 => ((panachetop_ellSpan.f (wrap64 (Int.tdiv (wrap64 ((rd_T26 l0_0 x4_1).f1)) 16)) (wrap64 ((wrap64 (Int.tdiv (wrap64 ((rd_T26 l0_0 x4_1).f1)) 16)) + (Int.tmod (wrap64 ((rd_T26 l0_0 x4_1).f0)) 3)))).bind fun bt113 => (if x109004_1.length < 4398046511104 then (panachetop_Horn_fan.l0 kj11 (wrap64 (x4_1 + 1)) l0_0 t104 t105 t106 t107 (x109004_1 ++ [(⟨(⟨bt111.1, bt111.2⟩ : S30), (⟨bt113.1, bt113.2⟩ : S30)⟩ : S47)])) else (none)))) else (none)) else (none)) = some (r1, r2, r3, r4, r5) := by rw [if_pos rfl] at H; exact H
      clear H
      have H := H1
      clear H1
      by_cases c21 : 0 ≤ x4_1
      ·rw [if_pos c21] at H
       have c21b0 : decide (0 ≤ x4_1) = true := decide_eq_true c21
       clear c21
       by_cases c22 : x4_1 < (l0_0.length : Int)
       ·rw [if_pos c22] at H
        have c22b0 : decide (x4_1 < (l0_0.length : Int)) = true := decide_eq_true c22
        clear c22
        replace H := Option.bind_eq_some_iff.mp H
        obtain ⟨⟨t111, t112⟩, A230, H⟩ := H
        try dsimp only at H
        have A23 := Aside0.mk A230
        clear A230
        replace H := Option.bind_eq_some_iff.mp H
        obtain ⟨⟨t113, t114⟩, A240, H⟩ := H
        try dsimp only at H
        have A24 := Aside0.mk A240
        clear A240
        by_cases c25 : x109004_1.length < 4398046511104
        ·rw [if_pos c25] at H
         have LMc25 := Aside0.mk c25
         clear c25
         obtain ⟨y115, hy115⟩ : ∃ y_ : List (S47), y_ = (x109004_1 ++ [(⟨(⟨t111, t112⟩ : S30), (⟨t113, t114⟩ : S30)⟩ : S47)]) := ⟨_, rfl⟩
         replace H : (panachetop_Horn_fan.l0 kj11 (wrap64 (x4_1 + 1)) l0_0 t104 t105 t106 t107 y115) = some (r1, r2, r3, r4, r5) := by first | (rw [hy115]; with_reducible exact H) | (have H2_ := (Option.bind_some _ _).symm.trans H; rw [hy115]; with_reducible exact H2_) | (have H2_ := (Option.bind_some _ _).symm.trans H; with_reducible exact H2_) | with_reducible exact H | (rw [hy115]; exact H) | exact H
         have Ny115 := Aside0.mk hy115
         clear hy115
         have H' := Aside0.mk H
         clear H
         have hnb26 := NB102_103.out
         have hnc26 := NB103_102.out
         have hnb27 := NB102_108.out
         have hnc27 := NB108_102.out
         obtain ⟨hcz28_0, hfz28_0⟩ := cc1 BK102
         have p109 : 0 ≤ (x4_1 : Int) := of_decide_eq_true (by first | (with_reducible assumption) | assumption)
         have q109 : x4_1 < (l0_0.length : Int) := of_decide_eq_true (by first | (with_reducible assumption) | assumption)
         obtain ⟨ad109, e109, hx109_0, hx109_1⟩ := at_T26 HR0_0.out x4_1 p109 q109
         cases e109
         replace hx109_0 := (HB.out.cell (World.block_lt_of_cell? w _ hx109_0)).trans hx109_0
         replace hx109_1 := (HB.out.cell (World.block_lt_of_cell? w _ hx109_1)).trans hx109_1
         replace p109 := eq_true p109
         replace q109 := eq_true q109
         try go_wp2_with (first | ((with_reducible refine gate_dst (N := 5) rfl ?_); refine boxA (N := 5) (cs := #[.int .u8 0, .int .u8 0]) (t := 26) ?_; intro gb110 hg w29 hbox hb; have BK110 := Aside0.mk (hbox); have GW110 := bG HB hg; have GE110 := bG HB hg; have NB102_110 := kN BK102 hg; have NB110_102 := kM BK102 hg; have NB103_110 := kN BK103 hg; have NB110_103 := kM BK103 hg; have NB108_110 := kN BK108 hg; have NB110_108 := kM BK108 hg; replace HO_109004 := rB HO_109004 hb; replace BK102 := kB BK102 hb; replace BK103 := kB BK103 hb; replace BK108 := kB BK108 hb; replace HB := bS HB hb; clear hb hbox hg; have hnb30 := NB110_102.out; have hnc30 := NB102_110.out; have hnb31 := NB110_103.out; have hnc31 := NB103_110.out; have hnb32 := NB110_108.out; have hnc32 := NB108_110.out; obtain ⟨hcz33_0, hcz33_1, hfz33_0, hfz33_1⟩ := cc2 BK110))
         have n0_ : Aside0 (Kd.R k47 47 ((w29.setCell ⟨gb110, 0, none⟩ (.int .u8 ((rd_T26 l0_0 x4_1).f0))).setCell ⟨gb110, 1, none⟩ (.int .u8 ((rd_T26 l0_0 x4_1).f1))) w.heap.size (fun _ => True) u109004 x109004_1) := ⟨by (with_reducible repeat (first | apply Kd.R_alloc | apply Kd.R_drewN | apply Kd.R_drew)); exact Kd.R_mono (Kd.R_far (p := ⟨gb110, 1, none⟩) (Kd.R_far (p := ⟨gb110, 0, none⟩) (Kd.R_types HO_109004.out BK110.out (by decide)) (fun _ hk => hk.2) (.int .u8 ((rd_T26 l0_0 x4_1).f0))) (fun _ hk => hk.2) (.int .u8 ((rd_T26 l0_0 x4_1).f1))) (fun _ hk => trivial)⟩
         have n1_ : Aside0 (((w29.setCell ⟨gb110, 0, none⟩ (.int .u8 ((rd_T26 l0_0 x4_1).f0))).setCell ⟨gb110, 1, none⟩ (.int .u8 ((rd_T26 l0_0 x4_1).f1))).heap[gb102]? = some (.cells #[.slice (some ad109) l0_0.length c0_0] 24 (0, 0))) := ⟨by (with_reducible repeat (first | refine blk_drewN ?_ _ | refine blk_drew ?_ | refine blk_alloc ?_ _)); refine blk_far ?_ NB102_110.out _; (with_reducible repeat (first | refine blk_drewN ?_ _ | refine blk_drew ?_ | refine blk_alloc ?_ _)); refine blk_far ?_ NB102_110.out _; (with_reducible repeat (first | refine blk_drewN ?_ _ | refine blk_drew ?_ | refine blk_alloc ?_ _)); exact BK102.out⟩
         have n2_ : Aside0 (((w29.setCell ⟨gb110, 0, none⟩ (.int .u8 ((rd_T26 l0_0 x4_1).f0))).setCell ⟨gb110, 1, none⟩ (.int .u8 ((rd_T26 l0_0 x4_1).f1))).heap[gb103]? = some (.cells #[.int .i64 0, .int .i64 0, .int .i64 0, .int .i64 0, .slice none 0 0] 33 (0, 0))) := ⟨by (with_reducible repeat (first | refine blk_drewN ?_ _ | refine blk_drew ?_ | refine blk_alloc ?_ _)); refine blk_far ?_ NB103_110.out _; (with_reducible repeat (first | refine blk_drewN ?_ _ | refine blk_drew ?_ | refine blk_alloc ?_ _)); refine blk_far ?_ NB103_110.out _; (with_reducible repeat (first | refine blk_drewN ?_ _ | refine blk_drew ?_ | refine blk_alloc ?_ _)); exact BK103.out⟩
         have n3_ : Aside0 (((w29.setCell ⟨gb110, 0, none⟩ (.int .u8 ((rd_T26 l0_0 x4_1).f0))).setCell ⟨gb110, 1, none⟩ (.int .u8 ((rd_T26 l0_0 x4_1).f1))).heap[gb108]? = some (.cells #[.int .i64 t104, .int .i64 t105, .int .i64 t106, .int .i64 t107, u109004] 33 (0, 0))) := ⟨by (with_reducible repeat (first | refine blk_drewN ?_ _ | refine blk_drew ?_ | refine blk_alloc ?_ _)); refine blk_far ?_ NB108_110.out _; (with_reducible repeat (first | refine blk_drewN ?_ _ | refine blk_drew ?_ | refine blk_alloc ?_ _)); refine blk_far ?_ NB108_110.out _; (with_reducible repeat (first | refine blk_drewN ?_ _ | refine blk_drew ?_ | refine blk_alloc ?_ _)); exact BK108.out⟩
         have n4_ : Aside0 (((w29.setCell ⟨gb110, 0, none⟩ (.int .u8 ((rd_T26 l0_0 x4_1).f0))).setCell ⟨gb110, 1, none⟩ (.int .u8 ((rd_T26 l0_0 x4_1).f1))).heap[gb110]? = some (.cells #[.int .u8 ((rd_T26 l0_0 x4_1).f0), .int .u8 ((rd_T26 l0_0 x4_1).f1)] 26 (0, 0))) := ⟨by (with_reducible repeat (first | refine blk_drewN ?_ _ | refine blk_drew ?_ | refine blk_alloc ?_ _)); refine blk_put (cs := #[.int .u8 ((rd_T26 l0_0 x4_1).f0), .int .u8 0]) ?_ 1 _ rfl; (with_reducible repeat (first | refine blk_drewN ?_ _ | refine blk_drew ?_ | refine blk_alloc ?_ _)); refine blk_put (cs := #[.int .u8 0, .int .u8 0]) ?_ 0 _ rfl; (with_reducible repeat (first | refine blk_drewN ?_ _ | refine blk_drew ?_ | refine blk_alloc ?_ _)); exact BK110.out⟩
         have n5_ : Aside0 (Below w.heap.size w ((w29.setCell ⟨gb110, 0, none⟩ (.int .u8 ((rd_T26 l0_0 x4_1).f0))).setCell ⟨gb110, 1, none⟩ (.int .u8 ((rd_T26 l0_0 x4_1).f1)))) := ⟨bX HB⟩
         (try clear HO_109004)
         (try clear BK102)
         (try clear BK103)
         (try clear BK108)
         (try clear BK110)
         (try clear HB)
         generalize ((w29.setCell ⟨gb110, 0, none⟩ (.int .u8 ((rd_T26 l0_0 x4_1).f0))).setCell ⟨gb110, 1, none⟩ (.int .u8 ((rd_T26 l0_0 x4_1).f1))) = w34 at n0_ n1_ n2_ n3_ n4_ n5_ ⊢
         have HO_109004 := n0_
         have BK102 := n1_
         have BK103 := n2_
         have BK108 := n3_
         have BK110 := n4_
         have HB := n5_
         clear n0_ n1_ n2_ n3_ n4_ n5_
         replace HO_109004 := Aside0.mk (Kd.R_drew HO_109004.out)
         replace BK102 := Aside0.mk (blk_drew BK102.out)
         replace BK103 := Aside0.mk (blk_drew BK103.out)
         replace BK108 := Aside0.mk (blk_drew BK108.out)
         replace BK110 := Aside0.mk (blk_drew BK110.out)
         replace HB := Aside0.mk (below_drew1 HB.out)
         refine start_ (n := 33) (S := fun w' => w'.cell? ⟨gb108, 0, none⟩ = some (.int .i64 t104) ∧ w'.cell? ⟨gb108, 1, none⟩ = some (.int .i64 t105) ∧ w'.cell? ⟨gb108, 2, none⟩ = some (.int .i64 t106) ∧ w'.cell? ⟨gb108, 3, none⟩ = some (.int .i64 t107) ∧ w'.cell? ⟨gb108, 4, none⟩ = some (u109004) ∧ w'.cell? ⟨gb110, 0, none⟩ = some (.int .u8 ((rd_T26 l0_0 x4_1).f0)) ∧ w'.cell? ⟨gb110, 1, none⟩ = some (.int .u8 ((rd_T26 l0_0 x4_1).f1))) (ds := [32]) #[false, false, false, false, false, false, false, false, false, false, false, false, false, false, false, false, false, false, false, false, false, false, false, false, false, false, false, false, false, false, false, false, false] (by kernel_rfl) rfl rfl ⟨(blk_cell BK108.out 0).trans rfl, (blk_cell BK108.out 1).trans rfl, (blk_cell BK108.out 2).trans rfl, (blk_cell BK108.out 3).trans rfl, (blk_cell BK108.out 4).trans rfl, (blk_cell BK110.out 0).trans rfl, (blk_cell BK110.out 1).trans rfl⟩ (fun hHeld => ?_); refine with_tabW panachetop_Horn_fan.tab6 panachetop_Horn_fan.bits6 (fun HT_ HW_ => ?_)
         generalize w34.drew = w35 at HO_109004 BK102 BK103 BK108 BK110 HB hHeld ⊢
         refine pureA (i := 0) (N := some 25) HT_ ?_
         refine pureA (i := 2) (N := some 27) HT_ ?_
         refine pureA (i := 5) (N := some 30) HT_ ?_
         refine pureA (i := 8) (N := some 33) HT_ ?_
         refine pureA (i := 14) (N := some 39) HT_ ?_
         refine pureA (i := 18) (N := some 43) HT_ ?_
         refine pureA (i := 22) (N := some 47) HT_ ?_
         refine takeA (i := 1) (N := some 26) HT_ HW_ hHeld ?_
         refine takeA (i := 3) (N := some 28) HT_ HW_ hHeld ?_
         refine pureA (i := 4) (N := some 29) HT_ ?_
         refine takeA (i := 6) (N := some 31) HT_ HW_ hHeld ?_
         refine pureA (i := 7) (N := some 32) HT_ ?_
         refine takeA (i := 9) (N := some 34) HT_ HW_ hHeld ?_
         refine pureA (i := 10) (N := some 35) HT_ ?_
         refine pureA (i := 11) (N := some 36) HT_ ?_
         refine pureA (i := 12) (N := some 37) HT_ ?_
         refine takeA (i := 15) (N := some 40) HT_ HW_ hHeld ?_
         refine pureA (i := 16) (N := some 41) HT_ ?_
         refine pureA (i := 17) (N := some 42) HT_ ?_
         refine takeA (i := 19) (N := some 44) HT_ HW_ hHeld ?_
         refine pureA (i := 20) (N := some 45) HT_ ?_
         refine pureA (i := 21) (N := some 46) HT_ ?_
         refine takeA (i := 23) (N := some 48) HT_ HW_ hHeld ?_
         refine pureA (i := 24) (N := some 49) HT_ ?_
         refine pureA (i := 25) (N := some 50) HT_ ?_
         refine pureA (i := 26) (N := some 51) HT_ ?_
         refine oneA (i := 13) (N := some 38) HT_ (fun K hK => ?_)
         refine goesB Tryz.func15 #[.int .i64 (wrap64 ((rd_T26 l0_0 x4_1).f0)), .int .i64 (wrap64 ((wrap64 ((rd_T26 l0_0 x4_1).f0)) + (Int.tmod (wrap64 ((rd_T26 l0_0 x4_1).f1)) 20)))] ?_
         with_reducible refine (panachetop_ellSpan.calls (wrap64 ((rd_T26 l0_0 x4_1).f0)) (wrap64 ((wrap64 ((rd_T26 l0_0 x4_1).f0)) + (Int.tmod (wrap64 ((rd_T26 l0_0 x4_1).f1)) 20))) t111 t112 _ A23.out).mono ?_
         rintro e w36 ⟨rfl, hb⟩
         refine ⟨_, rfl, ?_⟩
         replace HO_109004 := rB HO_109004 hb
         replace BK102 := kB BK102 hb
         replace BK103 := kB BK103 hb
         replace BK108 := kB BK108 hb
         replace BK110 := kB BK110 hb
         replace HB := bS HB hb
         (try clear hb)
         (try clear hb2)
         (try clear hk)
         (try clear hi)
         refine hK.out _ _ ⟨(blk_cell BK108.out 0).trans rfl, (blk_cell BK108.out 1).trans rfl, (blk_cell BK108.out 2).trans rfl, (blk_cell BK108.out 3).trans rfl, (blk_cell BK108.out 4).trans rfl, (blk_cell BK110.out 0).trans rfl, (blk_cell BK110.out 1).trans rfl⟩ (fun hHeld => ?_)
         clear hK K
         refine normA (N := some 38) ?_
         refine oneA (i := 27) (N := some 52) HT_ (fun K hK => ?_)
         refine goesB Tryz.func15 #[.int .i64 (wrap64 (Int.tdiv (wrap64 ((rd_T26 l0_0 x4_1).f1)) 16)), .int .i64 (wrap64 ((wrap64 (Int.tdiv (wrap64 ((rd_T26 l0_0 x4_1).f1)) 16)) + (Int.tmod (wrap64 ((rd_T26 l0_0 x4_1).f0)) 3)))] ?_
         with_reducible refine (panachetop_ellSpan.calls (wrap64 (Int.tdiv (wrap64 ((rd_T26 l0_0 x4_1).f1)) 16)) (wrap64 ((wrap64 (Int.tdiv (wrap64 ((rd_T26 l0_0 x4_1).f1)) 16)) + (Int.tmod (wrap64 ((rd_T26 l0_0 x4_1).f0)) 3))) t113 t114 _ A24.out).mono ?_
         rintro e w37 ⟨rfl, hb⟩
         refine ⟨_, rfl, ?_⟩
         replace HO_109004 := rB HO_109004 hb
         replace BK102 := kB BK102 hb
         replace BK103 := kB BK103 hb
         replace BK108 := kB BK108 hb
         replace BK110 := kB BK110 hb
         replace HB := bS HB hb
         (try clear hb)
         (try clear hb2)
         (try clear hk)
         (try clear hi)
         refine hK.out _ _ ⟨(blk_cell BK108.out 0).trans rfl, (blk_cell BK108.out 1).trans rfl, (blk_cell BK108.out 2).trans rfl, (blk_cell BK108.out 3).trans rfl, (blk_cell BK108.out 4).trans rfl, (blk_cell BK110.out 0).trans rfl, (blk_cell BK110.out 1).trans rfl⟩ (fun hHeld => ?_)
         clear hK K
         refine normA (N := some 52) ?_
         refine pureA (i := 28) (N := some 53) HT_ ?_
         refine oneA (i := 29) (N := some 54) HT_ (fun K hK => ?_)
         refine value_ (w1 := ?_) (v := ?_) (by rfl) rfl ?_ ?_
         rotate_left 2
         ·go_simp
          constructor
          ·rfl
          ·rfl
         refine hK.out _ _ ⟨(blk_cell (blk_alloc BK108.out _) 0).trans rfl, (blk_cell (blk_alloc BK108.out _) 1).trans rfl, (blk_cell (blk_alloc BK108.out _) 2).trans rfl, (blk_cell (blk_alloc BK108.out _) 3).trans rfl, (blk_cell (blk_alloc BK108.out _) 4).trans rfl, (blk_cell (blk_alloc BK110.out _) 0).trans rfl, (blk_cell (blk_alloc BK110.out _) 1).trans rfl⟩ (fun hHeld => ?_)
         clear hK K
         refine normA (N := some 54) ?_
         refine oneA (i := 30) (N := some 55) HT_ (fun K hK => ?_)
         refine Kd.R_append_step k47 (w0 := w) w.heap.size (by rfl) (.tmp 26) (.tmp 54) 31 47 (.agg #[(.int .i64 0), (.int .i64 0), (.int .i64 0), (.int .i64 0)]) 32 rfl Tryz.underlying31 info47 rfl (by decide) (by omega) u109004 x109004_1 (⟨(⟨t111, t112⟩ : S30), (⟨t113, t114⟩ : S30)⟩ : S47) [.int .i64 t111, .int .i64 t112, .int .i64 t113, .int .i64 t114] (fun _ => True) (fun _ => False) rfl rfl ?aP (fun _ hk => hk.elim) ?aF ?aO ?aB ?aS ?aL ?_
         (case aP => exact k47_mkM _ _ _ (⟨(⟨t111, t112⟩ : S30), (⟨t113, t114⟩ : S30)⟩ : S47))
         (case aB => exact (bX HB))
         (case aF => exact (fun _ _ => trivial))
         (case aO => exact (rX HO_109004.out))
         (case aS => exact (below_size (bX HB)))
         (case aL => have := LMc25.out; omega)
         intro v116 w38 ho hb hg hat
         rw [← Ny115.out] at ho
         have n0_ := Aside0.mk (blk_grown (g := gb102) (o := .cells #[.slice (some ad109) l0_0.length c0_0] 24 (0, 0)) (kX BK102.out) hg (Kd.R_ne HO_109004.out BK102.out (by decide)))
         have n1_ := Aside0.mk (blk_grown (g := gb103) (o := .cells #[.int .i64 0, .int .i64 0, .int .i64 0, .int .i64 0, .slice none 0 0] 33 (0, 0)) (kX BK103.out) hg (Kd.R_ne HO_109004.out BK103.out (by decide)))
         have n2_ := Aside0.mk (blk_grown (g := gb108) (o := .cells #[.int .i64 t104, .int .i64 t105, .int .i64 t106, .int .i64 t107, u109004] 33 (0, 0)) (kX BK108.out) hg (Kd.R_ne HO_109004.out BK108.out (by decide)))
         have n3_ := Aside0.mk (blk_grown (g := gb110) (o := .cells #[.int .u8 ((rd_T26 l0_0 x4_1).f0), .int .u8 ((rd_T26 l0_0 x4_1).f1)] 26 (0, 0)) (kX BK110.out) hg (Kd.R_ne HO_109004.out BK110.out (by decide)))
         have n4_ := Aside0.mk (hb)
         have n5_ := Aside0.mk (ho)
         clear BK102
         clear BK103
         clear BK108
         clear BK110
         clear HB
         clear HO_109004
         have BK102 := n0_
         have BK103 := n1_
         have BK108 := n2_
         have BK110 := n3_
         have HB := n4_
         have HO117 := n5_
         clear n0_ n1_ n2_ n3_ n4_ n5_
         clear ho hb hg hat
         obtain ⟨Ao39, co39, eo39⟩ := Kd.R_slice HO117.out
         (first | subst eo39 | (injection eo39 with f1_ f2_ f3_; have f4_ := f1_.symm; have f5_ := f3_.symm; clear f1_ f2_ f3_; subst f4_; subst f5_))
         refine hK.out _ _ ⟨(blk_cell BK108.out 0).trans rfl, (blk_cell BK108.out 1).trans rfl, (blk_cell BK108.out 2).trans rfl, (blk_cell BK108.out 3).trans rfl, (blk_cell BK108.out 4).trans rfl, (blk_cell BK110.out 0).trans rfl, (blk_cell BK110.out 1).trans rfl⟩ (fun hHeld => ?_)
         clear hK K
         refine normA (N := some 55) ?_
         refine pureA (i := 31) (N := some 56) HT_ ?_
         refine last_ (i := 32) (N := none) #[true, true, true, true, true, true, true, true, true, true, true, true, true, true, true, true, true, true, true, true, true, true, true, true, true, true, true, true, true, true, true, true, true] rfl rfl (one_of HT_.out (by kernel_rfl)) (by decide) (fun K hK => ?_)
         have hs40 : w38.cell? ⟨gb108, 4, none⟩ = some (u109004) := (blk_cell BK108.out 4).trans rfl
         have hfs40 := blk_frozen BK108.out 4
         have hns40_0 := NB102_108.out
         have hns40_1 := NB103_108.out
         have hns40_3 := NB110_108.out
         have hms40_0 := NB108_102.out
         have hms40_1 := NB108_103.out
         have hms40_3 := NB108_110.out
         refine skip_ (w1 := ?_) (by rfl) rfl ?_ ?_
         rotate_left
         ·go_simp
          rfl
         refine hK.out _ _ ?_
         clear hK K
         refine done_ (done_of HT_.out (by kernel_rfl)) ?_
         try go_wp2
         go_roundg kj11
         case measure => have := HK1.out; have := HJ11.out; omega
         case rel => exact ⟨(wrap64 (x4_1 + 1)), (y115), (.slice Ao39 y115.length co39), (by first | rfl | (simp; done) | (simp [*]; done)), H', ⟨by have := HK1.out; have := HJ11.out; omega⟩, ⟨by (with_reducible repeat (first | apply Kd.R_alloc | apply Kd.R_drewN | apply Kd.R_drew)); exact Kd.R_mono (Kd.R_far (p := ⟨gb108, 4, none⟩) (Kd.R_types HO117.out BK108.out (by decide)) (fun _ hk => hk.2) (.slice Ao39 y115.length co39)) (fun _ hk => trivial)⟩, ⟨by (with_reducible repeat (first | refine blk_drewN ?_ _ | refine blk_drew ?_ | refine blk_alloc ?_ _)); refine blk_far ?_ NB102_108.out _; (with_reducible repeat (first | refine blk_drewN ?_ _ | refine blk_drew ?_ | refine blk_alloc ?_ _)); exact BK102.out⟩, ⟨by (with_reducible repeat (first | refine blk_drewN ?_ _ | refine blk_drew ?_ | refine blk_alloc ?_ _)); refine blk_far ?_ NB103_108.out _; (with_reducible repeat (first | refine blk_drewN ?_ _ | refine blk_drew ?_ | refine blk_alloc ?_ _)); exact BK103.out⟩, ⟨by (with_reducible repeat (first | refine blk_drewN ?_ _ | refine blk_drew ?_ | refine blk_alloc ?_ _)); refine blk_put (cs := #[.int .i64 t104, .int .i64 t105, .int .i64 t106, .int .i64 t107, u109004]) ?_ 4 _ rfl; (with_reducible repeat (first | refine blk_drewN ?_ _ | refine blk_drew ?_ | refine blk_alloc ?_ _)); exact BK108.out⟩, ⟨bX HB⟩⟩
        ·rw [if_neg c25] at H
         exact absurd H (by simp)
       ·rw [if_neg c22] at H
        exact absurd H (by simp)
      ·rw [if_neg c21] at H
       exact absurd H (by simp)
     ·replace c20 := Bool.eq_false_iff.mpr c20
      subst c20
      have H1 : (some (t104, t105, t106, t107, x109004_1)) = some (r1, r2, r3, r4, r5) := by rw [if_neg (show ¬ (false = true) by decide)] at H; exact H
      clear H
      have H := H1
      clear H1
      simp only [Option.some.injEq, Prod.mk.injEq] at H
      obtain ⟨rfl, rfl, rfl, rfl, rfl⟩ := H
      have hnb41 := NB108_102.out
      have hnc41 := NB102_108.out
      have hnb42 := NB108_103.out
      have hnc42 := NB103_108.out
      obtain ⟨hcz43_0, hcz43_1, hcz43_2, hcz43_3, hcz43_4, hfz43_0, hfz43_1, hfz43_2, hfz43_3, hfz43_4⟩ := cc5 BK108
      have hnb44 := NB103_102.out
      have hnc44 := NB102_103.out
      obtain ⟨hcz45_0, hcz45_1, hcz45_2, hcz45_3, hcz45_4, hfz45_0, hfz45_1, hfz45_2, hfz45_3, hfz45_4⟩ := cc5 BK103
      obtain ⟨Ao46, co46, eo46⟩ := Kd.R_slice HO_109004.out
      subst eo46
      go_wp2
      refine bodyPost_ret (results_cell_row rfl _ _ gb103 33 #[.int .i64 t104, .int .i64 t105, .int .i64 t106, .int .i64 t107, .slice Ao46 x109004_1.length co46] (0, 0) _ rfl (by (with_reducible repeat (first | refine blk_drewN ?_ _ | refine blk_drew ?_ | refine blk_alloc ?_ _)); refine blk_put (cs := #[.int .i64 t104, .int .i64 t105, .int .i64 t106, .int .i64 t107, .slice none 0 0]) ?_ 4 _ rfl; (with_reducible repeat (first | refine blk_drewN ?_ _ | refine blk_drew ?_ | refine blk_alloc ?_ _)); refine blk_put (cs := #[.int .i64 t104, .int .i64 t105, .int .i64 t106, .int .i64 0, .slice none 0 0]) ?_ 3 _ rfl; (with_reducible repeat (first | refine blk_drewN ?_ _ | refine blk_drew ?_ | refine blk_alloc ?_ _)); refine blk_put (cs := #[.int .i64 t104, .int .i64 t105, .int .i64 0, .int .i64 0, .slice none 0 0]) ?_ 2 _ rfl; (with_reducible repeat (first | refine blk_drewN ?_ _ | refine blk_drew ?_ | refine blk_alloc ?_ _)); refine blk_put (cs := #[.int .i64 t104, .int .i64 0, .int .i64 0, .int .i64 0, .slice none 0 0]) ?_ 1 _ rfl; (with_reducible repeat (first | refine blk_drewN ?_ _ | refine blk_drew ?_ | refine blk_alloc ?_ _)); refine blk_put (cs := #[.int .i64 0, .int .i64 0, .int .i64 0, .int .i64 0, .slice none 0 0]) ?_ 0 _ rfl; (with_reducible repeat (first | refine blk_drewN ?_ _ | refine blk_drew ?_ | refine blk_alloc ?_ _)); exact BK103.out) Tryz.underlying33 rfl (by kernel_rfl)) rfl ?_
      exact ⟨_, by first | rfl | (simp [errW_none, errW_some] <;> rfl) | (simp [*, errW_none, errW_some] <;> rfl), by (with_reducible repeat (first | apply Kd.R_alloc | apply Kd.R_drewN | apply Kd.R_drew)); exact Kd.R_mono (Kd.R_far (p := ⟨gb103, 4, none⟩) (Kd.R_far (p := ⟨gb103, 3, none⟩) (Kd.R_far (p := ⟨gb103, 2, none⟩) (Kd.R_far (p := ⟨gb103, 1, none⟩) (Kd.R_far (p := ⟨gb103, 0, none⟩) (Kd.R_types HO_109004.out BK103.out (by decide)) (fun _ hk => hk.2) (.int .i64 t104)) (fun _ hk => hk.2) (.int .i64 t105)) (fun _ hk => hk.2) (.int .i64 t106)) (fun _ hk => hk.2) (.int .i64 t107)) (fun _ hk => hk.2) (.slice Ao46 x109004_1.length co46)) (fun _ hk => trivial), bX HB⟩
end Go.Proofs.YtgdkmadcegleiaaGreatDoor.PEno
end
section
namespace Go.Proofs.YtgdkmadcegleiaaGreatDoor.PEno
open Go.RowKit Go.Proofs.YtgdkmadcegleiaaGreatDoor.Sq Go.Proofs.YtgdkmadcegleiaaGreatDoorW.PrintWords Go.Proofs.YtgdkmadcegleiaaGreatDoorW.PrintLast Go.Proofs.YtgdkmadcegleiaaGreatDoorW.PrintMore Go.Proofs.YtgdkmadcegleiaaGreatDoor.X Go.Proofs.YtgdkmadcegleiaaGreatDoor.Z
attribute [local go_sem] max2_int min2_int max_two min_two max_three min_three max_four min_four   -- for this text's walks alone
set_option linter.unusedVariables false
set_option linter.unusedSimpArgs false
def panachetop_ellFan.f (a0_0 : Int) (a0_1 : Int) (a0_2 : Int) (a0_3 : Int) (l0_4 : List (S47)) : Option (Int × Int × Int × Int × (List (S47))) := (some (([] : List (S47)) : List (S47))).bind fun y120 => (if y120.length + l0_4.length < 4398046511104 then (some (a0_0, a0_1, a0_2, a0_3, (y120 ++ l0_4))) else (none))
def panachetop_ellFan.T1 : Bool × List (List Nat × List Nat) := (true, [([], []), ([0], [0]), ([], []), ([2], [2]), ([], []), ([], []), ([5], [5]), ([4, 6], [4, 6]), ([1, 3, 7], [1, 3, 7]), ([8, 7, 0, 1, 2, 3, 4, 5, 6, 7, 8], [8])])
def panachetop_ellFan.B1 : List Nat := [0, 1, 0, 4, 0, 0, 32, 112, 255, 511]
theorem panachetop_ellFan.tab1 : rtab .any (opsOf Tryz.f8 1) = panachetop_ellFan.T1 := by kernel_rfl
theorem panachetop_ellFan.bits1 : waitsOk panachetop_ellFan.T1.2 panachetop_ellFan.B1 = true := by kernel_rfl
set_option maxHeartbeats 8000000 in
set_option maxRecDepth 100000 in
theorem panachetop_ellFan.calls (a0_0 : Int) (a0_1 : Int) (a0_2 : Int) (a0_3 : Int) (A0_4 : Option Addr) (c0_4 : Nat) (l0_4 : List (S47)) (r1 : Int) (r2 : Int) (r3 : Int) (r4 : Int) (r5 : List (S47)) (w : World) (hr0_4 : Kd.C k47 w A0_4 l0_4.length l0_4) (hc0_4 : l0_4.length ≤ c0_4) (h : panachetop_ellFan.f a0_0 a0_1 a0_2 a0_3 l0_4 = some (r1, r2, r3, r4, r5)) :
  Calls Tryz.prog 8 #[.agg #[.int .i64 a0_0, .int .i64 a0_1, .int .i64 a0_2, .int .i64 a0_3, .slice A0_4 l0_4.length c0_4]] w fun e w' => ∃ v4_ : Value, e = .returned (.agg #[.int .i64 r1, .int .i64 r2, .int .i64 r3, .int .i64 r4, v4_]) ∧ Kd.R k47 47 w' w.heap.size (fun _ => True) v4_ r5 ∧ Below w.heap.size w w' := by
 have hu33 := Tryz.underlying33
 have hu30 := Tryz.underlying30
 have HR0_4 := Aside0.mk hr0_4
 have HC0_4 := Aside0.mk hc0_4
 clear hr0_4 hc0_4
 have HB := Aside0.mk (Below.refl w.heap.size w)
 have H : ((some (([] : List (S47)) : List (S47))).bind fun y120 => (if y120.length + l0_4.length < 4398046511104 then (some (a0_0, a0_1, a0_2, a0_3, (y120 ++ l0_4))) else (none))) = some (r1, r2, r3, r4, r5) := h
 clear h
 obtain ⟨y120, hy120⟩ : ∃ y_ : List (S47), y_ = (([] : List (S47))) := ⟨_, rfl⟩
 replace H : (if y120.length + l0_4.length < 4398046511104 then (some (a0_0, a0_1, a0_2, a0_3, (y120 ++ l0_4))) else (none)) = some (r1, r2, r3, r4, r5) := by first | (rw [hy120]; with_reducible exact H) | (have H2_ := (Option.bind_some _ _).symm.trans H; rw [hy120]; with_reducible exact H2_) | (have H2_ := (Option.bind_some _ _).symm.trans H; with_reducible exact H2_) | with_reducible exact H | (rw [hy120]; exact H) | exact H
 have Ny120 := Aside0.mk hy120
 clear hy120
 by_cases c2 : y120.length + l0_4.length < 4398046511104
 ·rw [if_pos c2] at H
  have LMc2 := Aside0.mk c2
  clear c2
  obtain ⟨y123, hy123⟩ : ∃ y_ : List (S47), y_ = (y120 ++ l0_4) := ⟨_, rfl⟩
  replace H : (some (a0_0, a0_1, a0_2, a0_3, y123)) = some (r1, r2, r3, r4, r5) := by first | (rw [hy123]; with_reducible exact H) | (have H2_ := (Option.bind_some _ _).symm.trans H; rw [hy123]; with_reducible exact H2_) | (have H2_ := (Option.bind_some _ _).symm.trans H; with_reducible exact H2_) | with_reducible exact H | (rw [hy123]; exact H) | exact H
  have Ny123 := Aside0.mk hy123
  clear hy123
  simp only [Option.some.injEq, Prod.mk.injEq] at H
  obtain ⟨rfl, rfl, rfl, rfl, rfl⟩ := H
  go_enter Tryz.func8, Tryz.ntmps8
  try go_wp2_with (first | ((with_reducible refine gate_dst (N := 1) rfl ?_); refine boxA (N := 1) (cs := #[.int .i64 a0_0, .int .i64 a0_1, .int .i64 a0_2, .int .i64 a0_3, .slice A0_4 l0_4.length c0_4]) (t := 33) ?_; intro gb118 hg w3 hbox hb; have BK118 := Aside0.mk (hbox); have GW118 := bG HB hg; have GE118 := bG HB hg; replace HB := bS HB hb; clear hb hbox hg) | ((with_reducible refine gate_dst (N := 2) rfl ?_); refine boxA (N := 2) (cs := #[.int .i64 0, .int .i64 0, .int .i64 0, .int .i64 0, .slice none 0 0]) (t := 33) ?_; intro gb119 hg w4 hbox hb; have BK119 := Aside0.mk (hbox); have GW119 := bG HB hg; have GE119 := bG HB hg; have NB118_119 := kN BK118 hg; have NB119_118 := kM BK118 hg; replace BK118 := kB BK118 hb; replace HB := bS HB hb; clear hb hbox hg))
  replace BK118 := Aside0.mk (blk_drew BK118.out)
  replace BK119 := Aside0.mk (blk_drew BK119.out)
  replace HB := Aside0.mk (below_drew1 HB.out)
  refine start_ (n := 10) (S := fun w' => w'.cell? ⟨gb118, 0, none⟩ = some (.int .i64 a0_0) ∧ w'.cell? ⟨gb118, 1, none⟩ = some (.int .i64 a0_1) ∧ w'.cell? ⟨gb118, 2, none⟩ = some (.int .i64 a0_2) ∧ w'.cell? ⟨gb118, 3, none⟩ = some (.int .i64 a0_3) ∧ w'.cell? ⟨gb118, 4, none⟩ = some (.slice A0_4 l0_4.length c0_4)) (ds := []) #[false, false, false, false, false, false, false, false, false, false] (by kernel_rfl) rfl rfl ⟨(blk_cell BK118.out 0).trans rfl, (blk_cell BK118.out 1).trans rfl, (blk_cell BK118.out 2).trans rfl, (blk_cell BK118.out 3).trans rfl, (blk_cell BK118.out 4).trans rfl⟩ (fun hHeld => ?_); refine with_tabW panachetop_ellFan.tab1 panachetop_ellFan.bits1 (fun HT_ HW_ => ?_)
  generalize w4.drew = w5 at BK118 BK119 HB hHeld ⊢
  refine pureA (i := 0) (N := some 3) HT_ ?_
  refine pureA (i := 2) (N := some 5) HT_ ?_
  refine pureA (i := 5) (N := some 8) HT_ ?_
  refine takeA (i := 1) (N := some 4) HT_ HW_ hHeld ?_
  refine takeA (i := 3) (N := some 6) HT_ HW_ hHeld ?_
  refine takeA (i := 6) (N := some 9) HT_ HW_ hHeld ?_
  refine oneA (i := 4) (N := some 7) HT_ (fun K hK => ?_)
  refine Kd.R_lit_step k47 _ 47 ?hg (N := 7) ?hd (xs := ([] : List (S47))) (inner := []) (ok := fun _ => True) (okp := fun _ => True) ?hr ?hp (fun _ hk => hk) trivial (Below.refl _ _) (Nat.le_refl _) (by simp) ?_; (case hd => rfl); (case hg => rfl); (case hr => first | (go_simp; done) | (go_simp; rfl)); (case hp => exact (Reps.none _ _))
  intro v121 w6 ho7 hb hg_ hnew_
  clear hg_ hnew_
  (first | rw [← Ny120.out] at ho7 | (simp only [Int.reduceToNat] at ho7; rw [← Ny120.out] at ho7))
  have HO122 := Aside0.mk (Kd.R_lower ho7 (below_size (bX HB)))
  replace BK118 := kB BK118 hb
  replace BK119 := kB BK119 hb
  replace HB := bS HB hb
  clear hb ho7
  refine hK.out _ _ ⟨(blk_cell BK118.out 0).trans rfl, (blk_cell BK118.out 1).trans rfl, (blk_cell BK118.out 2).trans rfl, (blk_cell BK118.out 3).trans rfl, (blk_cell BK118.out 4).trans rfl⟩ (fun hHeld => ?_)
  clear hK K
  refine normA (N := some 7) ?_
  refine oneA (i := 7) (N := some 10) HT_ (fun K hK => ?_)
  refine Kd.R_append_rows_step k47 (w0 := w) w.heap.size (by rfl) (.tmp 7) (.tmp 9) 31 47 (.agg #[(.int .i64 0), (.int .i64 0), (.int .i64 0), (.int .i64 0)]) 32 rfl Tryz.underlying31 info47 rfl (by decide) (by omega) v121 y120 l0_4 _ _ _ (fun _ => True) (fun _ => False) rfl rfl ?aO ?aR (fun _ _ h => h) (fun _ h => h.elim) ?aF ?aB ?aS ?aL ?_
  (case aR => repeat (first | exact (Kd.C_below HR0_4.out HB.out) | (with_reducible refine Kd.C_alloc ?_ _) | (with_reducible refine Kd.C_drewN ?_ _) | (with_reducible refine Kd.C_drew ?_)))
  (case aB => exact (bX HB))
  (case aF => exact (fun _ _ => trivial))
  (case aO => exact (rX HO122.out))
  (case aS => exact (below_size (bX HB)))
  (case aL => have := LMc2.out; omega)
  intro v124 w8 ho hb hg hat
  rw [← Ny123.out] at ho
  have n0_ := Aside0.mk (blk_grown (g := gb118) (o := .cells #[.int .i64 a0_0, .int .i64 a0_1, .int .i64 a0_2, .int .i64 a0_3, .slice A0_4 l0_4.length c0_4] 33 (0, 0)) (kX BK118.out) hg (Kd.R_ne HO122.out BK118.out (by decide)))
  have n1_ := Aside0.mk (blk_grown (g := gb119) (o := .cells #[.int .i64 0, .int .i64 0, .int .i64 0, .int .i64 0, .slice none 0 0] 33 (0, 0)) (kX BK119.out) hg (Kd.R_ne HO122.out BK119.out (by decide)))
  have n2_ := Aside0.mk (hb)
  have n3_ := Aside0.mk (ho)
  clear BK118
  clear BK119
  clear HB
  clear HO122
  have BK118 := n0_
  have BK119 := n1_
  have HB := n2_
  have HO125 := n3_
  clear n0_ n1_ n2_ n3_
  clear ho hb hg hat
  obtain ⟨Ao9, co9, eo9⟩ := Kd.R_slice HO125.out
  (first | subst eo9 | (injection eo9 with f1_ f2_ f3_; have f4_ := f1_.symm; have f5_ := f3_.symm; clear f1_ f2_ f3_; subst f4_; subst f5_))
  refine hK.out _ _ ⟨(blk_cell BK118.out 0).trans rfl, (blk_cell BK118.out 1).trans rfl, (blk_cell BK118.out 2).trans rfl, (blk_cell BK118.out 3).trans rfl, (blk_cell BK118.out 4).trans rfl⟩ (fun hHeld => ?_)
  clear hK K
  refine normA (N := some 10) ?_
  refine pureA (i := 8) (N := some 11) HT_ ?_
  refine one_ (i := 9) (N := none) #[true, true, true, true, true, true, true, true, true, true] rfl rfl (one_of HT_.out (by kernel_rfl)) (by decide) (fun K hK => ?_)
  have hs10 : w8.cell? ⟨gb119, 0, none⟩ = some (.int .i64 0) := (blk_cell BK119.out 0).trans rfl
  have hfs10 := blk_frozen BK119.out 0
  have hns10_0 := NB118_119.out
  have hms10_0 := NB119_118.out
  have hs11 : w8.cell? ⟨gb119, 1, none⟩ = some (.int .i64 0) := (blk_cell BK119.out 1).trans rfl
  have hfs11 := blk_frozen BK119.out 1
  have hns11_0 := NB118_119.out
  have hms11_0 := NB119_118.out
  have hs12 : w8.cell? ⟨gb119, 2, none⟩ = some (.int .i64 0) := (blk_cell BK119.out 2).trans rfl
  have hfs12 := blk_frozen BK119.out 2
  have hns12_0 := NB118_119.out
  have hms12_0 := NB119_118.out
  have hs13 : w8.cell? ⟨gb119, 3, none⟩ = some (.int .i64 0) := (blk_cell BK119.out 3).trans rfl
  have hfs13 := blk_frozen BK119.out 3
  have hns13_0 := NB118_119.out
  have hms13_0 := NB119_118.out
  have hs14 : w8.cell? ⟨gb119, 4, none⟩ = some (.slice none 0 0) := (blk_cell BK119.out 4).trans rfl
  have hfs14 := blk_frozen BK119.out 4
  have hns14_0 := NB118_119.out
  have hms14_0 := NB119_118.out
  refine skip_ (w1 := ?_) (by rfl) rfl ?_ ?_
  rotate_left
  ·go_simp
   rfl
  refine hK.out _ _ ⟨((cell_far (p := ⟨gb119, _, none⟩) NB118_119.out _).trans (((cell_far (p := ⟨gb119, _, none⟩) NB118_119.out _).trans (((cell_far (p := ⟨gb119, _, none⟩) NB118_119.out _).trans (((cell_far (p := ⟨gb119, _, none⟩) NB118_119.out _).trans (((cell_far (p := ⟨gb119, _, none⟩) NB118_119.out _).trans (hHeld.1)))))))))), ((cell_far (p := ⟨gb119, _, none⟩) NB118_119.out _).trans (((cell_far (p := ⟨gb119, _, none⟩) NB118_119.out _).trans (((cell_far (p := ⟨gb119, _, none⟩) NB118_119.out _).trans (((cell_far (p := ⟨gb119, _, none⟩) NB118_119.out _).trans (((cell_far (p := ⟨gb119, _, none⟩) NB118_119.out _).trans (hHeld.2.1)))))))))), ((cell_far (p := ⟨gb119, _, none⟩) NB118_119.out _).trans (((cell_far (p := ⟨gb119, _, none⟩) NB118_119.out _).trans (((cell_far (p := ⟨gb119, _, none⟩) NB118_119.out _).trans (((cell_far (p := ⟨gb119, _, none⟩) NB118_119.out _).trans (((cell_far (p := ⟨gb119, _, none⟩) NB118_119.out _).trans (hHeld.2.2.1)))))))))), ((cell_far (p := ⟨gb119, _, none⟩) NB118_119.out _).trans (((cell_far (p := ⟨gb119, _, none⟩) NB118_119.out _).trans (((cell_far (p := ⟨gb119, _, none⟩) NB118_119.out _).trans (((cell_far (p := ⟨gb119, _, none⟩) NB118_119.out _).trans (((cell_far (p := ⟨gb119, _, none⟩) NB118_119.out _).trans (hHeld.2.2.2.1)))))))))), ((cell_far (p := ⟨gb119, _, none⟩) NB118_119.out _).trans (((cell_far (p := ⟨gb119, _, none⟩) NB118_119.out _).trans (((cell_far (p := ⟨gb119, _, none⟩) NB118_119.out _).trans (((cell_far (p := ⟨gb119, _, none⟩) NB118_119.out _).trans (((cell_far (p := ⟨gb119, _, none⟩) NB118_119.out _).trans (hHeld.2.2.2.2))))))))))⟩ (fun hHeld => ?_)
  clear hK K
  refine done_ (done_of HT_.out (by kernel_rfl)) ?_
  try go_wp2
  refine bodyPost_ret (results_cell_row rfl _ _ gb119 33 #[.int .i64 a0_0, .int .i64 a0_1, .int .i64 a0_2, .int .i64 a0_3, .slice Ao9 y123.length co9] (0, 0) _ rfl (by (with_reducible repeat (first | refine blk_drewN ?_ _ | refine blk_drew ?_ | refine blk_alloc ?_ _)); refine blk_put (cs := #[.int .i64 a0_0, .int .i64 a0_1, .int .i64 a0_2, .int .i64 a0_3, .slice none 0 0]) ?_ 4 _ rfl; (with_reducible repeat (first | refine blk_drewN ?_ _ | refine blk_drew ?_ | refine blk_alloc ?_ _)); refine blk_put (cs := #[.int .i64 a0_0, .int .i64 a0_1, .int .i64 a0_2, .int .i64 0, .slice none 0 0]) ?_ 3 _ rfl; (with_reducible repeat (first | refine blk_drewN ?_ _ | refine blk_drew ?_ | refine blk_alloc ?_ _)); refine blk_put (cs := #[.int .i64 a0_0, .int .i64 a0_1, .int .i64 0, .int .i64 0, .slice none 0 0]) ?_ 2 _ rfl; (with_reducible repeat (first | refine blk_drewN ?_ _ | refine blk_drew ?_ | refine blk_alloc ?_ _)); refine blk_put (cs := #[.int .i64 a0_0, .int .i64 0, .int .i64 0, .int .i64 0, .slice none 0 0]) ?_ 1 _ rfl; (with_reducible repeat (first | refine blk_drewN ?_ _ | refine blk_drew ?_ | refine blk_alloc ?_ _)); refine blk_put (cs := #[.int .i64 0, .int .i64 0, .int .i64 0, .int .i64 0, .slice none 0 0]) ?_ 0 _ rfl; (with_reducible repeat (first | refine blk_drewN ?_ _ | refine blk_drew ?_ | refine blk_alloc ?_ _)); exact BK119.out) Tryz.underlying33 rfl (by kernel_rfl)) rfl ?_
  exact ⟨_, by first | rfl | (simp [errW_none, errW_some] <;> rfl) | (simp [*, errW_none, errW_some] <;> rfl), by (with_reducible repeat (first | apply Kd.R_alloc | apply Kd.R_drewN | apply Kd.R_drew)); exact Kd.R_mono (Kd.R_far (p := ⟨gb119, 4, none⟩) (Kd.R_far (p := ⟨gb119, 3, none⟩) (Kd.R_far (p := ⟨gb119, 2, none⟩) (Kd.R_far (p := ⟨gb119, 1, none⟩) (Kd.R_far (p := ⟨gb119, 0, none⟩) (Kd.R_types HO125.out BK119.out (by decide)) (fun _ hk => hk.2) (.int .i64 a0_0)) (fun _ hk => hk.2) (.int .i64 a0_1)) (fun _ hk => hk.2) (.int .i64 a0_2)) (fun _ hk => hk.2) (.int .i64 a0_3)) (fun _ hk => hk.2) (.slice Ao9 y123.length co9)) (fun _ hk => trivial), bX HB⟩
 ·rw [if_neg c2] at H
  exact absurd H (by simp)
def panachetop_Ivory_loss.f (l0_0 : List (S26)) (a0_1 : Int) (a0_2 : Int) (a0_3 : Int) (a0_4 : Int) (a0_5 : Int) (a0_6 : Int) (a0_7 : Int) (a0_8 : Int) : Option (Int × Int) := if (wrap64 ((wrap64 (2 + (Int.tmod (wrap64 (a0_7)) 9))) + 1)) = 0 then (none) else (some (wrap64 (2 + (Int.tmod (wrap64 (a0_7)) 9)), wrap64 (Int.tdiv (Int.tmod (wrap64 (a0_8)) (wrap64 ((wrap64 (2 + (Int.tmod (wrap64 (a0_7)) 9))) + 1))) 2)))
set_option maxHeartbeats 8000000 in
set_option maxRecDepth 100000 in
theorem panachetop_Ivory_loss.calls (A0_0 : Option Addr) (c0_0 : Nat) (l0_0 : List (S26)) (a0_1 : Int) (a0_2 : Int) (a0_3 : Int) (a0_4 : Int) (a0_5 : Int) (a0_6 : Int) (a0_7 : Int) (a0_8 : Int) (r1 : Int) (r2 : Int) (w : World) (hr0_0 : Kd.C k26 w A0_0 l0_0.length l0_0) (hc0_0 : l0_0.length ≤ c0_0) (h : panachetop_Ivory_loss.f l0_0 a0_1 a0_2 a0_3 a0_4 a0_5 a0_6 a0_7 a0_8 = some (r1, r2)) :
  Calls Tryz.prog 11 #[.agg #[.slice A0_0 l0_0.length c0_0, .int .u8 a0_1, .int .u8 a0_2, .int .u8 a0_3, .int .u8 a0_4, .int .u8 a0_5, .int .u8 a0_6, .int .u8 a0_7, .int .u8 a0_8]] w fun e w' => e = .returned (.agg #[.int .i64 r1, .int .i64 r2]) ∧ Below w.heap.size w w' := by
 have hu28 := Tryz.underlying28
 have hu42 := Tryz.underlying42
 have HR0_0 := Aside0.mk hr0_0
 have HC0_0 := Aside0.mk hc0_0
 clear hr0_0 hc0_0
 have HB := Aside0.mk (Below.refl w.heap.size w)
 have H : (if (wrap64 ((wrap64 (2 + (Int.tmod (wrap64 (a0_7)) 9))) + 1)) = 0 then (none) else (some (wrap64 (2 + (Int.tmod (wrap64 (a0_7)) 9)), wrap64 (Int.tdiv (Int.tmod (wrap64 (a0_8)) (wrap64 ((wrap64 (2 + (Int.tmod (wrap64 (a0_7)) 9))) + 1))) 2)))) = some (r1, r2) := h
 clear h
 by_cases c2 : (wrap64 ((wrap64 (2 + (Int.tmod (wrap64 (a0_7)) 9))) + 1)) = 0
 ·rw [if_pos c2] at H
  exact absurd H (by simp)
 ·rw [if_neg c2] at H
  have c2b0 : ((wrap64 ((wrap64 (2 + (Int.tmod (wrap64 (a0_7)) 9))) + 1)) == 0) = false := beq_eq_false_iff_ne.mpr c2
  have c2b1 : ((wrap64 ((wrap64 (2 + (Int.tmod (wrap64 (a0_7)) 9))) + 1)) != 0) = true := bne_iff_ne.mpr c2
  simp only [Option.some.injEq, Prod.mk.injEq] at H
  obtain ⟨rfl, rfl⟩ := H
  go_enter Tryz.func11, Tryz.ntmps11
  go_wp2_with (first | ((with_reducible refine gate_dst (N := 1) rfl ?_); refine boxA (N := 1) (cs := #[.slice A0_0 l0_0.length c0_0, .int .u8 a0_1, .int .u8 a0_2, .int .u8 a0_3, .int .u8 a0_4, .int .u8 a0_5, .int .u8 a0_6, .int .u8 a0_7, .int .u8 a0_8]) (t := 28) ?_; intro gb126 hg w3 hbox hb; have BK126 := Aside0.mk (hbox); have GW126 := bG HB hg; have GE126 := bG HB hg; replace HB := bS HB hb; clear hb hbox hg) | ((with_reducible refine gate_dst (N := 2) rfl ?_); refine boxA (N := 2) (cs := #[.int .i64 0, .int .i64 0]) (t := 42) ?_; intro gb127 hg w4 hbox hb; have BK127 := Aside0.mk (hbox); have GW127 := bG HB hg; have GE127 := bG HB hg; have NB126_127 := kN BK126 hg; have NB127_126 := kM BK126 hg; replace BK126 := kB BK126 hb; replace HB := bS HB hb; clear hb hbox hg; have hnb5 := NB126_127.out; have hnc5 := NB127_126.out; have hcz6_0 : w4.cell? ⟨gb126, 0, none⟩ = some (.slice A0_0 l0_0.length c0_0) := (blk_cell BK126.out 0).trans rfl; have hcz6_1 : w4.cell? ⟨gb126, 1, none⟩ = some (.int .u8 a0_1) := (blk_cell BK126.out 1).trans rfl; have hcz6_2 : w4.cell? ⟨gb126, 2, none⟩ = some (.int .u8 a0_2) := (blk_cell BK126.out 2).trans rfl; have hcz6_3 : w4.cell? ⟨gb126, 3, none⟩ = some (.int .u8 a0_3) := (blk_cell BK126.out 3).trans rfl; have hcz6_4 : w4.cell? ⟨gb126, 4, none⟩ = some (.int .u8 a0_4) := (blk_cell BK126.out 4).trans rfl; have hcz6_5 : w4.cell? ⟨gb126, 5, none⟩ = some (.int .u8 a0_5) := (blk_cell BK126.out 5).trans rfl; have hcz6_6 : w4.cell? ⟨gb126, 6, none⟩ = some (.int .u8 a0_6) := (blk_cell BK126.out 6).trans rfl; have hcz6_7 : w4.cell? ⟨gb126, 7, none⟩ = some (.int .u8 a0_7) := (blk_cell BK126.out 7).trans rfl; have hcz6_8 : w4.cell? ⟨gb126, 8, none⟩ = some (.int .u8 a0_8) := (blk_cell BK126.out 8).trans rfl; have hfz6_0 := blk_frozen BK126.out 0; have hfz6_1 := blk_frozen BK126.out 1; have hfz6_2 := blk_frozen BK126.out 2; have hfz6_3 := blk_frozen BK126.out 3; have hfz6_4 := blk_frozen BK126.out 4; have hfz6_5 := blk_frozen BK126.out 5; have hfz6_6 := blk_frozen BK126.out 6; have hfz6_7 := blk_frozen BK126.out 7; have hfz6_8 := blk_frozen BK126.out 8; obtain ⟨hcz7_0, hcz7_1, hfz7_0, hfz7_1⟩ := cc2 BK127))
  refine bodyPost_ret (results_cell_row rfl _ _ gb127 42 #[.int .i64 (wrap64 (2 + (Int.tmod (wrap64 (a0_7)) 9))), .int .i64 (wrap64 (Int.tdiv (Int.tmod (wrap64 (a0_8)) (wrap64 ((wrap64 (2 + (Int.tmod (wrap64 (a0_7)) 9))) + 1))) 2))] (0, 0) _ rfl (kP BK127) Tryz.underlying42 rfl (by kernel_rfl)) rfl ?_
  exact ⟨by first | rfl | (simp [errW_none, errW_some] <;> rfl) | (simp [*, errW_none, errW_some] <;> rfl), bX HB⟩
end Go.Proofs.YtgdkmadcegleiaaGreatDoor.PEno
end
section
namespace Go.Proofs.YtgdkmadcegleiaaGreatDoor.PEno
open Go.RowKit Go.Proofs.YtgdkmadcegleiaaGreatDoor.Sq Go.Proofs.YtgdkmadcegleiaaGreatDoorW.PrintWords Go.Proofs.YtgdkmadcegleiaaGreatDoorW.PrintLast Go.Proofs.YtgdkmadcegleiaaGreatDoorW.PrintMore Go.Proofs.YtgdkmadcegleiaaGreatDoor.X Go.Proofs.YtgdkmadcegleiaaGreatDoor.Z
attribute [local go_sem] max2_int min2_int max_two min_two max_three min_three max_four min_four   -- for this text's walks alone
set_option linter.unusedVariables false
set_option linter.unusedSimpArgs false
mutual
def panachetop_TopEnoughSticks.j1 : Nat → Int → Int → Bool → List (S26) → Int → Int → Int → Int → Int → Int → Int → Int → Int → Int → Int → Int → List (S47) → Option (Bool)
 | 0, _, _, _, _, _, _, _, _, _, _, _, _, _, _, _, _, _ => none
 | k + 1, x2, x8, x51, x130000, x130001, x130002, x130003, x130004, x130005, x130006, x130007, x130008, x138000, x138001, x138002, x138003, x138004 => if x51 = true then (some false) else ((panachetop_Ivory_loss.f x130000 x130001 x130002 x130003 x130004 x130005 x130006 x130007 x130008).bind fun bt148 => ((stick_Give.f bt148.1 bt148.2 x8).bind fun bt150 => (if bt150.2 = 0 then (panachetop_TopEnoughSticks.l0 k x2 bt150.1 0 x130000 x130001 x130002 x130003 x130004 x130005 x130006 x130007 x130008 x138000 x138001 x138002 x138003 x138004) else (some false))))
def panachetop_TopEnoughSticks.l0 : Nat → Int → Int → Int → List (S26) → Int → Int → Int → Int → Int → Int → Int → Int → Int → Int → Int → Int → List (S47) → Option (Bool)
 | 0, _, _, _, _, _, _, _, _, _, _, _, _, _, _, _, _, _ => none
 | k + 1, x2, x10, x12, x130000, x130001, x130002, x130003, x130004, x130005, x130006, x130007, x130008, x138000, x138001, x138002, x138003, x138004 => if x12 < 2 then ((panachetop_Ivory_loss.f x130000 x130001 x130002 x130003 x130004 x130005 x130006 x130007 x130008).bind fun bt152 => ((stick_Whole.f bt152.1 bt152.2 (mx 0 (wrap64 (x10 - x12)))).bind fun bt154 => (if bt154.2.2 = 0 then (if bt154.1 < 0 then (panachetop_TopEnoughSticks.j3 k x2 x10 x12 true x130000 x130001 x130002 x130003 x130004 x130005 x130006 x130007 x130008 x138000 x138001 x138002 x138003 x138004 bt154.1 bt154.2.1) else (panachetop_TopEnoughSticks.j3 k x2 x10 x12 (decide (bt154.1 > x10)) x130000 x130001 x130002 x130003 x130004 x130005 x130006 x130007 x130008 x138000 x138001 x138002 x138003 x138004 bt154.1 bt154.2.1)) else (panachetop_TopEnoughSticks.j3 k x2 x10 x12 true x130000 x130001 x130002 x130003 x130004 x130005 x130006 x130007 x130008 x138000 x138001 x138002 x138003 x138004 bt154.1 bt154.2.1)))) else ((panachetop_ellKnown05.f).bind fun t167 => (some t167))
def panachetop_TopEnoughSticks.j3 : Nat → Int → Int → Int → Bool → List (S26) → Int → Int → Int → Int → Int → Int → Int → Int → Int → Int → Int → Int → List (S47) → Int → Int → Option (Bool)
 | 0, _, _, _, _, _, _, _, _, _, _, _, _, _, _, _, _, _, _, _, _ => none
 | k + 1, x2, x10, x12, x87, x130000, x130001, x130002, x130003, x130004, x130005, x130006, x130007, x130008, x138000, x138001, x138002, x138003, x138004, x158000, x158001 => if x87 = true then (some false) else (panachetop_TopEnoughSticks.l1 k x2 x10 x12 1 x130000 x130001 x130002 x130003 x130004 x130005 x130006 x130007 x130008 x138000 x138001 x138002 x138003 x138004 x158000 x158001 x138000 x138001 x138002 x138003 ([] : List (S47)))
def panachetop_TopEnoughSticks.l1 : Nat → Int → Int → Int → Int → List (S26) → Int → Int → Int → Int → Int → Int → Int → Int → Int → Int → Int → Int → List (S47) → Int → Int → Int → Int → Int → Int → List (S47) → Option (Bool)
 | 0, _, _, _, _, _, _, _, _, _, _, _, _, _, _, _, _, _, _, _, _, _, _, _, _, _ => none
 | k + 1, x2, x10, x12, x16, x130000, x130001, x130002, x130003, x130004, x130005, x130006, x130007, x130008, x138000, x138001, x138002, x138003, x138004, x158000, x158001, x159000, x159001, x159002, x159003, x159004 => if x16 < x158000 then (panachetop_TopEnoughSticks.j5 k x2 x10 x12 x16 (decide (x16 ≤ 40)) x130000 x130001 x130002 x130003 x130004 x130005 x130006 x130007 x130008 x138000 x138001 x138002 x138003 x138004 x158000 x158001 x159000 x159001 x159002 x159003 x159004) else (panachetop_TopEnoughSticks.j5 k x2 x10 x12 x16 false x130000 x130001 x130002 x130003 x130004 x130005 x130006 x130007 x130008 x138000 x138001 x138002 x138003 x138004 x158000 x158001 x159000 x159001 x159002 x159003 x159004)
def panachetop_TopEnoughSticks.j5 : Nat → Int → Int → Int → Int → Bool → List (S26) → Int → Int → Int → Int → Int → Int → Int → Int → Int → Int → Int → Int → List (S47) → Int → Int → Int → Int → Int → Int → List (S47) → Option (Bool)
 | 0, _, _, _, _, _, _, _, _, _, _, _, _, _, _, _, _, _, _, _, _, _, _, _, _, _, _ => none
 | k + 1, x2, x10, x12, x16, x100, x130000, x130001, x130002, x130003, x130004, x130005, x130006, x130007, x130008, x138000, x138001, x138002, x138003, x138004, x158000, x158001, x159000, x159001, x159002, x159003, x159004 => if x100 = true then (if 0 < (x138004.length : Int) then (if x159004.length < 4398046511104 then (panachetop_TopEnoughSticks.l1 k x2 x10 x12 (wrap64 (x16 + 1)) x130000 x130001 x130002 x130003 x130004 x130005 x130006 x130007 x130008 x138000 x138001 x138002 x138003 x138004 x158000 x158001 x159000 x159001 x159002 x159003 (x159004 ++ [(⟨(⟨(rd_T47 x138004 0).f0.f0, (rd_T47 x138004 0).f0.f1⟩ : S30), (⟨(rd_T47 x138004 0).f1.f0, (rd_T47 x138004 0).f1.f1⟩ : S30)⟩ : S47)])) else (none)) else (none)) else ((rivet_Opens.f x159000 x159001 x159002 x159003 x159004).bind fun bt163 => (if bt163.2.2 = 0 then (if bt163.1 ≥ (wrap64 (x2)) then (panachetop_TopEnoughSticks.j6 k x2 x10 x12 ((decide (x158000 > 0)) != (x12 == 0)) x130000 x130001 x130002 x130003 x130004 x130005 x130006 x130007 x130008 x138000 x138001 x138002 x138003 x138004) else (panachetop_TopEnoughSticks.j6 k x2 x10 x12 (false != (x12 == 0)) x130000 x130001 x130002 x130003 x130004 x130005 x130006 x130007 x130008 x138000 x138001 x138002 x138003 x138004)) else (panachetop_TopEnoughSticks.j6 k x2 x10 x12 true x130000 x130001 x130002 x130003 x130004 x130005 x130006 x130007 x130008 x138000 x138001 x138002 x138003 x138004)))
def panachetop_TopEnoughSticks.j6 : Nat → Int → Int → Int → Bool → List (S26) → Int → Int → Int → Int → Int → Int → Int → Int → Int → Int → Int → Int → List (S47) → Option (Bool)
 | 0, _, _, _, _, _, _, _, _, _, _, _, _, _, _, _, _, _, _ => none
 | k + 1, x2, x10, x12, x133, x130000, x130001, x130002, x130003, x130004, x130005, x130006, x130007, x130008, x138000, x138001, x138002, x138003, x138004 => if x133 = true then (some false) else (panachetop_TopEnoughSticks.l0 k x2 x10 (wrap64 (x12 + 1)) x130000 x130001 x130002 x130003 x130004 x130005 x130006 x130007 x130008 x138000 x138001 x138002 x138003 x138004)
def panachetop_TopEnoughSticks.j0 : Nat → Bool → Option (Bool)
 | 0, _ => none
 | k + 1, x6 => some x6
end
def panachetop_TopEnoughSticks.f (k : Nat) (l0_0 : List (S26)) (l1_0 : List (S26)) (a1_1 : Int) (a1_2 : Int) (a1_3 : Int) (a1_4 : Int) (a1_5 : Int) (a1_6 : Int) (a1_7 : Int) (a1_8 : Int) (a2 : Int) : Option (Bool) := (panachetop_Horn_fan.f k l0_0).bind fun bt130 => ((panachetop_ellFan.f bt130.1 bt130.2.1 bt130.2.2.1 bt130.2.2.2.1 bt130.2.2.2.2).bind fun bt138 => ((rivet_Sticks.f bt138.1 bt138.2.1 bt138.2.2.1 bt138.2.2.2.1 bt138.2.2.2.2 (wrap64 (a2))).bind fun bt145 => (if bt145.2 = 0 then (if (bt130.2.2.2.2.length : Int) = 0 then (panachetop_TopEnoughSticks.j1 k a2 bt145.1 true l1_0 a1_1 a1_2 a1_3 a1_4 a1_5 a1_6 a1_7 a1_8 bt130.1 bt130.2.1 bt130.2.2.1 bt130.2.2.2.1 bt130.2.2.2.2) else (if bt145.1 < 1 then (panachetop_TopEnoughSticks.j1 k a2 bt145.1 true l1_0 a1_1 a1_2 a1_3 a1_4 a1_5 a1_6 a1_7 a1_8 bt130.1 bt130.2.1 bt130.2.2.1 bt130.2.2.2.1 bt130.2.2.2.2) else (panachetop_TopEnoughSticks.j1 k a2 bt145.1 (decide (bt145.1 > 41)) l1_0 a1_1 a1_2 a1_3 a1_4 a1_5 a1_6 a1_7 a1_8 bt130.1 bt130.2.1 bt130.2.2.1 bt130.2.2.2.1 bt130.2.2.2.2))) else (if bt145.2 = 7 then (if bt145.1 = 0 then ((panachetop_ellKnown05.f).bind fun t147 => (panachetop_TopEnoughSticks.j0 k t147)) else (panachetop_TopEnoughSticks.j0 k false)) else (panachetop_TopEnoughSticks.j0 k false)))))
def panachetop_TopEnoughSticks.T20 : Bool × List (List Nat × List Nat) := (true, [([], []), ([0], [0]), ([], []), ([2], [2]), ([3], [3]), ([4], [4]), ([5], [5]), ([1, 6], [1, 6]), ([0, 1, 2, 3, 4, 5, 6, 7], []), ([8, 7, 7, 0, 1, 2, 3, 4, 5, 6, 7], [7, 8])])
def panachetop_TopEnoughSticks.B20 : List Nat := [0, 1, 0, 4, 12, 28, 60, 127, 255, 511]
theorem panachetop_TopEnoughSticks.tab20 : rtab .any (opsOf Tryz.f3 20) = panachetop_TopEnoughSticks.T20 := by kernel_rfl
theorem panachetop_TopEnoughSticks.bits20 : waitsOk panachetop_TopEnoughSticks.T20.2 panachetop_TopEnoughSticks.B20 = true := by kernel_rfl
set_option maxHeartbeats 8000000 in
set_option maxRecDepth 100000 in
theorem panachetop_TopEnoughSticks.calls (k : Nat) (A0_0 : Option Addr) (c0_0 : Nat) (l0_0 : List (S26)) (A1_0 : Option Addr) (c1_0 : Nat) (l1_0 : List (S26)) (a1_1 : Int) (a1_2 : Int) (a1_3 : Int) (a1_4 : Int) (a1_5 : Int) (a1_6 : Int) (a1_7 : Int) (a1_8 : Int) (a2 : Int) (r : Bool) (w : World) (hr0_0 : Kd.C k26 w A0_0 l0_0.length l0_0) (hc0_0 : l0_0.length ≤ c0_0) (hr1_0 : Kd.C k26 w A1_0 l1_0.length l1_0) (hc1_0 : l1_0.length ≤ c1_0) (h : panachetop_TopEnoughSticks.f k l0_0 l1_0 a1_1 a1_2 a1_3 a1_4 a1_5 a1_6 a1_7 a1_8 a2 = some r) (hT : Tabs w) :
  Calls Tryz.prog 3 #[.agg #[.slice A0_0 l0_0.length c0_0], .agg #[.slice A1_0 l1_0.length c1_0, .int .u8 a1_1, .int .u8 a1_2, .int .u8 a1_3, .int .u8 a1_4, .int .u8 a1_5, .int .u8 a1_6, .int .u8 a1_7, .int .u8 a1_8], .int .u8 a2] w fun e w' => e = .returned (.bool r) ∧ Below w.heap.size w w' := by
 have HT := Aside0.mk hT
 clear hT
 have hu24 := Tryz.underlying24
 have hu28 := Tryz.underlying28
 have hu33 := Tryz.underlying33
 have hu30 := Tryz.underlying30
 have hu47 := Tryz.underlying47
 have HR0_0 := Aside0.mk hr0_0
 have HC0_0 := Aside0.mk hc0_0
 clear hr0_0 hc0_0
 have HR1_0 := Aside0.mk hr1_0
 have HC1_0 := Aside0.mk hc1_0
 clear hr1_0 hc1_0
 have HB := Aside0.mk (Below.refl w.heap.size w)
 have H : ((panachetop_Horn_fan.f k l0_0).bind fun bt130 => ((panachetop_ellFan.f bt130.1 bt130.2.1 bt130.2.2.1 bt130.2.2.2.1 bt130.2.2.2.2).bind fun bt138 => ((rivet_Sticks.f bt138.1 bt138.2.1 bt138.2.2.1 bt138.2.2.2.1 bt138.2.2.2.2 (wrap64 (a2))).bind fun bt145 => (if bt145.2 = 0 then (if (bt130.2.2.2.2.length : Int) = 0 then (panachetop_TopEnoughSticks.j1 k a2 bt145.1 true l1_0 a1_1 a1_2 a1_3 a1_4 a1_5 a1_6 a1_7 a1_8 bt130.1 bt130.2.1 bt130.2.2.1 bt130.2.2.2.1 bt130.2.2.2.2) else (if bt145.1 < 1 then (panachetop_TopEnoughSticks.j1 k a2 bt145.1 true l1_0 a1_1 a1_2 a1_3 a1_4 a1_5 a1_6 a1_7 a1_8 bt130.1 bt130.2.1 bt130.2.2.1 bt130.2.2.2.1 bt130.2.2.2.2) else (panachetop_TopEnoughSticks.j1 k a2 bt145.1 (decide (bt145.1 > 41)) l1_0 a1_1 a1_2 a1_3 a1_4 a1_5 a1_6 a1_7 a1_8 bt130.1 bt130.2.1 bt130.2.2.1 bt130.2.2.2.1 bt130.2.2.2.2))) else (if bt145.2 = 7 then (if bt145.1 = 0 then ((panachetop_ellKnown05.f).bind fun t147 => (panachetop_TopEnoughSticks.j0 k t147)) else (panachetop_TopEnoughSticks.j0 k false)) else (panachetop_TopEnoughSticks.j0 k false)))))) = some r := h
 clear h
 replace H := Option.bind_eq_some_iff.mp H
 obtain ⟨⟨t130, t131, t132, t133, t134⟩, A40, H⟩ := H
 try dsimp only at H
 have A4 := Aside0.mk A40
 clear A40
 replace H := Option.bind_eq_some_iff.mp H
 obtain ⟨⟨t138, t139, t140, t141, t142⟩, A50, H⟩ := H
 try dsimp only at H
 have A5 := Aside0.mk A50
 clear A50
 replace H := Option.bind_eq_some_iff.mp H
 obtain ⟨⟨t145, t146⟩, A60, H⟩ := H
 try dsimp only at H
 have A6 := Aside0.mk A60
 clear A60
 by_cases c7 : t146 = 0
 ·rw [if_pos c7] at H
  have c7b0 : (t146 == 0) = true := beq_iff_eq.mpr c7
  have c7b1 : (t146 != 0) = false := bne_eq_false_iff_eq.mpr c7
  clear c7
  have HC8 := Aside0.mk H
  clear H
  go_enter Tryz.func3, Tryz.ntmps3
  go_upto_region 5 with (first | ((with_reducible refine gate_dst (N := 3) rfl ?_); refine boxA (N := 3) (cs := #[.slice A0_0 l0_0.length c0_0]) (t := 24) ?_; intro gb128 hg w9 hbox hb; have BK128 := Aside0.mk (hbox); have GW128 := bG HB hg; have GE128 := bG HB hg; replace HB := bS HB hb; clear hb hbox hg) | ((with_reducible refine gate_dst (N := 4) rfl ?_); refine boxA (N := 4) (cs := #[.slice A1_0 l1_0.length c1_0, .int .u8 a1_1, .int .u8 a1_2, .int .u8 a1_3, .int .u8 a1_4, .int .u8 a1_5, .int .u8 a1_6, .int .u8 a1_7, .int .u8 a1_8]) (t := 28) ?_; intro gb129 hg w10 hbox hb; have BK129 := Aside0.mk (hbox); have GW129 := bG HB hg; have GE129 := bG HB hg; have NB128_129 := kN BK128 hg; have NB129_128 := kM BK128 hg; replace BK128 := kB BK128 hb; replace HB := bS HB hb; clear hb hbox hg; have hnb11 := NB128_129.out; have hnc11 := NB129_128.out; obtain ⟨hcz12_0, hfz12_0⟩ := cc1 BK128) | ((with_reducible refine gate_callee (f := 6) rfl ?_); refine goesA (some 20) Tryz.func6 #[.agg #[.slice A0_0 l0_0.length c0_0]] ?_; (with_reducible refine (panachetop_Horn_fan.calls k _ _ l0_0 t130 t131 t132 t133 t134 _ ?side1 ?side2 A4.out).mono ?_); (case side1 => exact sX (Kd.C_below HR0_0.out HB.out)); (case side2 => exact HC0_0.out); rintro e w13 ⟨v135, rfl, ho0, hb⟩; refine ⟨_, rfl, ?_⟩; have HO136 := Aside0.mk (Kd.R_lower ho0 (below_size (bX HB))); replace BK128 := kB BK128 hb; replace BK129 := kB BK129 hb; replace HB := bS HB hb; (try clear hb); (try clear hb2); (try clear hk); (try clear hi); (try clear ho0)) | ((with_reducible refine gate_dst (N := 7) rfl ?_); refine boxA (N := 7) (cs := #[.int .i64 0, .int .i64 0, .int .i64 0, .int .i64 0, .slice none 0 0]) (t := 33) ?_; intro gb137 hg w14 hbox hb; have BK137 := Aside0.mk (hbox); have GW137 := bG HB hg; have GE137 := bG HB hg; have NB128_137 := kN BK128 hg; have NB137_128 := kM BK128 hg; have NB129_137 := kN BK129 hg; have NB137_129 := kM BK129 hg; replace HO136 := rB HO136 hb; replace BK128 := kB BK128 hb; replace BK129 := kB BK129 hb; replace HB := bS HB hb; clear hb hbox hg; have hnb15 := NB137_128.out; have hnc15 := NB128_137.out; have hnb16 := NB137_129.out; have hnc16 := NB129_137.out; obtain ⟨hcz17_0, hcz17_1, hcz17_2, hcz17_3, hcz17_4, hfz17_0, hfz17_1, hfz17_2, hfz17_3, hfz17_4⟩ := cc5 BK137; obtain ⟨Ao18, co18, eo18⟩ := Kd.R_slice HO136.out; subst eo18) | ((with_reducible refine gate_callee (f := 8) rfl ?_); refine goesA (some 23) Tryz.func8 #[.agg #[.int .i64 t130, .int .i64 t131, .int .i64 t132, .int .i64 t133, .slice Ao18 t134.length co18]] ?_; (with_reducible refine (panachetop_ellFan.calls t130 t131 t132 t133 _ _ t134 t138 t139 t140 t141 t142 _ ?side1 ?side2 A5.out).mono ?_); (case side1 => refine (Kd.R_reads' (e := 47) (base := w.heap.size) (ok := fun k_ => True) (n := t134.length) (c := co18) ?_).2.2; exact (rX (Kd.R_mono (Kd.R_far (p := ⟨gb137, 4, none⟩) (Kd.R_far (p := ⟨gb137, 3, none⟩) (Kd.R_far (p := ⟨gb137, 2, none⟩) (Kd.R_far (p := ⟨gb137, 1, none⟩) (Kd.R_far (p := ⟨gb137, 0, none⟩) (Kd.R_types HO136.out BK137.out (by decide)) (fun _ hk => hk.2) (.int .i64 t130)) (fun _ hk => hk.2) (.int .i64 t131)) (fun _ hk => hk.2) (.int .i64 t132)) (fun _ hk => hk.2) (.int .i64 t133)) (fun _ hk => hk.2) (.slice Ao18 t134.length co18)) (fun _ h_ => h_.1)))); (case side2 => exact (Kd.R_reads' HO136.out).2.1); rintro e w19 ⟨v143, rfl, ho0, hb⟩; refine ⟨_, rfl, ?_⟩; have n0_ := Aside0.mk (Kd.R_elder' (rX (Kd.R_mono (Kd.R_far (p := ⟨gb137, 4, none⟩) (Kd.R_far (p := ⟨gb137, 3, none⟩) (Kd.R_far (p := ⟨gb137, 2, none⟩) (Kd.R_far (p := ⟨gb137, 1, none⟩) (Kd.R_far (p := ⟨gb137, 0, none⟩) (Kd.R_types HO136.out BK137.out (by decide)) (fun _ hk => hk.2) (.int .i64 t130)) (fun _ hk => hk.2) (.int .i64 t131)) (fun _ hk => hk.2) (.int .i64 t132)) (fun _ hk => hk.2) (.int .i64 t133)) (fun _ hk => hk.2) (.slice Ao18 t134.length co18)) (fun _ h_ => h_.1))) (Kd.R_base ho0) hb); have n1_ := Aside0.mk (Kd.R_lower (Kd.R_new' ho0 (Kd.R_lt (rX (Kd.R_mono (Kd.R_far (p := ⟨gb137, 4, none⟩) (Kd.R_far (p := ⟨gb137, 3, none⟩) (Kd.R_far (p := ⟨gb137, 2, none⟩) (Kd.R_far (p := ⟨gb137, 1, none⟩) (Kd.R_far (p := ⟨gb137, 0, none⟩) (Kd.R_types HO136.out BK137.out (by decide)) (fun _ hk => hk.2) (.int .i64 t130)) (fun _ hk => hk.2) (.int .i64 t131)) (fun _ hk => hk.2) (.int .i64 t132)) (fun _ hk => hk.2) (.int .i64 t133)) (fun _ hk => hk.2) (.slice Ao18 t134.length co18)) (fun _ h_ => h_.1))))) (below_size (bX HB))); have n2_ := Aside0.mk (blk_below (kF BK128 NB128_137) hb); have n3_ := Aside0.mk (blk_below (kF BK129 NB129_137) hb); have n4_ := Aside0.mk (blk_below (g := gb137) (o := .cells #[.int .i64 t130, .int .i64 t131, .int .i64 t132, .int .i64 t133, .slice Ao18 t134.length co18] 33 (0, 0)) (by (with_reducible repeat (first | refine blk_drewN ?_ _ | refine blk_drew ?_ | refine blk_alloc ?_ _)); refine blk_put (cs := #[.int .i64 t130, .int .i64 t131, .int .i64 t132, .int .i64 t133, .slice none 0 0]) ?_ 4 _ rfl; (with_reducible repeat (first | refine blk_drewN ?_ _ | refine blk_drew ?_ | refine blk_alloc ?_ _)); refine blk_put (cs := #[.int .i64 t130, .int .i64 t131, .int .i64 t132, .int .i64 0, .slice none 0 0]) ?_ 3 _ rfl; (with_reducible repeat (first | refine blk_drewN ?_ _ | refine blk_drew ?_ | refine blk_alloc ?_ _)); refine blk_put (cs := #[.int .i64 t130, .int .i64 t131, .int .i64 0, .int .i64 0, .slice none 0 0]) ?_ 2 _ rfl; (with_reducible repeat (first | refine blk_drewN ?_ _ | refine blk_drew ?_ | refine blk_alloc ?_ _)); refine blk_put (cs := #[.int .i64 t130, .int .i64 0, .int .i64 0, .int .i64 0, .slice none 0 0]) ?_ 1 _ rfl; (with_reducible repeat (first | refine blk_drewN ?_ _ | refine blk_drew ?_ | refine blk_alloc ?_ _)); refine blk_put (cs := #[.int .i64 0, .int .i64 0, .int .i64 0, .int .i64 0, .slice none 0 0]) ?_ 0 _ rfl; (with_reducible repeat (first | refine blk_drewN ?_ _ | refine blk_drew ?_ | refine blk_alloc ?_ _)); exact BK137.out) hb); have n5_ := bS HB hb; clear HO136; clear BK128; clear BK129; clear BK137; clear HB; have HO136 := n0_; have HO144 := n1_; have BK128 := n2_; have BK129 := n3_; have BK137 := n4_; have HB := n5_; clear n0_ n1_ n2_ n3_ n4_ n5_; (try clear hb); (try clear hb2); (try clear hk); (try clear hi); (try clear ho0); obtain ⟨Ao20, co20, eo20⟩ := Kd.R_slice HO144.out; subst eo20) | ((with_reducible refine gate_callee (f := 7) rfl ?_); refine goesA (some 26) Tryz.func7 #[.agg #[.int .i64 t138, .int .i64 t139, .int .i64 t140, .int .i64 t141, .slice Ao20 t142.length co20], .int .i64 (wrap64 (a2))] ?_; (with_reducible refine (rivet_Sticks.calls t138 t139 t140 t141 _ _ t142 (wrap64 (a2)) t145 t146 _ ?side1 ?side2 A6.out).mono ?_); (case side1 => exact sX (Kd.R_reads' HO144.out).2.2); (case side2 => exact (Kd.R_reads' HO144.out).2.1); rintro e w21 ⟨rfl, hb⟩; refine ⟨_, rfl, ?_⟩; replace HO136 := rB HO136 hb; replace HO144 := rB HO144 hb; replace BK128 := kB BK128 hb; replace BK129 := kB BK129 hb; replace BK137 := kB BK137 hb; replace HB := bS HB hb; (try clear hb); (try clear hb2); (try clear hk); (try clear hi)))
  (try simp only [Act.put, List.setIfInBounds_toArray, List.set_cons_zero, List.set_cons_succ])
  go_cut [51] (fun v51 wc => ∃ (kq : Nat) (x51_7 : Bool), v51 = .bool x51_7 ∧ Aside0 (panachetop_TopEnoughSticks.j1 kq a2 t145 x51_7 l1_0 a1_1 a1_2 a1_3 a1_4 a1_5 a1_6 a1_7 a1_8 t130 t131 t132 t133 t134 = some r) ∧ Aside0 (kq ≤ k) ∧ Aside0 (Kd.R k47 47 wc w.heap.size (fun _ => True) (.slice Ao18 t134.length co18) t134) ∧ Aside0 (wc.heap[gb128]? = some (.cells #[(.slice A0_0 l0_0.length c0_0)] 24 (0, 0))) ∧ Aside0 (wc.heap[gb129]? = some (.cells #[(.slice A1_0 l1_0.length c1_0), .int .u8 a1_1, .int .u8 a1_2, .int .u8 a1_3, .int .u8 a1_4, .int .u8 a1_5, .int .u8 a1_6, .int .u8 a1_7, .int .u8 a1_8] 28 (0, 0))) ∧ Aside0 (wc.heap[gb137]? = some (.cells #[.int .i64 t130, .int .i64 t131, .int .i64 t132, .int .i64 t133, (.slice Ao18 t134.length co18)] 33 (0, 0))) ∧ Aside0 (Below w.heap.size w wc))
  case first =>
   have H := HC8.out
   clear HC8
   by_cases c22 : (t134.length : Int) = 0
   ·rw [if_pos c22] at H
    have c22b0 : ((t134.length : Int) == 0) = true := beq_iff_eq.mpr c22
    have c22b1 : ((t134.length : Int) != 0) = false := bne_eq_false_iff_eq.mpr c22
    clear c22
    (first | rw [c22b0] | (simp only [i64_w, i32_w]; rw [c22b0]) | skip)
    have H' := Aside0.mk H
    clear H
    have hnb23 := NB137_128.out
    have hnc23 := NB128_137.out
    have hnb24 := NB137_129.out
    have hnc24 := NB129_137.out
    obtain ⟨hcz25_0, hcz25_1, hcz25_2, hcz25_3, hcz25_4, hfz25_0, hfz25_1, hfz25_2, hfz25_3, hfz25_4⟩ := cc5 BK137
    go_wp2
    go_meet
    case rel => exact ⟨_, (true), (by first | rfl | (simp; done) | (simp [*]; done)), H', ⟨by first | omega | exact Nat.le_refl _⟩, ⟨by (with_reducible repeat (first | apply Kd.R_alloc | apply Kd.R_drewN | apply Kd.R_drew)); exact Kd.R_mono HO136.out (fun _ hk => trivial)⟩, ⟨kX BK128.out⟩, ⟨kX BK129.out⟩, ⟨kX BK137.out⟩, ⟨bX HB⟩⟩
   ·rw [if_neg c22] at H
    have c22b0 : ((t134.length : Int) == 0) = false := beq_eq_false_iff_ne.mpr c22
    have c22b1 : ((t134.length : Int) != 0) = true := bne_iff_ne.mpr c22
    have c22b2 : ¬ (t134 = []) := fun h_ => c22 (by rw [h_]; rfl)
    (first | rw [c22b0] | (simp only [i64_w, i32_w]; rw [c22b0]) | skip)
    by_cases c26 : t145 < 1
    ·rw [if_pos c26] at H
     have c26b0 : decide (t145 < 1) = true := decide_eq_true c26
     clear c26
     have H' := Aside0.mk H
     clear H
     have hnb27 := NB137_128.out
     have hnc27 := NB128_137.out
     have hnb28 := NB137_129.out
     have hnc28 := NB129_137.out
     obtain ⟨hcz29_0, hcz29_1, hcz29_2, hcz29_3, hcz29_4, hfz29_0, hfz29_1, hfz29_2, hfz29_3, hfz29_4⟩ := cc5 BK137
     go_wp2
     go_meet
     case rel => exact ⟨_, (true), (by first | rfl | (simp; done) | (simp [*]; done)), H', ⟨by first | omega | exact Nat.le_refl _⟩, ⟨by (with_reducible repeat (first | apply Kd.R_alloc | apply Kd.R_drewN | apply Kd.R_drew)); exact Kd.R_mono HO136.out (fun _ hk => trivial)⟩, ⟨kX BK128.out⟩, ⟨kX BK129.out⟩, ⟨kX BK137.out⟩, ⟨bX HB⟩⟩
    ·rw [if_neg c26] at H
     have c26b0 : decide (t145 < 1) = false := decide_eq_false c26
     clear c26
     have H' := Aside0.mk H
     clear H
     have hnb30 := NB137_128.out
     have hnc30 := NB128_137.out
     have hnb31 := NB137_129.out
     have hnc31 := NB129_137.out
     obtain ⟨hcz32_0, hcz32_1, hcz32_2, hcz32_3, hcz32_4, hfz32_0, hfz32_1, hfz32_2, hfz32_3, hfz32_4⟩ := cc5 BK137
     go_wp2
     go_meet
     case rel => exact ⟨_, (decide (t145 > 41)), (by first | rfl | (simp; done) | (simp [*]; done)), H', ⟨by first | omega | exact Nat.le_refl _⟩, ⟨by (with_reducible repeat (first | apply Kd.R_alloc | apply Kd.R_drewN | apply Kd.R_drew)); exact Kd.R_mono HO136.out (fun _ hk => trivial)⟩, ⟨kX BK128.out⟩, ⟨kX BK129.out⟩, ⟨kX BK137.out⟩, ⟨bX HB⟩⟩
  case rest =>
   clear HC8
   try clear c1
   try clear c2
   try clear p2
   try clear c3
   try clear c6
   try clear p6
   try clear c7
   try clear c7b0
   try clear c7b1
   try clear c8
   try clear c11
   try clear c15
   try clear c16
   try clear c22
   try clear c22b0
   try clear c22b1
   try clear c22b2
   try clear c23
   try clear c24
   try clear c26
   try clear c26b0
   try clear c27
   try clear c28
   try clear c30
   try clear c31
   try clear hcz12_0 hfz12_0
   try clear hcz17_0 hcz17_1 hcz17_2 hcz17_3 hcz17_4 hfz17_0 hfz17_1 hfz17_2 hfz17_3 hfz17_4
   try clear hcz25_0 hcz25_1 hcz25_2 hcz25_3 hcz25_4 hfz25_0 hfz25_1 hfz25_2 hfz25_3 hfz25_4
   try clear hcz29_0 hcz29_1 hcz29_2 hcz29_3 hcz29_4 hfz29_0 hfz29_1 hfz29_2 hfz29_3 hfz29_4
   try clear hcz32_0 hcz32_1 hcz32_2 hcz32_3 hcz32_4 hfz32_0 hfz32_1 hfz32_2 hfz32_3 hfz32_4
   obtain ⟨kq, x51_7, rfl, HA, HJ7, HO_138004, BK128, BK129, BK137, HB⟩ := hcut
   cases kq with
   | zero => exact absurd HA.out (by simp [panachetop_TopEnoughSticks.j1])
   | succ kj7 =>
    have H := HA.out
    clear HA
    simp only [panachetop_TopEnoughSticks.j1] at H
    by_cases c33 : x51_7 = true
    ·subst c33
     have H1 : (some false) = some r := by rw [if_pos rfl] at H; exact H
     clear H
     have H := H1
     clear H1
     obtain rfl := Option.some.inj H
     go_wp2
     go_ret
     exact ⟨by first | rfl | (simp [errW_none, errW_some] <;> rfl) | (simp [*, errW_none, errW_some] <;> rfl), bX HB⟩
    ·replace c33 := Bool.eq_false_iff.mpr c33
     subst c33
     have H1 : ((panachetop_Ivory_loss.f l1_0 a1_1 a1_2 a1_3 a1_4 a1_5 a1_6 a1_7 a1_8).bind fun bt148 => ((stick_Give.f bt148.1 bt148.2 t145).bind fun bt150 => (if bt150.2 = 0 then (panachetop_TopEnoughSticks.l0 kj7 a2 bt150.1 0 l1_0 a1_1 a1_2 a1_3 a1_4 a1_5 a1_6 a1_7 a1_8 t130 t131 t132 t133 t134) else (some false)))) = some r := by rw [if_neg (show ¬ (false = true) by decide)] at H; exact H
     clear H
     have H := H1
     clear H1
     replace H := Option.bind_eq_some_iff.mp H
     obtain ⟨⟨t148, t149⟩, A340, H⟩ := H
     try dsimp only at H
     have A34 := Aside0.mk A340
     clear A340
     replace H := Option.bind_eq_some_iff.mp H
     obtain ⟨⟨t150, t151⟩, A350, H⟩ := H
     try dsimp only at H
     have A35 := Aside0.mk A350
     clear A350
     by_cases c36 : t151 = 0
     ·rw [if_pos c36] at H
      have c36b0 : (t151 == 0) = true := beq_iff_eq.mpr c36
      have c36b1 : (t151 != 0) = false := bne_eq_false_iff_eq.mpr c36
      clear c36
      have H' := Aside0.mk H
      clear H
      have hnb37 := NB129_128.out
      have hnc37 := NB128_129.out
      have hnb38 := NB129_137.out
      have hnc38 := NB137_129.out
      have hcz39_0 : wc.cell? ⟨gb129, 0, none⟩ = some (.slice A1_0 l1_0.length c1_0) := (blk_cell BK129.out 0).trans rfl
      have hcz39_1 : wc.cell? ⟨gb129, 1, none⟩ = some (.int .u8 a1_1) := (blk_cell BK129.out 1).trans rfl
      have hcz39_2 : wc.cell? ⟨gb129, 2, none⟩ = some (.int .u8 a1_2) := (blk_cell BK129.out 2).trans rfl
      have hcz39_3 : wc.cell? ⟨gb129, 3, none⟩ = some (.int .u8 a1_3) := (blk_cell BK129.out 3).trans rfl
      have hcz39_4 : wc.cell? ⟨gb129, 4, none⟩ = some (.int .u8 a1_4) := (blk_cell BK129.out 4).trans rfl
      have hcz39_5 : wc.cell? ⟨gb129, 5, none⟩ = some (.int .u8 a1_5) := (blk_cell BK129.out 5).trans rfl
      have hcz39_6 : wc.cell? ⟨gb129, 6, none⟩ = some (.int .u8 a1_6) := (blk_cell BK129.out 6).trans rfl
      have hcz39_7 : wc.cell? ⟨gb129, 7, none⟩ = some (.int .u8 a1_7) := (blk_cell BK129.out 7).trans rfl
      have hcz39_8 : wc.cell? ⟨gb129, 8, none⟩ = some (.int .u8 a1_8) := (blk_cell BK129.out 8).trans rfl
      have hfz39_0 := blk_frozen BK129.out 0
      have hfz39_1 := blk_frozen BK129.out 1
      have hfz39_2 := blk_frozen BK129.out 2
      have hfz39_3 := blk_frozen BK129.out 3
      have hfz39_4 := blk_frozen BK129.out 4
      have hfz39_5 := blk_frozen BK129.out 5
      have hfz39_6 := blk_frozen BK129.out 6
      have hfz39_7 := blk_frozen BK129.out 7
      have hfz39_8 := blk_frozen BK129.out 8
      go_wp2_with (first | ((with_reducible refine gate_callee (f := 11) rfl ?_); refine goesA (some 54) Tryz.func11 #[.agg #[.slice A1_0 l1_0.length c1_0, .int .u8 a1_1, .int .u8 a1_2, .int .u8 a1_3, .int .u8 a1_4, .int .u8 a1_5, .int .u8 a1_6, .int .u8 a1_7, .int .u8 a1_8]] ?_; (with_reducible refine (panachetop_Ivory_loss.calls _ _ l1_0 a1_1 a1_2 a1_3 a1_4 a1_5 a1_6 a1_7 a1_8 t148 t149 _ ?side1 ?side2 A34.out).mono ?_); (case side1 => exact sX (Kd.C_below HR1_0.out HB.out)); (case side2 => exact HC1_0.out); rintro e w40 ⟨rfl, hb⟩; refine ⟨_, rfl, ?_⟩; replace HO_138004 := rB HO_138004 hb; replace BK128 := kB BK128 hb; replace BK129 := kB BK129 hb; replace BK137 := kB BK137 hb; replace HB := bS HB hb; (try clear hb); (try clear hb2); (try clear hk); (try clear hi)) | ((with_reducible refine gate_callee (f := 10) rfl ?_); refine goesA (some 56) Tryz.func10 #[.agg #[.int .i64 t148, .int .i64 t149], .int .i64 t145] ?_; (with_reducible refine (stick_Give.calls t148 t149 t145 t150 t151 _ A35.out).mono ?_); rintro e w41 ⟨rfl, hb⟩; refine ⟨_, rfl, ?_⟩; replace HO_138004 := rB HO_138004 hb; replace BK128 := kB BK128 hb; replace BK129 := kB BK129 hb; replace BK137 := kB BK137 hb; replace HB := bS HB hb; (try clear hb); (try clear hb2); (try clear hk); (try clear hi)))
      go_loopg [12] kj7 (fun kq v12 w' => ∃ (x12_2 : Int), v12 = .int .i64 x12_2 ∧ Aside0 (panachetop_TopEnoughSticks.l0 kq a2 t150 x12_2 l1_0 a1_1 a1_2 a1_3 a1_4 a1_5 a1_6 a1_7 a1_8 t130 t131 t132 t133 t134 = some r) ∧ Aside0 (kq ≤ kj7) ∧ Aside0 (Kd.R k47 47 w' w.heap.size (fun _ => True) (.slice Ao18 t134.length co18) t134) ∧ Aside0 (w'.heap[gb128]? = some (.cells #[(.slice A0_0 l0_0.length c0_0)] 24 (0, 0))) ∧ Aside0 (w'.heap[gb129]? = some (.cells #[(.slice A1_0 l1_0.length c1_0), .int .u8 a1_1, .int .u8 a1_2, .int .u8 a1_3, .int .u8 a1_4, .int .u8 a1_5, .int .u8 a1_6, .int .u8 a1_7, .int .u8 a1_8] 28 (0, 0))) ∧ Aside0 (w'.heap[gb137]? = some (.cells #[.int .i64 t130, .int .i64 t131, .int .i64 t132, .int .i64 t133, (.slice Ao18 t134.length co18)] 33 (0, 0))) ∧ Aside0 (Below w.heap.size w w'))
      case atStart => exact ⟨(0), (by first | rfl | (simp; done) | (simp [*]; done)), H', ⟨Nat.le_refl _⟩, ⟨rX HO_138004.out⟩, ⟨kX BK128.out⟩, ⟨kX BK129.out⟩, ⟨kX BK137.out⟩, ⟨bX HB⟩⟩
      case round =>
       clear H'
       try clear c1
       try clear c2
       try clear p2
       try clear c3
       try clear c6
       try clear p6
       try clear c7
       try clear c7b0
       try clear c7b1
       try clear c8
       try clear c10
       try clear c11
       try clear c15
       try clear c16
       try clear c22
       try clear c22b0
       try clear c22b1
       try clear c22b2
       try clear c23
       try clear c24
       try clear c26
       try clear c26b0
       try clear c27
       try clear c28
       try clear c30
       try clear c31
       try clear c33
       try clear c36
       try clear c36b0
       try clear c36b1
       try clear c37
       try clear c38
       try clear hcz12_0 hfz12_0
       try clear hcz17_0 hcz17_1 hcz17_2 hcz17_3 hcz17_4 hfz17_0 hfz17_1 hfz17_2 hfz17_3 hfz17_4
       try clear hcz25_0 hcz25_1 hcz25_2 hcz25_3 hcz25_4 hfz25_0 hfz25_1 hfz25_2 hfz25_3 hfz25_4
       try clear hcz29_0 hcz29_1 hcz29_2 hcz29_3 hcz29_4 hfz29_0 hfz29_1 hfz29_2 hfz29_3 hfz29_4
       try clear hcz32_0 hcz32_1 hcz32_2 hcz32_3 hcz32_4 hfz32_0 hfz32_1 hfz32_2 hfz32_3 hfz32_4
       try clear hcz39_0 hcz39_1 hcz39_2 hcz39_3 hcz39_4 hcz39_5 hcz39_6 hcz39_7 hcz39_8 hfz39_0 hfz39_1 hfz39_2 hfz39_3 hfz39_4 hfz39_5 hfz39_6 hfz39_7 hfz39_8
       try clear p2
       try clear p6
       obtain ⟨x12_2, rfl, HA, HK2, HO_138004, BK128, BK129, BK137, HB⟩ := hrel
       cases gk with
       | zero => exact absurd HA.out (by simp [panachetop_TopEnoughSticks.l0])
       | succ k2 =>
        have H := HA.out
        clear HA
        simp only [panachetop_TopEnoughSticks.l0] at H
        by_cases c42 : x12_2 < 2
        ·rw [if_pos c42] at H
         have c42b0 : decide (x12_2 < 2) = true := decide_eq_true c42
         clear c42
         replace H := Option.bind_eq_some_iff.mp H
         obtain ⟨⟨t152, t153⟩, A430, H⟩ := H
         try dsimp only at H
         have A43 := Aside0.mk A430
         clear A430
         obtain ⟨ji44, hji44⟩ : ∃ j_ : Int, (mx 0 (wrap64 (t150 - x12_2))) = j_ := ⟨_, rfl⟩
         replace H : ((stick_Whole.f t152 t153 (ji44)).bind fun bt154 => (if bt154.2.2 = 0 then (if bt154.1 < 0 then (panachetop_TopEnoughSticks.j3 k2 a2 t150 x12_2 true l1_0 a1_1 a1_2 a1_3 a1_4 a1_5 a1_6 a1_7 a1_8 t130 t131 t132 t133 t134 bt154.1 bt154.2.1) else (panachetop_TopEnoughSticks.j3 k2 a2 t150 x12_2 (decide (bt154.1 > t150)) l1_0 a1_1 a1_2 a1_3 a1_4 a1_5 a1_6 a1_7 a1_8 t130 t131 t132 t133 t134 bt154.1 bt154.2.1)) else (panachetop_TopEnoughSticks.j3 k2 a2 t150 x12_2 true l1_0 a1_1 a1_2 a1_3 a1_4 a1_5 a1_6 a1_7 a1_8 t130 t131 t132 t133 t134 bt154.1 bt154.2.1))) = some r := by first | (rw [hji44] at H; exact H) | (simp only [hji44] at H ⊢; exact H)
         (try rw [hji44] at A43)
         have hji44_ : (if 0 < (wrap64 (t150 - x12_2)) then (wrap64 (t150 - x12_2)) else 0) = ji44 := hji44
         replace H := Option.bind_eq_some_iff.mp H
         obtain ⟨⟨t154, t155, t156⟩, A450, H⟩ := H
         try dsimp only at H
         have A45 := Aside0.mk A450
         clear A450
         have HC46 := Aside0.mk H
         clear H
         have hnb47 := NB129_128.out
         have hnc47 := NB128_129.out
         have hnb48 := NB129_137.out
         have hnc48 := NB137_129.out
         have hcz49_0 : wr.cell? ⟨gb129, 0, none⟩ = some (.slice A1_0 l1_0.length c1_0) := (blk_cell BK129.out 0).trans rfl
         have hcz49_1 : wr.cell? ⟨gb129, 1, none⟩ = some (.int .u8 a1_1) := (blk_cell BK129.out 1).trans rfl
         have hcz49_2 : wr.cell? ⟨gb129, 2, none⟩ = some (.int .u8 a1_2) := (blk_cell BK129.out 2).trans rfl
         have hcz49_3 : wr.cell? ⟨gb129, 3, none⟩ = some (.int .u8 a1_3) := (blk_cell BK129.out 3).trans rfl
         have hcz49_4 : wr.cell? ⟨gb129, 4, none⟩ = some (.int .u8 a1_4) := (blk_cell BK129.out 4).trans rfl
         have hcz49_5 : wr.cell? ⟨gb129, 5, none⟩ = some (.int .u8 a1_5) := (blk_cell BK129.out 5).trans rfl
         have hcz49_6 : wr.cell? ⟨gb129, 6, none⟩ = some (.int .u8 a1_6) := (blk_cell BK129.out 6).trans rfl
         have hcz49_7 : wr.cell? ⟨gb129, 7, none⟩ = some (.int .u8 a1_7) := (blk_cell BK129.out 7).trans rfl
         have hcz49_8 : wr.cell? ⟨gb129, 8, none⟩ = some (.int .u8 a1_8) := (blk_cell BK129.out 8).trans rfl
         have hfz49_0 := blk_frozen BK129.out 0
         have hfz49_1 := blk_frozen BK129.out 1
         have hfz49_2 := blk_frozen BK129.out 2
         have hfz49_3 := blk_frozen BK129.out 3
         have hfz49_4 := blk_frozen BK129.out 4
         have hfz49_5 := blk_frozen BK129.out 5
         have hfz49_6 := blk_frozen BK129.out 6
         have hfz49_7 := blk_frozen BK129.out 7
         have hfz49_8 := blk_frozen BK129.out 8
         go_upto_region 14 with (first | ((with_reducible refine gate_callee (f := 11) rfl ?_); refine goesA (some 67) Tryz.func11 #[.agg #[.slice A1_0 l1_0.length c1_0, .int .u8 a1_1, .int .u8 a1_2, .int .u8 a1_3, .int .u8 a1_4, .int .u8 a1_5, .int .u8 a1_6, .int .u8 a1_7, .int .u8 a1_8]] ?_; (with_reducible refine (panachetop_Ivory_loss.calls _ _ l1_0 a1_1 a1_2 a1_3 a1_4 a1_5 a1_6 a1_7 a1_8 t152 t153 _ ?side1 ?side2 A43.out).mono ?_); (case side1 => exact sX (Kd.C_below HR1_0.out HB.out)); (case side2 => exact HC1_0.out); rintro e w50 ⟨rfl, hb⟩; refine ⟨_, rfl, ?_⟩; replace HO_138004 := rB HO_138004 hb; replace BK128 := kB BK128 hb; replace BK129 := kB BK129 hb; replace BK137 := kB BK137 hb; replace HB := bS HB hb; (try clear hb); (try clear hb2); (try clear hk); (try clear hi)) | ((with_reducible refine gate_callee (f := 12) rfl ?_); refine goesL_ (some 72) rfl rfl Tryz.func12 (by kernel_rfl) rfl #[.agg #[.int .i64 t152, .int .i64 t153], .int .i64 ji44] rfl (by (try simp only [List.map_toArray, List.map_cons, List.map_nil]); first | done | (simp only [hji44]; rfl) | rfl | (simp only [List.length_drop, List.length_take]; rfl)) ?_; (with_reducible refine (stick_Whole.calls t152 t153 ji44 t154 t155 t156 _ A45.out).mono ?_); rintro e w51 ⟨rfl, hb⟩; refine ⟨_, rfl, ?_⟩; replace HO_138004 := rB HO_138004 hb; replace BK128 := kB BK128 hb; replace BK129 := kB BK129 hb; replace BK137 := kB BK137 hb; replace HB := bS HB hb; (try clear hb); (try clear hb2); (try clear hk); (try clear hi)) | ((with_reducible refine gate_dst (N := 13) rfl ?_); refine boxA (N := 13) (cs := #[.int .i64 0, .int .i64 0]) (t := 30) ?_; intro gb157 hg w52 hbox hb; have BK157 := Aside0.mk (hbox); have GW157 := bG HB hg; have GE157 := bG HB hg; have NB128_157 := kN BK128 hg; have NB157_128 := kM BK128 hg; have NB129_157 := kN BK129 hg; have NB157_129 := kM BK129 hg; have NB137_157 := kN BK137 hg; have NB157_137 := kM BK137 hg; replace HO_138004 := rB HO_138004 hb; replace BK128 := kB BK128 hb; replace BK129 := kB BK129 hb; replace BK137 := kB BK137 hb; replace HB := bS HB hb; clear hb hbox hg; have hnb53 := NB157_128.out; have hnc53 := NB128_157.out; have hnb54 := NB157_129.out; have hnc54 := NB129_157.out; have hnb55 := NB157_137.out; have hnc55 := NB137_157.out; obtain ⟨hcz56_0, hcz56_1, hfz56_0, hfz56_1⟩ := cc2 BK157))
         (try simp only [Act.put, List.setIfInBounds_toArray, List.set_cons_zero, List.set_cons_succ])
         go_cut [87] (fun v87 wc => ∃ (kq : Nat) (x87_45 : Bool), v87 = .bool x87_45 ∧ Aside0 (panachetop_TopEnoughSticks.j3 kq a2 t150 x12_2 x87_45 l1_0 a1_1 a1_2 a1_3 a1_4 a1_5 a1_6 a1_7 a1_8 t130 t131 t132 t133 t134 t154 t155 = some r) ∧ Aside0 (kq ≤ k2) ∧ Aside0 (Kd.R k47 47 wc w.heap.size (fun _ => True) (.slice Ao18 t134.length co18) t134) ∧ Aside0 (wc.heap[gb128]? = some (.cells #[(.slice A0_0 l0_0.length c0_0)] 24 (0, 0))) ∧ Aside0 (wc.heap[gb129]? = some (.cells #[(.slice A1_0 l1_0.length c1_0), .int .u8 a1_1, .int .u8 a1_2, .int .u8 a1_3, .int .u8 a1_4, .int .u8 a1_5, .int .u8 a1_6, .int .u8 a1_7, .int .u8 a1_8] 28 (0, 0))) ∧ Aside0 (wc.heap[gb137]? = some (.cells #[.int .i64 t130, .int .i64 t131, .int .i64 t132, .int .i64 t133, (.slice Ao18 t134.length co18)] 33 (0, 0))) ∧ Aside0 (wc.heap[gb157]? = some (.cells #[.int .i64 t154, .int .i64 t155] 30 (0, 0))) ∧ Aside0 (Below w.heap.size w wc))
         case first =>
          have H := HC46.out
          clear HC46
          by_cases c57 : t156 = 0
          ·rw [if_pos c57] at H
           have c57b0 : (t156 == 0) = true := beq_iff_eq.mpr c57
           have c57b1 : (t156 != 0) = false := bne_eq_false_iff_eq.mpr c57
           clear c57
           (first | rw [c57b0] | (simp only [i64_w, i32_w]; rw [c57b0]) | skip)
           by_cases c58 : t154 < 0
           ·rw [if_pos c58] at H
            have c58b0 : decide (t154 < 0) = true := decide_eq_true c58
            clear c58
            have H' := Aside0.mk H
            clear H
            have hnb59 := NB157_128.out
            have hnc59 := NB128_157.out
            have hnb60 := NB157_129.out
            have hnc60 := NB129_157.out
            have hnb61 := NB157_137.out
            have hnc61 := NB137_157.out
            obtain ⟨hcz62_0, hcz62_1, hfz62_0, hfz62_1⟩ := cc2 BK157
            go_wp2
            go_meet
            case rel => exact ⟨_, (true), (by first | rfl | (simp; done) | (simp [*]; done)), H', ⟨by have := HJ7.out; have := HK2.out; first | omega | exact Nat.le_refl _⟩, ⟨by (with_reducible repeat (first | apply Kd.R_alloc | apply Kd.R_drewN | apply Kd.R_drew)); exact Kd.R_mono (Kd.R_far (p := ⟨gb157, 1, none⟩) (Kd.R_far (p := ⟨gb157, 0, none⟩) (Kd.R_types HO_138004.out BK157.out (by decide)) (fun _ hk => hk.2) (.int .i64 t154)) (fun _ hk => hk.2) (.int .i64 t155)) (fun _ hk => trivial)⟩, ⟨by (with_reducible repeat (first | refine blk_drewN ?_ _ | refine blk_drew ?_ | refine blk_alloc ?_ _)); refine blk_far ?_ NB128_157.out _; (with_reducible repeat (first | refine blk_drewN ?_ _ | refine blk_drew ?_ | refine blk_alloc ?_ _)); refine blk_far ?_ NB128_157.out _; (with_reducible repeat (first | refine blk_drewN ?_ _ | refine blk_drew ?_ | refine blk_alloc ?_ _)); exact BK128.out⟩, ⟨by (with_reducible repeat (first | refine blk_drewN ?_ _ | refine blk_drew ?_ | refine blk_alloc ?_ _)); refine blk_far ?_ NB129_157.out _; (with_reducible repeat (first | refine blk_drewN ?_ _ | refine blk_drew ?_ | refine blk_alloc ?_ _)); refine blk_far ?_ NB129_157.out _; (with_reducible repeat (first | refine blk_drewN ?_ _ | refine blk_drew ?_ | refine blk_alloc ?_ _)); exact BK129.out⟩, ⟨by (with_reducible repeat (first | refine blk_drewN ?_ _ | refine blk_drew ?_ | refine blk_alloc ?_ _)); refine blk_far ?_ NB137_157.out _; (with_reducible repeat (first | refine blk_drewN ?_ _ | refine blk_drew ?_ | refine blk_alloc ?_ _)); refine blk_far ?_ NB137_157.out _; (with_reducible repeat (first | refine blk_drewN ?_ _ | refine blk_drew ?_ | refine blk_alloc ?_ _)); exact BK137.out⟩, ⟨by (with_reducible repeat (first | refine blk_drewN ?_ _ | refine blk_drew ?_ | refine blk_alloc ?_ _)); refine blk_put (cs := #[.int .i64 t154, .int .i64 0]) ?_ 1 _ rfl; (with_reducible repeat (first | refine blk_drewN ?_ _ | refine blk_drew ?_ | refine blk_alloc ?_ _)); refine blk_put (cs := #[.int .i64 0, .int .i64 0]) ?_ 0 _ rfl; (with_reducible repeat (first | refine blk_drewN ?_ _ | refine blk_drew ?_ | refine blk_alloc ?_ _)); exact BK157.out⟩, ⟨bX HB⟩⟩
           ·rw [if_neg c58] at H
            have c58b0 : decide (t154 < 0) = false := decide_eq_false c58
            clear c58
            have H' := Aside0.mk H
            clear H
            have hnb63 := NB157_128.out
            have hnc63 := NB128_157.out
            have hnb64 := NB157_129.out
            have hnc64 := NB129_157.out
            have hnb65 := NB157_137.out
            have hnc65 := NB137_157.out
            obtain ⟨hcz66_0, hcz66_1, hfz66_0, hfz66_1⟩ := cc2 BK157
            go_wp2
            go_meet
            case rel => exact ⟨_, (decide (t154 > t150)), (by first | rfl | (simp; done) | (simp [*]; done)), H', ⟨by have := HJ7.out; have := HK2.out; first | omega | exact Nat.le_refl _⟩, ⟨by (with_reducible repeat (first | apply Kd.R_alloc | apply Kd.R_drewN | apply Kd.R_drew)); exact Kd.R_mono (Kd.R_far (p := ⟨gb157, 1, none⟩) (Kd.R_far (p := ⟨gb157, 0, none⟩) (Kd.R_types HO_138004.out BK157.out (by decide)) (fun _ hk => hk.2) (.int .i64 t154)) (fun _ hk => hk.2) (.int .i64 t155)) (fun _ hk => trivial)⟩, ⟨by (with_reducible repeat (first | refine blk_drewN ?_ _ | refine blk_drew ?_ | refine blk_alloc ?_ _)); refine blk_far ?_ NB128_157.out _; (with_reducible repeat (first | refine blk_drewN ?_ _ | refine blk_drew ?_ | refine blk_alloc ?_ _)); refine blk_far ?_ NB128_157.out _; (with_reducible repeat (first | refine blk_drewN ?_ _ | refine blk_drew ?_ | refine blk_alloc ?_ _)); exact BK128.out⟩, ⟨by (with_reducible repeat (first | refine blk_drewN ?_ _ | refine blk_drew ?_ | refine blk_alloc ?_ _)); refine blk_far ?_ NB129_157.out _; (with_reducible repeat (first | refine blk_drewN ?_ _ | refine blk_drew ?_ | refine blk_alloc ?_ _)); refine blk_far ?_ NB129_157.out _; (with_reducible repeat (first | refine blk_drewN ?_ _ | refine blk_drew ?_ | refine blk_alloc ?_ _)); exact BK129.out⟩, ⟨by (with_reducible repeat (first | refine blk_drewN ?_ _ | refine blk_drew ?_ | refine blk_alloc ?_ _)); refine blk_far ?_ NB137_157.out _; (with_reducible repeat (first | refine blk_drewN ?_ _ | refine blk_drew ?_ | refine blk_alloc ?_ _)); refine blk_far ?_ NB137_157.out _; (with_reducible repeat (first | refine blk_drewN ?_ _ | refine blk_drew ?_ | refine blk_alloc ?_ _)); exact BK137.out⟩, ⟨by (with_reducible repeat (first | refine blk_drewN ?_ _ | refine blk_drew ?_ | refine blk_alloc ?_ _)); refine blk_put (cs := #[.int .i64 t154, .int .i64 0]) ?_ 1 _ rfl; (with_reducible repeat (first | refine blk_drewN ?_ _ | refine blk_drew ?_ | refine blk_alloc ?_ _)); refine blk_put (cs := #[.int .i64 0, .int .i64 0]) ?_ 0 _ rfl; (with_reducible repeat (first | refine blk_drewN ?_ _ | refine blk_drew ?_ | refine blk_alloc ?_ _)); exact BK157.out⟩, ⟨bX HB⟩⟩
          ·rw [if_neg c57] at H
           have c57b0 : (t156 == 0) = false := beq_eq_false_iff_ne.mpr c57
           have c57b1 : (t156 != 0) = true := bne_iff_ne.mpr c57
           (first | rw [c57b0] | (simp only [i64_w, i32_w]; rw [c57b0]) | skip)
           have H' := Aside0.mk H
           clear H
           go_wp2
           go_meet
           case rel => exact ⟨_, (true), (by first | rfl | (simp; done) | (simp [*]; done)), H', ⟨by have := HJ7.out; have := HK2.out; first | omega | exact Nat.le_refl _⟩, ⟨by (with_reducible repeat (first | apply Kd.R_alloc | apply Kd.R_drewN | apply Kd.R_drew)); exact Kd.R_mono (Kd.R_far (p := ⟨gb157, 1, none⟩) (Kd.R_far (p := ⟨gb157, 0, none⟩) (Kd.R_types HO_138004.out BK157.out (by decide)) (fun _ hk => hk.2) (.int .i64 t154)) (fun _ hk => hk.2) (.int .i64 t155)) (fun _ hk => trivial)⟩, ⟨by (with_reducible repeat (first | refine blk_drewN ?_ _ | refine blk_drew ?_ | refine blk_alloc ?_ _)); refine blk_far ?_ NB128_157.out _; (with_reducible repeat (first | refine blk_drewN ?_ _ | refine blk_drew ?_ | refine blk_alloc ?_ _)); refine blk_far ?_ NB128_157.out _; (with_reducible repeat (first | refine blk_drewN ?_ _ | refine blk_drew ?_ | refine blk_alloc ?_ _)); exact BK128.out⟩, ⟨by (with_reducible repeat (first | refine blk_drewN ?_ _ | refine blk_drew ?_ | refine blk_alloc ?_ _)); refine blk_far ?_ NB129_157.out _; (with_reducible repeat (first | refine blk_drewN ?_ _ | refine blk_drew ?_ | refine blk_alloc ?_ _)); refine blk_far ?_ NB129_157.out _; (with_reducible repeat (first | refine blk_drewN ?_ _ | refine blk_drew ?_ | refine blk_alloc ?_ _)); exact BK129.out⟩, ⟨by (with_reducible repeat (first | refine blk_drewN ?_ _ | refine blk_drew ?_ | refine blk_alloc ?_ _)); refine blk_far ?_ NB137_157.out _; (with_reducible repeat (first | refine blk_drewN ?_ _ | refine blk_drew ?_ | refine blk_alloc ?_ _)); refine blk_far ?_ NB137_157.out _; (with_reducible repeat (first | refine blk_drewN ?_ _ | refine blk_drew ?_ | refine blk_alloc ?_ _)); exact BK137.out⟩, ⟨by (with_reducible repeat (first | refine blk_drewN ?_ _ | refine blk_drew ?_ | refine blk_alloc ?_ _)); refine blk_put (cs := #[.int .i64 t154, .int .i64 0]) ?_ 1 _ rfl; (with_reducible repeat (first | refine blk_drewN ?_ _ | refine blk_drew ?_ | refine blk_alloc ?_ _)); refine blk_put (cs := #[.int .i64 0, .int .i64 0]) ?_ 0 _ rfl; (with_reducible repeat (first | refine blk_drewN ?_ _ | refine blk_drew ?_ | refine blk_alloc ?_ _)); exact BK157.out⟩, ⟨bX HB⟩⟩
         case rest =>
          clear HC46
          try clear c1
          try clear c2
          try clear p2
          try clear c3
          try clear c4
          try clear c5
          try clear c6
          try clear p6
          try clear c7
          try clear c7b0
          try clear c7b1
          try clear c8
          try clear c10
          try clear c11
          try clear c12
          try clear c15
          try clear c16
          try clear c22
          try clear c22b0
          try clear c22b1
          try clear c22b2
          try clear c23
          try clear c24
          try clear c26
          try clear c26b0
          try clear c27
          try clear c28
          try clear c30
          try clear c31
          try clear c33
          try clear c36
          try clear c36b0
          try clear c36b1
          try clear c37
          try clear c38
          try clear c42
          try clear c42b0
          try clear c47
          try clear c48
          try clear c53
          try clear c54
          try clear c55
          try clear c57
          try clear c57b0
          try clear c57b1
          try clear c58
          try clear c58b0
          try clear c59
          try clear c60
          try clear c61
          try clear c63
          try clear c64
          try clear p64
          try clear c65
          try clear hcz12_0 hfz12_0
          try clear hcz17_0 hcz17_1 hcz17_2 hcz17_3 hcz17_4 hfz17_0 hfz17_1 hfz17_2 hfz17_3 hfz17_4
          try clear hcz25_0 hcz25_1 hcz25_2 hcz25_3 hcz25_4 hfz25_0 hfz25_1 hfz25_2 hfz25_3 hfz25_4
          try clear hcz29_0 hcz29_1 hcz29_2 hcz29_3 hcz29_4 hfz29_0 hfz29_1 hfz29_2 hfz29_3 hfz29_4
          try clear hcz32_0 hcz32_1 hcz32_2 hcz32_3 hcz32_4 hfz32_0 hfz32_1 hfz32_2 hfz32_3 hfz32_4
          try clear hcz39_0 hcz39_1 hcz39_2 hcz39_3 hcz39_4 hcz39_5 hcz39_6 hcz39_7 hcz39_8 hfz39_0 hfz39_1 hfz39_2 hfz39_3 hfz39_4 hfz39_5 hfz39_6 hfz39_7 hfz39_8
          try clear hcz49_0 hcz49_1 hcz49_2 hcz49_3 hcz49_4 hcz49_5 hcz49_6 hcz49_7 hcz49_8 hfz49_0 hfz49_1 hfz49_2 hfz49_3 hfz49_4 hfz49_5 hfz49_6 hfz49_7 hfz49_8
          try clear hcz56_0 hcz56_1 hfz56_0 hfz56_1
          try clear hcz62_0 hcz62_1 hfz62_0 hfz62_1
          try clear hcz66_0 hcz66_1 hfz66_0 hfz66_1
          try clear p2
          try clear p6
          obtain ⟨kq, x87_45, rfl, HA, HJ45, HO_138004, BK128, BK129, BK137, BK157, HB⟩ := hcut
          cases kq with
          | zero => exact absurd HA.out (by simp [panachetop_TopEnoughSticks.j3])
          | succ kj45 =>
           have H := HA.out
           clear HA
           simp only [panachetop_TopEnoughSticks.j3] at H
           by_cases c67 : x87_45 = true
           ·subst c67
            have H1 : (some false) = some r := by rw [if_pos rfl] at H; exact H
            clear H
            have H := H1
            clear H1
            obtain rfl := Option.some.inj H
            go_wp2
            go_ret
            exact ⟨by first | rfl | (simp [errW_none, errW_some] <;> rfl) | (simp only [← hji44]; first | rfl | (simp [errW_none, errW_some] <;> rfl)) | (simp [*, errW_none, errW_some] <;> rfl), bX HB⟩
           ·replace c67 := Bool.eq_false_iff.mpr c67
            subst c67
            have H1 : (panachetop_TopEnoughSticks.l1 kj45 a2 t150 x12_2 1 l1_0 a1_1 a1_2 a1_3 a1_4 a1_5 a1_6 a1_7 a1_8 t130 t131 t132 t133 t134 t154 t155 t130 t131 t132 t133 ([] : List (S47))) = some r := by rw [if_neg (show ¬ (false = true) by decide)] at H; exact H
            clear H
            have H := H1
            clear H1
            have H' := Aside0.mk H
            clear H
            have hnb68 := NB137_128.out
            have hnc68 := NB128_137.out
            have hnb69 := NB137_129.out
            have hnc69 := NB129_137.out
            have hnb70 := NB137_157.out
            have hnc70 := NB157_137.out
            obtain ⟨hcz71_0, hcz71_1, hcz71_2, hcz71_3, hcz71_4, hfz71_0, hfz71_1, hfz71_2, hfz71_3, hfz71_4⟩ := cc5 BK137
            go_wp2_with (first | ((with_reducible refine gate_dst (N := 15) rfl ?_); refine boxA (N := 15) (cs := #[.int .i64 0, .int .i64 0, .int .i64 0, .int .i64 0, .slice none 0 0]) (t := 33) ?_; intro gb158 hg w72 hbox hb; have BK158 := Aside0.mk (hbox); have GW158 := bG HB hg; have GE158 := bG HB hg; have NB128_158 := kN BK128 hg; have NB158_128 := kM BK128 hg; have NB129_158 := kN BK129 hg; have NB158_129 := kM BK129 hg; have NB137_158 := kN BK137 hg; have NB158_137 := kM BK137 hg; have NB157_158 := kN BK157 hg; have NB158_157 := kM BK157 hg; replace HO_138004 := rB HO_138004 hb; replace BK128 := kB BK128 hb; replace BK129 := kB BK129 hb; replace BK137 := kB BK137 hb; replace BK157 := kB BK157 hb; replace HB := bS HB hb; clear hb hbox hg; have hnb73 := NB158_128.out; have hnc73 := NB128_158.out; have hnb74 := NB158_129.out; have hnc74 := NB129_158.out; have hnb75 := NB158_137.out; have hnc75 := NB137_158.out; have hnb76 := NB158_157.out; have hnc76 := NB157_158.out; obtain ⟨hcz77_0, hcz77_1, hcz77_2, hcz77_3, hcz77_4, hfz77_0, hfz77_1, hfz77_2, hfz77_3, hfz77_4⟩ := cc5 BK158))
            go_loopg [16] kj45 (fun kq v16 w' => ∃ (x16_4 : Int) (x159004_4 : List (S47)) (u159004 : Value), v16 = .int .i64 x16_4 ∧ Aside0 (panachetop_TopEnoughSticks.l1 kq a2 t150 x12_2 x16_4 l1_0 a1_1 a1_2 a1_3 a1_4 a1_5 a1_6 a1_7 a1_8 t130 t131 t132 t133 t134 t154 t155 t130 t131 t132 t133 x159004_4 = some r) ∧ Aside0 (kq ≤ kj45) ∧ Aside0 (Kd.R k47 47 w' w.heap.size (fun k_ => some k_ ≠ (u159004 : Value).ownBlock) (.slice Ao18 t134.length co18) t134) ∧ Aside0 (Kd.R k47 47 w' w.heap.size (fun k_ => some k_ ≠ ((.slice Ao18 t134.length co18) : Value).ownBlock) u159004 x159004_4) ∧ Aside0 (w'.heap[gb128]? = some (.cells #[(.slice A0_0 l0_0.length c0_0)] 24 (0, 0))) ∧ Aside0 (w'.heap[gb129]? = some (.cells #[(.slice A1_0 l1_0.length c1_0), .int .u8 a1_1, .int .u8 a1_2, .int .u8 a1_3, .int .u8 a1_4, .int .u8 a1_5, .int .u8 a1_6, .int .u8 a1_7, .int .u8 a1_8] 28 (0, 0))) ∧ Aside0 (w'.heap[gb137]? = some (.cells #[.int .i64 t130, .int .i64 t131, .int .i64 t132, .int .i64 t133, (.slice Ao18 t134.length co18)] 33 (0, 0))) ∧ Aside0 (w'.heap[gb157]? = some (.cells #[.int .i64 t154, .int .i64 t155] 30 (0, 0))) ∧ Aside0 (w'.heap[gb158]? = some (.cells #[.int .i64 t130, .int .i64 t131, .int .i64 t132, .int .i64 t133, u159004] 33 (0, 0))) ∧ Aside0 (Below w.heap.size w w'))
            case atStart => exact ⟨(1), (([] : List (S47))), (.slice none 0 0), (by first | rfl | (simp; done) | (simp [*]; done)), H', ⟨Nat.le_refl _⟩, ⟨by (with_reducible repeat (first | apply Kd.R_alloc | apply Kd.R_drewN | apply Kd.R_drew)); exact Kd.R_mono (Kd.R_far (p := ⟨gb158, 4, none⟩) (Kd.R_far (p := ⟨gb158, 3, none⟩) (Kd.R_far (p := ⟨gb158, 2, none⟩) (Kd.R_far (p := ⟨gb158, 1, none⟩) (Kd.R_far (p := ⟨gb158, 0, none⟩) (Kd.R_types HO_138004.out BK158.out (by decide)) (fun _ hk => hk.2) (.int .i64 t130)) (fun _ hk => hk.2) (.int .i64 t131)) (fun _ hk => hk.2) (.int .i64 t132)) (fun _ hk => hk.2) (.int .i64 t133)) (fun _ hk => hk.2) (.slice none 0 0)) (fun _ hk => (by simp [Value.ownBlock]))⟩, ⟨by first | exact Kd.R_nil _ _ _ _ _ | exact Kd.N_nil _ _ _ _ _ | exact Kd.V_nil _ _ _ _ _ | exact Kd.Q_nil _ _ _ _ _ | exact Kd.S_nil _ _ _ _ _⟩, ⟨by (with_reducible repeat (first | refine blk_drewN ?_ _ | refine blk_drew ?_ | refine blk_alloc ?_ _)); refine blk_far ?_ NB128_158.out _; (with_reducible repeat (first | refine blk_drewN ?_ _ | refine blk_drew ?_ | refine blk_alloc ?_ _)); refine blk_far ?_ NB128_158.out _; (with_reducible repeat (first | refine blk_drewN ?_ _ | refine blk_drew ?_ | refine blk_alloc ?_ _)); refine blk_far ?_ NB128_158.out _; (with_reducible repeat (first | refine blk_drewN ?_ _ | refine blk_drew ?_ | refine blk_alloc ?_ _)); refine blk_far ?_ NB128_158.out _; (with_reducible repeat (first | refine blk_drewN ?_ _ | refine blk_drew ?_ | refine blk_alloc ?_ _)); refine blk_far ?_ NB128_158.out _; (with_reducible repeat (first | refine blk_drewN ?_ _ | refine blk_drew ?_ | refine blk_alloc ?_ _)); exact BK128.out⟩, ⟨by (with_reducible repeat (first | refine blk_drewN ?_ _ | refine blk_drew ?_ | refine blk_alloc ?_ _)); refine blk_far ?_ NB129_158.out _; (with_reducible repeat (first | refine blk_drewN ?_ _ | refine blk_drew ?_ | refine blk_alloc ?_ _)); refine blk_far ?_ NB129_158.out _; (with_reducible repeat (first | refine blk_drewN ?_ _ | refine blk_drew ?_ | refine blk_alloc ?_ _)); refine blk_far ?_ NB129_158.out _; (with_reducible repeat (first | refine blk_drewN ?_ _ | refine blk_drew ?_ | refine blk_alloc ?_ _)); refine blk_far ?_ NB129_158.out _; (with_reducible repeat (first | refine blk_drewN ?_ _ | refine blk_drew ?_ | refine blk_alloc ?_ _)); refine blk_far ?_ NB129_158.out _; (with_reducible repeat (first | refine blk_drewN ?_ _ | refine blk_drew ?_ | refine blk_alloc ?_ _)); exact BK129.out⟩, ⟨by (with_reducible repeat (first | refine blk_drewN ?_ _ | refine blk_drew ?_ | refine blk_alloc ?_ _)); refine blk_far ?_ NB137_158.out _; (with_reducible repeat (first | refine blk_drewN ?_ _ | refine blk_drew ?_ | refine blk_alloc ?_ _)); refine blk_far ?_ NB137_158.out _; (with_reducible repeat (first | refine blk_drewN ?_ _ | refine blk_drew ?_ | refine blk_alloc ?_ _)); refine blk_far ?_ NB137_158.out _; (with_reducible repeat (first | refine blk_drewN ?_ _ | refine blk_drew ?_ | refine blk_alloc ?_ _)); refine blk_far ?_ NB137_158.out _; (with_reducible repeat (first | refine blk_drewN ?_ _ | refine blk_drew ?_ | refine blk_alloc ?_ _)); refine blk_far ?_ NB137_158.out _; (with_reducible repeat (first | refine blk_drewN ?_ _ | refine blk_drew ?_ | refine blk_alloc ?_ _)); exact BK137.out⟩, ⟨by (with_reducible repeat (first | refine blk_drewN ?_ _ | refine blk_drew ?_ | refine blk_alloc ?_ _)); refine blk_far ?_ NB157_158.out _; (with_reducible repeat (first | refine blk_drewN ?_ _ | refine blk_drew ?_ | refine blk_alloc ?_ _)); refine blk_far ?_ NB157_158.out _; (with_reducible repeat (first | refine blk_drewN ?_ _ | refine blk_drew ?_ | refine blk_alloc ?_ _)); refine blk_far ?_ NB157_158.out _; (with_reducible repeat (first | refine blk_drewN ?_ _ | refine blk_drew ?_ | refine blk_alloc ?_ _)); refine blk_far ?_ NB157_158.out _; (with_reducible repeat (first | refine blk_drewN ?_ _ | refine blk_drew ?_ | refine blk_alloc ?_ _)); refine blk_far ?_ NB157_158.out _; (with_reducible repeat (first | refine blk_drewN ?_ _ | refine blk_drew ?_ | refine blk_alloc ?_ _)); exact BK157.out⟩, ⟨by (with_reducible repeat (first | refine blk_drewN ?_ _ | refine blk_drew ?_ | refine blk_alloc ?_ _)); refine blk_put (cs := #[.int .i64 t130, .int .i64 t131, .int .i64 t132, .int .i64 t133, .slice none 0 0]) ?_ 4 _ rfl; (with_reducible repeat (first | refine blk_drewN ?_ _ | refine blk_drew ?_ | refine blk_alloc ?_ _)); refine blk_put (cs := #[.int .i64 t130, .int .i64 t131, .int .i64 t132, .int .i64 0, .slice none 0 0]) ?_ 3 _ rfl; (with_reducible repeat (first | refine blk_drewN ?_ _ | refine blk_drew ?_ | refine blk_alloc ?_ _)); refine blk_put (cs := #[.int .i64 t130, .int .i64 t131, .int .i64 0, .int .i64 0, .slice none 0 0]) ?_ 2 _ rfl; (with_reducible repeat (first | refine blk_drewN ?_ _ | refine blk_drew ?_ | refine blk_alloc ?_ _)); refine blk_put (cs := #[.int .i64 t130, .int .i64 0, .int .i64 0, .int .i64 0, .slice none 0 0]) ?_ 1 _ rfl; (with_reducible repeat (first | refine blk_drewN ?_ _ | refine blk_drew ?_ | refine blk_alloc ?_ _)); refine blk_put (cs := #[.int .i64 0, .int .i64 0, .int .i64 0, .int .i64 0, .slice none 0 0]) ?_ 0 _ rfl; (with_reducible repeat (first | refine blk_drewN ?_ _ | refine blk_drew ?_ | refine blk_alloc ?_ _)); exact BK158.out⟩, ⟨bX HB⟩⟩
            case round =>
             clear H'
             try clear c1
             try clear c2
             try clear p2
             try clear c3
             try clear c4
             try clear c5
             try clear c6
             try clear p6
             try clear c7
             try clear c7b0
             try clear c7b1
             try clear c8
             try clear c10
             try clear c11
             try clear c12
             try clear c15
             try clear c16
             try clear c22
             try clear c22b0
             try clear c22b1
             try clear c22b2
             try clear c23
             try clear c24
             try clear c26
             try clear c26b0
             try clear c27
             try clear c28
             try clear c30
             try clear c31
             try clear c33
             try clear c36
             try clear c36b0
             try clear c36b1
             try clear c37
             try clear c38
             try clear c42
             try clear c42b0
             try clear c47
             try clear c48
             try clear c53
             try clear c54
             try clear c55
             try clear c57
             try clear c57b0
             try clear c57b1
             try clear c58
             try clear c58b0
             try clear c59
             try clear c60
             try clear c61
             try clear c63
             try clear c64
             try clear p64
             try clear c65
             try clear c67
             try clear c68
             try clear c69
             try clear c70
             try clear c73
             try clear c74
             try clear c75
             try clear c76
             try clear hcz12_0 hfz12_0
             try clear hcz17_0 hcz17_1 hcz17_2 hcz17_3 hcz17_4 hfz17_0 hfz17_1 hfz17_2 hfz17_3 hfz17_4
             try clear hcz25_0 hcz25_1 hcz25_2 hcz25_3 hcz25_4 hfz25_0 hfz25_1 hfz25_2 hfz25_3 hfz25_4
             try clear hcz29_0 hcz29_1 hcz29_2 hcz29_3 hcz29_4 hfz29_0 hfz29_1 hfz29_2 hfz29_3 hfz29_4
             try clear hcz32_0 hcz32_1 hcz32_2 hcz32_3 hcz32_4 hfz32_0 hfz32_1 hfz32_2 hfz32_3 hfz32_4
             try clear hcz39_0 hcz39_1 hcz39_2 hcz39_3 hcz39_4 hcz39_5 hcz39_6 hcz39_7 hcz39_8 hfz39_0 hfz39_1 hfz39_2 hfz39_3 hfz39_4 hfz39_5 hfz39_6 hfz39_7 hfz39_8
             try clear hcz49_0 hcz49_1 hcz49_2 hcz49_3 hcz49_4 hcz49_5 hcz49_6 hcz49_7 hcz49_8 hfz49_0 hfz49_1 hfz49_2 hfz49_3 hfz49_4 hfz49_5 hfz49_6 hfz49_7 hfz49_8
             try clear hcz56_0 hcz56_1 hfz56_0 hfz56_1
             try clear hcz62_0 hcz62_1 hfz62_0 hfz62_1
             try clear hcz66_0 hcz66_1 hfz66_0 hfz66_1
             try clear hcz71_0 hcz71_1 hcz71_2 hcz71_3 hcz71_4 hfz71_0 hfz71_1 hfz71_2 hfz71_3 hfz71_4
             try clear hcz77_0 hcz77_1 hcz77_2 hcz77_3 hcz77_4 hfz77_0 hfz77_1 hfz77_2 hfz77_3 hfz77_4
             try clear p2
             try clear p6
             try clear p64
             obtain ⟨x16_4, x159004_4, u159004, rfl, HA, HK4, HO_138004, HO_159004, BK128, BK129, BK137, BK157, BK158, HB⟩ := hrel
             cases gk with
             | zero => exact absurd HA.out (by simp [panachetop_TopEnoughSticks.l1])
             | succ k4 =>
              have H := HA.out
              clear HA
              simp only [panachetop_TopEnoughSticks.l1] at H
              have HC78 := Aside0.mk H
              clear H
              go_upto_region 18 with (fail)
              go_cut [100] (fun v100 wc => ∃ (kq : Nat) (x100_77 : Bool), v100 = .bool x100_77 ∧ Aside0 (panachetop_TopEnoughSticks.j5 kq a2 t150 x12_2 x16_4 x100_77 l1_0 a1_1 a1_2 a1_3 a1_4 a1_5 a1_6 a1_7 a1_8 t130 t131 t132 t133 t134 t154 t155 t130 t131 t132 t133 x159004_4 = some r) ∧ Aside0 (kq ≤ k4) ∧ Aside0 (Kd.R k47 47 wc w.heap.size (fun k_ => some k_ ≠ (u159004 : Value).ownBlock) (.slice Ao18 t134.length co18) t134) ∧ Aside0 (Kd.R k47 47 wc w.heap.size (fun k_ => some k_ ≠ ((.slice Ao18 t134.length co18) : Value).ownBlock) u159004 x159004_4) ∧ Aside0 (wc.heap[gb128]? = some (.cells #[(.slice A0_0 l0_0.length c0_0)] 24 (0, 0))) ∧ Aside0 (wc.heap[gb129]? = some (.cells #[(.slice A1_0 l1_0.length c1_0), .int .u8 a1_1, .int .u8 a1_2, .int .u8 a1_3, .int .u8 a1_4, .int .u8 a1_5, .int .u8 a1_6, .int .u8 a1_7, .int .u8 a1_8] 28 (0, 0))) ∧ Aside0 (wc.heap[gb137]? = some (.cells #[.int .i64 t130, .int .i64 t131, .int .i64 t132, .int .i64 t133, (.slice Ao18 t134.length co18)] 33 (0, 0))) ∧ Aside0 (wc.heap[gb157]? = some (.cells #[.int .i64 t154, .int .i64 t155] 30 (0, 0))) ∧ Aside0 (wc.heap[gb158]? = some (.cells #[.int .i64 t130, .int .i64 t131, .int .i64 t132, .int .i64 t133, u159004] 33 (0, 0))) ∧ Aside0 (Below w.heap.size w wc))
              case first =>
               have H := HC78.out
               clear HC78
               by_cases c79 : x16_4 < t154
               ·rw [if_pos c79] at H
                have c79b0 : decide (x16_4 < t154) = true := decide_eq_true c79
                clear c79
                (first | rw [c79b0] | (simp only [i64_w, i32_w]; rw [c79b0]) | skip)
                have H' := Aside0.mk H
                clear H
                have hnb80 := NB157_128.out
                have hnc80 := NB128_157.out
                have hnb81 := NB157_129.out
                have hnc81 := NB129_157.out
                have hnb82 := NB157_137.out
                have hnc82 := NB137_157.out
                have hnb83 := NB157_158.out
                have hnc83 := NB158_157.out
                obtain ⟨hcz84_0, hcz84_1, hfz84_0, hfz84_1⟩ := cc2 BK157
                go_wp2
                go_meet
                case rel => exact ⟨_, (decide (x16_4 ≤ 40)), (by first | rfl | (simp; done) | (simp [*]; done)), H', ⟨by have := HJ7.out; have := HK2.out; have := HJ45.out; have := HK4.out; first | omega | exact Nat.le_refl _⟩, ⟨rX HO_138004.out⟩, ⟨rX HO_159004.out⟩, ⟨kX BK128.out⟩, ⟨kX BK129.out⟩, ⟨kX BK137.out⟩, ⟨kX BK157.out⟩, ⟨kX BK158.out⟩, ⟨bX HB⟩⟩
               ·rw [if_neg c79] at H
                have c79b0 : decide (x16_4 < t154) = false := decide_eq_false c79
                clear c79
                (first | rw [c79b0] | (simp only [i64_w, i32_w]; rw [c79b0]) | skip)
                have H' := Aside0.mk H
                clear H
                have hnb85 := NB157_128.out
                have hnc85 := NB128_157.out
                have hnb86 := NB157_129.out
                have hnc86 := NB129_157.out
                have hnb87 := NB157_137.out
                have hnc87 := NB137_157.out
                have hnb88 := NB157_158.out
                have hnc88 := NB158_157.out
                obtain ⟨hcz89_0, hcz89_1, hfz89_0, hfz89_1⟩ := cc2 BK157
                go_wp2
                go_meet
                case rel => exact ⟨_, (false), (by first | rfl | (simp; done) | (simp [*]; done)), H', ⟨by have := HJ7.out; have := HK2.out; have := HJ45.out; have := HK4.out; first | omega | exact Nat.le_refl _⟩, ⟨rX HO_138004.out⟩, ⟨rX HO_159004.out⟩, ⟨kX BK128.out⟩, ⟨kX BK129.out⟩, ⟨kX BK137.out⟩, ⟨kX BK157.out⟩, ⟨kX BK158.out⟩, ⟨bX HB⟩⟩
              case rest =>
               clear HC78
               try clear c1
               try clear c2
               try clear p2
               try clear c3
               try clear c4
               try clear c5
               try clear c6
               try clear p6
               try clear c7
               try clear c7b0
               try clear c7b1
               try clear c8
               try clear c10
               try clear c11
               try clear c12
               try clear c15
               try clear c16
               try clear c22
               try clear c22b0
               try clear c22b1
               try clear c22b2
               try clear c23
               try clear c24
               try clear c26
               try clear c26b0
               try clear c27
               try clear c28
               try clear c30
               try clear c31
               try clear c33
               try clear c36
               try clear c36b0
               try clear c36b1
               try clear c37
               try clear c38
               try clear c42
               try clear c42b0
               try clear c47
               try clear c48
               try clear c53
               try clear c54
               try clear c55
               try clear c57
               try clear c57b0
               try clear c57b1
               try clear c58
               try clear c58b0
               try clear c59
               try clear c60
               try clear c61
               try clear c63
               try clear c64
               try clear p64
               try clear c65
               try clear c67
               try clear c68
               try clear c69
               try clear c70
               try clear c73
               try clear c74
               try clear c75
               try clear c76
               try clear c79
               try clear c79b0
               try clear c80
               try clear c81
               try clear c82
               try clear c83
               try clear c85
               try clear c86
               try clear c87
               try clear c88
               try clear hcz12_0 hfz12_0
               try clear hcz17_0 hcz17_1 hcz17_2 hcz17_3 hcz17_4 hfz17_0 hfz17_1 hfz17_2 hfz17_3 hfz17_4
               try clear hcz25_0 hcz25_1 hcz25_2 hcz25_3 hcz25_4 hfz25_0 hfz25_1 hfz25_2 hfz25_3 hfz25_4
               try clear hcz29_0 hcz29_1 hcz29_2 hcz29_3 hcz29_4 hfz29_0 hfz29_1 hfz29_2 hfz29_3 hfz29_4
               try clear hcz32_0 hcz32_1 hcz32_2 hcz32_3 hcz32_4 hfz32_0 hfz32_1 hfz32_2 hfz32_3 hfz32_4
               try clear hcz39_0 hcz39_1 hcz39_2 hcz39_3 hcz39_4 hcz39_5 hcz39_6 hcz39_7 hcz39_8 hfz39_0 hfz39_1 hfz39_2 hfz39_3 hfz39_4 hfz39_5 hfz39_6 hfz39_7 hfz39_8
               try clear hcz49_0 hcz49_1 hcz49_2 hcz49_3 hcz49_4 hcz49_5 hcz49_6 hcz49_7 hcz49_8 hfz49_0 hfz49_1 hfz49_2 hfz49_3 hfz49_4 hfz49_5 hfz49_6 hfz49_7 hfz49_8
               try clear hcz56_0 hcz56_1 hfz56_0 hfz56_1
               try clear hcz62_0 hcz62_1 hfz62_0 hfz62_1
               try clear hcz66_0 hcz66_1 hfz66_0 hfz66_1
               try clear hcz71_0 hcz71_1 hcz71_2 hcz71_3 hcz71_4 hfz71_0 hfz71_1 hfz71_2 hfz71_3 hfz71_4
               try clear hcz77_0 hcz77_1 hcz77_2 hcz77_3 hcz77_4 hfz77_0 hfz77_1 hfz77_2 hfz77_3 hfz77_4
               try clear hcz84_0 hcz84_1 hfz84_0 hfz84_1
               try clear hcz89_0 hcz89_1 hfz89_0 hfz89_1
               try clear p2
               try clear p6
               try clear p64
               obtain ⟨kq, x100_77, rfl, HA, HJ77, HO_138004, HO_159004, BK128, BK129, BK137, BK157, BK158, HB⟩ := hcut
               cases kq with
               | zero => exact absurd HA.out (by simp [panachetop_TopEnoughSticks.j5])
               | succ kj77 =>
                have H := HA.out
                clear HA
                simp only [panachetop_TopEnoughSticks.j5] at H
                by_cases c90 : x100_77 = true
                ·subst c90
                 have H1 : (if 0 < (t134.length : Int) then (if x159004_4.length < 4398046511104 then (panachetop_TopEnoughSticks.l1 kj77 a2 t150 x12_2 (wrap64 (x16_4 + 1)) l1_0 a1_1 a1_2 a1_3 a1_4 a1_5 a1_6 a1_7 a1_8 t130 t131 t132 t133 t134 t154 t155 t130 t131 t132 t133 (x159004_4 ++ [(⟨(⟨(rd_T47 t134 0).f0.f0, (rd_T47 t134 0).f0.f1⟩ : S30), (⟨(rd_T47 t134 0).f1.f0, (rd_T47 t134 0).f1.f1⟩ : S30)⟩ : S47)])) else (none)) else (none)) = some r := by rw [if_pos rfl] at H; exact H
                 clear H
                 have H := H1
                 clear H1
                 by_cases c91 : 0 < (t134.length : Int)
                 ·rw [if_pos c91] at H
                  have c91b0 : decide (0 < (t134.length : Int)) = true := decide_eq_true c91
                  have c91b1 : decide (0 < t134.length) = true := decide_eq_true (by omega)
                  clear c91
                  by_cases c92 : x159004_4.length < 4398046511104
                  ·rw [if_pos c92] at H
                   have LMc92 := Aside0.mk c92
                   clear c92
                   obtain ⟨y160, hy160⟩ : ∃ y_ : List (S47), y_ = (x159004_4 ++ [(⟨(⟨(rd_T47 t134 0).f0.f0, (rd_T47 t134 0).f0.f1⟩ : S30), (⟨(rd_T47 t134 0).f1.f0, (rd_T47 t134 0).f1.f1⟩ : S30)⟩ : S47)]) := ⟨_, rfl⟩
                   replace H : (panachetop_TopEnoughSticks.l1 kj77 a2 t150 x12_2 (wrap64 (x16_4 + 1)) l1_0 a1_1 a1_2 a1_3 a1_4 a1_5 a1_6 a1_7 a1_8 t130 t131 t132 t133 t134 t154 t155 t130 t131 t132 t133 y160) = some r := by first | (rw [hy160]; with_reducible exact H) | (have H2_ := (Option.bind_some _ _).symm.trans H; rw [hy160]; with_reducible exact H2_) | (have H2_ := (Option.bind_some _ _).symm.trans H; with_reducible exact H2_) | with_reducible exact H | (rw [hy160]; exact H) | exact H
                   have Ny160 := Aside0.mk hy160
                   clear hy160
                   have H' := Aside0.mk H
                   clear H
                   try go_wp2
                   replace HO_138004 := Aside0.mk (Kd.R_drew HO_138004.out)
                   replace HO_159004 := Aside0.mk (Kd.R_drew HO_159004.out)
                   replace BK128 := Aside0.mk (blk_drew BK128.out)
                   replace BK129 := Aside0.mk (blk_drew BK129.out)
                   replace BK137 := Aside0.mk (blk_drew BK137.out)
                   replace BK157 := Aside0.mk (blk_drew BK157.out)
                   replace BK158 := Aside0.mk (blk_drew BK158.out)
                   replace HB := Aside0.mk (below_drew1 HB.out)
                   have p159 : 0 ≤ (0 : Int) := (by omega)
                   have q159 : 0 < (t134.length : Int) := of_decide_eq_true (by first | (with_reducible assumption) | assumption)
                   obtain ⟨ad159, e159, hx159_0, hx159_1, hx159_2, hx159_3⟩ := at_T47 (Kd.R_reads' HO_138004.out).2.2 0 p159 q159
                   cases e159
                   have qi159 : (0 < t134.length) = True := eq_true (by omega)
                   (try rw [show ((0 : Int)).toNat = 0 from rfl] at hx159_0)
                   (try rw [show 0 * 4 = 0 from rfl] at hx159_0)
                   (try rw [Addr.add_zero'] at hx159_0)
                   (try rw [show ((0 : Int)).toNat = 0 from rfl] at hx159_1)
                   (try rw [show 0 * 4 = 0 from rfl] at hx159_1)
                   (try rw [Addr.add_zero'] at hx159_1)
                   (try rw [show ((0 : Int)).toNat = 0 from rfl] at hx159_2)
                   (try rw [show 0 * 4 = 0 from rfl] at hx159_2)
                   (try rw [Addr.add_zero'] at hx159_2)
                   (try rw [show ((0 : Int)).toNat = 0 from rfl] at hx159_3)
                   (try rw [show 0 * 4 = 0 from rfl] at hx159_3)
                   (try rw [Addr.add_zero'] at hx159_3)
                   replace p159 := eq_true p159
                   replace q159 := eq_true q159
                   refine start_ (n := 10) (S := fun w' => w'.cell? ⟨gb158, 0, none⟩ = some (.int .i64 t130) ∧ w'.cell? ⟨gb158, 1, none⟩ = some (.int .i64 t131) ∧ w'.cell? ⟨gb158, 2, none⟩ = some (.int .i64 t132) ∧ w'.cell? ⟨gb158, 3, none⟩ = some (.int .i64 t133) ∧ w'.cell? ⟨gb158, 4, none⟩ = some (u159004) ∧ w'.cell? ⟨gb137, 0, none⟩ = some (.int .i64 t130) ∧ w'.cell? ⟨gb137, 1, none⟩ = some (.int .i64 t131) ∧ w'.cell? ⟨gb137, 2, none⟩ = some (.int .i64 t132) ∧ w'.cell? ⟨gb137, 3, none⟩ = some (.int .i64 t133) ∧ w'.cell? ⟨gb137, 4, none⟩ = some (.slice (some ad159) t134.length co18) ∧ w'.cell? ad159 = some (.int .i64 ((rd_T47 t134 0).f0.f0)) ∧ w'.cell? ⟨ad159.block, ad159.off + 1, none⟩ = some (.int .i64 ((rd_T47 t134 0).f0.f1)) ∧ w'.cell? ⟨ad159.block, ad159.off + 2, none⟩ = some (.int .i64 ((rd_T47 t134 0).f1.f0)) ∧ w'.cell? ⟨ad159.block, ad159.off + 3, none⟩ = some (.int .i64 ((rd_T47 t134 0).f1.f1))) (ds := [7, 9]) #[false, false, false, false, false, false, false, false, false, false] (by kernel_rfl) rfl rfl ⟨(blk_cell BK158.out 0).trans rfl, (blk_cell BK158.out 1).trans rfl, (blk_cell BK158.out 2).trans rfl, (blk_cell BK158.out 3).trans rfl, (blk_cell BK158.out 4).trans rfl, (blk_cell BK137.out 0).trans rfl, (blk_cell BK137.out 1).trans rfl, (blk_cell BK137.out 2).trans rfl, (blk_cell BK137.out 3).trans rfl, (blk_cell BK137.out 4).trans rfl, hx159_0, hx159_1, hx159_2, hx159_3⟩ (fun hHeld => ?_); refine with_tabW panachetop_TopEnoughSticks.tab20 panachetop_TopEnoughSticks.bits20 (fun HT_ HW_ => ?_)
                   generalize wc.drew = w93 at HO_138004 HO_159004 BK128 BK129 BK137 BK157 BK158 HB hx159_0 hx159_1 hx159_2 hx159_3 hHeld ⊢
                   refine pureA (i := 0) (N := some 103) HT_ ?_
                   refine pureA (i := 2) (N := some 105) HT_ ?_
                   refine takeA (i := 1) (N := some 104) HT_ HW_ hHeld ?_
                   refine takeA (i := 3) (N := some 106) HT_ HW_ hHeld ?_
                   refine pureA (i := 4) (N := some 107) HT_ ?_
                   refine takeA (i := 5) (N := some 108) HT_ HW_ hHeld ?_
                   refine oneA (i := 6) (N := some 109) HT_ (fun K hK => ?_)
                   refine value_ (w1 := ?_) (v := ?_) (by rfl) rfl ?_ ?_
                   rotate_left 2
                   ·go_simp
                    constructor
                    ·rfl
                    ·rfl
                   refine hK.out _ _ ⟨(blk_cell (blk_alloc BK158.out _) 0).trans rfl, (blk_cell (blk_alloc BK158.out _) 1).trans rfl, (blk_cell (blk_alloc BK158.out _) 2).trans rfl, (blk_cell (blk_alloc BK158.out _) 3).trans rfl, (blk_cell (blk_alloc BK158.out _) 4).trans rfl, (blk_cell (blk_alloc BK137.out _) 0).trans rfl, (blk_cell (blk_alloc BK137.out _) 1).trans rfl, (blk_cell (blk_alloc BK137.out _) 2).trans rfl, (blk_cell (blk_alloc BK137.out _) 3).trans rfl, (blk_cell (blk_alloc BK137.out _) 4).trans rfl, (World.cell?_alloc_lt _ _ _ (World.block_lt_of_cell? _ _ (hHeld.2.2.2.2.2.2.2.2.2.2.1))).trans (hHeld.2.2.2.2.2.2.2.2.2.2.1), (World.cell?_alloc_lt _ _ _ (World.block_lt_of_cell? _ _ (hHeld.2.2.2.2.2.2.2.2.2.2.2.1))).trans (hHeld.2.2.2.2.2.2.2.2.2.2.2.1), (World.cell?_alloc_lt _ _ _ (World.block_lt_of_cell? _ _ (hHeld.2.2.2.2.2.2.2.2.2.2.2.2.1))).trans (hHeld.2.2.2.2.2.2.2.2.2.2.2.2.1), (World.cell?_alloc_lt _ _ _ (World.block_lt_of_cell? _ _ (hHeld.2.2.2.2.2.2.2.2.2.2.2.2.2))).trans (hHeld.2.2.2.2.2.2.2.2.2.2.2.2.2)⟩ (fun hHeld => ?_)
                   clear hK K
                   refine normA (N := some 109) ?_
                   refine last_ (i := 7) (N := some 110) #[true, true, true, true, true, true, true, true, false, false] rfl rfl (one_of HT_.out (by kernel_rfl)) (by decide) (fun K hK => ?_)
                   refine Kd.R_append_step k47 (w0 := w) w.heap.size (by rfl) (.tmp 104) (.tmp 109) 31 47 (.agg #[(.int .i64 0), (.int .i64 0), (.int .i64 0), (.int .i64 0)]) 32 rfl Tryz.underlying31 info47 rfl (by decide) (by omega) u159004 x159004_4 (⟨(⟨(rd_T47 t134 0).f0.f0, (rd_T47 t134 0).f0.f1⟩ : S30), (⟨(rd_T47 t134 0).f1.f0, (rd_T47 t134 0).f1.f1⟩ : S30)⟩ : S47) [.int .i64 ((rd_T47 t134 0).f0.f0), .int .i64 ((rd_T47 t134 0).f0.f1), .int .i64 ((rd_T47 t134 0).f1.f0), .int .i64 ((rd_T47 t134 0).f1.f1)] (fun k_ => some k_ ≠ (.slice (some ad159) t134.length co18 : Value).ownBlock) (fun _ => False) rfl rfl ?aP (fun _ hk => hk.elim) ?aF ?aO ?aB ?aS ?aL ?_
                   (case aP => exact k47_mkM _ _ _ (⟨(⟨(rd_T47 t134 0).f0.f0, (rd_T47 t134 0).f0.f1⟩ : S30), (⟨(rd_T47 t134 0).f1.f0, (rd_T47 t134 0).f1.f1⟩ : S30)⟩ : S47))
                   (case aB => exact (bX HB))
                   (case aF => exact (fun k_ hk => Kd.fresh' (Kd.R_lt (rX HO_138004.out)) k_ hk))
                   (case aO => exact (rX HO_159004.out))
                   (case aS => exact (below_size (bX HB)))
                   (case aL => have := LMc92.out; omega)
                   intro v161 w94 ho hb hg hat
                   rw [← Ny160.out] at ho
                   have n0_ := Aside0.mk (Kd.R_after (ok := (fun _ => True)) (rX (Kd.R_mono HO_138004.out (fun _ hk => ⟨trivial, hk⟩))) hg hat)
                   have n1_ := Aside0.mk (blk_grown (g := gb128) (o := .cells #[.slice A0_0 l0_0.length c0_0] 24 (0, 0)) (kX BK128.out) hg (Kd.R_ne HO_159004.out BK128.out (by decide)))
                   have n2_ := Aside0.mk (blk_grown (g := gb129) (o := .cells #[.slice A1_0 l1_0.length c1_0, .int .u8 a1_1, .int .u8 a1_2, .int .u8 a1_3, .int .u8 a1_4, .int .u8 a1_5, .int .u8 a1_6, .int .u8 a1_7, .int .u8 a1_8] 28 (0, 0)) (kX BK129.out) hg (Kd.R_ne HO_159004.out BK129.out (by decide)))
                   have n3_ := Aside0.mk (blk_grown (g := gb137) (o := .cells #[.int .i64 t130, .int .i64 t131, .int .i64 t132, .int .i64 t133, .slice (some ad159) t134.length co18] 33 (0, 0)) (kX BK137.out) hg (Kd.R_ne HO_159004.out BK137.out (by decide)))
                   have n4_ := Aside0.mk (blk_grown (g := gb157) (o := .cells #[.int .i64 t154, .int .i64 t155] 30 (0, 0)) (kX BK157.out) hg (Kd.R_ne HO_159004.out BK157.out (by decide)))
                   have n5_ := Aside0.mk (blk_grown (g := gb158) (o := .cells #[.int .i64 t130, .int .i64 t131, .int .i64 t132, .int .i64 t133, u159004] 33 (0, 0)) (kX BK158.out) hg (Kd.R_ne HO_159004.out BK158.out (by decide)))
                   have n6_ := Aside0.mk (hb)
                   have n7_ := Aside0.mk (ho)
                   clear HO_138004
                   clear BK128
                   clear BK129
                   clear BK137
                   clear BK157
                   clear BK158
                   clear HB
                   clear HO_159004
                   have HO_138004 := n0_
                   have BK128 := n1_
                   have BK129 := n2_
                   have BK137 := n3_
                   have BK157 := n4_
                   have BK158 := n5_
                   have HB := n6_
                   have HO162 := n7_
                   clear n0_ n1_ n2_ n3_ n4_ n5_ n6_ n7_
                   clear ho hb hg hat
                   obtain ⟨Ao95, co95, eo95⟩ := Kd.R_slice HO162.out
                   (first | subst eo95 | (injection eo95 with f1_ f2_ f3_; have f4_ := f1_.symm; have f5_ := f3_.symm; clear f1_ f2_ f3_; subst f4_; subst f5_))
                   refine hK.out _ _ ?_
                   clear hK K
                   refine normA (N := some 110) ?_
                   refine pureA (i := 8) (N := some 111) HT_ ?_
                   refine last_ (i := 9) (N := none) #[true, true, true, true, true, true, true, true, true, true] rfl rfl (one_of HT_.out (by kernel_rfl)) (by decide) (fun K hK => ?_)
                   have hs96 : w94.cell? ⟨gb158, 4, none⟩ = some (u159004) := (blk_cell BK158.out 4).trans rfl
                   have hfs96 := blk_frozen BK158.out 4
                   have hns96_0 := NB128_158.out
                   have hns96_1 := NB129_158.out
                   have hns96_2 := NB137_158.out
                   have hns96_3 := NB157_158.out
                   have hms96_0 := NB158_128.out
                   have hms96_1 := NB158_129.out
                   have hms96_2 := NB158_137.out
                   have hms96_3 := NB158_157.out
                   refine skip_ (w1 := ?_) (by rfl) rfl ?_ ?_
                   rotate_left
                   ·go_simp
                    rfl
                   refine hK.out _ _ ?_
                   clear hK K
                   refine done_ (done_of HT_.out (by kernel_rfl)) ?_
                   try go_wp2
                   go_roundg kj77
                   case measure => have := HJ7.out; have := HK2.out; have := HJ45.out; have := HK4.out; have := HJ77.out; omega
                   case rel => exact ⟨(wrap64 (x16_4 + 1)), (y160), (.slice Ao95 y160.length co95), (by first | rfl | (simp; done) | (simp [*]; done)), H', ⟨by have := HJ7.out; have := HK2.out; have := HJ45.out; have := HK4.out; have := HJ77.out; omega⟩, ⟨by (with_reducible repeat (first | apply Kd.R_alloc | apply Kd.R_drewN | apply Kd.R_drew)); exact Kd.R_mono (Kd.R_far (p := ⟨gb158, 4, none⟩) (Kd.R_types HO_138004.out BK158.out (by decide)) (fun _ hk => hk.2) (.slice Ao95 y160.length co95)) (fun _ hk => hk.1.2)⟩, ⟨by (with_reducible repeat (first | apply Kd.R_alloc | apply Kd.R_drewN | apply Kd.R_drew)); exact Kd.R_mono (Kd.R_far (p := ⟨gb158, 4, none⟩) (Kd.R_types HO162.out BK158.out (by decide)) (fun _ hk => hk.2) (.slice Ao95 y160.length co95)) (fun _ hk => hk.1)⟩, ⟨by (with_reducible repeat (first | refine blk_drewN ?_ _ | refine blk_drew ?_ | refine blk_alloc ?_ _)); refine blk_far ?_ NB128_158.out _; (with_reducible repeat (first | refine blk_drewN ?_ _ | refine blk_drew ?_ | refine blk_alloc ?_ _)); exact BK128.out⟩, ⟨by (with_reducible repeat (first | refine blk_drewN ?_ _ | refine blk_drew ?_ | refine blk_alloc ?_ _)); refine blk_far ?_ NB129_158.out _; (with_reducible repeat (first | refine blk_drewN ?_ _ | refine blk_drew ?_ | refine blk_alloc ?_ _)); exact BK129.out⟩, ⟨by (with_reducible repeat (first | refine blk_drewN ?_ _ | refine blk_drew ?_ | refine blk_alloc ?_ _)); refine blk_far ?_ NB137_158.out _; (with_reducible repeat (first | refine blk_drewN ?_ _ | refine blk_drew ?_ | refine blk_alloc ?_ _)); exact BK137.out⟩, ⟨by (with_reducible repeat (first | refine blk_drewN ?_ _ | refine blk_drew ?_ | refine blk_alloc ?_ _)); refine blk_far ?_ NB157_158.out _; (with_reducible repeat (first | refine blk_drewN ?_ _ | refine blk_drew ?_ | refine blk_alloc ?_ _)); exact BK157.out⟩, ⟨by (with_reducible repeat (first | refine blk_drewN ?_ _ | refine blk_drew ?_ | refine blk_alloc ?_ _)); refine blk_put (cs := #[.int .i64 t130, .int .i64 t131, .int .i64 t132, .int .i64 t133, u159004]) ?_ 4 _ rfl; (with_reducible repeat (first | refine blk_drewN ?_ _ | refine blk_drew ?_ | refine blk_alloc ?_ _)); exact BK158.out⟩, ⟨bX HB⟩⟩
                  ·rw [if_neg c92] at H
                   exact absurd H (by simp)
                 ·rw [if_neg c91] at H
                  exact absurd H (by simp)
                ·replace c90 := Bool.eq_false_iff.mpr c90
                 subst c90
                 have H1 : ((rivet_Opens.f t130 t131 t132 t133 x159004_4).bind fun bt163 => (if bt163.2.2 = 0 then (if bt163.1 ≥ (wrap64 (a2)) then (panachetop_TopEnoughSticks.j6 kj77 a2 t150 x12_2 ((decide (t154 > 0)) != (x12_2 == 0)) l1_0 a1_1 a1_2 a1_3 a1_4 a1_5 a1_6 a1_7 a1_8 t130 t131 t132 t133 t134) else (panachetop_TopEnoughSticks.j6 kj77 a2 t150 x12_2 (false != (x12_2 == 0)) l1_0 a1_1 a1_2 a1_3 a1_4 a1_5 a1_6 a1_7 a1_8 t130 t131 t132 t133 t134)) else (panachetop_TopEnoughSticks.j6 kj77 a2 t150 x12_2 true l1_0 a1_1 a1_2 a1_3 a1_4 a1_5 a1_6 a1_7 a1_8 t130 t131 t132 t133 t134))) = some r := by rw [if_neg (show ¬ (false = true) by decide)] at H; exact H
                 clear H
                 have H := H1
                 clear H1
                 replace H := Option.bind_eq_some_iff.mp H
                 obtain ⟨⟨t163, t164, t165⟩, A970, H⟩ := H
                 try dsimp only at H
                 have A97 := Aside0.mk A970
                 clear A970
                 have HC98 := Aside0.mk H
                 clear H
                 have hnb99 := NB158_128.out
                 have hnc99 := NB128_158.out
                 have hnb100 := NB158_129.out
                 have hnc100 := NB129_158.out
                 have hnb101 := NB158_137.out
                 have hnc101 := NB137_158.out
                 have hnb102 := NB158_157.out
                 have hnc102 := NB157_158.out
                 obtain ⟨hcz103_0, hcz103_1, hcz103_2, hcz103_3, hcz103_4, hfz103_0, hfz103_1, hfz103_2, hfz103_3, hfz103_4⟩ := cc5 BK158
                 obtain ⟨Ao104, co104, eo104⟩ := Kd.R_slice HO_159004.out
                 subst eo104
                 go_upto_region 22 with (first | ((with_reducible refine gate_callee (f := 13) rfl ?_); refine goesA (some 114) Tryz.func13 #[.agg #[.int .i64 t130, .int .i64 t131, .int .i64 t132, .int .i64 t133, .slice Ao104 x159004_4.length co104]] ?_; (with_reducible refine (rivet_Opens.calls t130 t131 t132 t133 _ _ x159004_4 t163 t164 t165 _ ?side1 ?side2 A97.out).mono ?_); (case side1 => exact sX (Kd.R_reads' HO_159004.out).2.2); (case side2 => exact (Kd.R_reads' HO_159004.out).2.1); rintro e w105 ⟨rfl, hb⟩; refine ⟨_, rfl, ?_⟩; replace HO_138004 := rB HO_138004 hb; replace HO_159004 := rB HO_159004 hb; replace BK128 := kB BK128 hb; replace BK129 := kB BK129 hb; replace BK137 := kB BK137 hb; replace BK157 := kB BK157 hb; replace BK158 := kB BK158 hb; replace HB := bS HB hb; (try clear hb); (try clear hb2); (try clear hk); (try clear hi)) | ((with_reducible refine gate_dst (N := 17) rfl ?_); refine boxA (N := 17) (cs := #[.int .i64 0, .int .i64 0]) (t := 30) ?_; intro gb166 hg w106 hbox hb; have BK166 := Aside0.mk (hbox); have GW166 := bG HB hg; have GE166 := bG HB hg; have NB128_166 := kN BK128 hg; have NB166_128 := kM BK128 hg; have NB129_166 := kN BK129 hg; have NB166_129 := kM BK129 hg; have NB137_166 := kN BK137 hg; have NB166_137 := kM BK137 hg; have NB157_166 := kN BK157 hg; have NB166_157 := kM BK157 hg; have NB158_166 := kN BK158 hg; have NB166_158 := kM BK158 hg; replace HO_138004 := rB HO_138004 hb; replace HO_159004 := rB HO_159004 hb; replace BK128 := kB BK128 hb; replace BK129 := kB BK129 hb; replace BK137 := kB BK137 hb; replace BK157 := kB BK157 hb; replace BK158 := kB BK158 hb; replace HB := bS HB hb; clear hb hbox hg; have hnb107 := NB166_128.out; have hnc107 := NB128_166.out; have hnb108 := NB166_129.out; have hnc108 := NB129_166.out; have hnb109 := NB166_137.out; have hnc109 := NB137_166.out; have hnb110 := NB166_157.out; have hnc110 := NB157_166.out; have hnb111 := NB166_158.out; have hnc111 := NB158_166.out; obtain ⟨hcz112_0, hcz112_1, hfz112_0, hfz112_1⟩ := cc2 BK166))
                 (try simp only [Act.put, List.setIfInBounds_toArray, List.set_cons_zero, List.set_cons_succ])
                 go_cut [133] (fun v133 wc => ∃ (kq : Nat) (x133_97 : Bool), v133 = .bool x133_97 ∧ Aside0 (panachetop_TopEnoughSticks.j6 kq a2 t150 x12_2 x133_97 l1_0 a1_1 a1_2 a1_3 a1_4 a1_5 a1_6 a1_7 a1_8 t130 t131 t132 t133 t134 = some r) ∧ Aside0 (kq ≤ kj77) ∧ Aside0 (Kd.R k47 47 wc w.heap.size (fun k_ => some k_ ≠ ((.slice Ao104 x159004_4.length co104) : Value).ownBlock) (.slice Ao18 t134.length co18) t134) ∧ Aside0 (Kd.R k47 47 wc w.heap.size (fun k_ => some k_ ≠ ((.slice Ao18 t134.length co18) : Value).ownBlock) (.slice Ao104 x159004_4.length co104) x159004_4) ∧ Aside0 (wc.heap[gb128]? = some (.cells #[(.slice A0_0 l0_0.length c0_0)] 24 (0, 0))) ∧ Aside0 (wc.heap[gb129]? = some (.cells #[(.slice A1_0 l1_0.length c1_0), .int .u8 a1_1, .int .u8 a1_2, .int .u8 a1_3, .int .u8 a1_4, .int .u8 a1_5, .int .u8 a1_6, .int .u8 a1_7, .int .u8 a1_8] 28 (0, 0))) ∧ Aside0 (wc.heap[gb137]? = some (.cells #[.int .i64 t130, .int .i64 t131, .int .i64 t132, .int .i64 t133, (.slice Ao18 t134.length co18)] 33 (0, 0))) ∧ Aside0 (wc.heap[gb157]? = some (.cells #[.int .i64 t154, .int .i64 t155] 30 (0, 0))) ∧ Aside0 (wc.heap[gb158]? = some (.cells #[.int .i64 t130, .int .i64 t131, .int .i64 t132, .int .i64 t133, (.slice Ao104 x159004_4.length co104)] 33 (0, 0))) ∧ Aside0 (wc.heap[gb166]? = some (.cells #[.int .i64 t163, .int .i64 t164] 30 (0, 0))) ∧ Aside0 (Below w.heap.size w wc))
                 case first =>
                  have H := HC98.out
                  clear HC98
                  by_cases c113 : t165 = 0
                  ·rw [if_pos c113] at H
                   have c113b0 : (t165 == 0) = true := beq_iff_eq.mpr c113
                   have c113b1 : (t165 != 0) = false := bne_eq_false_iff_eq.mpr c113
                   clear c113
                   (first | rw [c113b0] | (simp only [i64_w, i32_w]; rw [c113b0]) | skip)
                   by_cases c114 : t163 ≥ (wrap64 (a2))
                   ·rw [if_pos c114] at H
                    have c114b0 : decide ((wrap64 (a2)) ≤ t163) = true := decide_eq_true c114
                    clear c114
                    have H' := Aside0.mk H
                    clear H
                    have hnb115 := NB166_128.out
                    have hnc115 := NB128_166.out
                    have hnb116 := NB166_129.out
                    have hnc116 := NB129_166.out
                    have hnb117 := NB166_137.out
                    have hnc117 := NB137_166.out
                    have hnb118 := NB166_157.out
                    have hnc118 := NB157_166.out
                    have hnb119 := NB166_158.out
                    have hnc119 := NB158_166.out
                    obtain ⟨hcz120_0, hcz120_1, hfz120_0, hfz120_1⟩ := cc2 BK166
                    have hnb121 := NB157_128.out
                    have hnc121 := NB128_157.out
                    have hnb122 := NB157_129.out
                    have hnc122 := NB129_157.out
                    have hnb123 := NB157_137.out
                    have hnc123 := NB137_157.out
                    have hnb124 := NB157_158.out
                    have hnc124 := NB158_157.out
                    obtain ⟨hcz125_0, hcz125_1, hfz125_0, hfz125_1⟩ := cc2 BK157
                    go_wp2
                    go_meet
                    case rel => exact ⟨_, (((decide (t154 > 0)) != (x12_2 == 0))), (by first | rfl | (simp; done) | (simp [*]; done)), H', ⟨by have := HJ7.out; have := HK2.out; have := HJ45.out; have := HK4.out; have := HJ77.out; first | omega | exact Nat.le_refl _⟩, ⟨by (with_reducible repeat (first | apply Kd.R_alloc | apply Kd.R_drewN | apply Kd.R_drew)); exact Kd.R_mono (Kd.R_far (p := ⟨gb166, 1, none⟩) (Kd.R_far (p := ⟨gb166, 0, none⟩) (Kd.R_types HO_138004.out BK166.out (by decide)) (fun _ hk => hk.2) (.int .i64 t163)) (fun _ hk => hk.2) (.int .i64 t164)) (fun _ hk => hk.1)⟩, ⟨by (with_reducible repeat (first | apply Kd.R_alloc | apply Kd.R_drewN | apply Kd.R_drew)); exact Kd.R_mono (Kd.R_far (p := ⟨gb166, 1, none⟩) (Kd.R_far (p := ⟨gb166, 0, none⟩) (Kd.R_types HO_159004.out BK166.out (by decide)) (fun _ hk => hk.2) (.int .i64 t163)) (fun _ hk => hk.2) (.int .i64 t164)) (fun _ hk => hk.1)⟩, ⟨by (with_reducible repeat (first | refine blk_drewN ?_ _ | refine blk_drew ?_ | refine blk_alloc ?_ _)); refine blk_far ?_ NB128_166.out _; (with_reducible repeat (first | refine blk_drewN ?_ _ | refine blk_drew ?_ | refine blk_alloc ?_ _)); refine blk_far ?_ NB128_166.out _; (with_reducible repeat (first | refine blk_drewN ?_ _ | refine blk_drew ?_ | refine blk_alloc ?_ _)); exact BK128.out⟩, ⟨by (with_reducible repeat (first | refine blk_drewN ?_ _ | refine blk_drew ?_ | refine blk_alloc ?_ _)); refine blk_far ?_ NB129_166.out _; (with_reducible repeat (first | refine blk_drewN ?_ _ | refine blk_drew ?_ | refine blk_alloc ?_ _)); refine blk_far ?_ NB129_166.out _; (with_reducible repeat (first | refine blk_drewN ?_ _ | refine blk_drew ?_ | refine blk_alloc ?_ _)); exact BK129.out⟩, ⟨by (with_reducible repeat (first | refine blk_drewN ?_ _ | refine blk_drew ?_ | refine blk_alloc ?_ _)); refine blk_far ?_ NB137_166.out _; (with_reducible repeat (first | refine blk_drewN ?_ _ | refine blk_drew ?_ | refine blk_alloc ?_ _)); refine blk_far ?_ NB137_166.out _; (with_reducible repeat (first | refine blk_drewN ?_ _ | refine blk_drew ?_ | refine blk_alloc ?_ _)); exact BK137.out⟩, ⟨by (with_reducible repeat (first | refine blk_drewN ?_ _ | refine blk_drew ?_ | refine blk_alloc ?_ _)); refine blk_far ?_ NB157_166.out _; (with_reducible repeat (first | refine blk_drewN ?_ _ | refine blk_drew ?_ | refine blk_alloc ?_ _)); refine blk_far ?_ NB157_166.out _; (with_reducible repeat (first | refine blk_drewN ?_ _ | refine blk_drew ?_ | refine blk_alloc ?_ _)); exact BK157.out⟩, ⟨by (with_reducible repeat (first | refine blk_drewN ?_ _ | refine blk_drew ?_ | refine blk_alloc ?_ _)); refine blk_far ?_ NB158_166.out _; (with_reducible repeat (first | refine blk_drewN ?_ _ | refine blk_drew ?_ | refine blk_alloc ?_ _)); refine blk_far ?_ NB158_166.out _; (with_reducible repeat (first | refine blk_drewN ?_ _ | refine blk_drew ?_ | refine blk_alloc ?_ _)); exact BK158.out⟩, ⟨by (with_reducible repeat (first | refine blk_drewN ?_ _ | refine blk_drew ?_ | refine blk_alloc ?_ _)); refine blk_put (cs := #[.int .i64 t163, .int .i64 0]) ?_ 1 _ rfl; (with_reducible repeat (first | refine blk_drewN ?_ _ | refine blk_drew ?_ | refine blk_alloc ?_ _)); refine blk_put (cs := #[.int .i64 0, .int .i64 0]) ?_ 0 _ rfl; (with_reducible repeat (first | refine blk_drewN ?_ _ | refine blk_drew ?_ | refine blk_alloc ?_ _)); exact BK166.out⟩, ⟨bX HB⟩⟩
                   ·rw [if_neg c114] at H
                    have c114b0 : decide ((wrap64 (a2)) ≤ t163) = false := decide_eq_false c114
                    clear c114
                    have H' := Aside0.mk H
                    clear H
                    have hnb126 := NB166_128.out
                    have hnc126 := NB128_166.out
                    have hnb127 := NB166_129.out
                    have hnc127 := NB129_166.out
                    have hnb128 := NB166_137.out
                    have hnc128 := NB137_166.out
                    have hnb129 := NB166_157.out
                    have hnc129 := NB157_166.out
                    have hnb130 := NB166_158.out
                    have hnc130 := NB158_166.out
                    obtain ⟨hcz131_0, hcz131_1, hfz131_0, hfz131_1⟩ := cc2 BK166
                    go_wp2
                    go_meet
                    case rel => exact ⟨_, ((false != (x12_2 == 0))), (by first | rfl | (simp; done) | (simp [*]; done)), H', ⟨by have := HJ7.out; have := HK2.out; have := HJ45.out; have := HK4.out; have := HJ77.out; first | omega | exact Nat.le_refl _⟩, ⟨by (with_reducible repeat (first | apply Kd.R_alloc | apply Kd.R_drewN | apply Kd.R_drew)); exact Kd.R_mono (Kd.R_far (p := ⟨gb166, 1, none⟩) (Kd.R_far (p := ⟨gb166, 0, none⟩) (Kd.R_types HO_138004.out BK166.out (by decide)) (fun _ hk => hk.2) (.int .i64 t163)) (fun _ hk => hk.2) (.int .i64 t164)) (fun _ hk => hk.1)⟩, ⟨by (with_reducible repeat (first | apply Kd.R_alloc | apply Kd.R_drewN | apply Kd.R_drew)); exact Kd.R_mono (Kd.R_far (p := ⟨gb166, 1, none⟩) (Kd.R_far (p := ⟨gb166, 0, none⟩) (Kd.R_types HO_159004.out BK166.out (by decide)) (fun _ hk => hk.2) (.int .i64 t163)) (fun _ hk => hk.2) (.int .i64 t164)) (fun _ hk => hk.1)⟩, ⟨by (with_reducible repeat (first | refine blk_drewN ?_ _ | refine blk_drew ?_ | refine blk_alloc ?_ _)); refine blk_far ?_ NB128_166.out _; (with_reducible repeat (first | refine blk_drewN ?_ _ | refine blk_drew ?_ | refine blk_alloc ?_ _)); refine blk_far ?_ NB128_166.out _; (with_reducible repeat (first | refine blk_drewN ?_ _ | refine blk_drew ?_ | refine blk_alloc ?_ _)); exact BK128.out⟩, ⟨by (with_reducible repeat (first | refine blk_drewN ?_ _ | refine blk_drew ?_ | refine blk_alloc ?_ _)); refine blk_far ?_ NB129_166.out _; (with_reducible repeat (first | refine blk_drewN ?_ _ | refine blk_drew ?_ | refine blk_alloc ?_ _)); refine blk_far ?_ NB129_166.out _; (with_reducible repeat (first | refine blk_drewN ?_ _ | refine blk_drew ?_ | refine blk_alloc ?_ _)); exact BK129.out⟩, ⟨by (with_reducible repeat (first | refine blk_drewN ?_ _ | refine blk_drew ?_ | refine blk_alloc ?_ _)); refine blk_far ?_ NB137_166.out _; (with_reducible repeat (first | refine blk_drewN ?_ _ | refine blk_drew ?_ | refine blk_alloc ?_ _)); refine blk_far ?_ NB137_166.out _; (with_reducible repeat (first | refine blk_drewN ?_ _ | refine blk_drew ?_ | refine blk_alloc ?_ _)); exact BK137.out⟩, ⟨by (with_reducible repeat (first | refine blk_drewN ?_ _ | refine blk_drew ?_ | refine blk_alloc ?_ _)); refine blk_far ?_ NB157_166.out _; (with_reducible repeat (first | refine blk_drewN ?_ _ | refine blk_drew ?_ | refine blk_alloc ?_ _)); refine blk_far ?_ NB157_166.out _; (with_reducible repeat (first | refine blk_drewN ?_ _ | refine blk_drew ?_ | refine blk_alloc ?_ _)); exact BK157.out⟩, ⟨by (with_reducible repeat (first | refine blk_drewN ?_ _ | refine blk_drew ?_ | refine blk_alloc ?_ _)); refine blk_far ?_ NB158_166.out _; (with_reducible repeat (first | refine blk_drewN ?_ _ | refine blk_drew ?_ | refine blk_alloc ?_ _)); refine blk_far ?_ NB158_166.out _; (with_reducible repeat (first | refine blk_drewN ?_ _ | refine blk_drew ?_ | refine blk_alloc ?_ _)); exact BK158.out⟩, ⟨by (with_reducible repeat (first | refine blk_drewN ?_ _ | refine blk_drew ?_ | refine blk_alloc ?_ _)); refine blk_put (cs := #[.int .i64 t163, .int .i64 0]) ?_ 1 _ rfl; (with_reducible repeat (first | refine blk_drewN ?_ _ | refine blk_drew ?_ | refine blk_alloc ?_ _)); refine blk_put (cs := #[.int .i64 0, .int .i64 0]) ?_ 0 _ rfl; (with_reducible repeat (first | refine blk_drewN ?_ _ | refine blk_drew ?_ | refine blk_alloc ?_ _)); exact BK166.out⟩, ⟨bX HB⟩⟩
                  ·rw [if_neg c113] at H
                   have c113b0 : (t165 == 0) = false := beq_eq_false_iff_ne.mpr c113
                   have c113b1 : (t165 != 0) = true := bne_iff_ne.mpr c113
                   (first | rw [c113b0] | (simp only [i64_w, i32_w]; rw [c113b0]) | skip)
                   have H' := Aside0.mk H
                   clear H
                   go_wp2
                   go_meet
                   case rel => exact ⟨_, (true), (by first | rfl | (simp; done) | (simp [*]; done)), H', ⟨by have := HJ7.out; have := HK2.out; have := HJ45.out; have := HK4.out; have := HJ77.out; first | omega | exact Nat.le_refl _⟩, ⟨by (with_reducible repeat (first | apply Kd.R_alloc | apply Kd.R_drewN | apply Kd.R_drew)); exact Kd.R_mono (Kd.R_far (p := ⟨gb166, 1, none⟩) (Kd.R_far (p := ⟨gb166, 0, none⟩) (Kd.R_types HO_138004.out BK166.out (by decide)) (fun _ hk => hk.2) (.int .i64 t163)) (fun _ hk => hk.2) (.int .i64 t164)) (fun _ hk => hk.1)⟩, ⟨by (with_reducible repeat (first | apply Kd.R_alloc | apply Kd.R_drewN | apply Kd.R_drew)); exact Kd.R_mono (Kd.R_far (p := ⟨gb166, 1, none⟩) (Kd.R_far (p := ⟨gb166, 0, none⟩) (Kd.R_types HO_159004.out BK166.out (by decide)) (fun _ hk => hk.2) (.int .i64 t163)) (fun _ hk => hk.2) (.int .i64 t164)) (fun _ hk => hk.1)⟩, ⟨by (with_reducible repeat (first | refine blk_drewN ?_ _ | refine blk_drew ?_ | refine blk_alloc ?_ _)); refine blk_far ?_ NB128_166.out _; (with_reducible repeat (first | refine blk_drewN ?_ _ | refine blk_drew ?_ | refine blk_alloc ?_ _)); refine blk_far ?_ NB128_166.out _; (with_reducible repeat (first | refine blk_drewN ?_ _ | refine blk_drew ?_ | refine blk_alloc ?_ _)); exact BK128.out⟩, ⟨by (with_reducible repeat (first | refine blk_drewN ?_ _ | refine blk_drew ?_ | refine blk_alloc ?_ _)); refine blk_far ?_ NB129_166.out _; (with_reducible repeat (first | refine blk_drewN ?_ _ | refine blk_drew ?_ | refine blk_alloc ?_ _)); refine blk_far ?_ NB129_166.out _; (with_reducible repeat (first | refine blk_drewN ?_ _ | refine blk_drew ?_ | refine blk_alloc ?_ _)); exact BK129.out⟩, ⟨by (with_reducible repeat (first | refine blk_drewN ?_ _ | refine blk_drew ?_ | refine blk_alloc ?_ _)); refine blk_far ?_ NB137_166.out _; (with_reducible repeat (first | refine blk_drewN ?_ _ | refine blk_drew ?_ | refine blk_alloc ?_ _)); refine blk_far ?_ NB137_166.out _; (with_reducible repeat (first | refine blk_drewN ?_ _ | refine blk_drew ?_ | refine blk_alloc ?_ _)); exact BK137.out⟩, ⟨by (with_reducible repeat (first | refine blk_drewN ?_ _ | refine blk_drew ?_ | refine blk_alloc ?_ _)); refine blk_far ?_ NB157_166.out _; (with_reducible repeat (first | refine blk_drewN ?_ _ | refine blk_drew ?_ | refine blk_alloc ?_ _)); refine blk_far ?_ NB157_166.out _; (with_reducible repeat (first | refine blk_drewN ?_ _ | refine blk_drew ?_ | refine blk_alloc ?_ _)); exact BK157.out⟩, ⟨by (with_reducible repeat (first | refine blk_drewN ?_ _ | refine blk_drew ?_ | refine blk_alloc ?_ _)); refine blk_far ?_ NB158_166.out _; (with_reducible repeat (first | refine blk_drewN ?_ _ | refine blk_drew ?_ | refine blk_alloc ?_ _)); refine blk_far ?_ NB158_166.out _; (with_reducible repeat (first | refine blk_drewN ?_ _ | refine blk_drew ?_ | refine blk_alloc ?_ _)); exact BK158.out⟩, ⟨by (with_reducible repeat (first | refine blk_drewN ?_ _ | refine blk_drew ?_ | refine blk_alloc ?_ _)); refine blk_put (cs := #[.int .i64 t163, .int .i64 0]) ?_ 1 _ rfl; (with_reducible repeat (first | refine blk_drewN ?_ _ | refine blk_drew ?_ | refine blk_alloc ?_ _)); refine blk_put (cs := #[.int .i64 0, .int .i64 0]) ?_ 0 _ rfl; (with_reducible repeat (first | refine blk_drewN ?_ _ | refine blk_drew ?_ | refine blk_alloc ?_ _)); exact BK166.out⟩, ⟨bX HB⟩⟩
                 case rest =>
                  clear HC98
                  try clear c1
                  try clear p1
                  try clear q1
                  try clear hx1
                  try clear qi1
                  try clear c2
                  try clear p2
                  try clear c3
                  try clear c4
                  try clear c5
                  try clear c6
                  try clear p6
                  try clear c7
                  try clear c7b0
                  try clear c7b1
                  try clear c8
                  try clear c9
                  try clear c10
                  try clear c11
                  try clear c12
                  try clear c13
                  try clear c15
                  try clear p15
                  try clear q15
                  try clear hx15
                  try clear qi15
                  try clear c16
                  try clear c22
                  try clear c22b0
                  try clear c22b1
                  try clear c22b2
                  try clear c23
                  try clear c24
                  try clear c26
                  try clear c26b0
                  try clear c27
                  try clear c28
                  try clear c30
                  try clear c31
                  try clear c33
                  try clear c36
                  try clear c36b0
                  try clear c36b1
                  try clear c37
                  try clear c38
                  try clear c42
                  try clear c42b0
                  try clear c47
                  try clear c48
                  try clear c53
                  try clear c54
                  try clear c55
                  try clear c57
                  try clear c57b0
                  try clear c57b1
                  try clear c58
                  try clear c58b0
                  try clear c59
                  try clear c60
                  try clear c61
                  try clear c63
                  try clear c64
                  try clear p64
                  try clear c65
                  try clear c67
                  try clear c68
                  try clear c69
                  try clear c70
                  try clear c73
                  try clear c74
                  try clear c75
                  try clear c76
                  try clear c79
                  try clear c79b0
                  try clear c80
                  try clear c81
                  try clear c82
                  try clear c83
                  try clear c85
                  try clear c86
                  try clear c87
                  try clear c88
                  try clear c90
                  try clear c91
                  try clear c91b0
                  try clear c91b1
                  try clear c92
                  try clear c99
                  try clear c100
                  try clear c101
                  try clear c102
                  try clear c107
                  try clear c108
                  try clear c109
                  try clear c110
                  try clear c111
                  try clear c113
                  try clear c113b0
                  try clear c113b1
                  try clear c114
                  try clear c114b0
                  try clear c115
                  try clear c116
                  try clear c117
                  try clear c118
                  try clear c119
                  try clear c121
                  try clear c122
                  try clear c123
                  try clear c124
                  try clear c126
                  try clear c127
                  try clear c128
                  try clear c129
                  try clear c130
                  try clear hcz103_0 hcz103_1 hcz103_2 hcz103_3 hcz103_4 hfz103_0 hfz103_1 hfz103_2 hfz103_3 hfz103_4
                  try clear hcz112_0 hcz112_1 hfz112_0 hfz112_1
                  try clear hcz120_0 hcz120_1 hfz120_0 hfz120_1
                  try clear hcz125_0 hcz125_1 hfz125_0 hfz125_1
                  try clear hcz12_0 hfz12_0
                  try clear hcz131_0 hcz131_1 hfz131_0 hfz131_1
                  try clear hcz17_0 hcz17_1 hcz17_2 hcz17_3 hcz17_4 hfz17_0 hfz17_1 hfz17_2 hfz17_3 hfz17_4
                  try clear hcz25_0 hcz25_1 hcz25_2 hcz25_3 hcz25_4 hfz25_0 hfz25_1 hfz25_2 hfz25_3 hfz25_4
                  try clear hcz29_0 hcz29_1 hcz29_2 hcz29_3 hcz29_4 hfz29_0 hfz29_1 hfz29_2 hfz29_3 hfz29_4
                  try clear hcz32_0 hcz32_1 hcz32_2 hcz32_3 hcz32_4 hfz32_0 hfz32_1 hfz32_2 hfz32_3 hfz32_4
                  try clear hcz39_0 hcz39_1 hcz39_2 hcz39_3 hcz39_4 hcz39_5 hcz39_6 hcz39_7 hcz39_8 hfz39_0 hfz39_1 hfz39_2 hfz39_3 hfz39_4 hfz39_5 hfz39_6 hfz39_7 hfz39_8
                  try clear hcz49_0 hcz49_1 hcz49_2 hcz49_3 hcz49_4 hcz49_5 hcz49_6 hcz49_7 hcz49_8 hfz49_0 hfz49_1 hfz49_2 hfz49_3 hfz49_4 hfz49_5 hfz49_6 hfz49_7 hfz49_8
                  try clear hcz56_0 hcz56_1 hfz56_0 hfz56_1
                  try clear hcz62_0 hcz62_1 hfz62_0 hfz62_1
                  try clear hcz66_0 hcz66_1 hfz66_0 hfz66_1
                  try clear hcz71_0 hcz71_1 hcz71_2 hcz71_3 hcz71_4 hfz71_0 hfz71_1 hfz71_2 hfz71_3 hfz71_4
                  try clear hcz77_0 hcz77_1 hcz77_2 hcz77_3 hcz77_4 hfz77_0 hfz77_1 hfz77_2 hfz77_3 hfz77_4
                  try clear hcz84_0 hcz84_1 hfz84_0 hfz84_1
                  try clear hcz89_0 hcz89_1 hfz89_0 hfz89_1
                  try clear hx159_0
                  try clear hx159_1
                  try clear hx159_2
                  try clear hx159_3
                  try clear p159
                  try clear p2
                  try clear p6
                  try clear p64
                  try clear q159
                  obtain ⟨kq, x133_97, rfl, HA, HJ97, HO_138004, HO_159004, BK128, BK129, BK137, BK157, BK158, BK166, HB⟩ := hcut
                  cases kq with
                  | zero => exact absurd HA.out (by simp [panachetop_TopEnoughSticks.j6])
                  | succ kj97 =>
                   have H := HA.out
                   clear HA
                   simp only [panachetop_TopEnoughSticks.j6] at H
                   by_cases c132 : x133_97 = true
                   ·subst c132
                    have H1 : (some false) = some r := by rw [if_pos rfl] at H; exact H
                    clear H
                    have H := H1
                    clear H1
                    obtain rfl := Option.some.inj H
                    go_wp2
                    go_ret
                    exact ⟨by first | rfl | (simp [errW_none, errW_some] <;> rfl) | (simp only [← hji44]; first | rfl | (simp [errW_none, errW_some] <;> rfl)) | (simp [*, errW_none, errW_some] <;> rfl), bX HB⟩
                   ·replace c132 := Bool.eq_false_iff.mpr c132
                    subst c132
                    have H1 : (panachetop_TopEnoughSticks.l0 kj97 a2 t150 (wrap64 (x12_2 + 1)) l1_0 a1_1 a1_2 a1_3 a1_4 a1_5 a1_6 a1_7 a1_8 t130 t131 t132 t133 t134) = some r := by rw [if_neg (show ¬ (false = true) by decide)] at H; exact H
                    clear H
                    have H := H1
                    clear H1
                    have H' := Aside0.mk H
                    clear H
                    go_wp2
                    go_roundg kj97
                    case measure => have := HJ7.out; have := HK2.out; have := HJ45.out; have := HK4.out; have := HJ77.out; have := HJ97.out; omega
                    case rel => exact ⟨(wrap64 (x12_2 + 1)), (by first | rfl | (simp; done) | (simp [*]; done)), H', ⟨by have := HJ7.out; have := HK2.out; have := HJ45.out; have := HK4.out; have := HJ77.out; have := HJ97.out; omega⟩, ⟨by (with_reducible repeat (first | apply Kd.R_alloc | apply Kd.R_drewN | apply Kd.R_drew)); exact Kd.R_mono HO_138004.out (fun _ hk => trivial)⟩, ⟨kX BK128.out⟩, ⟨kX BK129.out⟩, ⟨kX BK137.out⟩, ⟨bX HB⟩⟩
        ·rw [if_neg c42] at H
         have c42b0 : decide (x12_2 < 2) = false := decide_eq_false c42
         clear c42
         replace H := Option.bind_eq_some_iff.mp H
         obtain ⟨t167, A1330, H⟩ := H
         try dsimp only at H
         have A133 := Aside0.mk A1330
         clear A1330
         obtain rfl := Option.some.inj H
         go_wp2_with (first | ((with_reducible refine gate_callee (f := 9) rfl ?_); refine goesA (some 134) Tryz.func9 #[] ?_; (with_reducible refine (panachetop_ellKnown05.calls  t167 _ A133.out (Tabs.below HT.out (bX HB))).mono ?_); rintro e w134 ⟨rfl, hb⟩; refine ⟨_, rfl, ?_⟩; replace HO_138004 := rB HO_138004 hb; replace BK128 := kB BK128 hb; replace BK129 := kB BK129 hb; replace BK137 := kB BK137 hb; replace HB := bS HB hb; (try clear hb); (try clear hb2); (try clear hk); (try clear hi)))
         go_ret
         exact ⟨by first | rfl | (simp [errW_none, errW_some] <;> rfl) | (simp [*, errW_none, errW_some] <;> rfl), bX HB⟩
     ·rw [if_neg c36] at H
      have c36b0 : (t151 == 0) = false := beq_eq_false_iff_ne.mpr c36
      have c36b1 : (t151 != 0) = true := bne_iff_ne.mpr c36
      obtain rfl := Option.some.inj H
      have hnb135 := NB129_128.out
      have hnc135 := NB128_129.out
      have hnb136 := NB129_137.out
      have hnc136 := NB137_129.out
      have hcz137_0 : wc.cell? ⟨gb129, 0, none⟩ = some (.slice A1_0 l1_0.length c1_0) := (blk_cell BK129.out 0).trans rfl
      have hcz137_1 : wc.cell? ⟨gb129, 1, none⟩ = some (.int .u8 a1_1) := (blk_cell BK129.out 1).trans rfl
      have hcz137_2 : wc.cell? ⟨gb129, 2, none⟩ = some (.int .u8 a1_2) := (blk_cell BK129.out 2).trans rfl
      have hcz137_3 : wc.cell? ⟨gb129, 3, none⟩ = some (.int .u8 a1_3) := (blk_cell BK129.out 3).trans rfl
      have hcz137_4 : wc.cell? ⟨gb129, 4, none⟩ = some (.int .u8 a1_4) := (blk_cell BK129.out 4).trans rfl
      have hcz137_5 : wc.cell? ⟨gb129, 5, none⟩ = some (.int .u8 a1_5) := (blk_cell BK129.out 5).trans rfl
      have hcz137_6 : wc.cell? ⟨gb129, 6, none⟩ = some (.int .u8 a1_6) := (blk_cell BK129.out 6).trans rfl
      have hcz137_7 : wc.cell? ⟨gb129, 7, none⟩ = some (.int .u8 a1_7) := (blk_cell BK129.out 7).trans rfl
      have hcz137_8 : wc.cell? ⟨gb129, 8, none⟩ = some (.int .u8 a1_8) := (blk_cell BK129.out 8).trans rfl
      have hfz137_0 := blk_frozen BK129.out 0
      have hfz137_1 := blk_frozen BK129.out 1
      have hfz137_2 := blk_frozen BK129.out 2
      have hfz137_3 := blk_frozen BK129.out 3
      have hfz137_4 := blk_frozen BK129.out 4
      have hfz137_5 := blk_frozen BK129.out 5
      have hfz137_6 := blk_frozen BK129.out 6
      have hfz137_7 := blk_frozen BK129.out 7
      have hfz137_8 := blk_frozen BK129.out 8
      go_wp2_with (first | ((with_reducible refine gate_callee (f := 11) rfl ?_); refine goesA (some 54) Tryz.func11 #[.agg #[.slice A1_0 l1_0.length c1_0, .int .u8 a1_1, .int .u8 a1_2, .int .u8 a1_3, .int .u8 a1_4, .int .u8 a1_5, .int .u8 a1_6, .int .u8 a1_7, .int .u8 a1_8]] ?_; (with_reducible refine (panachetop_Ivory_loss.calls _ _ l1_0 a1_1 a1_2 a1_3 a1_4 a1_5 a1_6 a1_7 a1_8 t148 t149 _ ?side1 ?side2 A34.out).mono ?_); (case side1 => exact sX (Kd.C_below HR1_0.out HB.out)); (case side2 => exact HC1_0.out); rintro e w138 ⟨rfl, hb⟩; refine ⟨_, rfl, ?_⟩; replace HO_138004 := rB HO_138004 hb; replace BK128 := kB BK128 hb; replace BK129 := kB BK129 hb; replace BK137 := kB BK137 hb; replace HB := bS HB hb; (try clear hb); (try clear hb2); (try clear hk); (try clear hi)) | ((with_reducible refine gate_callee (f := 10) rfl ?_); refine goesA (some 56) Tryz.func10 #[.agg #[.int .i64 t148, .int .i64 t149], .int .i64 t145] ?_; (with_reducible refine (stick_Give.calls t148 t149 t145 t150 t151 _ A35.out).mono ?_); rintro e w139 ⟨rfl, hb⟩; refine ⟨_, rfl, ?_⟩; replace HO_138004 := rB HO_138004 hb; replace BK128 := kB BK128 hb; replace BK129 := kB BK129 hb; replace BK137 := kB BK137 hb; replace HB := bS HB hb; (try clear hb); (try clear hb2); (try clear hk); (try clear hi)))
      go_ret
      exact ⟨by first | rfl | (simp [errW_none, errW_some] <;> rfl) | (simp [*, errW_none, errW_some] <;> rfl), bX HB⟩
 ·rw [if_neg c7] at H
  have c7b0 : (t146 == 0) = false := beq_eq_false_iff_ne.mpr c7
  have c7b1 : (t146 != 0) = true := bne_iff_ne.mpr c7
  have HC140 := Aside0.mk H
  clear H
  go_enter Tryz.func3, Tryz.ntmps3
  go_upto_region 4 with (first | ((with_reducible refine gate_dst (N := 3) rfl ?_); refine boxA (N := 3) (cs := #[.slice A0_0 l0_0.length c0_0]) (t := 24) ?_; intro gb128 hg w141 hbox hb; have BK128 := Aside0.mk (hbox); have GW128 := bG HB hg; have GE128 := bG HB hg; replace HB := bS HB hb; clear hb hbox hg) | ((with_reducible refine gate_dst (N := 4) rfl ?_); refine boxA (N := 4) (cs := #[.slice A1_0 l1_0.length c1_0, .int .u8 a1_1, .int .u8 a1_2, .int .u8 a1_3, .int .u8 a1_4, .int .u8 a1_5, .int .u8 a1_6, .int .u8 a1_7, .int .u8 a1_8]) (t := 28) ?_; intro gb129 hg w142 hbox hb; have BK129 := Aside0.mk (hbox); have GW129 := bG HB hg; have GE129 := bG HB hg; have NB128_129 := kN BK128 hg; have NB129_128 := kM BK128 hg; replace BK128 := kB BK128 hb; replace HB := bS HB hb; clear hb hbox hg; have hnb143 := NB128_129.out; have hnc143 := NB129_128.out; obtain ⟨hcz144_0, hfz144_0⟩ := cc1 BK128) | ((with_reducible refine gate_callee (f := 6) rfl ?_); refine goesA (some 20) Tryz.func6 #[.agg #[.slice A0_0 l0_0.length c0_0]] ?_; (with_reducible refine (panachetop_Horn_fan.calls k _ _ l0_0 t130 t131 t132 t133 t134 _ ?side1 ?side2 A4.out).mono ?_); (case side1 => exact sX (Kd.C_below HR0_0.out HB.out)); (case side2 => exact HC0_0.out); rintro e w145 ⟨v135, rfl, ho0, hb⟩; refine ⟨_, rfl, ?_⟩; have HO136 := Aside0.mk (Kd.R_lower ho0 (below_size (bX HB))); replace BK128 := kB BK128 hb; replace BK129 := kB BK129 hb; replace HB := bS HB hb; (try clear hb); (try clear hb2); (try clear hk); (try clear hi); (try clear ho0)) | ((with_reducible refine gate_dst (N := 7) rfl ?_); refine boxA (N := 7) (cs := #[.int .i64 0, .int .i64 0, .int .i64 0, .int .i64 0, .slice none 0 0]) (t := 33) ?_; intro gb137 hg w146 hbox hb; have BK137 := Aside0.mk (hbox); have GW137 := bG HB hg; have GE137 := bG HB hg; have NB128_137 := kN BK128 hg; have NB137_128 := kM BK128 hg; have NB129_137 := kN BK129 hg; have NB137_129 := kM BK129 hg; replace HO136 := rB HO136 hb; replace BK128 := kB BK128 hb; replace BK129 := kB BK129 hb; replace HB := bS HB hb; clear hb hbox hg; have hnb147 := NB137_128.out; have hnc147 := NB128_137.out; have hnb148 := NB137_129.out; have hnc148 := NB129_137.out; obtain ⟨hcz149_0, hcz149_1, hcz149_2, hcz149_3, hcz149_4, hfz149_0, hfz149_1, hfz149_2, hfz149_3, hfz149_4⟩ := cc5 BK137; obtain ⟨Ao150, co150, eo150⟩ := Kd.R_slice HO136.out; subst eo150) | ((with_reducible refine gate_callee (f := 8) rfl ?_); refine goesA (some 23) Tryz.func8 #[.agg #[.int .i64 t130, .int .i64 t131, .int .i64 t132, .int .i64 t133, .slice Ao150 t134.length co150]] ?_; (with_reducible refine (panachetop_ellFan.calls t130 t131 t132 t133 _ _ t134 t138 t139 t140 t141 t142 _ ?side1 ?side2 A5.out).mono ?_); (case side1 => refine (Kd.R_reads' (e := 47) (base := w.heap.size) (ok := fun k_ => True) (n := t134.length) (c := co150) ?_).2.2; exact (rX (Kd.R_mono (Kd.R_far (p := ⟨gb137, 4, none⟩) (Kd.R_far (p := ⟨gb137, 3, none⟩) (Kd.R_far (p := ⟨gb137, 2, none⟩) (Kd.R_far (p := ⟨gb137, 1, none⟩) (Kd.R_far (p := ⟨gb137, 0, none⟩) (Kd.R_types HO136.out BK137.out (by decide)) (fun _ hk => hk.2) (.int .i64 t130)) (fun _ hk => hk.2) (.int .i64 t131)) (fun _ hk => hk.2) (.int .i64 t132)) (fun _ hk => hk.2) (.int .i64 t133)) (fun _ hk => hk.2) (.slice Ao150 t134.length co150)) (fun _ h_ => h_.1)))); (case side2 => exact (Kd.R_reads' HO136.out).2.1); rintro e w151 ⟨v143, rfl, ho0, hb⟩; refine ⟨_, rfl, ?_⟩; have n0_ := Aside0.mk (Kd.R_elder' (rX (Kd.R_mono (Kd.R_far (p := ⟨gb137, 4, none⟩) (Kd.R_far (p := ⟨gb137, 3, none⟩) (Kd.R_far (p := ⟨gb137, 2, none⟩) (Kd.R_far (p := ⟨gb137, 1, none⟩) (Kd.R_far (p := ⟨gb137, 0, none⟩) (Kd.R_types HO136.out BK137.out (by decide)) (fun _ hk => hk.2) (.int .i64 t130)) (fun _ hk => hk.2) (.int .i64 t131)) (fun _ hk => hk.2) (.int .i64 t132)) (fun _ hk => hk.2) (.int .i64 t133)) (fun _ hk => hk.2) (.slice Ao150 t134.length co150)) (fun _ h_ => h_.1))) (Kd.R_base ho0) hb); have n1_ := Aside0.mk (Kd.R_lower (Kd.R_new' ho0 (Kd.R_lt (rX (Kd.R_mono (Kd.R_far (p := ⟨gb137, 4, none⟩) (Kd.R_far (p := ⟨gb137, 3, none⟩) (Kd.R_far (p := ⟨gb137, 2, none⟩) (Kd.R_far (p := ⟨gb137, 1, none⟩) (Kd.R_far (p := ⟨gb137, 0, none⟩) (Kd.R_types HO136.out BK137.out (by decide)) (fun _ hk => hk.2) (.int .i64 t130)) (fun _ hk => hk.2) (.int .i64 t131)) (fun _ hk => hk.2) (.int .i64 t132)) (fun _ hk => hk.2) (.int .i64 t133)) (fun _ hk => hk.2) (.slice Ao150 t134.length co150)) (fun _ h_ => h_.1))))) (below_size (bX HB))); have n2_ := Aside0.mk (blk_below (kF BK128 NB128_137) hb); have n3_ := Aside0.mk (blk_below (kF BK129 NB129_137) hb); have n4_ := Aside0.mk (blk_below (g := gb137) (o := .cells #[.int .i64 t130, .int .i64 t131, .int .i64 t132, .int .i64 t133, .slice Ao150 t134.length co150] 33 (0, 0)) (by (with_reducible repeat (first | refine blk_drewN ?_ _ | refine blk_drew ?_ | refine blk_alloc ?_ _)); refine blk_put (cs := #[.int .i64 t130, .int .i64 t131, .int .i64 t132, .int .i64 t133, .slice none 0 0]) ?_ 4 _ rfl; (with_reducible repeat (first | refine blk_drewN ?_ _ | refine blk_drew ?_ | refine blk_alloc ?_ _)); refine blk_put (cs := #[.int .i64 t130, .int .i64 t131, .int .i64 t132, .int .i64 0, .slice none 0 0]) ?_ 3 _ rfl; (with_reducible repeat (first | refine blk_drewN ?_ _ | refine blk_drew ?_ | refine blk_alloc ?_ _)); refine blk_put (cs := #[.int .i64 t130, .int .i64 t131, .int .i64 0, .int .i64 0, .slice none 0 0]) ?_ 2 _ rfl; (with_reducible repeat (first | refine blk_drewN ?_ _ | refine blk_drew ?_ | refine blk_alloc ?_ _)); refine blk_put (cs := #[.int .i64 t130, .int .i64 0, .int .i64 0, .int .i64 0, .slice none 0 0]) ?_ 1 _ rfl; (with_reducible repeat (first | refine blk_drewN ?_ _ | refine blk_drew ?_ | refine blk_alloc ?_ _)); refine blk_put (cs := #[.int .i64 0, .int .i64 0, .int .i64 0, .int .i64 0, .slice none 0 0]) ?_ 0 _ rfl; (with_reducible repeat (first | refine blk_drewN ?_ _ | refine blk_drew ?_ | refine blk_alloc ?_ _)); exact BK137.out) hb); have n5_ := bS HB hb; clear HO136; clear BK128; clear BK129; clear BK137; clear HB; have HO136 := n0_; have HO144 := n1_; have BK128 := n2_; have BK129 := n3_; have BK137 := n4_; have HB := n5_; clear n0_ n1_ n2_ n3_ n4_ n5_; (try clear hb); (try clear hb2); (try clear hk); (try clear hi); (try clear ho0); obtain ⟨Ao152, co152, eo152⟩ := Kd.R_slice HO144.out; subst eo152) | ((with_reducible refine gate_callee (f := 7) rfl ?_); refine goesA (some 26) Tryz.func7 #[.agg #[.int .i64 t138, .int .i64 t139, .int .i64 t140, .int .i64 t141, .slice Ao152 t142.length co152], .int .i64 (wrap64 (a2))] ?_; (with_reducible refine (rivet_Sticks.calls t138 t139 t140 t141 _ _ t142 (wrap64 (a2)) t145 t146 _ ?side1 ?side2 A6.out).mono ?_); (case side1 => exact sX (Kd.R_reads' HO144.out).2.2); (case side2 => exact (Kd.R_reads' HO144.out).2.1); rintro e w153 ⟨rfl, hb⟩; refine ⟨_, rfl, ?_⟩; replace HO136 := rB HO136 hb; replace HO144 := rB HO144 hb; replace BK128 := kB BK128 hb; replace BK129 := kB BK129 hb; replace BK137 := kB BK137 hb; replace HB := bS HB hb; (try clear hb); (try clear hb2); (try clear hk); (try clear hi)))
  (try simp only [Act.put, List.setIfInBounds_toArray, List.set_cons_zero, List.set_cons_succ])
  go_cut [6] (fun v6 wc => ∃ (kq : Nat) (x6_139 : Bool), v6 = .bool x6_139 ∧ Aside0 (panachetop_TopEnoughSticks.j0 kq x6_139 = some r) ∧ Aside0 (kq ≤ k) ∧ Aside0 (Kd.R k47 47 wc w.heap.size (fun _ => True) (.slice Ao150 t134.length co150) t134) ∧ Aside0 (wc.heap[gb128]? = some (.cells #[(.slice A0_0 l0_0.length c0_0)] 24 (0, 0))) ∧ Aside0 (wc.heap[gb129]? = some (.cells #[(.slice A1_0 l1_0.length c1_0), .int .u8 a1_1, .int .u8 a1_2, .int .u8 a1_3, .int .u8 a1_4, .int .u8 a1_5, .int .u8 a1_6, .int .u8 a1_7, .int .u8 a1_8] 28 (0, 0))) ∧ Aside0 (wc.heap[gb137]? = some (.cells #[.int .i64 t130, .int .i64 t131, .int .i64 t132, .int .i64 t133, (.slice Ao150 t134.length co150)] 33 (0, 0))) ∧ Aside0 (Below w.heap.size w wc))
  case first =>
   have H := HC140.out
   clear HC140
   by_cases c154 : t146 = 7
   ·rw [if_pos c154] at H
    have c154b0 : (t146 == 7) = true := beq_iff_eq.mpr c154
    have c154b1 : (t146 != 7) = false := bne_eq_false_iff_eq.mpr c154
    clear c154
    (first | rw [c154b0] | (simp only [i64_w, i32_w]; rw [c154b0]) | skip)
    by_cases c155 : t145 = 0
    ·rw [if_pos c155] at H
     have c155b0 : (t145 == 0) = true := beq_iff_eq.mpr c155
     have c155b1 : (t145 != 0) = false := bne_eq_false_iff_eq.mpr c155
     clear c155
     replace H := Option.bind_eq_some_iff.mp H
     obtain ⟨t147, A1560, H⟩ := H
     try dsimp only at H
     have A156 := Aside0.mk A1560
     clear A1560
     have H' := Aside0.mk H
     clear H
     go_wp2_with (first | (go_at_call 9; (with_reducible refine (panachetop_ellKnown05.calls  t147 _ A156.out (Tabs.below HT.out (bX HB))).mono ?_); rintro e w157 ⟨rfl, hb⟩; replace HO136 := rB HO136 hb; replace HO144 := rB HO144 hb; replace BK128 := kB BK128 hb; replace BK129 := kB BK129 hb; replace BK137 := kB BK137 hb; replace HB := bS HB hb; (try clear hb); (try clear hb2); (try clear hk); (try clear hi)))
     go_meet
     case rel => exact ⟨_, (t147), (by first | rfl | (simp; done) | (simp [*]; done)), H', ⟨by first | omega | exact Nat.le_refl _⟩, ⟨by (with_reducible repeat (first | apply Kd.R_alloc | apply Kd.R_drewN | apply Kd.R_drew)); exact Kd.R_mono HO136.out (fun _ hk => trivial)⟩, ⟨kX BK128.out⟩, ⟨kX BK129.out⟩, ⟨kX BK137.out⟩, ⟨bX HB⟩⟩
    ·rw [if_neg c155] at H
     have c155b0 : (t145 == 0) = false := beq_eq_false_iff_ne.mpr c155
     have c155b1 : (t145 != 0) = true := bne_iff_ne.mpr c155
     have H' := Aside0.mk H
     clear H
     go_wp2
     go_meet
     case rel => exact ⟨_, (false), (by first | rfl | (simp; done) | (simp [*]; done)), H', ⟨by first | omega | exact Nat.le_refl _⟩, ⟨by (with_reducible repeat (first | apply Kd.R_alloc | apply Kd.R_drewN | apply Kd.R_drew)); exact Kd.R_mono HO136.out (fun _ hk => trivial)⟩, ⟨kX BK128.out⟩, ⟨kX BK129.out⟩, ⟨kX BK137.out⟩, ⟨bX HB⟩⟩
   ·rw [if_neg c154] at H
    have c154b0 : (t146 == 7) = false := beq_eq_false_iff_ne.mpr c154
    have c154b1 : (t146 != 7) = true := bne_iff_ne.mpr c154
    (first | rw [c154b0] | (simp only [i64_w, i32_w]; rw [c154b0]) | skip)
    have H' := Aside0.mk H
    clear H
    go_wp2
    go_meet
    case rel => exact ⟨_, (false), (by first | rfl | (simp; done) | (simp [*]; done)), H', ⟨by first | omega | exact Nat.le_refl _⟩, ⟨by (with_reducible repeat (first | apply Kd.R_alloc | apply Kd.R_drewN | apply Kd.R_drew)); exact Kd.R_mono HO136.out (fun _ hk => trivial)⟩, ⟨kX BK128.out⟩, ⟨kX BK129.out⟩, ⟨kX BK137.out⟩, ⟨bX HB⟩⟩
  case rest =>
   clear HC140
   try clear c1
   try clear p1
   try clear q1
   try clear hx1
   try clear qi1
   try clear c2
   try clear p2
   try clear c3
   try clear c4
   try clear c5
   try clear c6
   try clear p6
   try clear c7
   try clear c7b0
   try clear c7b1
   try clear c8
   try clear c9
   try clear c10
   try clear c11
   try clear c12
   try clear c13
   try clear c14
   try clear c15
   try clear p15
   try clear q15
   try clear hx15
   try clear qi15
   try clear c16
   try clear c22
   try clear c22b0
   try clear c22b1
   try clear c22b2
   try clear c23
   try clear c24
   try clear c26
   try clear c26b0
   try clear c27
   try clear c28
   try clear c30
   try clear c31
   try clear c33
   try clear c36
   try clear c36b0
   try clear c36b1
   try clear c37
   try clear c38
   try clear c42
   try clear c42b0
   try clear c47
   try clear c48
   try clear c53
   try clear c54
   try clear c55
   try clear c57
   try clear c57b0
   try clear c57b1
   try clear c58
   try clear c58b0
   try clear c59
   try clear c60
   try clear c61
   try clear c63
   try clear c64
   try clear p64
   try clear c65
   try clear c67
   try clear c68
   try clear c69
   try clear c70
   try clear c73
   try clear c74
   try clear c75
   try clear c76
   try clear c79
   try clear c79b0
   try clear c80
   try clear c81
   try clear c82
   try clear c83
   try clear c85
   try clear c86
   try clear c87
   try clear c88
   try clear c90
   try clear c91
   try clear c91b0
   try clear c91b1
   try clear c92
   try clear c99
   try clear c100
   try clear c101
   try clear c102
   try clear c107
   try clear c108
   try clear c109
   try clear c110
   try clear c111
   try clear c113
   try clear c113b0
   try clear c113b1
   try clear c114
   try clear c114b0
   try clear c115
   try clear c116
   try clear c117
   try clear c118
   try clear c119
   try clear c121
   try clear c122
   try clear c123
   try clear c124
   try clear c126
   try clear c127
   try clear c128
   try clear c129
   try clear c130
   try clear c132
   try clear c135
   try clear c136
   try clear c143
   try clear c147
   try clear c148
   try clear c154
   try clear c154b0
   try clear c154b1
   try clear c155
   try clear c155b0
   try clear c155b1
   try clear hcz103_0 hcz103_1 hcz103_2 hcz103_3 hcz103_4 hfz103_0 hfz103_1 hfz103_2 hfz103_3 hfz103_4
   try clear hcz112_0 hcz112_1 hfz112_0 hfz112_1
   try clear hcz120_0 hcz120_1 hfz120_0 hfz120_1
   try clear hcz125_0 hcz125_1 hfz125_0 hfz125_1
   try clear hcz12_0 hfz12_0
   try clear hcz131_0 hcz131_1 hfz131_0 hfz131_1
   try clear hcz137_0 hcz137_1 hcz137_2 hcz137_3 hcz137_4 hcz137_5 hcz137_6 hcz137_7 hcz137_8 hfz137_0 hfz137_1 hfz137_2 hfz137_3 hfz137_4 hfz137_5 hfz137_6 hfz137_7 hfz137_8
   try clear hcz144_0 hfz144_0
   try clear hcz149_0 hcz149_1 hcz149_2 hcz149_3 hcz149_4 hfz149_0 hfz149_1 hfz149_2 hfz149_3 hfz149_4
   try clear hcz17_0 hcz17_1 hcz17_2 hcz17_3 hcz17_4 hfz17_0 hfz17_1 hfz17_2 hfz17_3 hfz17_4
   try clear hcz25_0 hcz25_1 hcz25_2 hcz25_3 hcz25_4 hfz25_0 hfz25_1 hfz25_2 hfz25_3 hfz25_4
   try clear hcz29_0 hcz29_1 hcz29_2 hcz29_3 hcz29_4 hfz29_0 hfz29_1 hfz29_2 hfz29_3 hfz29_4
   try clear hcz32_0 hcz32_1 hcz32_2 hcz32_3 hcz32_4 hfz32_0 hfz32_1 hfz32_2 hfz32_3 hfz32_4
   try clear hcz39_0 hcz39_1 hcz39_2 hcz39_3 hcz39_4 hcz39_5 hcz39_6 hcz39_7 hcz39_8 hfz39_0 hfz39_1 hfz39_2 hfz39_3 hfz39_4 hfz39_5 hfz39_6 hfz39_7 hfz39_8
   try clear hcz49_0 hcz49_1 hcz49_2 hcz49_3 hcz49_4 hcz49_5 hcz49_6 hcz49_7 hcz49_8 hfz49_0 hfz49_1 hfz49_2 hfz49_3 hfz49_4 hfz49_5 hfz49_6 hfz49_7 hfz49_8
   try clear hcz56_0 hcz56_1 hfz56_0 hfz56_1
   try clear hcz62_0 hcz62_1 hfz62_0 hfz62_1
   try clear hcz66_0 hcz66_1 hfz66_0 hfz66_1
   try clear hcz71_0 hcz71_1 hcz71_2 hcz71_3 hcz71_4 hfz71_0 hfz71_1 hfz71_2 hfz71_3 hfz71_4
   try clear hcz77_0 hcz77_1 hcz77_2 hcz77_3 hcz77_4 hfz77_0 hfz77_1 hfz77_2 hfz77_3 hfz77_4
   try clear hcz84_0 hcz84_1 hfz84_0 hfz84_1
   try clear hcz89_0 hcz89_1 hfz89_0 hfz89_1
   try clear hx159_0
   try clear hx159_1
   try clear hx159_2
   try clear hx159_3
   try clear p1
   try clear p15
   try clear p159
   try clear p2
   try clear p6
   try clear p64
   try clear q1
   try clear q15
   try clear q159
   obtain ⟨kq, x6_139, rfl, HA, HJ139, HO_138004, BK128, BK129, BK137, HB⟩ := hcut
   cases kq with
   | zero => exact absurd HA.out (by simp [panachetop_TopEnoughSticks.j0])
   | succ kj139 =>
    have H := HA.out
    clear HA
    simp only [panachetop_TopEnoughSticks.j0] at H
    obtain rfl := Option.some.inj H
    go_wp2
    go_ret
    exact ⟨by first | rfl | (simp [errW_none, errW_some] <;> rfl) | (simp [*, errW_none, errW_some] <;> rfl), bX HB⟩
end Go.Proofs.YtgdkmadcegleiaaGreatDoor.PEno
end
section
namespace Go.Proofs.YtgdkmadcegleiaaGreatDoor.PEno
open Go.RowKit Go.Proofs.YtgdkmadcegleiaaGreatDoorW.PrintWords Go.Proofs.YtgdkmadcegleiaaGreatDoorW.PrintLast Go.Proofs.YtgdkmadcegleiaaGreatDoorW.PrintMore Go.Proofs.YtgdkmadcegleiaaGreatDoor.X Go.Proofs.YtgdkmadcegleiaaGreatDoor.Z
attribute [local go_sem] max2_int min2_int max_two min_two max_three min_three max_four min_four   -- for this text's walks alone
set_option linter.unusedVariables false
set_option linter.unusedSimpArgs false
end Go.Proofs.YtgdkmadcegleiaaGreatDoor.PEno
end
section
/- TopEnoughSticks, the plain law: the fan of the bytes; the law's two rounds. -/
namespace Go.Proofs.YtgdkmadcegleiaaGreatDoor.Eno
open Go.RowKit Go.Proofs.YtgdkmadcegleiaaGreatDoor.X Go.Proofs.YtgdkmadcegleiaaGreatDoor.Z Go.Proofs.YtgdkmadcegleiaaGreatDoor.Arc Go.Proofs.YtgdkmadcegleiaaGreatDoor.PEno Go.Proofs.YtgdkmadcegleiaaGreatDoorW.PrintWords Go.Proofs.YtgdkmadcegleiaaGreatDoorW.PrintLast Go.Proofs.YtgdkmadcegleiaaGreatDoorW.PrintMore
def Bytes (l : List S26) : Prop := ∀ x ∈ l, 0 ≤ x.f0 ∧ x.f0 ≤ 255 ∧ 0 ≤ x.f1 ∧ x.f1 ≤ 255
theorem gap_ok (a b : Int) (h0 : 0 ≤ a) (h1 : a ≤ 255) (h2 : 0 ≤ b) (h3 : b ≤ 255) :
    gapBad ⟨⟨wrap64 a, wrap64 (wrap64 a + Int.tmod (wrap64 b) 20)⟩, ⟨wrap64 (Int.tdiv (wrap64 b) 16), wrap64 (wrap64 (Int.tdiv (wrap64 b) 16) + Int.tmod (wrap64 a) 3)⟩⟩ = false := by
  rw [w64 (x := a) (by omega) (by omega), w64 (x := b) (by omega) (by omega), Int.tmod_eq_emod_of_nonneg h2, Int.tmod_eq_emod_of_nonneg h0, Int.tdiv_eq_ediv_of_nonneg h2, w64 (x := b / 16) (by omega) (by omega), w64 (x := a + b % 20) (by omega) (by omega), w64 (x := b / 16 + a % 3) (by omega) (by omega)]
  unfold gapBad spanB
  simp only [Bool.or_eq_false_iff, Bool.not_eq_false', Bool.and_eq_true, decide_eq_true_eq]
  omega
theorem fan_loop (l : List S26) (hB : Bytes l) : ∀ (m k i : Nat) (gs : List Gap), gs.length = i → i ≤ l.length → i ≤ 10 → 10 - i ≤ m → 2 * m + 2 ≤ k → gs.any gapBad = false →
    ∃ gs', panachetop_Horn_fan.l0 k (i : Int) l 900 1000 40 50 gs = some (900, 1000, 40, 50, gs') ∧ gs'.length ≤ 10 ∧ gs'.any gapBad = false := by
  intro m
  induction m with
  | zero =>
    intro k i gs hg hi h10 hm hk hb
    obtain ⟨k, rfl⟩ := Nat.exists_eq_add_of_le' (show 2 ≤ k by omega)
    show ∃ gs', panachetop_Horn_fan.l0 (k + 1 + 1) (i : Int) l 900 1000 40 50 gs = _ ∧ _
    have hd : decide ((i : Int) < 10) = false := decide_eq_false (by omega)
    refine ⟨gs, ?_, by omega, hb⟩
    rw [panachetop_Horn_fan.l0, hd]
    split <;> rw [panachetop_Horn_fan.j1, if_neg (by decide)]
  | succ m ih =>
    intro k i gs hg hi h10 hm hk hb
    obtain ⟨k, rfl⟩ := Nat.exists_eq_add_of_le' (show 2 ≤ k by omega)
    show ∃ gs', panachetop_Horn_fan.l0 (k + 1 + 1) (i : Int) l 900 1000 40 50 gs = _ ∧ _
    rw [panachetop_Horn_fan.l0]
    by_cases hlt : i < l.length
    · rw [if_pos (by omega)]
      by_cases h : i < 10
      · have hd : decide ((i : Int) < 10) = true := decide_eq_true (by omega)
        rw [hd, panachetop_Horn_fan.j1, if_pos rfl, if_pos (by omega), if_pos (by omega)]
        unfold panachetop_ellSpan.f
        simp only [Option.bind_some]
        rw [if_pos (by omega), w64 (x := (i : Int) + 1) (by omega) (by omega)]
        have hx : rd_T26 l (i : Int) ∈ l := by
          unfold rd_T26
          rw [Int.toNat_natCast, List.getD_eq_getElem?_getD, List.getElem?_eq_getElem hlt]
          exact List.getElem_mem hlt
        obtain ⟨b0, b1, b2, b3⟩ := hB _ hx
        have := ih k (i + 1) (gs ++ [_]) (by rw [List.length_append]; simp; omega) (by omega) (by omega) (by omega) (by omega) (by rw [List.any_append, hb]; simp only [List.any_cons, List.any_nil, Bool.or_false, Bool.false_or]; exact gap_ok _ _ b0 b1 b2 b3)
        exact this
      · have hd : decide ((i : Int) < 10) = false := decide_eq_false (by omega)
        rw [hd, panachetop_Horn_fan.j1, if_neg (by decide)]
        exact ⟨gs, rfl, by omega, hb⟩
    · rw [if_neg (by omega), panachetop_Horn_fan.j1, if_neg (by decide)]
      exact ⟨gs, rfl, by omega, hb⟩
theorem fan_f (l : List S26) (hB : Bytes l) (k : Nat) (hk : 22 ≤ k) : ∃ gs, panachetop_Horn_fan.f k l = some (900, 1000, 40, 50, gs) ∧ gs.length ≤ 10 ∧ gs.any gapBad = false := by
  unfold panachetop_Horn_fan.f panachetop_ellSpan.f
  simp only [Option.bind_some]
  exact fan_loop l hB 10 k 0 [] rfl (Nat.zero_le _) (by omega) (by omega) (by omega) rfl
theorem loss_f (l : List S26) (b1 b2 b3 b4 b5 b6 b7 b8 : Int) (h70 : 0 ≤ b7) (h71 : b7 ≤ 255) (h80 : 0 ≤ b8) (h81 : b8 ≤ 255) :
    panachetop_Ivory_loss.f l b1 b2 b3 b4 b5 b6 b7 b8 = some (2 + b7 % 9, b8 % (2 + b7 % 9 + 1) / 2) := by
  unfold panachetop_Ivory_loss.f
  rw [w64 (x := b7) (by omega) (by omega), Int.tmod_eq_emod_of_nonneg h70]
  obtain ⟨q, hq⟩ : ∃ q, b7 % 9 = q := ⟨_, rfl⟩
  have q0 : 0 ≤ q := by omega
  have q1 : q < 9 := by omega
  rw [hq]
  clear hq
  rw [w64 (x := 2 + q) (by omega) (by omega), w64 (x := 2 + q + 1) (by omega) (by omega), if_neg (by omega), w64 (x := b8) (by omega) (by omega), Int.tmod_eq_emod_of_nonneg h80]
  have r0 : 0 ≤ b8 % (2 + q + 1) := Int.emod_nonneg _ (by omega)
  have r1 : b8 % (2 + q + 1) < 2 + q + 1 := Int.emod_lt_of_pos _ (by omega)
  rw [Int.tdiv_eq_ediv_of_nonneg r0]
  generalize b8 % (2 + q + 1) = r at *
  rw [w64 (x := r / 2) (by omega) (by omega)]
theorem loss_bounds (b7 b8 : Int) : 2 ≤ 2 + b7 % 9 ∧ 2 + b7 % 9 ≤ 10 ∧ 0 ≤ b8 % (2 + b7 % 9 + 1) / 2 ∧ 2 * (b8 % (2 + b7 % 9 + 1) / 2) ≤ 2 + b7 % 9 := by
  have q0 : 0 ≤ b7 % 9 := by omega
  have q1 : b7 % 9 < 9 := by omega
  generalize b7 % 9 = q at *
  have r0 : 0 ≤ b8 % (2 + q + 1) := Int.emod_nonneg _ (by omega)
  have r1 : b8 % (2 + q + 1) < 2 + q + 1 := Int.emod_lt_of_pos _ (by omega)
  generalize b8 % (2 + q + 1) = r at *
  omega
section
variable {l : List S26} {b1 b2 b3 b4 b5 b6 b7 b8 deg r x W W1 : Int} {g : Gap} {gs : List Gap}
/-- The inner loop: it makes a fan of T equal gaps and asks how far it opens. -/
theorem inner (hb : gapBad g = false) (T K : Nat) (b : Bool) (hT : T ≤ 40) (hgo : ∀ j : Nat, 1 ≤ j → j ≤ T → (j : Int) < W) (hend : ¬ ((T : Int) + 1 < W ∧ T + 1 ≤ 40)) (hd0 : 0 ≤ deg) (hd1 : deg ≤ 255)
    (hcond : (if F g T ≥ deg then ((decide (W > 0)) != (x == 0)) else (false != (x == 0))) = b)
    (hc : ∀ k, K ≤ k → panachetop_TopEnoughSticks.j6 k deg r x b l b1 b2 b3 b4 b5 b6 b7 b8 900 1000 40 50 (g :: gs) = some true) :
    ∀ (m k i : Nat), 1 ≤ i → i + m = T + 1 → 2 * m + 2 + K ≤ k →
    panachetop_TopEnoughSticks.l1 k deg r x (i : Int) l b1 b2 b3 b4 b5 b6 b7 b8 900 1000 40 50 (g :: gs) W W1 900 1000 40 50 (List.replicate (i - 1) g) = some true := by
  intro m
  induction m with
  | zero =>
    intro k i hi1 hi hk
    obtain ⟨k, rfl⟩ := Nat.exists_eq_add_of_le' (show 2 ≤ k by omega)
    obtain rfl : i = T + 1 := by omega
    have hj : panachetop_TopEnoughSticks.j5 (k + 1) deg r x ((T + 1 : Nat) : Int) false l b1 b2 b3 b4 b5 b6 b7 b8 900 1000 40 50 (g :: gs) W W1 900 1000 40 50 (List.replicate (T + 1 - 1) g) = some true := by
      rw [panachetop_TopEnoughSticks.j5, if_neg (by decide)]
      obtain ⟨hi2, eo⟩ := Opens_rep hb T hT
      rw [Nat.add_sub_cancel, eo]
      have hc' := hc k (by omega)
      rw [← hcond] at hc'
      simp only [Option.bind_some, if_true]
      rw [w64 (x := deg) (by omega) (by omega)]
      by_cases h : F g T ≥ deg
      · rw [if_pos h] at hc' ⊢
        exact hc'
      · rw [if_neg h] at hc' ⊢
        exact hc'
    show panachetop_TopEnoughSticks.l1 (k + 1 + 1) _ _ _ _ _ _ _ _ _ _ _ _ _ _ _ _ _ _ _ _ _ _ _ _ _ = _
    rw [panachetop_TopEnoughSticks.l1]
    by_cases hlt : ((T + 1 : Nat) : Int) < W
    · rw [if_pos hlt, decide_eq_false (by omega)]
      exact hj
    · rw [if_neg hlt]
      exact hj
  | succ m ih =>
    intro k i hi1 hi hk
    obtain ⟨k, rfl⟩ := Nat.exists_eq_add_of_le' (show 2 ≤ k by omega)
    have h := ih k (i + 1) (by omega) (by omega) (by omega)
    have hw : wrap64 ((i : Int) + 1) = ((i + 1 : Nat) : Int) := w64 (by omega) (by omega)
    have hL : List.replicate (i + 1 - 1) g = List.replicate (i - 1) g ++ [g] := by
      rw [← List.replicate_succ']
      congr 1
      omega
    have hlen : (List.replicate (i - 1) g).length < 4398046511104 := by rw [List.length_replicate]; omega
    rw [hL] at h
    generalize List.replicate (i - 1) g = L at *
    show panachetop_TopEnoughSticks.l1 (k + 1 + 1) _ _ _ _ _ _ _ _ _ _ _ _ _ _ _ _ _ _ _ _ _ _ _ _ _ = _
    rw [panachetop_TopEnoughSticks.l1, if_pos (hgo i hi1 (by omega)), decide_eq_true (by omega), panachetop_TopEnoughSticks.j5, if_pos rfl, if_pos (by simp only [List.length_cons]; omega), if_pos hlen, hw]
    exact h
/-- A round of the outer loop: what the piercer leaves of m sticks. -/
theorem round (hb : gapBad g = false) (T K : Nat) (m : Int) (h70 : 0 ≤ b7) (h71 : b7 ≤ 255) (h80 : 0 ≤ b8) (h81 : b8 ≤ 255) (hd0 : 0 ≤ deg) (hd1 : deg ≤ 255) (hx : x < 2) (hm0 : 0 ≤ m) (hm1 : m ≤ 1000000) (hm : mx 0 (wrap64 (r - x)) = m) (hr : m ≤ r)
    (hW : m - B (2 + b7 % 9) (b8 % (2 + b7 % 9 + 1) / 2) m = W)
    (hT : T ≤ 40) (hgo : ∀ j : Nat, 1 ≤ j → j ≤ T → (j : Int) < W) (hend : ¬ ((T : Int) + 1 < W ∧ T + 1 ≤ 40))
    (hcond : (if F g T ≥ deg then ((decide (W > 0)) != (x == 0)) else (false != (x == 0))) = false)
    (hc : ∀ k, K ≤ k → panachetop_TopEnoughSticks.l0 k deg r (wrap64 (x + 1)) l b1 b2 b3 b4 b5 b6 b7 b8 900 1000 40 50 (g :: gs) = some true) (k : Nat) (hk : K + 90 ≤ k) :
    panachetop_TopEnoughSticks.l0 k deg r x l b1 b2 b3 b4 b5 b6 b7 b8 900 1000 40 50 (g :: gs) = some true := by
  obtain ⟨k, rfl⟩ := Nat.exists_eq_add_of_le' (show 2 ≤ k by omega)
  obtain ⟨o0, o1, p0, p1⟩ := loss_bounds b7 b8
  have el := loss_f l b1 b2 b3 b4 b5 b6 b7 b8 h70 h71 h80 h81
  generalize b8 % (2 + b7 % 9 + 1) / 2 = high at *
  generalize 2 + b7 % 9 = of at *
  obtain ⟨c0, c1, c2⟩ := B_bounds (of := of) (high := high) (m := m) o0 p0 p1 hm0
  have ew := whole_f (of := of) (high := high) (m := m) o0 o1 p0 p1 hm0 hm1
  rw [hW] at ew
  have hj : ∀ q, K + 1 ≤ q → panachetop_TopEnoughSticks.j6 q deg r x false l b1 b2 b3 b4 b5 b6 b7 b8 900 1000 40 50 (g :: gs) = some true := by
    intro q hq
    obtain ⟨q, rfl⟩ := Nat.exists_eq_add_of_le' (show 1 ≤ q by omega)
    rw [panachetop_TopEnoughSticks.j6, if_neg (by decide)]
    exact hc q (by omega)
  have hin := inner (l := l) (b1 := b1) (b2 := b2) (b3 := b3) (b4 := b4) (b5 := b5) (b6 := b6) (b7 := b7) (b8 := b8) (r := r) (W1 := m) (gs := gs) hb T (K + 1) false hT hgo hend hd0 hd1 hcond hj T k 1 (by omega) (by omega) (by omega)
  show panachetop_TopEnoughSticks.l0 (k + 1 + 1) _ _ _ _ _ _ _ _ _ _ _ _ _ _ _ _ _ = _
  rw [panachetop_TopEnoughSticks.l0, if_pos hx, el]
  simp only [Option.bind_some]
  have ew' : stick_Whole.f of high (mx 0 (wrap64 (r - x))) = some (W, m, 0) := by rw [hm]; exact ew
  rw [ew']
  simp only [Option.bind_some, if_true]
  rw [if_neg (by omega), decide_eq_false (by omega), panachetop_TopEnoughSticks.j3, if_neg (by decide)]
  exact hin
end
theorem rounds {l : List S26} {b1 b2 b3 b4 b5 b6 b7 b8 deg : Int} {g : Gap} {gs : List Gap} (hb : gapBad g = false) (h70 : 0 ≤ b7) (h71 : b7 ≤ 255) (h80 : 0 ≤ b8) (h81 : b8 ≤ 255) (hd0 : 0 ≤ deg) (hd1 : deg ≤ 255)
    (t : Nat) (ht : t ≤ 40) (hge : F g t ≥ deg) (hlt : ∀ j, j < t → F g j < deg) (k : Nat) (hk : 300 ≤ k) :
    panachetop_TopEnoughSticks.j1 k deg ((t : Int) + 1) false l b1 b2 b3 b4 b5 b6 b7 b8 900 1000 40 50 (g :: gs) = some true := by
  obtain ⟨k, rfl⟩ := Nat.exists_eq_add_of_le' (show 1 ≤ k by omega)
  obtain ⟨o0, o1, p0, p1⟩ := loss_bounds b7 b8
  have el := loss_f l b1 b2 b3 b4 b5 b6 b7 b8 h70 h71 h80 h81
  obtain ⟨r, er, r0, r1, rA, rB⟩ := give_f (want := (t : Int) + 1) o0 o1 p0 p1 (by omega) (by omega) 60 (by omega)
  obtain ⟨c0, c1, c2⟩ := B_bounds (m := r) o0 p0 p1 r0
  have hr1 : 1 ≤ r := by omega
  have hrA : r - 1 - B (2 + b7 % 9) (b8 % (2 + b7 % 9 + 1) / 2) (r - 1) < (t : Int) + 1 := by
    rcases rA with h | h
    · omega
    · exact h
  obtain ⟨c0', c1', c2'⟩ := B_bounds (m := r - 1) o0 p0 p1 (by omega)
  have er' : stick_Give.f (2 + b7 % 9) (b8 % (2 + b7 % 9 + 1) / 2) ((t : Int) + 1) = some (r, 0) := er
  rw [panachetop_TopEnoughSticks.j1, if_neg (by decide), el]
  simp only [Option.bind_some]
  rw [er']
  simp only [Option.bind_some, if_true]
  have e2 : wrap64 ((1 : Int) + 1) = 2 := by decide +kernel
  have e1 : wrap64 ((0 : Int) + 1) = 1 := by decide +kernel
  obtain ⟨W0, hW0⟩ : ∃ W0, r - B (2 + b7 % 9) (b8 % (2 + b7 % 9 + 1) / 2) r = W0 := ⟨_, rfl⟩
  obtain ⟨W1, hW1⟩ : ∃ W1, r - 1 - B (2 + b7 % 9) (b8 % (2 + b7 % 9 + 1) / 2) (r - 1) = W1 := ⟨_, rfl⟩
  -- how many gaps
  obtain ⟨T0, hT0, hT0a, hT0b, hT0c⟩ : ∃ T : Nat, T ≤ 40 ∧ t ≤ T ∧ (∀ j : Nat, 1 ≤ j → j ≤ T → (j : Int) < W0) ∧ ¬ ((T : Int) + 1 < W0 ∧ T + 1 ≤ 40) := by
    by_cases h : W0 ≤ 41
    · exact ⟨(W0 - 1).toNat, by omega, by omega, fun j h1 h2 => by omega, by omega⟩
    · exact ⟨40, by omega, by omega, fun j h1 h2 => by omega, by omega⟩
  have hT1 : ∃ T : Nat, T ≤ 40 ∧ (0 < W1 → T < t) ∧ (∀ j : Nat, 1 ≤ j → j ≤ T → (j : Int) < W1) ∧ ¬ ((T : Int) + 1 < W1 ∧ T + 1 ≤ 40) :=
    ⟨(W1 - 1).toNat, by omega, fun h => by omega, fun j h1 h2 => by omega, by omega⟩
  obtain ⟨T1, hT1, hT1a, hT1b, hT1c⟩ := hT1
  have hm0 : mx 0 (wrap64 (r - 0)) = r := by rw [w64 (by omega) (by omega)]; unfold mx; split <;> omega
  have hm1 : mx 0 (wrap64 (r - 1)) = r - 1 := by rw [w64 (by omega) (by omega)]; unfold mx; split <;> omega
  have hC0 : (if F g T0 ≥ deg then ((decide (W0 > 0)) != ((0 : Int) == 0)) else (false != ((0 : Int) == 0))) = false := by
    have := F_mono hb hT0a
    rw [if_pos (by omega), decide_eq_true (show W0 > 0 by omega)]
    rfl
  have hC1 : (if F g T1 ≥ deg then ((decide (W1 > 0)) != ((1 : Int) == 0)) else (false != ((1 : Int) == 0))) = false := by
    by_cases h : 0 < W1
    · have := hlt T1 (hT1a h)
      rw [if_neg (by omega)]
      rfl
    · rw [decide_eq_false (show ¬ W1 > 0 by omega)]
      split <;> rfl
  refine round hb T0 100 r h70 h71 h80 h81 hd0 hd1 (by omega) r0 r1 hm0 (by omega) hW0 hT0 hT0b hT0c hC0 (fun k1 hk1 => ?_) k (by omega)
  rw [e1]
  refine round hb T1 2 (r - 1) h70 h71 h80 h81 hd0 hd1 (by omega) (by omega) (by omega) hm1 (by omega) hW1 hT1 hT1b hT1c hC1 (fun k2 hk2 => ?_) k1 (by omega)
  rw [e2]
  obtain ⟨k2, rfl⟩ := Nat.exists_eq_add_of_le' (show 1 ≤ k2 by omega)
  rw [panachetop_TopEnoughSticks.l0, if_neg (by decide)]
  rfl
theorem law (l l1 : List S26) (hB : Bytes l) (b1 b2 b3 b4 b5 b6 b7 b8 deg : Int) (h70 : 0 ≤ b7) (h71 : b7 ≤ 255) (h80 : 0 ≤ b8) (h81 : b8 ≤ 255) (hd0 : 0 ≤ deg) (hd1 : deg ≤ 255) (k : Nat) (hk : 300 ≤ k) :
    panachetop_TopEnoughSticks.f k l l1 b1 b2 b3 b4 b5 b6 b7 b8 deg = some true := by
  obtain ⟨gs, e1, hl, hb⟩ := fan_f l hB k (by omega)
  unfold panachetop_TopEnoughSticks.f
  rw [e1]
  simp only [Option.bind_some]
  have e2 : panachetop_ellFan.f 900 1000 40 50 gs = some (900, 1000, 40, 50, gs) := by
    unfold panachetop_ellFan.f
    simp only [Option.bind_some]
    rw [if_pos (by rw [List.length_nil]; omega)]
    rfl
  rw [e2]
  simp only [Option.bind_some]
  rw [w64 (x := deg) (by omega) (by omega)]
  have none_ : ∀ e : Option Bool, (if (7 : Int) = 0 then e else (if (7 : Int) = 7 then (if (0 : Int) = 0 then ((panachetop_ellKnown05.f).bind fun t147 => (panachetop_TopEnoughSticks.j0 k t147)) else (panachetop_TopEnoughSticks.j0 k false)) else (panachetop_TopEnoughSticks.j0 k false))) = some true := by
    intro e
    rw [if_neg (by decide), if_pos rfl, if_pos rfl]
    obtain ⟨k, rfl⟩ := Nat.exists_eq_add_of_le' (show 1 ≤ k by omega)
    show (some true).bind _ = _
    rfl
  cases gs with
  | nil =>
    rw [sticks_nil deg hd0 (by omega)]
    simp only [Option.bind_some]
    exact none_ _
  | cons g gs =>
    have hg : gapBad g = false := by
      rw [List.any_cons, Bool.or_eq_false_iff] at hb
      exact hb.1
    rcases sticks_cons gs (by omega) hb deg hd0 (by omega) with e | ⟨t, ht, e, hge, hlt⟩
    · rw [e]
      simp only [Option.bind_some]
      exact none_ _
    · rw [e]
      simp only [Option.bind_some, if_true]
      rw [if_neg (by simp only [List.length_cons]; omega), if_neg (by omega), decide_eq_false (by omega)]
      exact rounds hg h70 h71 h80 h81 hd0 hd1 t ht hge hlt k hk
end Go.Proofs.YtgdkmadcegleiaaGreatDoor.Eno
end
section
/- A fan in bytes (Horn) as the reader reads it: a row of pairs of bytes. -/
namespace Go.Proofs.YtgdkmadcegleiaaGreatDoor.Horn
open Go.Shelf Go.ChangeShapes Go.WideShapes Go.ChangeAt Go.RowKit Go.Lib
section
variable {H : Type} {enc : TypeId × Value → H} {P : Program} {w : World} {base : Nat} {spare : Nat → Bool} {held : Bool}
theorem trod_array2 {t e : TypeId} {fuel : Nat} {c0 c1 : Value} {x : DataW H × List MemPlace} (ht : P.underlying t = some (.array 2 e)) (hce : P.cellsOf e = 1)
    (h : DataW.trod enc P w base spare held fuel t [c0, c1] = some x) :
    ∃ y0 y1 n, x = (.agg [y0.1, y1.1], y0.2 ++ y1.2) ∧ DataW.trod enc P w base spare held n e [c0] = some y0 ∧ DataW.trod enc P w base spare held n e [c1] = some y1 := by
  cases fuel with
  | zero => simp [DataW.trod] at h
  | succ n =>
    unfold DataW.trod at h
    rw [ht] at h
    have r2 : List.range 2 = [0, 1] := rfl
    simp [r2, hce] at h
    obtain ⟨_, h⟩ := h
    cases h0 : DataW.trod enc P w base spare held n e [c0] with
    | none => simp [h0] at h
    | some y0 =>
      cases h1 : DataW.trod enc P w base spare held n e [c1] with
      | none => simp [h0, h1] at h
      | some y1 =>
        simp [h0, h1] at h
        exact ⟨y0, y1, n, h.symm, h0, h1⟩
end
theorem list_of {α : Type} {Q : Nat → α → Prop} : ∀ n : Nat, (∀ i, i < n → ∃ x, Q i x) → ∃ l : List α, l.length = n ∧ ∀ i x, l[i]? = some x → Q i x := by
  intro n
  induction n with
  | zero => exact fun _ => ⟨[], rfl, fun i x h => by simp at h⟩
  | succ n ih =>
    intro h
    obtain ⟨l, hl, hq⟩ := ih (fun i hi => h i (by omega))
    obtain ⟨x, hx⟩ := h n (by omega)
    refine ⟨l ++ [x], by simp [hl], fun i y hy => ?_⟩
    by_cases hi : i < n
    · rw [List.getElem?_append_left (by omega)] at hy
      exact hq i y hy
    · rw [List.getElem?_append_right (by omega)] at hy
      have : i = n := by
        have := (List.getElem?_eq_some_iff.1 hy).1
        simp at this
        omega
      subst this
      simp [hl] at hy
      subst hy
      exact hx
/-- Pairs of bytes in memory. -/
def Pairs (w : World) (A : Option Addr) (l : List (Int × Int)) : Prop :=
  0 < l.length → ∃ ad, A = some ad ∧ ∀ j x, l[j]? = some x → w.cell? (ad.add (j * 2)) = some (.int .u8 x.1) ∧ w.cell? (ad.add (j * 2 + 1)) = some (.int .u8 x.2)
def Bytes2 (l : List (Int × Int)) : Prop := ∀ x ∈ l, 0 ≤ x.1 ∧ x.1 ≤ 255 ∧ 0 ≤ x.2 ∧ x.2 ≤ 255
set_option maxRecDepth 100000 in
theorem open_horn {H : Type} {enc : TypeId × Value → H} {W : World} {b0 : Nat} {sp : Nat → Bool} {held : Bool} {v : Value} {d : DataW H} {ps : List MemPlace}
    (hval : Value.okWide Tryz.prog W .any b0 24 v) (hd : DataW.Trod enc Tryz.prog W 0 sp held 24 v d ps) :
    ∃ (A : Option Addr) (c : Nat) (l : List (Int × Int)), v = .agg #[.slice A l.length c] ∧ l.length ≤ c ∧ l.length ≤ 9223372036854775807 ∧ Pairs W A l ∧ Bytes2 l := by
  obtain ⟨cs, rfl, hsz, _⟩ : ∃ cs, v = .agg cs ∧ cs.size = Tryz.prog.cellsOf 24 ∧ Row.okWide Tryz.prog W .any b0 24 cs := by
    simpa [Value.okWide, Tryz.underlying24] using hval
  rw [show Tryz.prog.cellsOf 24 = 1 from by kernel_rfl] at hsz
  obtain ⟨l0⟩ := cs
  obtain ⟨c0, rfl⟩ : ∃ c0, l0 = [c0] := by
    match l0, hsz with
    | [c0], _ => exact ⟨c0, rfl⟩
  obtain ⟨fuel, hf⟩ := hd
  obtain ⟨y0, n, _, _, hs⟩ := trod_struct1 Tryz.underlying24 hf
  have hs2 : DataW.trod enc Tryz.prog W 0 sp held n 22 [c0] = some y0 := hs
  rcases DataW.trod_slice Tryz.underlying22 hs2 with ⟨e, _⟩ | ⟨a, len, cap, elems, rest, m, _, e, _, _, hlc, hcm, hel, hcell, _⟩
  · obtain rfl : c0 = .slice none 0 0 := by simpa using e
    exact ⟨none, 0, [], rfl, Nat.le_refl _, by simp, fun h => absurd h (by simp), fun x hx => by simp at hx⟩
  · obtain rfl : c0 = .slice (some a) len cap := by simpa using e
    have hc2 : Tryz.prog.cellsOf 26 = 2 := by kernel_rfl
    have hc1 : Tryz.prog.cellsOf 5 = 1 := by kernel_rfl
    have key : ∀ i, i < len → ∃ x : Int × Int, (W.cell? (a.add (i * 2)) = some (.int .u8 x.1) ∧ W.cell? (a.add (i * 2 + 1)) = some (.int .u8 x.2)) ∧ (0 ≤ x.1 ∧ x.1 ≤ 255 ∧ 0 ≤ x.2 ∧ x.2 ≤ 255) := by
      intro i hi
      have h := hcell i hi
      rw [List.getElem?_eq_getElem (by omega), hc2] at h
      obtain ⟨cs, h1, h2⟩ := Option.bind_eq_some_iff.1 h
      obtain ⟨_, hl2, hc⟩ := World.cells?_some h1
      match cs, hl2 with
      | [u0, u1], _ =>
        obtain ⟨y0, y1, q, _, hy0, hy1⟩ := trod_array2 Tryz.underlying26 hc1 h2
        obtain ⟨x0, e0, _, w0⟩ := DataW.trod_int Tryz.underlying5 hy0
        obtain ⟨x1, e1, _, w1⟩ := DataW.trod_int Tryz.underlying5 hy1
        obtain rfl : u0 = .int .u8 x0 := by simpa using e0
        obtain rfl : u1 = .int .u8 x1 := by simpa using e1
        have g0 := hc 0 (by omega)
        have g1 := hc 1 (by omega)
        have k0 := bounds_u8 w0
        have k1 := bounds_u8 w1
        refine ⟨(x0, x1), ⟨?_, ?_⟩, by omega⟩
        · rw [Addr.add_zero'] at g0
          exact g0
        · rw [Addr.add_add] at g1
          exact g1
    obtain ⟨l, hl, hq⟩ := list_of len key
    refine ⟨some a, cap, l, by rw [hl], by omega, by rw [hl]; simp only [maxLen] at hcm; omega, fun _ => ⟨a, rfl, fun j x hx => (hq j x hx).1⟩, fun x hx => ?_⟩
    obtain ⟨j, hj, e⟩ := List.mem_iff_getElem.1 hx
    exact (hq j x (by rw [List.getElem?_eq_getElem hj, e])).2
end Go.Proofs.YtgdkmadcegleiaaGreatDoor.Horn
end
section
/- A blade, a saw and a piercer in bytes (Ivory) as the reader reads it: a row of pairs of bytes, and eight bytes. -/
namespace Go.Proofs.YtgdkmadcegleiaaGreatDoor.Horn
open Go.Shelf Go.ChangeShapes Go.WideShapes Go.ChangeAt Go.RowKit Go.Lib
set_option maxRecDepth 100000 in
theorem open_pairs {H : Type} {enc : TypeId × Value → H} {W : World} {sp : Nat → Bool} {held : Bool} {n : Nat} {c0 : Value} {y0 : DataW H × List MemPlace} (hs2 : DataW.trod enc Tryz.prog W 0 sp held n 22 [c0] = some y0) :
    ∃ (A : Option Addr) (c : Nat) (l : List (Int × Int)), c0 = .slice A l.length c ∧ l.length ≤ c ∧ l.length ≤ 9223372036854775807 ∧ Pairs W A l ∧ Bytes2 l := by
  rcases DataW.trod_slice Tryz.underlying22 hs2 with ⟨e, _⟩ | ⟨a, len, cap, elems, rest, m, _, e, _, _, hlc, hcm, hel, hcell, _⟩
  · obtain rfl : c0 = .slice none 0 0 := by simpa using e
    exact ⟨none, 0, [], rfl, Nat.le_refl _, by simp, fun h => absurd h (by simp), fun x hx => by simp at hx⟩
  · obtain rfl : c0 = .slice (some a) len cap := by simpa using e
    have hc2 : Tryz.prog.cellsOf 26 = 2 := by kernel_rfl
    have hc1 : Tryz.prog.cellsOf 5 = 1 := by kernel_rfl
    have key : ∀ i, i < len → ∃ x : Int × Int, (W.cell? (a.add (i * 2)) = some (.int .u8 x.1) ∧ W.cell? (a.add (i * 2 + 1)) = some (.int .u8 x.2)) ∧ (0 ≤ x.1 ∧ x.1 ≤ 255 ∧ 0 ≤ x.2 ∧ x.2 ≤ 255) := by
      intro i hi
      have h := hcell i hi
      rw [List.getElem?_eq_getElem (by omega), hc2] at h
      obtain ⟨cs, h1, h2⟩ := Option.bind_eq_some_iff.1 h
      obtain ⟨_, hl2, hc⟩ := World.cells?_some h1
      match cs, hl2 with
      | [u0, u1], _ =>
        obtain ⟨y0, y1, q, _, hy0, hy1⟩ := trod_array2 Tryz.underlying26 hc1 h2
        obtain ⟨x0, e0, _, w0⟩ := DataW.trod_int Tryz.underlying5 hy0
        obtain ⟨x1, e1, _, w1⟩ := DataW.trod_int Tryz.underlying5 hy1
        obtain rfl : u0 = .int .u8 x0 := by simpa using e0
        obtain rfl : u1 = .int .u8 x1 := by simpa using e1
        have g0 := hc 0 (by omega)
        have g1 := hc 1 (by omega)
        have k0 := bounds_u8 w0
        have k1 := bounds_u8 w1
        refine ⟨(x0, x1), ⟨?_, ?_⟩, by omega⟩
        · rw [Addr.add_zero'] at g0
          exact g0
        · rw [Addr.add_add] at g1
          exact g1
    obtain ⟨l, hl, hq⟩ := list_of len key
    refine ⟨some a, cap, l, by rw [hl], by omega, by rw [hl]; simp only [maxLen] at hcm; omega, fun _ => ⟨a, rfl, fun j x hx => (hq j x hx).1⟩, fun x hx => ?_⟩
    obtain ⟨j, hj, e⟩ := List.mem_iff_getElem.1 hx
    exact (hq j x (by rw [List.getElem?_eq_getElem hj, e])).2
theorem list9 : ∀ (l : List Value), l.length = 9 → ∃ a0 a1 a2 a3 a4 a5 a6 a7 a8, l = [a0, a1, a2, a3, a4, a5, a6, a7, a8]
  | [a0, a1, a2, a3, a4, a5, a6, a7, a8], _ => ⟨a0, a1, a2, a3, a4, a5, a6, a7, a8, rfl⟩
def Byte (x : Int) : Prop := 0 ≤ x ∧ x ≤ 255
set_option maxRecDepth 100000 in
theorem open_byte {H : Type} {enc : TypeId × Value → H} {W : World} {sp : Nat → Bool} {held : Bool} {n : Nat} {c : Value} {y : DataW H × List MemPlace} (h : DataW.trod enc Tryz.prog W 0 sp held n 5 [c] = some y) : ∃ x : Int, c = .int .u8 x ∧ Byte x := by
  obtain ⟨x, e, _, w⟩ := DataW.trod_int Tryz.underlying5 h
  have k := bounds_u8 w
  exact ⟨x, by simpa using e, by unfold Byte; omega⟩
set_option maxRecDepth 100000 in
theorem open_ivory {H : Type} {enc : TypeId × Value → H} {W : World} {b0 : Nat} {sp : Nat → Bool} {held : Bool} {v : Value} {d : DataW H} {ps : List MemPlace}
    (hval : Value.okWide Tryz.prog W .any b0 28 v) (hd : DataW.Trod enc Tryz.prog W 0 sp held 28 v d ps) :
    ∃ (A : Option Addr) (c : Nat) (l : List (Int × Int)) (x1 x2 x3 x4 x5 x6 x7 x8 : Int), v = .agg #[.slice A l.length c, .int .u8 x1, .int .u8 x2, .int .u8 x3, .int .u8 x4, .int .u8 x5, .int .u8 x6, .int .u8 x7, .int .u8 x8] ∧ l.length ≤ c ∧ l.length ≤ 9223372036854775807 ∧ Pairs W A l ∧ Bytes2 l ∧
      Byte x1 ∧ Byte x2 ∧ Byte x3 ∧ Byte x4 ∧ Byte x5 ∧ Byte x6 ∧ Byte x7 ∧ Byte x8 := by
  obtain ⟨cs, rfl, hsz, _⟩ : ∃ cs, v = .agg cs ∧ cs.size = Tryz.prog.cellsOf 28 ∧ Row.okWide Tryz.prog W .any b0 28 cs := by
    simpa [Value.okWide, Tryz.underlying28] using hval
  rw [show Tryz.prog.cellsOf 28 = 9 from by kernel_rfl] at hsz
  obtain ⟨l0⟩ := cs
  obtain ⟨a0, a1, a2, a3, a4, a5, a6, a7, a8, rfl⟩ := list9 l0 hsz
  obtain ⟨fuel, hf⟩ := hd
  obtain ⟨y0, y1, y2, y3, n, _, _, hs0, hs1, hs2, hs3⟩ := Go.Joins.trod_struct4 Tryz.underlying28 hf
  have hc1 : Tryz.prog.cellsOf 5 = 1 := by kernel_rfl
  have hc3 : Tryz.prog.cellsOf 25 = 3 := by kernel_rfl
  have hc2 : Tryz.prog.cellsOf 26 = 2 := by kernel_rfl
  have hcs : Tryz.prog.cellsOf 22 = 1 := by kernel_rfl
  have g0 : DataW.trod enc Tryz.prog W 0 sp held n 22 [a0] = some y0 := by
    have h := hs0
    simp only [hcs] at h
    exact h
  have g1 : DataW.trod enc Tryz.prog W 0 sp held n 25 [a1, a2, a3] = some y1 := by
    have h := hs1
    simp only [hc3] at h
    exact h
  have g2 : DataW.trod enc Tryz.prog W 0 sp held n 25 [a4, a5, a6] = some y2 := by
    have h := hs2
    simp only [hc3] at h
    exact h
  have g3 : DataW.trod enc Tryz.prog W 0 sp held n 26 [a7, a8] = some y3 := by
    have h := hs3
    simp only [hc2] at h
    exact h
  obtain ⟨A, c, l, rfl, h1, h2, h3, h4⟩ := open_pairs g0
  obtain ⟨u1, u2, u3, q, _, hu1, hu2, hu3⟩ := trod_array3 Tryz.underlying25 hc1 g1
  obtain ⟨u4, u5, u6, q', _, hu4, hu5, hu6⟩ := trod_array3 Tryz.underlying25 hc1 g2
  obtain ⟨u7, u8, q'', _, hu7, hu8⟩ := trod_array2 Tryz.underlying26 hc1 g3
  obtain ⟨x1, rfl, k1⟩ := open_byte hu1
  obtain ⟨x2, rfl, k2⟩ := open_byte hu2
  obtain ⟨x3, rfl, k3⟩ := open_byte hu3
  obtain ⟨x4, rfl, k4⟩ := open_byte hu4
  obtain ⟨x5, rfl, k5⟩ := open_byte hu5
  obtain ⟨x6, rfl, k6⟩ := open_byte hu6
  obtain ⟨x7, rfl, k7⟩ := open_byte hu7
  obtain ⟨x8, rfl, k8⟩ := open_byte hu8
  exact ⟨A, c, l, x1, x2, x3, x4, x5, x6, x7, x8, rfl, h1, h2, h3, h4, k1, k2, k3, k4, k5, k6, k7, k8⟩
end Go.Proofs.YtgdkmadcegleiaaGreatDoor.Horn
end
section
/- TopEnoughSticks, called with a fan in bytes, a piercer in bytes and a byte, returns true. -/
namespace Go.Proofs.YtgdkmadcegleiaaGreatDoor.Eno
open Go.RowKit Go.Proofs.YtgdkmadcegleiaaGreatDoor.X Go.Proofs.YtgdkmadcegleiaaGreatDoor.Z Go.Proofs.YtgdkmadcegleiaaGreatDoor.Arc Go.Proofs.YtgdkmadcegleiaaGreatDoor.PEno Go.Proofs.YtgdkmadcegleiaaGreatDoorW.PrintWords Go.Proofs.YtgdkmadcegleiaaGreatDoorW.PrintLast Go.Proofs.YtgdkmadcegleiaaGreatDoorW.PrintMore
theorem pairs_C {W : World} {A : Option Addr} {l : List (Int × Int)} (hm : l.length ≤ 9223372036854775807) (hP : Horn.Pairs W A l) : Kd.C k26 W A l.length (l.map fun x => (⟨x.1, x.2⟩ : S26)) := by
  refine ⟨by rw [List.length_map], hm, fun h => ?_⟩
  obtain ⟨ad, e, hc⟩ := hP h
  refine ⟨ad, e, fun j p hj => ?_⟩
  rw [List.getElem?_map] at hj
  obtain ⟨x, hx, e2⟩ := Option.map_eq_some_iff.1 hj
  subst e2
  refine ⟨[.int .u8 x.1, .int .u8 x.2], rfl, k26_mk W _, fun i u hu => ?_⟩
  obtain ⟨g0, g1⟩ := hc j x hx
  match i with
  | 0 =>
    obtain rfl : Value.int .u8 x.1 = u := Option.some.inj hu
    exact g0
  | 1 =>
    obtain rfl : Value.int .u8 x.2 = u := Option.some.inj hu
    exact g1
  | i + 2 => simp at hu
theorem law_calls {W : World} {A A' : Option Addr} {c c' n0 : Nat} {l l' : List (Int × Int)} {x1 x2 x3 x4 x5 x6 x7 x8 : Int} (hT : Tabs W) (hc : l.length ≤ c) (hm : l.length ≤ 9223372036854775807) (hP : Horn.Pairs W A l) (hB : Horn.Bytes2 l)
    (hc' : l'.length ≤ c') (hm' : l'.length ≤ 9223372036854775807) (hP' : Horn.Pairs W A' l') (h7 : Horn.Byte x7) (h8 : Horn.Byte x8) (h0 : n0 < 256) :
    Calls Tryz.prog 3 #[.agg #[.slice A l.length c], .agg #[.slice A' l'.length c', .int .u8 x1, .int .u8 x2, .int .u8 x3, .int .u8 x4, .int .u8 x5, .int .u8 x6, .int .u8 x7, .int .u8 x8], .int .u8 (n0 : Int)] W fun e w' => e = .returned (.bool true) ∧ Below W.heap.size W w' := by
  have hb : Bytes (l.map fun x => (⟨x.1, x.2⟩ : S26)) := by
    intro x hx
    obtain ⟨y, hy, rfl⟩ := List.mem_map.1 hx
    exact hB y hy
  obtain ⟨k, hk⟩ : ∃ k : Nat, 300 ≤ k := ⟨300, Nat.le_refl _⟩
  have := panachetop_TopEnoughSticks.calls k A c (l.map fun x => (⟨x.1, x.2⟩ : S26)) A' c' (l'.map fun x => (⟨x.1, x.2⟩ : S26)) x1 x2 x3 x4 x5 x6 x7 x8 (n0 : Int) true W (by rw [List.length_map]; exact pairs_C hm hP) (by rw [List.length_map]; exact hc)
    (by rw [List.length_map]; exact pairs_C hm' hP') (by rw [List.length_map]; exact hc')
    (law _ _ hb x1 x2 x3 x4 x5 x6 x7 x8 (n0 : Int) h7.1 h7.2 h8.1 h8.2 (by omega) (by omega) k hk) hT
  rw [List.length_map, List.length_map] at this
  exact this
end Go.Proofs.YtgdkmadcegleiaaGreatDoor.Eno
end
section
/- The row of TopEnoughSticks: sticks for an opening (chapters 2 and 5), whatever the fan, the piercer and the byte -/
namespace Go.Proofs.YtgdkmadcegleiaaGreatDoor.topEnoughSticks
open Go.Shelf Go.ChangeShapes Go.WideShapes Go.ChangeAt Go.RowKit Go.Lib
open Go.Proofs.YtgdkmadcegleiaaGreatDoor.X 
theorem own : ownKnob Tryz.prog.godebug = none := by kernel_rfl
theorem laidOut : laidOutB Tryz.prog = true := by kernel_rfl
/-- The witness: the settled world, the two variables holding what their initialisers lay. -/
noncomputable def laidWorld (os : Os) : World :=
  let w0 := World.holding Tryz.prog os ⟨#[], #[], []⟩
  let put (h : Array Obj) (g : Nat) (cs : Array Value) : Array Obj := h.modify g fun
    | .cells _ t frozen => .cells cs t frozen
    | o => o
  let h1 := put w0.heap 0 (Lib.firstTab.map fun z => Value.int .u8 z).toArray
  let h2 := put h1 1 ((List.range 16).flatMap fun i => [Value.int .u8 (Lib.accLo i), Value.int .u8 (Lib.accHi i)]).toArray
  { w0 with heap := h2 }
theorem laid_met (os : Os) (args : Array Value) : laidMet Tryz.prog Rows.topEnoughSticksRow.laid ((laidWorld os).forCall (fun _ _ => 0) ⟨#[], args, []⟩).memory :=
  (LaidIn.of_run (l := Rows.topEnoughSticksRow.laid) [0, 1] 8 (by kernel_rfl) (by kernel_rfl) (by kernel_rfl) (by kernel_rfl)).met
theorem first_eq : (Rows.laid_unicode_utf8_first : DataW Unit) = Lib.firstData := by kernel_rfl
theorem accept_eq : (Rows.laid_unicode_utf8_acceptRanges : DataW Unit) = Lib.acceptData := by kernel_rfl
theorem reads_first {W : World} (hL : laidMet Tryz.prog Rows.topEnoughSticksRow.laid W) : VarReads Tryz.prog W "unicode/utf8.first" Lib.firstData := by
  rw [← first_eq]
  exact Lib.laidMet.reads hL (.tail _ (.head _))
theorem reads_accept {W : World} (hL : laidMet Tryz.prog Rows.topEnoughSticksRow.laid W) : VarReads Tryz.prog W "unicode/utf8.acceptRanges" Lib.acceptData := by
  rw [← accept_eq]
  exact Lib.laidMet.reads hL (.head _)
abbrev spec : OpenSpec := OpenSpec.ofChange Rows.topEnoughSticksSpec
theorem witness_row (os : Os) {H : Type} (enc : TypeId × Value → H) :
    spec.preRow enc Tryz.prog Tryz.f3 Rows.topEnoughSticksRow.domain false Rows.topEnoughSticksRow.laid ((laidWorld os).forCall (fun _ _ => 0) ⟨#[], #[.agg #[.slice none 0 0], .agg #[.slice none 0 0, .int .u8 0, .int .u8 0, .int .u8 0, .int .u8 0, .int .u8 0, .int .u8 0, .int .u8 0, .int .u8 0], .int .u8 0], []⟩).memory #[.agg #[.slice none 0 0], .agg #[.slice none 0 0, .int .u8 0, .int .u8 0, .int .u8 0, .int .u8 0, .int .u8 0, .int .u8 0, .int .u8 0, .int .u8 0], .int .u8 0] := by
  have hw : (DataW.whole enc Tryz.prog ((laidWorld os).forCall (fun _ _ => 0) ⟨#[], #[.agg #[.slice none 0 0], .agg #[.slice none 0 0, .int .u8 0, .int .u8 0, .int .u8 0, .int .u8 0, .int .u8 0, .int .u8 0, .int .u8 0, .int .u8 0], .int .u8 0], []⟩).memory Tryz.f3.params.toList spec.vars false (#[.agg #[.slice none 0 0], .agg #[.slice none 0 0, .int .u8 0, .int .u8 0, .int .u8 0, .int .u8 0, .int .u8 0, .int .u8 0, .int .u8 0, .int .u8 0], .int .u8 0] : Array Value).toList 8).map (fun x => (x.1, x.2.1)) =
      some ([.agg [.nil], .agg [.nil, .agg [.lit (.int .u8 0), .lit (.int .u8 0), .lit (.int .u8 0)], .agg [.lit (.int .u8 0), .lit (.int .u8 0), .lit (.int .u8 0)], .agg [.lit (.int .u8 0), .lit (.int .u8 0)]], .lit (.int .u8 0)], []) := by kernel_rfl
  obtain ⟨⟨x1, x2, x3⟩, hx, hx1⟩ := Option.map_eq_some_iff.1 hw
  simp only [Prod.mk.injEq] at hx1
  obtain ⟨rfl, rfl⟩ := hx1
  exact OpenSpec.preRow_of_cond 8 hx (by kernel_rfl) (fun k hk => by cases hk) (by kernel_rfl) (laid_met os _)
set_option maxRecDepth 100000 in
set_option maxHeartbeats 2000000 in
theorem lifted (os : Os) (started : os.Started) (H : Type) (enc : TypeId × Value → H) (F : Stop.Interp) :
    ReturnsInHanded {} Tryz.checked os 3 .any (spec.preRow enc Tryz.prog Tryz.f3 Rows.topEnoughSticksRow.domain false Rows.topEnoughSticksRow.laid) ((spec.at F).post enc Tryz.prog Tryz.f3 false true false false) := by
  refine returnsInHanded_of_row (C := Tryz.checked) (s := spec) own started (by kernel_rfl) Tryz.func3
    (witness_row_atRef (enc := enc) (C := Tryz.checked) false (laidWorld os) #[.agg #[.slice none 0 0], .agg #[.slice none 0 0, .int .u8 0, .int .u8 0, .int .u8 0, .int .u8 0, .int .u8 0, .int .u8 0, .int .u8 0, .int .u8 0], .int .u8 0] rfl (by kernel_rfl) (by kernel_rfl) (by kernel_rfl) (witness_row os enc)) ?_
  intro W base args ds gs before hval0 hW _ _ _ hL _ _
  have hval : ∀ (j : Nat) t v, Tryz.f3.params[j]? = some t → args[j]? = some v → Value.okWide Tryz.prog W .any base t v := hval0
  have hW' := hW
  obtain ⟨p, q, hA0, hV0, rfl, _, _⟩ := hW
  have hA : DataW.TrodAll enc Tryz.prog W 0 (fun _ => true) true Tryz.f3.params.toList args.toList ds p := hA0
  rw [Tryz.params3] at hA hval
  obtain ⟨v0, v1, v2, d0, d1, d2, pp0, pp1, pp2, rfl, rfl, rfl, t0, t1, t2⟩ := trodAll_three hA
  obtain ⟨rfl, rfl⟩ := trodVars_none hV0
  have t0k := t0
  obtain ⟨A0, c0, l0, rfl, hlc0, hlm0, hP0, hB0⟩ := Horn.open_horn (hval 0 24 v0 rfl rfl) t0
  have t1k := t1
  obtain ⟨A1, c1, l1, x1_1, x1_2, x1_3, x1_4, x1_5, x1_6, x1_7, x1_8, rfl, hlc1, hlm1, hP1, hB1, y1_1, y1_2, y1_3, y1_4, y1_5, y1_6, y1_7, y1_8⟩ := Horn.open_ivory (hval 1 28 v1 rfl rfl) t1
  have t2k := t2
  obtain ⟨x0, rfl, rfl, rfl, w0⟩ := open_int Tryz.underlying5 (hval 2 5 v2 rfl rfl) t2
  clear hA0 hV0 hval0
  simp only [List.append_nil] at hW' t0k t1k t2k
  have htab : Tabs W :=
    utf8Tabs_of_reads (ρ := Tryz.lays260_ren) Tryz.lays260 ⟨by kernel_rfl, by kernel_rfl, by kernel_rfl, by kernel_rfl, by kernel_rfl, by kernel_rfl, by kernel_rfl⟩
      (reads_first hL) (reads_accept hL)
  have k0 := bounds_u8 w0
  obtain ⟨n0, rfl⟩ := Int.eq_ofNat_of_zero_le k0.1
  have h0 : n0 < 256 := by omega
  refine (Eno.law_calls htab hlc0 hlm0 hP0 hB0 hlc1 hlm1 hP1 y1_7 y1_8 h0).mono ?_
  rintro e W' ⟨rfl, bel⟩
  have e1 : (spec.at F).fn H ([d0, d1, .lit (.int .u8 n0)] ++ []) = { results := [.lit (.bool true)], args := [d0, d1, .lit (.int .u8 n0)] } := rfl
  refine ⟨_, rfl, _, _, _, [], (pp0 ++ (pp1 ++ [])), [], hW', ?_, ?_, ?_, bel.frame _, fun h => by cases h⟩
  · rw [e1]; exact trodAll_mk1 (shut_bool Tryz.underlying4 _)
  · rw [e1]; exact trodAll_mk3 (Below.trod laidOut (by kernel_rfl) (of_decide_eq_true (by kernel_rfl)) t0k bel (fun x hx => DataW.TrodAll.lt (trodAll_mk1 t0k) x hx)) (Below.trod laidOut (by kernel_rfl) (of_decide_eq_true (by kernel_rfl)) t1k bel (fun x hx => DataW.TrodAll.lt (trodAll_mk1 t1k) x hx)) (Below.trod laidOut (by kernel_rfl) (of_decide_eq_true (by kernel_rfl)) t2k bel (fun x hx => by cases hx))
  · rw [e1]; rfl
theorem over : Rows.TopEnoughSticksSaid :=
  OpenClaim.holds_of_cond 3 Tryz.f3 rfl rfl rfl rfl rfl rfl rfl ⟨rfl, rfl, rfl, rfl, rfl⟩ rfl rfl rfl rfl rfl (by kernel_rfl) Tryz.func3 (by kernel_rfl)
    (of_decide_eq_true (by kernel_rfl)) (by unfold Func.isWrapper; first | (rw [if_pos (by decide +kernel)]; kernel_rfl) | (rw [if_neg (by decide +kernel)]; exact ⟨rfl, rfl⟩))
    (fun os started H enc _ F0 => by rw [OpenClaim.pre_eq_preRow]; exact lifted os started H enc F0)
end Go.Proofs.YtgdkmadcegleiaaGreatDoor.topEnoughSticks
end
section
/- TopEnoughSticks: the tied card: sticks for an opening (chapters 2 and 5), whatever the fan, the piercer and the byte; what the two tables of package unicode/utf8 hold is tied to the program's text. -/
namespace Go.Proofs.YtgdkmadcegleiaaGreatDoor
open Go
theorem topEnoughSticks_card : Rows.TopEnoughSticksCardSaid :=
  Claim7.holds_tied_plain_at .later [] [.data, .pinned] true (true, "82de06f7255eb502618943862a66e4787df31cbe1188102f901122773568cc1d") false
    topEnoughSticks.over (fun _ h => by cases h) (by kernel_rfl) (fun _ h => by cases h) topEnoughSticks_row_tie rfl ⟨rfl, rfl⟩ (by kernel_rfl) rfl
    (fun f fn hf hfn => by
      obtain rfl : f = 3 := Option.some.inj ((show Tryz.prog.funcNamed "panache/panachetop.TopEnoughSticks" = some 3 by kernel_rfl).symm.trans hf) |>.symm
      obtain rfl : fn = Tryz.f3 := (Option.some.inj (Tryz.func3.symm.trans hfn)).symm
      exact ⟨by kernel_rfl, fun j t ht => by
        rw [Tryz.params3] at ht
        have h3 : t = 24 ∨ t = 28 ∨ t = 5 := by
          rcases j with _ | _ | _ | j
          · have e : t = 24 := by simpa using ht.symm
            simp [e]
          · have e : t = 28 := by simpa using ht.symm
            simp [e]
          · have e : t = 5 := by simpa using ht.symm
            simp [e]
          · simp at ht
        rcases h3 with rfl | rfl | rfl
        · exact (show Tryz.prog.wantsStandIn 24 = false by kernel_rfl)
        · exact (show Tryz.prog.wantsStandIn 28 = false by kernel_rfl)
        · exact (show Tryz.prog.wantsStandIn 5 = false by kernel_rfl)⟩)
    (by kernel_rfl)
#print axioms topEnoughSticks_card
end Go.Proofs.YtgdkmadcegleiaaGreatDoor
end
