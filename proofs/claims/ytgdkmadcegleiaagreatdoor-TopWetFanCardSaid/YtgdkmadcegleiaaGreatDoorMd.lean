/- Part 4 of this claim's texts, put together by a program of its author: PSurx1, PSurx, PIspx0, PIspx1, PIspx, TooK, StiA, PStix0, PStix1, PStix, RivA, RivB, PRvsx0, PRvsx1, PRvsx, RivC, RivD, PRckx0, PRckx1, PRckx, PRivx0, PRivx1, PRivx2, PRivx3, PRivx, RivE, PRepx0, PRepx1, PRepx, RivF, RivG, PRstx0, PRstx1, PRstx, PRptx0, PRptx1, PRptx. -/
import Derived.Test.YtgdkmadcegleiaaGreatDoorMb
import Derived.Test.YtgdkmadcegleiaaGreatDoorMc
import Derived.Test.YtgdkmadcegleiaaGreatDoorProg
import Derived.Below
import Derived.Deep.Draws
import Derived.Deep.AppendLies
import Derived.Maps.AppendAt
import Derived.OwnWalk
import Derived.Laws.BytesArg
import Derived.Laws.MakeOwn
import Derived.Laws.OwnMore
import Derived.Deep.OwnRows
import Derived.Tactics
import Derived.Lib.ConvBytes
import Derived.Laws.Slices
import Derived.WalkKit
import Derived.KernelRfl
import Derived.RowKit3
import Derived.Deep.LoopGhost
import Derived.Deep.QuietTactic
import Derived.BigQuiet
import Derived.WideLaws
import Derived.Deep.DeepCutAuto
import Derived.Deep.CutBlock
import Derived.Deep.RegionHeld3
import Derived.Laws.Rows
import Derived.Lib.AppendStr
import Derived.ArgAppend
import Derived.Laws.IdiomCopy
import Derived.OrdersHeld
import Derived.Laws.BitsLemmas
import Derived.RowKit
import Derived.Test.YtgdkmadcegleiaaGreatDoorMa
import Derived.Deep.RegionWith
import Derived.Shelf.SlicesE.Clone
import Derived.Laws.CopyRow
import Derived.Laws.CopyOwn
open Go.RowKit Go.Proofs.YtgdkmadcegleiaaGreatDoorW.PrintWords Go.Proofs.YtgdkmadcegleiaaGreatDoorW.PrintLast Go.Proofs.YtgdkmadcegleiaaGreatDoorW.PrintMore
set_option linter.unusedVariables false
set_option linter.unusedSimpArgs false
attribute [local go_sem] max2_int min2_int max_two min_two max_three min_three max_four min_four
namespace Go.Proofs.YtgdkmadcegleiaaGreatDoor
namespace PSur
open Sq X
attribute [local go_sem] max2_int min2_int max_two min_two max_three min_three max_four min_four   -- for this text's walks alone
def z21_.l0 : Nat → List (S171) → Int → Int → List Int → List Int → List (S173) → Option (List Int × List Int × (List (S173)))
 | 0, _, _, _, _, _, _ => none
 | k + 1, x15, x16, x17, x110000, x110001, x110002 => if x17 < x16 then (if 0 ≤ x17 then (if x17 < (x15.length : Int) then (if x110002.length < 4398046511104 then (z21_.l0 k x15 x16 (wrap64 (x17 + 1)) x110000 x110001 (x110002 ++ [(⟨(⟨(rd_T171 x15 x17).f0.f0, (rd_T171 x15 x17).f0.f1⟩ : S30), (⟨(rd_T171 x15 x17).f1.f0, (rd_T171 x15 x17).f2.f1⟩ : S30)⟩ : S173)])) else (none)) else (none)) else (none)) else (some (x110000, x110001, x110002))
def z21_.f (k : Nat) (l0_0 : List (S30)) (l0_1 : List (S30)) (a0_2 : Int) (l0_3 : List (S171)) (l0_4 : List (S30)) (l0_5 : List (S30)) : Option (List Int × List Int × (List (S173))) := (z48_.f l0_4).bind fun t103 => ((z45_.f l0_5).bind fun t106 => (z21_.l0 k l0_3 (l0_3.length : Int) 0 t103 t106 ([] : List (S173))))
def z21_.T1 : Bool × List (List Nat × List Nat) := (true, [([], []), ([0], [0]), ([1], [1]), ([], []), ([3], [3]), ([4, 2], [4]), ([2, 5], [2, 5]), ([], []), ([7, 6, 5, 0, 1, 2, 3, 4, 5, 6, 7], [6, 7])])
def z21_.B1 : List Nat := [0, 1, 3, 0, 8, 31, 63, 0, 255]
theorem z21_.tab1 : rtab .any (opsOf Tryz.f87 1) = z21_.T1 := by kernel_rfl
theorem z21_.bits1 : waitsOk z21_.T1.2 z21_.B1 = true := by kernel_rfl
set_option maxHeartbeats 8000000 in
set_option maxRecDepth 100000 in
theorem z21_.calls (k : Nat) (A0_0 : Option Addr) (c0_0 : Nat) (l0_0 : List (S30)) (A0_1 : Option Addr) (c0_1 : Nat) (l0_1 : List (S30)) (a0_2 : Int) (A0_3 : Option Addr) (c0_3 : Nat) (l0_3 : List (S171)) (A0_4 : Option Addr) (c0_4 : Nat) (l0_4 : List (S30)) (A0_5 : Option Addr) (c0_5 : Nat) (l0_5 : List (S30)) (r1 : List Int) (r2 : List Int) (r3 : List (S173)) (w : World) (hr0_0 : Kd.C k30 w A0_0 l0_0.length l0_0) (hc0_0 : l0_0.length ≤ c0_0) (hr0_1 : Kd.C k30 w A0_1 l0_1.length l0_1) (hc0_1 : l0_1.length ≤ c0_1) (hr0_3 : Kd.C k171 w A0_3 l0_3.length l0_3) (hc0_3 : l0_3.length ≤ c0_3) (hr0_4 : Kd.C k30 w A0_4 l0_4.length l0_4) (hc0_4 : l0_4.length ≤ c0_4) (hr0_5 : Kd.C k30 w A0_5 l0_5.length l0_5) (hc0_5 : l0_5.length ≤ c0_5) (h : z21_.f k l0_0 l0_1 a0_2 l0_3 l0_4 l0_5 = some (r1, r2, r3)) :
  Calls Tryz.prog 87 #[.agg #[.slice A0_0 l0_0.length c0_0, .slice A0_1 l0_1.length c0_1, .int .i64 a0_2, .slice A0_3 l0_3.length c0_3, .slice A0_4 l0_4.length c0_4, .slice A0_5 l0_5.length c0_5]] w fun e w' => ∃ v0_ v1_ v2_ : Value, e = .returned (.agg #[v0_, v1_, v2_]) ∧ Kd.R (Kd.int .i64) 3 w' w.heap.size (fun k_ => some k_ ≠ (v1_ : Value).ownBlock) v0_ r1 ∧ Kd.R (Kd.int .i64) 3 w' w.heap.size (fun k_ => some k_ ≠ (v0_ : Value).ownBlock) v1_ r2 ∧ Kd.R k173 173 w' w.heap.size (fun _ => True) v2_ r3 ∧ Below w.heap.size w w' := by
 have hu152 := Tryz.underlying152
 have hu159 := Tryz.underlying159
 have hu171 := Tryz.underlying171
 have hu30 := Tryz.underlying30
 have hu173 := Tryz.underlying173
 have HR0_0 := Aside0.mk hr0_0
 have HC0_0 := Aside0.mk hc0_0
 clear hr0_0 hc0_0
 have HR0_1 := Aside0.mk hr0_1
 have HC0_1 := Aside0.mk hc0_1
 clear hr0_1 hc0_1
 have HR0_3 := Aside0.mk hr0_3
 have HC0_3 := Aside0.mk hc0_3
 clear hr0_3 hc0_3
 have HR0_4 := Aside0.mk hr0_4
 have HC0_4 := Aside0.mk hc0_4
 clear hr0_4 hc0_4
 have HR0_5 := Aside0.mk hr0_5
 have HC0_5 := Aside0.mk hc0_5
 clear hr0_5 hc0_5
 have HB := Aside0.mk (Below.refl w.heap.size w)
 have H : ((z48_.f l0_4).bind fun t103 => ((z45_.f l0_5).bind fun t106 => (z21_.l0 k l0_3 (l0_3.length : Int) 0 t103 t106 ([] : List (S173))))) = some (r1, r2, r3) := h
 clear h
 replace H := bindA H
 obtain ⟨t103, A2, H⟩ := H
 try dsimp only at H
 replace H := bindA H
 obtain ⟨t106, A3, H⟩ := H
 try dsimp only at H
 have H' := Aside0.mk H
 clear H
 go_enter Tryz.func87, Tryz.ntmps87
 try go_wp2_with (first | ((with_reducible refine gate_dst (N := 1) rfl ?_); refine boxA (N := 1) (cs := #[.slice A0_0 l0_0.length c0_0, .slice A0_1 l0_1.length c0_1, .int .i64 a0_2, .slice A0_3 l0_3.length c0_3, .slice A0_4 l0_4.length c0_4, .slice A0_5 l0_5.length c0_5]) (t := 152) ?_; intro gb101 hg w4 hbox hb; have BK101 := Aside0.mk (hbox); have GE101 := bG HB hg; replace HB := bS HB hb; clear hb hbox hg) | ((with_reducible refine gate_dst (N := 2) rfl ?_); refine boxA (N := 2) (cs := #[.slice none 0 0, .slice none 0 0, .slice none 0 0]) (t := 159) ?_; intro gb102 hg w5 hbox hb; have BK102 := Aside0.mk (hbox); have GE102 := bG HB hg; have NB101_102 := kN BK101 hg; have NB102_101 := kM BK101 hg; replace BK101 := kB BK101 hb; replace HB := bS HB hb; clear hb hbox hg))
 replace BK101 := Aside0.mk (blk_drew BK101.out)
 replace BK102 := Aside0.mk (blk_drew BK102.out)
 replace HB := Aside0.mk (below_drew1 HB.out)
 refine start_ (n := 9) (S := fun w' => w'.cell? ⟨gb101, 0, none⟩ = some (.slice A0_0 l0_0.length c0_0) ∧ w'.cell? ⟨gb101, 1, none⟩ = some (.slice A0_1 l0_1.length c0_1) ∧ w'.cell? ⟨gb101, 2, none⟩ = some (.int .i64 a0_2) ∧ w'.cell? ⟨gb101, 3, none⟩ = some (.slice A0_3 l0_3.length c0_3) ∧ w'.cell? ⟨gb101, 4, none⟩ = some (.slice A0_4 l0_4.length c0_4) ∧ w'.cell? ⟨gb101, 5, none⟩ = some (.slice A0_5 l0_5.length c0_5)) (ds := []) #[false, false, false, false, false, false, false, false, false] (by kernel_rfl) rfl rfl ⟨bc BK101 0, bc BK101 1, bc BK101 2, bc BK101 3, bc BK101 4, bc BK101 5⟩ (fun hHeld => ?_); refine with_tabW z21_.tab1 z21_.bits1 (fun HT_ HW_ => ?_)
 generalize w5.drew = w6 at BK101 BK102 HB hHeld ⊢
 refine pA 0 6 HT_ ?_
 refine pA 3 9 HT_ ?_
 refine tA 1 7 HT_ HW_ hHeld ?_
 refine tA 4 10 HT_ HW_ hHeld ?_
 refine join_ (σ := Value × Value × Nat) 1 #[true, true, true, true, true, true, true, true, false] (fun s_ => [(8, s_.1), (11, s_.2.1), (3, .pointer (some ⟨s_.2.2, 0, none⟩)), (12, .agg #[s_.1, s_.2.1, .slice none 0 0])]) (fun s_ w' => (w'.cell? ⟨gb101, 0, none⟩ = some (.slice A0_0 l0_0.length c0_0) ∧ w'.cell? ⟨gb101, 1, none⟩ = some (.slice A0_1 l0_1.length c0_1) ∧ w'.cell? ⟨gb101, 2, none⟩ = some (.int .i64 a0_2) ∧ w'.cell? ⟨gb101, 3, none⟩ = some (.slice A0_3 l0_3.length c0_3) ∧ w'.cell? ⟨gb101, 4, none⟩ = some (.slice A0_4 l0_4.length c0_4) ∧ w'.cell? ⟨gb101, 5, none⟩ = some (.slice A0_5 l0_5.length c0_5)) ∧ (Kd.R (Kd.int .i64) 3 w' w.heap.size (fun k_ => some k_ ≠ (s_.2.1 : Value).ownBlock) s_.1 t103) ∧ (Kd.R (Kd.int .i64) 3 w' w.heap.size (fun k_ => some k_ ≠ (s_.1 : Value).ownBlock) s_.2.1 t106) ∧ (w'.heap[gb101]? = some (.cells #[.slice A0_0 l0_0.length c0_0, .slice A0_1 l0_1.length c0_1, .int .i64 a0_2, .slice A0_3 l0_3.length c0_3, .slice A0_4 l0_4.length c0_4, .slice A0_5 l0_5.length c0_5] 152 (0, 0))) ∧ (w'.heap[gb102]? = some (.cells #[.slice none 0 0, .slice none 0 0, .slice none 0 0] 159 (0, 0))) ∧ (w'.heap[s_.2.2]? = some (.cells #[.slice none 0 0, .slice none 0 0, .slice none 0 0] 159 (0, 0))) ∧ (w.heap.size ≤ s_.2.2) ∧ (w.heap.size ≤ s_.2.2) ∧ (gb101 ≠ s_.2.2) ∧ (s_.2.2 ≠ gb101) ∧ (gb102 ≠ s_.2.2) ∧ (s_.2.2 ≠ gb102) ∧ (Below w.heap.size w w')) ?_ ?_
 rotate_left
 ·intro hCont
  refine two_ (i := 2) (j := 7) (Ni := some 8) (Nj := some 3) #[true, true, true, true, true, false, false, false, false] #[true, true, false, true, true, false, false, true, false] rfl rfl rfl rfl (two_of HT_.out (by kernel_rfl)) (by decide) (by decide) (fun K hK => ?_) (fun K hK => ?_)
  ·skip
   refine goesB Tryz.func102 #[.slice A0_4 l0_4.length c0_4, .func (.func 103) #[] #[]] ?_
   with_reducible refine (z48_.calls _ _ l0_4 t103 _ ?side1 ?side2 A2.out).mono ?_
   (case side1 => exact sX (Kd.C_below HR0_4.out HB.out))
   (case side2 => exact HC0_4.out)
   rintro e w7 ⟨v104, rfl, ho0, hb⟩
   refine ⟨_, rfl, ?_⟩
   have HO105 := Aside0.mk (Kd.R_lower ho0 (below_size (bX HB)))
   replace BK101 := kB BK101 hb
   replace BK102 := kB BK102 hb
   replace HB := bS HB hb
   (try clear ho0)
   refine hK.out _ _ ⟨bc BK101 0, bc BK101 1, bc BK101 2, bc BK101 3, bc BK101 4, bc BK101 5⟩ (fun hHeld => ?_)
   clear hK K
   refine normA (N := some 8) ?_
   refine two_ (i := 5) (j := 7) (Ni := some 11) (Nj := some 3) #[true, true, true, true, true, true, false, false, false] #[true, true, true, true, true, false, false, true, false] rfl rfl rfl rfl (two_of HT_.out (by kernel_rfl)) (by decide) (by decide) (fun K hK => ?_) (fun K hK => ?_)
   ·skip
    refine goesB Tryz.func102 #[.slice A0_5 l0_5.length c0_5, .func (.func 104) #[] #[]] ?_
    with_reducible refine (z45_.calls _ _ l0_5 t106 _ ?side1 ?side2 A3.out).mono ?_
    (case side1 => exact sX (Kd.C_below HR0_5.out HB.out))
    (case side2 => exact HC0_5.out)
    rintro e w8 ⟨v107, rfl, ho0, hb⟩
    refine ⟨_, rfl, ?_⟩
    have HO108 := Aside0.mk (Kd.R_lower (Kd.R_new' ho0 (Kd.R_lt (rX HO105.out))) (below_size (bX HB)))
    replace HO105 := Aside0.mk (Kd.R_elder' (rX HO105.out) (Kd.R_base ho0) hb)
    replace BK101 := kB BK101 hb
    replace BK102 := kB BK102 hb
    replace HB := bS HB hb
    (try clear ho0)
    obtain ⟨Ao9, co9, eo9⟩ := Kd.R_slice HO108.out
    (first | subst eo9 | (injection eo9 with f1_ f2_ f3_; have f4_ := f1_.symm; have f5_ := f3_.symm; clear f1_ f2_ f3_; subst f4_; subst f5_))
    obtain ⟨Ao10, co10, eo10⟩ := Kd.R_slice HO105.out
    (first | subst eo10 | (injection eo10 with f1_ f2_ f3_; have f4_ := f1_.symm; have f5_ := f3_.symm; clear f1_ f2_ f3_; subst f4_; subst f5_))
    refine hK.out _ _ ⟨bc BK101 0, bc BK101 1, bc BK101 2, bc BK101 3, bc BK101 4, bc BK101 5⟩ (fun hHeld => ?_)
    clear hK K
    refine normA (N := some 11) ?_
    refine pA 6 12 HT_ ?_
    refine oneA (i := 7) (N := some 3) HT_ (fun K hK => ?_)
    refine box_step ?hg (N := 3) ?hd (cs := #[.slice none 0 0, .slice none 0 0, .slice none 0 0]) (t := 159) ?hr ?_; (case hd => rfl); (case hg => rfl); (case hr => first | (go_simp; done) | (go_simp; rfl))
    intro gb109 hg w11 hbox hb
    have BK109 := Aside0.mk (hbox)
    have GW109 := bG HB hg
    have GE109 := bG HB hg
    have NB101_109 := kN BK101 hg
    have NB109_101 := kM BK101 hg
    have NB102_109 := kN BK102 hg
    have NB109_102 := kM BK102 hg
    replace HO105 := rB HO105 hb
    replace HO108 := rB HO108 hb
    replace BK101 := kB BK101 hb
    replace BK102 := kB BK102 hb
    replace HB := bS HB hb
    clear hb hbox hg
    refine hK.out _ _ ⟨bc BK101 0, bc BK101 1, bc BK101 2, bc BK101 3, bc BK101 4, bc BK101 5⟩ (fun hHeld => ?_)
    clear hK K
    refine normA (N := some 3) ?_
    exact norm_ (by simp only [putAll, Act.put, List.setIfInBounds_toArray, List.set_cons_zero, List.set_cons_succ]) (hCont (.slice Ao10 t103.length co10, .slice Ao9 t106.length co9, gb109) _ ⟨hHeld, (rX (Kd.R_mono HO105.out (fun _ hk => hk.2))), (rX (Kd.R_mono HO108.out (fun _ hk => hk.2))), (kX BK101.out), (kX BK102.out), (kX BK109.out), GW109.out, GE109.out, NB101_109.out, NB109_101.out, NB102_109.out, NB109_102.out, (bX HB)⟩)
   ·skip
    refine box_step ?hg (N := 3) ?hd (cs := #[.slice none 0 0, .slice none 0 0, .slice none 0 0]) (t := 159) ?hr ?_; (case hd => rfl); (case hg => rfl); (case hr => first | (go_simp; done) | (go_simp; rfl))
    intro gb109 hg w8 hbox hb
    have BK109 := Aside0.mk (hbox)
    have GW109 := bG HB hg
    have GE109 := bG HB hg
    have NB101_109 := kN BK101 hg
    have NB109_101 := kM BK101 hg
    have NB102_109 := kN BK102 hg
    have NB109_102 := kM BK102 hg
    replace HO105 := rB HO105 hb
    replace BK101 := kB BK101 hb
    replace BK102 := kB BK102 hb
    replace HB := bS HB hb
    clear hb hbox hg
    refine hK.out _ _ ⟨bc BK101 0, bc BK101 1, bc BK101 2, bc BK101 3, bc BK101 4, bc BK101 5⟩ (fun hHeld => ?_)
    clear hK K
    refine normA (N := some 3) ?_
    refine oneA (i := 5) (N := some 11) HT_ (fun K hK => ?_)
    refine goesB Tryz.func102 #[.slice A0_5 l0_5.length c0_5, .func (.func 104) #[] #[]] ?_
    with_reducible refine (z45_.calls _ _ l0_5 t106 _ ?side1 ?side2 A3.out).mono ?_
    (case side1 => exact sX (Kd.C_below HR0_5.out HB.out))
    (case side2 => exact HC0_5.out)
    rintro e w9 ⟨v107, rfl, ho0, hb⟩
    refine ⟨_, rfl, ?_⟩
    have HO108 := Aside0.mk (Kd.R_lower (Kd.R_new' ho0 (Kd.R_lt (rX HO105.out))) (below_size (bX HB)))
    replace HO105 := Aside0.mk (Kd.R_elder' (rX HO105.out) (Kd.R_base ho0) hb)
    replace BK101 := kB BK101 hb
    replace BK102 := kB BK102 hb
    replace BK109 := kB BK109 hb
    replace HB := bS HB hb
    (try clear ho0)
    obtain ⟨Ao10, co10, eo10⟩ := Kd.R_slice HO108.out
    (first | subst eo10 | (injection eo10 with f1_ f2_ f3_; have f4_ := f1_.symm; have f5_ := f3_.symm; clear f1_ f2_ f3_; subst f4_; subst f5_))
    obtain ⟨Ao11, co11, eo11⟩ := Kd.R_slice HO105.out
    (first | subst eo11 | (injection eo11 with f1_ f2_ f3_; have f4_ := f1_.symm; have f5_ := f3_.symm; clear f1_ f2_ f3_; subst f4_; subst f5_))
    refine hK.out _ _ ⟨bc BK101 0, bc BK101 1, bc BK101 2, bc BK101 3, bc BK101 4, bc BK101 5⟩ (fun hHeld => ?_)
    clear hK K
    refine normA (N := some 11) ?_
    refine pA 6 12 HT_ ?_
    exact norm_ (by simp only [putAll, Act.put, List.setIfInBounds_toArray, List.set_cons_zero, List.set_cons_succ]) (hCont (.slice Ao11 t103.length co11, .slice Ao10 t106.length co10, gb109) _ ⟨hHeld, (rX (Kd.R_mono HO105.out (fun _ hk => hk.2))), (rX (Kd.R_mono HO108.out (fun _ hk => hk.2))), (kX BK101.out), (kX BK102.out), (kX BK109.out), GW109.out, GE109.out, NB101_109.out, NB109_101.out, NB102_109.out, NB109_102.out, (bX HB)⟩)
  ·skip
   refine box_step ?hg (N := 3) ?hd (cs := #[.slice none 0 0, .slice none 0 0, .slice none 0 0]) (t := 159) ?hr ?_; (case hd => rfl); (case hg => rfl); (case hr => first | (go_simp; done) | (go_simp; rfl))
   intro gb109 hg w7 hbox hb
   have BK109 := Aside0.mk (hbox)
   have GW109 := bG HB hg
   have GE109 := bG HB hg
   have NB101_109 := kN BK101 hg
   have NB109_101 := kM BK101 hg
   have NB102_109 := kN BK102 hg
   have NB109_102 := kM BK102 hg
   replace BK101 := kB BK101 hb
   replace BK102 := kB BK102 hb
   replace HB := bS HB hb
   clear hb hbox hg
   refine hK.out _ _ ⟨bc BK101 0, bc BK101 1, bc BK101 2, bc BK101 3, bc BK101 4, bc BK101 5⟩ (fun hHeld => ?_)
   clear hK K
   refine normA (N := some 3) ?_
   refine oneA (i := 2) (N := some 8) HT_ (fun K hK => ?_)
   refine goesB Tryz.func102 #[.slice A0_4 l0_4.length c0_4, .func (.func 103) #[] #[]] ?_
   with_reducible refine (z48_.calls _ _ l0_4 t103 _ ?side1 ?side2 A2.out).mono ?_
   (case side1 => exact sX (Kd.C_below HR0_4.out HB.out))
   (case side2 => exact HC0_4.out)
   rintro e w8 ⟨v104, rfl, ho0, hb⟩
   refine ⟨_, rfl, ?_⟩
   have HO105 := Aside0.mk (Kd.R_lower ho0 (below_size (bX HB)))
   replace BK101 := kB BK101 hb
   replace BK102 := kB BK102 hb
   replace BK109 := kB BK109 hb
   replace HB := bS HB hb
   (try clear ho0)
   refine hK.out _ _ ⟨bc BK101 0, bc BK101 1, bc BK101 2, bc BK101 3, bc BK101 4, bc BK101 5⟩ (fun hHeld => ?_)
   clear hK K
   refine normA (N := some 8) ?_
   refine oneA (i := 5) (N := some 11) HT_ (fun K hK => ?_)
   refine goesB Tryz.func102 #[.slice A0_5 l0_5.length c0_5, .func (.func 104) #[] #[]] ?_
   with_reducible refine (z45_.calls _ _ l0_5 t106 _ ?side1 ?side2 A3.out).mono ?_
   (case side1 => exact sX (Kd.C_below HR0_5.out HB.out))
   (case side2 => exact HC0_5.out)
   rintro e w9 ⟨v107, rfl, ho0, hb⟩
   refine ⟨_, rfl, ?_⟩
   have HO108 := Aside0.mk (Kd.R_lower (Kd.R_new' ho0 (Kd.R_lt (rX HO105.out))) (below_size (bX HB)))
   replace HO105 := Aside0.mk (Kd.R_elder' (rX HO105.out) (Kd.R_base ho0) hb)
   replace BK101 := kB BK101 hb
   replace BK102 := kB BK102 hb
   replace BK109 := kB BK109 hb
   replace HB := bS HB hb
   (try clear ho0)
   obtain ⟨Ao10, co10, eo10⟩ := Kd.R_slice HO108.out
   (first | subst eo10 | (injection eo10 with f1_ f2_ f3_; have f4_ := f1_.symm; have f5_ := f3_.symm; clear f1_ f2_ f3_; subst f4_; subst f5_))
   obtain ⟨Ao11, co11, eo11⟩ := Kd.R_slice HO105.out
   (first | subst eo11 | (injection eo11 with f1_ f2_ f3_; have f4_ := f1_.symm; have f5_ := f3_.symm; clear f1_ f2_ f3_; subst f4_; subst f5_))
   refine hK.out _ _ ⟨bc BK101 0, bc BK101 1, bc BK101 2, bc BK101 3, bc BK101 4, bc BK101 5⟩ (fun hHeld => ?_)
   clear hK K
   refine normA (N := some 11) ?_
   refine pA 6 12 HT_ ?_
   exact norm_ (by simp only [putAll, Act.put, List.setIfInBounds_toArray, List.set_cons_zero, List.set_cons_succ]) (hCont (.slice Ao11 t103.length co11, .slice Ao10 t106.length co10, gb109) _ ⟨hHeld, (rX (Kd.R_mono HO105.out (fun _ hk => hk.2))), (rX (Kd.R_mono HO108.out (fun _ hk => hk.2))), (kX BK101.out), (kX BK102.out), (kX BK109.out), GW109.out, GE109.out, NB101_109.out, NB109_101.out, NB102_109.out, NB109_102.out, (bX HB)⟩)
 rintro ⟨v104, v107, gb109⟩ w12 ⟨hS_, h0_, h1_, h2_, h3_, h4_, h5_, h6_, h7_, h8_, h9_, h10_, h11_⟩
 have n0_ : Aside0 (Kd.R (Kd.int .i64) 3 w12 w.heap.size (fun k_ => some k_ ≠ (v107 : Value).ownBlock) v104 t103) := ⟨h0_⟩
 have n1_ : Aside0 (Kd.R (Kd.int .i64) 3 w12 w.heap.size (fun k_ => some k_ ≠ (v104 : Value).ownBlock) v107 t106) := ⟨h1_⟩
 have n2_ : Aside0 (w12.heap[gb101]? = some (.cells #[.slice A0_0 l0_0.length c0_0, .slice A0_1 l0_1.length c0_1, .int .i64 a0_2, .slice A0_3 l0_3.length c0_3, .slice A0_4 l0_4.length c0_4, .slice A0_5 l0_5.length c0_5] 152 (0, 0))) := ⟨h2_⟩
 have n3_ : Aside0 (w12.heap[gb102]? = some (.cells #[.slice none 0 0, .slice none 0 0, .slice none 0 0] 159 (0, 0))) := ⟨h3_⟩
 have n4_ : Aside0 (w12.heap[gb109]? = some (.cells #[.slice none 0 0, .slice none 0 0, .slice none 0 0] 159 (0, 0))) := ⟨h4_⟩
 have n5_ : Aside0 (w.heap.size ≤ gb109) := ⟨h5_⟩
 have n6_ : Aside0 (w.heap.size ≤ gb109) := ⟨h6_⟩
 have n7_ : Aside0 (gb101 ≠ gb109) := ⟨h7_⟩
 have n8_ : Aside0 (gb109 ≠ gb101) := ⟨h8_⟩
 have n9_ : Aside0 (gb102 ≠ gb109) := ⟨h9_⟩
 have n10_ : Aside0 (gb109 ≠ gb102) := ⟨h10_⟩
 have n11_ : Aside0 (Below w.heap.size w w12) := ⟨h11_⟩
 clear BK101
 clear BK102
 clear HB
 clear h0_ h1_ h2_ h3_ h4_ h5_ h6_ h7_ h8_ h9_ h10_ h11_
 have HO105 := n0_
 have HO108 := n1_
 have BK101 := n2_
 have BK102 := n3_
 have BK109 := n4_
 have GW109 := n5_
 have GE109 := n6_
 have NB101_109 := n7_
 have NB109_101 := n8_
 have NB102_109 := n9_
 have NB109_102 := n10_
 have HB := n11_
 clear n0_ n1_ n2_ n3_ n4_ n5_ n6_ n7_ n8_ n9_ n10_ n11_
 have hHeld : w12.cell? ⟨gb101, 0, none⟩ = some (.slice A0_0 l0_0.length c0_0) ∧ w12.cell? ⟨gb101, 1, none⟩ = some (.slice A0_1 l0_1.length c0_1) ∧ w12.cell? ⟨gb101, 2, none⟩ = some (.int .i64 a0_2) ∧ w12.cell? ⟨gb101, 3, none⟩ = some (.slice A0_3 l0_3.length c0_3) ∧ w12.cell? ⟨gb101, 4, none⟩ = some (.slice A0_4 l0_4.length c0_4) ∧ w12.cell? ⟨gb101, 5, none⟩ = some (.slice A0_5 l0_5.length c0_5) := hS_
 obtain ⟨Ao13, co13, eo13⟩ := Kd.R_slice HO108.out
 (first | subst eo13 | (injection eo13 with f1_ f2_ f3_; have f4_ := f1_.symm; have f5_ := f3_.symm; clear f1_ f2_ f3_; subst f4_; subst f5_))
 obtain ⟨Ao14, co14, eo14⟩ := Kd.R_slice HO105.out
 (first | subst eo14 | (injection eo14 with f1_ f2_ f3_; have f4_ := f1_.symm; have f5_ := f3_.symm; clear f1_ f2_ f3_; subst f4_; subst f5_))
 refine norm_ (a' := ?_) ?_ ?_
 rotate_left
 ·simp only [putAll, Act.put, List.setIfInBounds_toArray, List.set_cons_zero, List.set_cons_succ]
  rfl
 refine one_ (i := 8) (N := none) #[true, true, true, true, true, true, true, true, true] rfl rfl (one_of HT_.out (by kernel_rfl)) (by decide) (fun K hK => ?_)
 have hs15 : w12.cell? ⟨gb109, 0, none⟩ = some (.slice none 0 0) := bc BK109 0
 have hfs15 := blk_frozen BK109.out 0
 have hns15_0 := NB101_109.out
 have hns15_1 := NB102_109.out
 have hms15_0 := NB109_101.out
 have hms15_1 := NB109_102.out
 have hs16 : w12.cell? ⟨gb109, 1, none⟩ = some (.slice none 0 0) := bc BK109 1
 have hfs16 := blk_frozen BK109.out 1
 have hns16_0 := NB101_109.out
 have hns16_1 := NB102_109.out
 have hms16_0 := NB109_101.out
 have hms16_1 := NB109_102.out
 have hs17 : w12.cell? ⟨gb109, 2, none⟩ = some (.slice none 0 0) := bc BK109 2
 have hfs17 := blk_frozen BK109.out 2
 have hns17_0 := NB101_109.out
 have hns17_1 := NB102_109.out
 have hms17_0 := NB109_101.out
 have hms17_1 := NB109_102.out
 refine skip_ (w1 := ?_) (by rfl) rfl ?_ ?_
 rotate_left
 ·go_simp
  rfl
 refine hK.out _ _ ⟨((cell_far (p := ⟨gb109, _, none⟩) NB101_109.out _).trans (((cell_far (p := ⟨gb109, _, none⟩) NB101_109.out _).trans (((cell_far (p := ⟨gb109, _, none⟩) NB101_109.out _).trans (hHeld.1)))))), ((cell_far (p := ⟨gb109, _, none⟩) NB101_109.out _).trans (((cell_far (p := ⟨gb109, _, none⟩) NB101_109.out _).trans (((cell_far (p := ⟨gb109, _, none⟩) NB101_109.out _).trans (hHeld.2.1)))))), ((cell_far (p := ⟨gb109, _, none⟩) NB101_109.out _).trans (((cell_far (p := ⟨gb109, _, none⟩) NB101_109.out _).trans (((cell_far (p := ⟨gb109, _, none⟩) NB101_109.out _).trans (hHeld.2.2.1)))))), ((cell_far (p := ⟨gb109, _, none⟩) NB101_109.out _).trans (((cell_far (p := ⟨gb109, _, none⟩) NB101_109.out _).trans (((cell_far (p := ⟨gb109, _, none⟩) NB101_109.out _).trans (hHeld.2.2.2.1)))))), ((cell_far (p := ⟨gb109, _, none⟩) NB101_109.out _).trans (((cell_far (p := ⟨gb109, _, none⟩) NB101_109.out _).trans (((cell_far (p := ⟨gb109, _, none⟩) NB101_109.out _).trans (hHeld.2.2.2.2.1)))))), ((cell_far (p := ⟨gb109, _, none⟩) NB101_109.out _).trans (((cell_far (p := ⟨gb109, _, none⟩) NB101_109.out _).trans (((cell_far (p := ⟨gb109, _, none⟩) NB101_109.out _).trans (hHeld.2.2.2.2.2))))))⟩ (fun hHeld => ?_)
 clear hK K
 refine done_ (done_of HT_.out (by kernel_rfl)) ?_
 obtain ⟨hnb18, hnc18⟩ := nn NB101_102
 obtain ⟨hnb19, hnc19⟩ := nn NB101_109
 obtain ⟨hcz20_0, hcz20_1, hcz20_2, hcz20_3, hcz20_4, hcz20_5, hfz20_0, hfz20_1, hfz20_2, hfz20_3, hfz20_4, hfz20_5⟩ := cc6 BK101
 try go_wp2
 go_loopg [17] k (fun kq v17 w' => ∃ (x17_1 : Int) (x110002_1 : List (S173)) (u110002 : Value), v17 = .int .i64 x17_1 ∧ Aside0 (z21_.l0 kq l0_3 (l0_3.length : Int) x17_1 t103 t106 x110002_1 = some (r1, r2, r3)) ∧ Aside0 (kq ≤ k) ∧ Aside0 (Kd.R (Kd.int .i64) 3 w' w.heap.size (fun k_ => some k_ ≠ ((.slice Ao13 t106.length co13) : Value).ownBlock) (.slice Ao14 t103.length co14) t103) ∧ Aside0 (Kd.R (Kd.int .i64) 3 w' w.heap.size (fun k_ => some k_ ≠ ((.slice Ao14 t103.length co14) : Value).ownBlock) (.slice Ao13 t106.length co13) t106) ∧ Aside0 (Kd.R k173 173 w' w.heap.size (fun _ => True) u110002 x110002_1) ∧ Aside0 (w'.heap[gb101]? = some (.cells #[(.slice A0_0 l0_0.length c0_0), (.slice A0_1 l0_1.length c0_1), .int .i64 a0_2, (.slice A0_3 l0_3.length c0_3), (.slice A0_4 l0_4.length c0_4), (.slice A0_5 l0_5.length c0_5)] 152 (0, 0))) ∧ Aside0 (w'.heap[gb102]? = some (.cells #[(.slice none 0 0), (.slice none 0 0), (.slice none 0 0)] 159 (0, 0))) ∧ Aside0 (w'.heap[gb109]? = some (.cells #[(.slice Ao14 t103.length co14), (.slice Ao13 t106.length co13), u110002] 159 (0, 0))) ∧ Aside0 (Below w.heap.size w w'))
 case atStart => exact ⟨(0), (([] : List (S173))), (.slice none 0 0), eR, H', ⟨Nat.le_refl _⟩, ⟨by (with_reducible repeat (first | apply Kd.R_alloc | apply Kd.R_drewN | apply Kd.R_drew)); exact Kd.R_mono (Kd.R_far (p := ⟨gb109, 2, none⟩) (Kd.R_far (p := ⟨gb109, 1, none⟩) (Kd.R_far (p := ⟨gb109, 0, none⟩) (Kd.R_types HO105.out BK109.out (by decide)) (fun _ hk => hk.2) (.slice Ao14 t103.length co14)) (fun _ hk => hk.2) (.slice Ao13 t106.length co13)) (fun _ hk => hk.2) (.slice none 0 0)) (fun _ hk => hk.1)⟩, ⟨by (with_reducible repeat (first | apply Kd.R_alloc | apply Kd.R_drewN | apply Kd.R_drew)); exact Kd.R_mono (Kd.R_far (p := ⟨gb109, 2, none⟩) (Kd.R_far (p := ⟨gb109, 1, none⟩) (Kd.R_far (p := ⟨gb109, 0, none⟩) (Kd.R_types HO108.out BK109.out (by decide)) (fun _ hk => hk.2) (.slice Ao14 t103.length co14)) (fun _ hk => hk.2) (.slice Ao13 t106.length co13)) (fun _ hk => hk.2) (.slice none 0 0)) (fun _ hk => hk.1)⟩, ⟨by first | exact Kd.R_nil _ _ _ _ _ | exact Kd.N_nil _ _ _ _ _ | exact Kd.V_nil _ _ _ _ _ | exact Kd.Q_nil _ _ _ _ _ | exact Kd.S_nil _ _ _ _ _⟩, ⟨by (with_reducible repeat (first | refine blk_drewN ?_ _ | refine blk_drew ?_ | refine blk_alloc ?_ _)); refine blk_far ?_ NB101_109.out _; (with_reducible repeat (first | refine blk_drewN ?_ _ | refine blk_drew ?_ | refine blk_alloc ?_ _)); refine blk_far ?_ NB101_109.out _; (with_reducible repeat (first | refine blk_drewN ?_ _ | refine blk_drew ?_ | refine blk_alloc ?_ _)); refine blk_far ?_ NB101_109.out _; (with_reducible repeat (first | refine blk_drewN ?_ _ | refine blk_drew ?_ | refine blk_alloc ?_ _)); exact BK101.out⟩, ⟨by (with_reducible repeat (first | refine blk_drewN ?_ _ | refine blk_drew ?_ | refine blk_alloc ?_ _)); refine blk_far ?_ NB102_109.out _; (with_reducible repeat (first | refine blk_drewN ?_ _ | refine blk_drew ?_ | refine blk_alloc ?_ _)); refine blk_far ?_ NB102_109.out _; (with_reducible repeat (first | refine blk_drewN ?_ _ | refine blk_drew ?_ | refine blk_alloc ?_ _)); refine blk_far ?_ NB102_109.out _; (with_reducible repeat (first | refine blk_drewN ?_ _ | refine blk_drew ?_ | refine blk_alloc ?_ _)); exact BK102.out⟩, ⟨by (with_reducible repeat (first | refine blk_drewN ?_ _ | refine blk_drew ?_ | refine blk_alloc ?_ _)); refine blk_put (cs := #[.slice Ao14 t103.length co14, .slice Ao13 t106.length co13, .slice none 0 0]) ?_ 2 _ rfl; (with_reducible repeat (first | refine blk_drewN ?_ _ | refine blk_drew ?_ | refine blk_alloc ?_ _)); refine blk_put (cs := #[.slice Ao14 t103.length co14, .slice none 0 0, .slice none 0 0]) ?_ 1 _ rfl; (with_reducible repeat (first | refine blk_drewN ?_ _ | refine blk_drew ?_ | refine blk_alloc ?_ _)); refine blk_put (cs := #[.slice none 0 0, .slice none 0 0, .slice none 0 0]) ?_ 0 _ rfl; (with_reducible repeat (first | refine blk_drewN ?_ _ | refine blk_drew ?_ | refine blk_alloc ?_ _)); exact BK109.out⟩, ⟨bX HB⟩⟩
 case round =>
  clear H'
  try clear p2
  try clear hcz20_0 hcz20_1 hcz20_2 hcz20_3 hcz20_4 hcz20_5 hfz20_0 hfz20_1 hfz20_2 hfz20_3 hfz20_4 hfz20_5
  obtain ⟨x17_1, x110002_1, u110002, rfl, HA, HK1, HO_110000, HO_110001, HO_110002, BK101, BK102, BK109, HB⟩ := hrel
  cases gk with
  | zero => exact absurd HA.out (by simp [z21_.l0])
  | succ k1 =>
   have H := HA.out
   clear HA
   simp only [z21_.l0] at H
   by_cases c21 : x17_1 < (l0_3.length : Int)
   ·rw [if_pos c21] at H
    have c21b0 : decide (x17_1 < (l0_3.length : Int)) = true := decide_eq_true c21
    clear c21
    by_cases c22 : 0 ≤ x17_1
    ·rw [if_pos c22] at H
     have c22b0 : decide (0 ≤ x17_1) = true := decide_eq_true c22
     clear c22
     by_cases c23 : x17_1 < (l0_3.length : Int)
     ·rw [if_pos c23] at H
      have c23b0 : decide (x17_1 < (l0_3.length : Int)) = true := decide_eq_true c23
      clear c23
      by_cases c24 : x110002_1.length < 4398046511104
      ·rw [if_pos c24] at H
       have LMc24 := Aside0.mk c24
       clear c24
       obtain ⟨y112, hy112⟩ : ∃ y_ : List (S173), y_ = (x110002_1 ++ [(⟨(⟨(rd_T171 l0_3 x17_1).f0.f0, (rd_T171 l0_3 x17_1).f0.f1⟩ : S30), (⟨(rd_T171 l0_3 x17_1).f1.f0, (rd_T171 l0_3 x17_1).f2.f1⟩ : S30)⟩ : S173)]) := ⟨_, rfl⟩
       replace H : (z21_.l0 k1 l0_3 (l0_3.length : Int) (wrap64 (x17_1 + 1)) t103 t106 y112) = some (r1, r2, r3) := by first | (rw [hy112]; with_reducible exact H) | (have H2_ := (Option.bind_some _ _).symm.trans H; rw [hy112]; with_reducible exact H2_) | (have H2_ := (Option.bind_some _ _).symm.trans H; with_reducible exact H2_) | with_reducible exact H | (rw [hy112]; exact H) | exact H
       have Ny112 := Aside0.mk hy112
       clear hy112
       have H' := Aside0.mk H
       clear H
       have p110 : 0 ≤ (x17_1 : Int) := of_decide_eq_true (by first | (with_reducible assumption) | assumption)
       have q110 : x17_1 < (l0_3.length : Int) := of_decide_eq_true (by first | (with_reducible assumption) | assumption)
       obtain ⟨ad110, e110, hx110_0, hx110_1, hx110_2, hx110_3, hx110_4, hx110_5⟩ := at_T171 HR0_3.out x17_1 p110 q110
       cases e110
       replace hx110_0 := (HB.out.cell (World.block_lt_of_cell? w _ hx110_0)).trans hx110_0
       replace hx110_1 := (HB.out.cell (World.block_lt_of_cell? w _ hx110_1)).trans hx110_1
       replace hx110_2 := (HB.out.cell (World.block_lt_of_cell? w _ hx110_2)).trans hx110_2
       replace hx110_3 := (HB.out.cell (World.block_lt_of_cell? w _ hx110_3)).trans hx110_3
       replace hx110_4 := (HB.out.cell (World.block_lt_of_cell? w _ hx110_4)).trans hx110_4
       replace hx110_5 := (HB.out.cell (World.block_lt_of_cell? w _ hx110_5)).trans hx110_5
       replace p110 := eq_true p110
       replace q110 := eq_true q110
       go_wp2_with (first | ((with_reducible refine gate_dst (N := 5) rfl ?_); refine boxA (N := 5) (cs := #[.int .i64 0, .int .i64 0, .int .i64 0, .int .i64 0, .int .i64 0, .int .i64 0]) (t := 171) ?_; intro gb111 hg w25 hbox hb; have BK111 := Aside0.mk (hbox); have GE111 := bG HB hg; have NB101_111 := kN BK101 hg; have NB111_101 := kM BK101 hg; have NB102_111 := kN BK102 hg; have NB111_102 := kM BK102 hg; have NB109_111 := kN BK109 hg; have NB111_109 := kM BK109 hg; replace HO_110000 := rB HO_110000 hb; replace HO_110001 := rB HO_110001 hb; replace HO_110002 := rB HO_110002 hb; replace BK101 := kB BK101 hb; replace BK102 := kB BK102 hb; replace BK109 := kB BK109 hb; replace HB := bS HB hb; clear hb hbox hg; obtain ⟨hnb26, hnc26⟩ := nn NB111_101; obtain ⟨hnb27, hnc27⟩ := nn NB111_102; obtain ⟨hnb28, hnc28⟩ := nn NB111_109; obtain ⟨hcz29_0, hcz29_1, hcz29_2, hcz29_3, hcz29_4, hcz29_5, hfz29_0, hfz29_1, hfz29_2, hfz29_3, hfz29_4, hfz29_5⟩ := cc6 BK111; obtain ⟨hnb30, hnc30⟩ := nn NB109_101; obtain ⟨hnb31, hnc31⟩ := nn NB109_102; obtain ⟨hcz32_0, hcz32_1, hcz32_2, hfz32_0, hfz32_1, hfz32_2⟩ := cc3 BK109) | ((with_reducible refine gate_builtin (b := .append) (xs := #[.tmp 22, .tmp 33]) rfl ?_); at_builtin; refine Kd.R_append k173 (w0 := w) w.heap.size rfl (.tmp 22) (.tmp 33) 157 173 (.agg #[(.int .i64 0), (.int .i64 0), (.int .i64 0), (.int .i64 0)]) 32 rfl Tryz.underlying157 info173 rfl (by decide) (by omega) u110002 x110002_1 (⟨(⟨(rd_T171 l0_3 x17_1).f0.f0, (rd_T171 l0_3 x17_1).f0.f1⟩ : S30), (⟨(rd_T171 l0_3 x17_1).f1.f0, (rd_T171 l0_3 x17_1).f2.f1⟩ : S30)⟩ : S173) [.int .i64 ((rd_T171 l0_3 x17_1).f0.f0), .int .i64 ((rd_T171 l0_3 x17_1).f0.f1), .int .i64 ((rd_T171 l0_3 x17_1).f1.f0), .int .i64 ((rd_T171 l0_3 x17_1).f2.f1)] (fun _ => True) (fun _ => False) rfl (by first | (go_simp; done) | (go_simp; rfl)) ?aP (fun _ hk => hk.elim) ?aF ?aO ?aB ?aS ?aL ?_; (case aP => exact k173_mkM _ _ _ (⟨(⟨(rd_T171 l0_3 x17_1).f0.f0, (rd_T171 l0_3 x17_1).f0.f1⟩ : S30), (⟨(rd_T171 l0_3 x17_1).f1.f0, (rd_T171 l0_3 x17_1).f2.f1⟩ : S30)⟩ : S173)); (case aB => exact (bX HB)); (case aF => exact (fun _ _ => trivial)); (case aO => exact (rX (Kd.R_mono (Kd.R_far (p := ⟨gb111, 5, none⟩) (Kd.R_far (p := ⟨gb111, 4, none⟩) (Kd.R_far (p := ⟨gb111, 3, none⟩) (Kd.R_far (p := ⟨gb111, 2, none⟩) (Kd.R_far (p := ⟨gb111, 1, none⟩) (Kd.R_far (p := ⟨gb111, 0, none⟩) (Kd.R_types HO_110002.out BK111.out (by decide)) (fun _ hk => hk.2) (.int .i64 ((rd_T171 l0_3 x17_1).f0.f0))) (fun _ hk => hk.2) (.int .i64 ((rd_T171 l0_3 x17_1).f0.f1))) (fun _ hk => hk.2) (.int .i64 ((rd_T171 l0_3 x17_1).f1.f0))) (fun _ hk => hk.2) (.int .i64 ((rd_T171 l0_3 x17_1).f1.f1))) (fun _ hk => hk.2) (.int .i64 ((rd_T171 l0_3 x17_1).f2.f0))) (fun _ hk => hk.2) (.int .i64 ((rd_T171 l0_3 x17_1).f2.f1))) (fun _ hk => trivial)))); (case aS => exact (below_size (bX HB))); (case aL => have := LMc24.out; omega); intro v113 w33 ho hb hg hat; rw [← Ny112.out] at ho; have n0_ := Aside0.mk (Kd.R_over' (rX (Kd.R_mono (Kd.R_far (p := ⟨gb111, 5, none⟩) (Kd.R_far (p := ⟨gb111, 4, none⟩) (Kd.R_far (p := ⟨gb111, 3, none⟩) (Kd.R_far (p := ⟨gb111, 2, none⟩) (Kd.R_far (p := ⟨gb111, 1, none⟩) (Kd.R_far (p := ⟨gb111, 0, none⟩) (Kd.R_types HO_110000.out BK111.out (by decide)) (fun _ hk => hk.2) (.int .i64 ((rd_T171 l0_3 x17_1).f0.f0))) (fun _ hk => hk.2) (.int .i64 ((rd_T171 l0_3 x17_1).f0.f1))) (fun _ hk => hk.2) (.int .i64 ((rd_T171 l0_3 x17_1).f1.f0))) (fun _ hk => hk.2) (.int .i64 ((rd_T171 l0_3 x17_1).f1.f1))) (fun _ hk => hk.2) (.int .i64 ((rd_T171 l0_3 x17_1).f2.f0))) (fun _ hk => hk.2) (.int .i64 ((rd_T171 l0_3 x17_1).f2.f1))) (fun _ h_ => h_.1))) (Kd.R_typed (rX (Kd.R_mono (Kd.R_far (p := ⟨gb111, 5, none⟩) (Kd.R_far (p := ⟨gb111, 4, none⟩) (Kd.R_far (p := ⟨gb111, 3, none⟩) (Kd.R_far (p := ⟨gb111, 2, none⟩) (Kd.R_far (p := ⟨gb111, 1, none⟩) (Kd.R_far (p := ⟨gb111, 0, none⟩) (Kd.R_types HO_110002.out BK111.out (by decide)) (fun _ hk => hk.2) (.int .i64 ((rd_T171 l0_3 x17_1).f0.f0))) (fun _ hk => hk.2) (.int .i64 ((rd_T171 l0_3 x17_1).f0.f1))) (fun _ hk => hk.2) (.int .i64 ((rd_T171 l0_3 x17_1).f1.f0))) (fun _ hk => hk.2) (.int .i64 ((rd_T171 l0_3 x17_1).f1.f1))) (fun _ hk => hk.2) (.int .i64 ((rd_T171 l0_3 x17_1).f2.f0))) (fun _ hk => hk.2) (.int .i64 ((rd_T171 l0_3 x17_1).f2.f1))) (fun _ h_ => h_.1)))) (by decide) hg); have n1_ := Aside0.mk (Kd.R_over' (rX (Kd.R_mono (Kd.R_far (p := ⟨gb111, 5, none⟩) (Kd.R_far (p := ⟨gb111, 4, none⟩) (Kd.R_far (p := ⟨gb111, 3, none⟩) (Kd.R_far (p := ⟨gb111, 2, none⟩) (Kd.R_far (p := ⟨gb111, 1, none⟩) (Kd.R_far (p := ⟨gb111, 0, none⟩) (Kd.R_types HO_110001.out BK111.out (by decide)) (fun _ hk => hk.2) (.int .i64 ((rd_T171 l0_3 x17_1).f0.f0))) (fun _ hk => hk.2) (.int .i64 ((rd_T171 l0_3 x17_1).f0.f1))) (fun _ hk => hk.2) (.int .i64 ((rd_T171 l0_3 x17_1).f1.f0))) (fun _ hk => hk.2) (.int .i64 ((rd_T171 l0_3 x17_1).f1.f1))) (fun _ hk => hk.2) (.int .i64 ((rd_T171 l0_3 x17_1).f2.f0))) (fun _ hk => hk.2) (.int .i64 ((rd_T171 l0_3 x17_1).f2.f1))) (fun _ h_ => h_.1))) (Kd.R_typed (rX (Kd.R_mono (Kd.R_far (p := ⟨gb111, 5, none⟩) (Kd.R_far (p := ⟨gb111, 4, none⟩) (Kd.R_far (p := ⟨gb111, 3, none⟩) (Kd.R_far (p := ⟨gb111, 2, none⟩) (Kd.R_far (p := ⟨gb111, 1, none⟩) (Kd.R_far (p := ⟨gb111, 0, none⟩) (Kd.R_types HO_110002.out BK111.out (by decide)) (fun _ hk => hk.2) (.int .i64 ((rd_T171 l0_3 x17_1).f0.f0))) (fun _ hk => hk.2) (.int .i64 ((rd_T171 l0_3 x17_1).f0.f1))) (fun _ hk => hk.2) (.int .i64 ((rd_T171 l0_3 x17_1).f1.f0))) (fun _ hk => hk.2) (.int .i64 ((rd_T171 l0_3 x17_1).f1.f1))) (fun _ hk => hk.2) (.int .i64 ((rd_T171 l0_3 x17_1).f2.f0))) (fun _ hk => hk.2) (.int .i64 ((rd_T171 l0_3 x17_1).f2.f1))) (fun _ h_ => h_.1)))) (by decide) hg); have n2_ := Aside0.mk (blk_grown (g := gb101) (o := .cells #[.slice A0_0 l0_0.length c0_0, .slice A0_1 l0_1.length c0_1, .int .i64 a0_2, .slice (some ad110) l0_3.length c0_3, .slice A0_4 l0_4.length c0_4, .slice A0_5 l0_5.length c0_5] 152 (0, 0)) (kF BK101 NB101_111) hg (Kd.R_ne HO_110002.out BK101.out (by decide))); have n3_ := Aside0.mk (blk_grown (g := gb102) (o := .cells #[.slice none 0 0, .slice none 0 0, .slice none 0 0] 159 (0, 0)) (kF BK102 NB102_111) hg (Kd.R_ne HO_110002.out BK102.out (by decide))); have n4_ := Aside0.mk (blk_grown (g := gb109) (o := .cells #[.slice Ao14 t103.length co14, .slice Ao13 t106.length co13, u110002] 159 (0, 0)) (kF BK109 NB109_111) hg (Kd.R_ne HO_110002.out BK109.out (by decide))); have n5_ := Aside0.mk (blk_grown (g := gb111) (o := .cells #[.int .i64 ((rd_T171 l0_3 x17_1).f0.f0), .int .i64 ((rd_T171 l0_3 x17_1).f0.f1), .int .i64 ((rd_T171 l0_3 x17_1).f1.f0), .int .i64 ((rd_T171 l0_3 x17_1).f1.f1), .int .i64 ((rd_T171 l0_3 x17_1).f2.f0), .int .i64 ((rd_T171 l0_3 x17_1).f2.f1)] 171 (0, 0)) (by (with_reducible repeat (first | refine blk_drewN ?_ _ | refine blk_drew ?_ | refine blk_alloc ?_ _)); refine blk_put (cs := #[.int .i64 ((rd_T171 l0_3 x17_1).f0.f0), .int .i64 ((rd_T171 l0_3 x17_1).f0.f1), .int .i64 ((rd_T171 l0_3 x17_1).f1.f0), .int .i64 ((rd_T171 l0_3 x17_1).f1.f1), .int .i64 ((rd_T171 l0_3 x17_1).f2.f0), .int .i64 0]) ?_ 5 _ rfl; (with_reducible repeat (first | refine blk_drewN ?_ _ | refine blk_drew ?_ | refine blk_alloc ?_ _)); refine blk_put (cs := #[.int .i64 ((rd_T171 l0_3 x17_1).f0.f0), .int .i64 ((rd_T171 l0_3 x17_1).f0.f1), .int .i64 ((rd_T171 l0_3 x17_1).f1.f0), .int .i64 ((rd_T171 l0_3 x17_1).f1.f1), .int .i64 0, .int .i64 0]) ?_ 4 _ rfl; (with_reducible repeat (first | refine blk_drewN ?_ _ | refine blk_drew ?_ | refine blk_alloc ?_ _)); refine blk_put (cs := #[.int .i64 ((rd_T171 l0_3 x17_1).f0.f0), .int .i64 ((rd_T171 l0_3 x17_1).f0.f1), .int .i64 ((rd_T171 l0_3 x17_1).f1.f0), .int .i64 0, .int .i64 0, .int .i64 0]) ?_ 3 _ rfl; (with_reducible repeat (first | refine blk_drewN ?_ _ | refine blk_drew ?_ | refine blk_alloc ?_ _)); refine blk_put (cs := #[.int .i64 ((rd_T171 l0_3 x17_1).f0.f0), .int .i64 ((rd_T171 l0_3 x17_1).f0.f1), .int .i64 0, .int .i64 0, .int .i64 0, .int .i64 0]) ?_ 2 _ rfl; (with_reducible repeat (first | refine blk_drewN ?_ _ | refine blk_drew ?_ | refine blk_alloc ?_ _)); refine blk_put (cs := #[.int .i64 ((rd_T171 l0_3 x17_1).f0.f0), .int .i64 0, .int .i64 0, .int .i64 0, .int .i64 0, .int .i64 0]) ?_ 1 _ rfl; (with_reducible repeat (first | refine blk_drewN ?_ _ | refine blk_drew ?_ | refine blk_alloc ?_ _)); refine blk_put (cs := #[.int .i64 0, .int .i64 0, .int .i64 0, .int .i64 0, .int .i64 0, .int .i64 0]) ?_ 0 _ rfl; (with_reducible repeat (first | refine blk_drewN ?_ _ | refine blk_drew ?_ | refine blk_alloc ?_ _)); exact BK111.out) hg (Kd.R_ne HO_110002.out BK111.out (by decide))); have n6_ := Aside0.mk (hb); have n7_ := Aside0.mk (ho); clear HO_110000; clear HO_110001; clear BK101; clear BK102; clear BK109; clear BK111; clear HB; clear HO_110002; have HO_110000 := n0_; have HO_110001 := n1_; have BK101 := n2_; have BK102 := n3_; have BK109 := n4_; have BK111 := n5_; have HB := n6_; have HO114 := n7_; clear n0_ n1_ n2_ n3_ n4_ n5_ n6_ n7_; clear ho hb hg hat; obtain ⟨Ao34, co34, eo34⟩ := Kd.R_slice HO114.out; subst eo34; obtain ⟨hcz35_0, hcz35_1, hcz35_2, hfz35_0, hfz35_1, hfz35_2⟩ := cc3 BK109))
       go_roundg k1
       case measure => have := HK1.out; omega
       case rel => exact ⟨(wrap64 (x17_1 + 1)), (y112), (.slice Ao34 y112.length co34), eR, H', ⟨by have := HK1.out; omega⟩, ⟨by (with_reducible repeat (first | apply Kd.R_alloc | apply Kd.R_drewN | apply Kd.R_drew)); exact Kd.R_mono (Kd.R_far (p := ⟨gb109, 2, none⟩) (Kd.R_types HO_110000.out BK109.out (by decide)) (fun _ hk => hk.2) (.slice Ao34 y112.length co34)) (fun _ hk => hk.1)⟩, ⟨by (with_reducible repeat (first | apply Kd.R_alloc | apply Kd.R_drewN | apply Kd.R_drew)); exact Kd.R_mono (Kd.R_far (p := ⟨gb109, 2, none⟩) (Kd.R_types HO_110001.out BK109.out (by decide)) (fun _ hk => hk.2) (.slice Ao34 y112.length co34)) (fun _ hk => hk.1)⟩, ⟨by (with_reducible repeat (first | apply Kd.R_alloc | apply Kd.R_drewN | apply Kd.R_drew)); exact Kd.R_mono (Kd.R_far (p := ⟨gb109, 2, none⟩) (Kd.R_types HO114.out BK109.out (by decide)) (fun _ hk => hk.2) (.slice Ao34 y112.length co34)) (fun _ hk => trivial)⟩, ⟨by (with_reducible repeat (first | refine blk_drewN ?_ _ | refine blk_drew ?_ | refine blk_alloc ?_ _)); refine blk_far ?_ NB101_109.out _; (with_reducible repeat (first | refine blk_drewN ?_ _ | refine blk_drew ?_ | refine blk_alloc ?_ _)); exact BK101.out⟩, ⟨by (with_reducible repeat (first | refine blk_drewN ?_ _ | refine blk_drew ?_ | refine blk_alloc ?_ _)); refine blk_far ?_ NB102_109.out _; (with_reducible repeat (first | refine blk_drewN ?_ _ | refine blk_drew ?_ | refine blk_alloc ?_ _)); exact BK102.out⟩, ⟨by (with_reducible repeat (first | refine blk_drewN ?_ _ | refine blk_drew ?_ | refine blk_alloc ?_ _)); refine blk_put (cs := #[.slice Ao14 t103.length co14, .slice Ao13 t106.length co13, u110002]) ?_ 2 _ rfl; (with_reducible repeat (first | refine blk_drewN ?_ _ | refine blk_drew ?_ | refine blk_alloc ?_ _)); exact BK109.out⟩, ⟨bX HB⟩⟩
      ·rw [if_neg c24] at H
       exact absurd H (by simp)
     ·rw [if_neg c23] at H
      exact absurd H (by simp)
    ·rw [if_neg c22] at H
     exact absurd H (by simp)
   ·rw [if_neg c21] at H
    have c21b0 : decide (x17_1 < (l0_3.length : Int)) = false := decide_eq_false c21
    clear c21
    simp only [Option.some.injEq, Prod.mk.injEq] at H
    obtain ⟨rfl, rfl, rfl⟩ := H
    obtain ⟨hnb36, hnc36⟩ := nn NB109_101
    obtain ⟨hnb37, hnc37⟩ := nn NB109_102
    obtain ⟨hcz38_0, hcz38_1, hcz38_2, hfz38_0, hfz38_1, hfz38_2⟩ := cc3 BK109
    obtain ⟨hnb39, hnc39⟩ := nn NB102_101
    obtain ⟨hcz40_0, hcz40_1, hcz40_2, hfz40_0, hfz40_1, hfz40_2⟩ := cc3 BK102
    obtain ⟨Ao41, co41, eo41⟩ := Kd.R_slice HO_110002.out
    subst eo41
    go_wp2
    refine bodyPost_ret (results_cell_row rfl _ _ gb102 159 #[.slice Ao14 t103.length co14, .slice Ao13 t106.length co13, .slice Ao41 x110002_1.length co41] (0, 0) _ rfl (kP BK102) Tryz.underlying159 rfl (by kernel_rfl)) rfl ?_
    exact ⟨_, _, _, eqA, by (with_reducible repeat (first | apply Kd.R_alloc | apply Kd.R_drewN | apply Kd.R_drew)); exact Kd.R_mono (Kd.R_far (p := ⟨gb102, 2, none⟩) (Kd.R_far (p := ⟨gb102, 1, none⟩) (Kd.R_far (p := ⟨gb102, 0, none⟩) (Kd.R_types HO_110000.out BK102.out (by decide)) (fun _ hk => hk.2) (.slice Ao14 t103.length co14)) (fun _ hk => hk.2) (.slice Ao13 t106.length co13)) (fun _ hk => hk.2) (.slice Ao41 x110002_1.length co41)) (fun _ hk => hk.1), by (with_reducible repeat (first | apply Kd.R_alloc | apply Kd.R_drewN | apply Kd.R_drew)); exact Kd.R_mono (Kd.R_far (p := ⟨gb102, 2, none⟩) (Kd.R_far (p := ⟨gb102, 1, none⟩) (Kd.R_far (p := ⟨gb102, 0, none⟩) (Kd.R_types HO_110001.out BK102.out (by decide)) (fun _ hk => hk.2) (.slice Ao14 t103.length co14)) (fun _ hk => hk.2) (.slice Ao13 t106.length co13)) (fun _ hk => hk.2) (.slice Ao41 x110002_1.length co41)) (fun _ hk => hk.1), by (with_reducible repeat (first | apply Kd.R_alloc | apply Kd.R_drewN | apply Kd.R_drew)); exact Kd.R_mono (Kd.R_far (p := ⟨gb102, 2, none⟩) (Kd.R_far (p := ⟨gb102, 1, none⟩) (Kd.R_far (p := ⟨gb102, 0, none⟩) (Kd.R_types HO_110002.out BK102.out (by decide)) (fun _ hk => hk.2) (.slice Ao14 t103.length co14)) (fun _ hk => hk.2) (.slice Ao13 t106.length co13)) (fun _ hk => hk.2) (.slice Ao41 x110002_1.length co41)) (fun _ hk => trivial), bX HB⟩
end PSur
end Go.Proofs.YtgdkmadcegleiaaGreatDoor
namespace Go.Proofs.YtgdkmadcegleiaaGreatDoor
namespace PSur
open X
attribute [local go_sem] max2_int min2_int max_two min_two max_three min_three max_four min_four   -- for this text's walks alone
end PSur
end Go.Proofs.YtgdkmadcegleiaaGreatDoor
namespace Go.Proofs.YtgdkmadcegleiaaGreatDoor
namespace PIsp
open X
attribute [local go_sem] max2_int min2_int max_two min_two max_three min_three max_four min_four   -- for this text's walks alone
def errW : Option Int → Value
  | none => .nilIface
  | some c => .iface 0 (.int .i64 c)
theorem errW_none : errW none = .nilIface := rfl
theorem errW_some (c : Int) : errW (some c) = .iface 0 (.int .i64 c) := rfl
theorem info3 : (Tryz.prog.info? 3).map (fun i => (i.zero, i.size, i.bytes)) = some (some (.int .i64 0), 1, 8) := by kernel_rfl
end PIsp
end Go.Proofs.YtgdkmadcegleiaaGreatDoor
namespace Go.Proofs.YtgdkmadcegleiaaGreatDoor
namespace PIsp
open Sq X
attribute [local go_sem] max2_int min2_int max_two min_two max_three min_three max_four min_four   -- for this text's walks alone
def z68_.f (l0_0 : List (S30)) (l0_1 : List (S30)) (a0_2 : Int) (l0_3 : List (S171)) (l0_4 : List (S30)) (l0_5 : List (S30)) (a1_0 : Int) (a1_1 : Int) (a1_2 : Int) (a1_3 : Int) (a2_0 : Int) (a2_1 : Int) : Option (Bool) := (z11_.f 0 (wrap64 ((l0_4.length : Int) - a1_0)) (([a2_0] : List Int))).bind fun t107 => (if t107 = true then ((z11_.f 0 300 (([a2_1] : List Int))).bind fun t111 => (some t111)) else (some false))
set_option maxHeartbeats 8000000 in
set_option maxRecDepth 100000 in
theorem z68_.calls (A0_0 : Option Addr) (c0_0 : Nat) (l0_0 : List (S30)) (A0_1 : Option Addr) (c0_1 : Nat) (l0_1 : List (S30)) (a0_2 : Int) (A0_3 : Option Addr) (c0_3 : Nat) (l0_3 : List (S171)) (A0_4 : Option Addr) (c0_4 : Nat) (l0_4 : List (S30)) (A0_5 : Option Addr) (c0_5 : Nat) (l0_5 : List (S30)) (a1_0 : Int) (a1_1 : Int) (a1_2 : Int) (a1_3 : Int) (a2_0 : Int) (a2_1 : Int) (r : Bool) (w : World) (hr0_0 : Kd.C k30 w A0_0 l0_0.length l0_0) (hc0_0 : l0_0.length ≤ c0_0) (hr0_1 : Kd.C k30 w A0_1 l0_1.length l0_1) (hc0_1 : l0_1.length ≤ c0_1) (hr0_3 : Kd.C k171 w A0_3 l0_3.length l0_3) (hc0_3 : l0_3.length ≤ c0_3) (hr0_4 : Kd.C k30 w A0_4 l0_4.length l0_4) (hc0_4 : l0_4.length ≤ c0_4) (hr0_5 : Kd.C k30 w A0_5 l0_5.length l0_5) (hc0_5 : l0_5.length ≤ c0_5) (h : z68_.f l0_0 l0_1 a0_2 l0_3 l0_4 l0_5 a1_0 a1_1 a1_2 a1_3 a2_0 a2_1 = some r) :
  Calls Tryz.prog 86 #[.agg #[.slice A0_0 l0_0.length c0_0, .slice A0_1 l0_1.length c0_1, .int .i64 a0_2, .slice A0_3 l0_3.length c0_3, .slice A0_4 l0_4.length c0_4, .slice A0_5 l0_5.length c0_5], .agg #[.int .i64 a1_0, .int .i64 a1_1, .int .i64 a1_2, .int .i64 a1_3], .agg #[.int .i64 a2_0, .int .i64 a2_1]] w fun e w' => e = .returned (.bool r) ∧ Below w.heap.size w w' := by
 have hu152 := Tryz.underlying152
 have hu130 := Tryz.underlying130
 have hu156 := Tryz.underlying156
 have HR0_0 := Aside0.mk hr0_0
 have HC0_0 := Aside0.mk hc0_0
 clear hr0_0 hc0_0
 have HR0_1 := Aside0.mk hr0_1
 have HC0_1 := Aside0.mk hc0_1
 clear hr0_1 hc0_1
 have HR0_3 := Aside0.mk hr0_3
 have HC0_3 := Aside0.mk hc0_3
 clear hr0_3 hc0_3
 have HR0_4 := Aside0.mk hr0_4
 have HC0_4 := Aside0.mk hc0_4
 clear hr0_4 hc0_4
 have HR0_5 := Aside0.mk hr0_5
 have HC0_5 := Aside0.mk hc0_5
 clear hr0_5 hc0_5
 have HB := Aside0.mk (Below.refl w.heap.size w)
 have H : ((z11_.f 0 (wrap64 ((l0_4.length : Int) - a1_0)) (([a2_0] : List Int))).bind fun t107 => (if t107 = true then ((z11_.f 0 300 (([a2_1] : List Int))).bind fun t111 => (some t111)) else (some false))) = some r := h
 clear h
 obtain ⟨y104, hy104⟩ : ∃ y_ : List Int, y_ = (([a2_0] : List Int)) := ⟨_, rfl⟩
 replace H : ((z11_.f 0 (wrap64 ((l0_4.length : Int) - a1_0)) y104).bind fun t107 => (if t107 = true then ((z11_.f 0 300 (([a2_1] : List Int))).bind fun t111 => (some t111)) else (some false))) = some r := by first | (rw [hy104]; with_reducible exact H) | (have H2_ := (Option.bind_some _ _).symm.trans H; rw [hy104]; with_reducible exact H2_) | (have H2_ := (Option.bind_some _ _).symm.trans H; with_reducible exact H2_) | with_reducible exact H | (rw [hy104]; exact H) | exact H
 have Ny104 := Aside0.mk hy104
 clear hy104
 replace H := bindA H
 obtain ⟨t107, A4, H⟩ := H
 try dsimp only at H
 by_cases c5 : t107 = true
 ·subst c5
  have H1 : ((z11_.f 0 300 (([a2_1] : List Int))).bind fun t111 => (some t111)) = some r := by rw [if_pos rfl] at H; exact H
  clear H
  have H := H1
  clear H1
  obtain ⟨y108, hy108⟩ : ∃ y_ : List Int, y_ = (([a2_1] : List Int)) := ⟨_, rfl⟩
  replace H : ((z11_.f 0 300 y108).bind fun t111 => (some t111)) = some r := by first | (rw [hy108]; with_reducible exact H) | (have H2_ := (Option.bind_some _ _).symm.trans H; rw [hy108]; with_reducible exact H2_) | (have H2_ := (Option.bind_some _ _).symm.trans H; with_reducible exact H2_) | with_reducible exact H | (rw [hy108]; exact H) | exact H
  have Ny108 := Aside0.mk hy108
  clear hy108
  replace H := bindA H
  obtain ⟨t111, A6, H⟩ := H
  try dsimp only at H
  obtain rfl := Option.some.inj H
  go_enter Tryz.func86, Tryz.ntmps86
  go_wp2_with (first | ((with_reducible refine gate_dst (N := 3) rfl ?_); (try (refine gate_guard (by rfl) ?_; dsimp only)); refine boxA (N := 3) (cs := #[.slice A0_0 l0_0.length c0_0, .slice A0_1 l0_1.length c0_1, .int .i64 a0_2, .slice A0_3 l0_3.length c0_3, .slice A0_4 l0_4.length c0_4, .slice A0_5 l0_5.length c0_5]) (t := 152) ?_; intro gb101 hg w7 hbox hb; have BK101 := Aside0.mk (hbox); have GE101 := bG HB hg; replace HB := bS HB hb; clear hb hbox hg) | ((with_reducible refine gate_dst (N := 4) rfl ?_); (try (refine gate_guard (by rfl) ?_; dsimp only)); refine boxA (N := 4) (cs := #[.int .i64 a1_0, .int .i64 a1_1, .int .i64 a1_2, .int .i64 a1_3]) (t := 130) ?_; intro gb102 hg w8 hbox hb; have BK102 := Aside0.mk (hbox); have GE102 := bG HB hg; have NB101_102 := kN BK101 hg; have NB102_101 := kM BK101 hg; replace BK101 := kB BK101 hb; replace HB := bS HB hb; clear hb hbox hg) | ((with_reducible refine gate_dst (N := 5) rfl ?_); (try (refine gate_guard (by rfl) ?_; dsimp only)); refine boxA (N := 5) (cs := #[.int .i64 a2_0, .int .i64 a2_1]) (t := 156) ?_; intro gb103 hg w9 hbox hb; have BK103 := Aside0.mk (hbox); have GE103 := bG HB hg; have NB101_103 := kN BK101 hg; have NB103_101 := kM BK101 hg; have NB102_103 := kN BK102 hg; have NB103_102 := kM BK102 hg; replace BK101 := kB BK101 hb; replace BK102 := kB BK102 hb; replace HB := bS HB hb; clear hb hbox hg; obtain ⟨hnb10, hnc10⟩ := nn NB101_102; obtain ⟨hnb11, hnc11⟩ := nn NB101_103; obtain ⟨hcz12_0, hcz12_1, hcz12_2, hcz12_3, hcz12_4, hcz12_5, hfz12_0, hfz12_1, hfz12_2, hfz12_3, hfz12_4, hfz12_5⟩ := cc6 BK101; obtain ⟨hnb13, hnc13⟩ := nn NB102_103; obtain ⟨hcz14_0, hcz14_1, hcz14_2, hcz14_3, hfz14_0, hfz14_1, hfz14_2, hfz14_3⟩ := cc4 BK102; obtain ⟨hcz15_0, hcz15_1, hfz15_0, hfz15_1⟩ := cc2 BK103) | ((with_reducible refine gate_dst (N := 15) rfl ?_); (try (refine gate_guard (by rfl) ?_; dsimp only)); refine Kd.R_lit (Kd.int .i64) _ 3 ?hg (N := 15) ?hd (xs := ([a2_0] : List Int)) (inner := [.int .i64 a2_0]) (ok := fun _ => True) (okp := fun _ => True) ?hr ?hp (fun _ hk => hk) trivial (Below.refl _ _) (Nat.le_refl _) (by simp) ?_; (case hd => rfl); (case hg => rfl); (case hr => first | (go_simp; done) | (go_simp; rfl)); (case hp => exact (Reps.one (show Kd.M (Kd.int .i64) _ _ _ a2_0 [.int .i64 a2_0] from rfl) (Reps.none _ _))); intro v105 w16 ho17 hb hg_ hnew_; clear hg_ hnew_; (first | rw [← Ny104.out] at ho17 | (simp only [Int.reduceToNat] at ho17; rw [← Ny104.out] at ho17)); have HO106 := Aside0.mk (Kd.R_lower ho17 (below_size (bX HB))); replace BK101 := kB BK101 hb; replace BK102 := kB BK102 hb; replace BK103 := kB BK103 hb; replace HB := bS HB hb; clear hb ho17; obtain ⟨Ao18, co18, eo18⟩ := Kd.R_slice HO106.out; subst eo18) | ((with_reducible refine gate_callee (f := 101) rfl ?_); refine goesA (some 16) Tryz.func101 #[.int .i64 0, .int .i64 (wrap64 ((l0_4.length : Int) - a1_0)), .slice Ao18 y104.length co18] ?_; (with_reducible refine (z11_.calls 0 (wrap64 ((l0_4.length : Int) - a1_0)) _ _ y104 true _ ?side1 ?side2 A4.out).mono ?_); (case side1 => exact sX (Kd.R_reads' HO106.out).2.2); (case side2 => exact (Kd.R_reads' HO106.out).2.1); rintro e w19 ⟨rfl, hb⟩; refine ⟨_, rfl, ?_⟩; replace HO106 := rB HO106 hb; replace BK101 := kB BK101 hb; replace BK102 := kB BK102 hb; replace BK103 := kB BK103 hb; replace HB := bS HB hb; obtain ⟨hcz20_0, hcz20_1, hfz20_0, hfz20_1⟩ := cc2 BK103) | ((with_reducible refine gate_dst (N := 20) rfl ?_); (try (refine gate_guard (by rfl) ?_; dsimp only)); refine Kd.R_lit (Kd.int .i64) _ 3 ?hg (N := 20) ?hd (xs := ([a2_1] : List Int)) (inner := [.int .i64 a2_1]) (ok := fun _ => True) (okp := fun _ => True) ?hr ?hp (fun _ hk => hk) trivial (Below.refl _ _) (Nat.le_refl _) (by simp) ?_; (case hd => rfl); (case hg => rfl); (case hr => first | (go_simp; done) | (go_simp; rfl)); (case hp => exact (Reps.one (show Kd.M (Kd.int .i64) _ _ _ a2_1 [.int .i64 a2_1] from rfl) (Reps.none _ _))); intro v109 w21 ho22 hb hg_ hnew_; clear hg_ hnew_; (first | rw [← Ny108.out] at ho22 | (simp only [Int.reduceToNat] at ho22; rw [← Ny108.out] at ho22)); have HO110 := Aside0.mk (Kd.R_lower (Kd.R_new' ho22 (Kd.R_lt (rX HO106.out))) (below_size (bX HB))); replace HO106 := Aside0.mk (Kd.R_elder' (rX HO106.out) (Kd.R_base ho22) hb); replace BK101 := kB BK101 hb; replace BK102 := kB BK102 hb; replace BK103 := kB BK103 hb; replace HB := bS HB hb; clear hb ho22; obtain ⟨Ao23, co23, eo23⟩ := Kd.R_slice HO110.out; subst eo23) | (go_at_call 101; (with_reducible refine (z11_.calls 0 300 _ _ y108 t111 _ ?side1 ?side2 A6.out).mono ?_); (case side1 => exact sX (Kd.R_reads' HO110.out).2.2); (case side2 => exact (Kd.R_reads' HO110.out).2.1); rintro e w24 ⟨rfl, hb⟩; replace HO106 := rB HO106 hb; replace HO110 := rB HO110 hb; replace BK101 := kB BK101 hb; replace BK102 := kB BK102 hb; replace BK103 := kB BK103 hb; replace HB := bS HB hb))
  go_ret
  exact ⟨eqA, bX HB⟩
 ·replace c5 := Bool.eq_false_iff.mpr c5
  subst c5
  have H1 : (some false) = some r := by rw [if_neg (show ¬ (false = true) by decide)] at H; exact H
  clear H
  have H := H1
  clear H1
  obtain rfl := Option.some.inj H
  go_enter Tryz.func86, Tryz.ntmps86
  go_wp2_with (first | ((with_reducible refine gate_dst (N := 3) rfl ?_); (try (refine gate_guard (by rfl) ?_; dsimp only)); refine boxA (N := 3) (cs := #[.slice A0_0 l0_0.length c0_0, .slice A0_1 l0_1.length c0_1, .int .i64 a0_2, .slice A0_3 l0_3.length c0_3, .slice A0_4 l0_4.length c0_4, .slice A0_5 l0_5.length c0_5]) (t := 152) ?_; intro gb101 hg w25 hbox hb; have BK101 := Aside0.mk (hbox); have GE101 := bG HB hg; replace HB := bS HB hb; clear hb hbox hg) | ((with_reducible refine gate_dst (N := 4) rfl ?_); (try (refine gate_guard (by rfl) ?_; dsimp only)); refine boxA (N := 4) (cs := #[.int .i64 a1_0, .int .i64 a1_1, .int .i64 a1_2, .int .i64 a1_3]) (t := 130) ?_; intro gb102 hg w26 hbox hb; have BK102 := Aside0.mk (hbox); have GE102 := bG HB hg; have NB101_102 := kN BK101 hg; have NB102_101 := kM BK101 hg; replace BK101 := kB BK101 hb; replace HB := bS HB hb; clear hb hbox hg) | ((with_reducible refine gate_dst (N := 5) rfl ?_); (try (refine gate_guard (by rfl) ?_; dsimp only)); refine boxA (N := 5) (cs := #[.int .i64 a2_0, .int .i64 a2_1]) (t := 156) ?_; intro gb103 hg w27 hbox hb; have BK103 := Aside0.mk (hbox); have GE103 := bG HB hg; have NB101_103 := kN BK101 hg; have NB103_101 := kM BK101 hg; have NB102_103 := kN BK102 hg; have NB103_102 := kM BK102 hg; replace BK101 := kB BK101 hb; replace BK102 := kB BK102 hb; replace HB := bS HB hb; clear hb hbox hg; obtain ⟨hnb28, hnc28⟩ := nn NB101_102; obtain ⟨hnb29, hnc29⟩ := nn NB101_103; obtain ⟨hcz30_0, hcz30_1, hcz30_2, hcz30_3, hcz30_4, hcz30_5, hfz30_0, hfz30_1, hfz30_2, hfz30_3, hfz30_4, hfz30_5⟩ := cc6 BK101; obtain ⟨hnb31, hnc31⟩ := nn NB102_103; obtain ⟨hcz32_0, hcz32_1, hcz32_2, hcz32_3, hfz32_0, hfz32_1, hfz32_2, hfz32_3⟩ := cc4 BK102; obtain ⟨hcz33_0, hcz33_1, hfz33_0, hfz33_1⟩ := cc2 BK103) | ((with_reducible refine gate_dst (N := 15) rfl ?_); (try (refine gate_guard (by rfl) ?_; dsimp only)); refine Kd.R_lit (Kd.int .i64) _ 3 ?hg (N := 15) ?hd (xs := ([a2_0] : List Int)) (inner := [.int .i64 a2_0]) (ok := fun _ => True) (okp := fun _ => True) ?hr ?hp (fun _ hk => hk) trivial (Below.refl _ _) (Nat.le_refl _) (by simp) ?_; (case hd => rfl); (case hg => rfl); (case hr => first | (go_simp; done) | (go_simp; rfl)); (case hp => exact (Reps.one (show Kd.M (Kd.int .i64) _ _ _ a2_0 [.int .i64 a2_0] from rfl) (Reps.none _ _))); intro v105 w34 ho35 hb hg_ hnew_; clear hg_ hnew_; (first | rw [← Ny104.out] at ho35 | (simp only [Int.reduceToNat] at ho35; rw [← Ny104.out] at ho35)); have HO106 := Aside0.mk (Kd.R_lower ho35 (below_size (bX HB))); replace BK101 := kB BK101 hb; replace BK102 := kB BK102 hb; replace BK103 := kB BK103 hb; replace HB := bS HB hb; clear hb ho35; obtain ⟨Ao36, co36, eo36⟩ := Kd.R_slice HO106.out; subst eo36) | ((with_reducible refine gate_callee (f := 101) rfl ?_); refine goesA (some 16) Tryz.func101 #[.int .i64 0, .int .i64 (wrap64 ((l0_4.length : Int) - a1_0)), .slice Ao36 y104.length co36] ?_; (with_reducible refine (z11_.calls 0 (wrap64 ((l0_4.length : Int) - a1_0)) _ _ y104 false _ ?side1 ?side2 A4.out).mono ?_); (case side1 => exact sX (Kd.R_reads' HO106.out).2.2); (case side2 => exact (Kd.R_reads' HO106.out).2.1); rintro e w37 ⟨rfl, hb⟩; refine ⟨_, rfl, ?_⟩; replace HO106 := rB HO106 hb; replace BK101 := kB BK101 hb; replace BK102 := kB BK102 hb; replace BK103 := kB BK103 hb; replace HB := bS HB hb))
  go_ret
  exact ⟨eqA, bX HB⟩
end PIsp
end Go.Proofs.YtgdkmadcegleiaaGreatDoor
namespace Go.Proofs.YtgdkmadcegleiaaGreatDoor
namespace PIsp
open X
attribute [local go_sem] max2_int min2_int max_two min_two max_three min_three max_four min_four   -- for this text's walks alone
end PIsp
end Go.Proofs.YtgdkmadcegleiaaGreatDoor
namespace Go.Proofs.YtgdkmadcegleiaaGreatDoor
namespace X
open PToo PBen PTob PSur PIsp
theorem blockW_facts {w w1 W : World} {t1 t2 : TypeId} {v1 v2 : Array Value} {o : Obj} (hb : Below (twoW w t1 t2 v1 v2).heap.size (twoW w t1 t2 v1 v2) w1) (h : Below (w1.alloc o).heap.size (w1.alloc o) W) :
    W.heap[w.heap.size + 1]? = some (.cells v2 t2 (0, 0)) ∧ W.heap[w1.heap.size]? = some o ∧ Below w.heap.size w W ∧ Below w1.heap.size w1 W := by
  obtain ⟨_, b2, hbw⟩ := twoW_facts hb
  obtain ⟨b6, h1⟩ := after_alloc h
  exact ⟨blk_below b2 h1, b6, later_below hbw h1, h1⟩
set_option maxHeartbeats 4000000 in
set_option maxRecDepth 8000 in
theorem Block_calls {A0 A1 A3 : Option Addr} {c0 c1 c3 k ks kb : Nat} {bot top : List S30} {bend : Int} {cr : List S171} {rb rt : List S30} {long wide kerf across x : Int} {s1 s2 : List Int} {s3 : List S173} {r : List Int} {w : World}
    (hr0 : Kd.C k30 w A0 bot.length bot) (hc0 : bot.length ≤ c0) (hr1 : Kd.C k30 w A1 top.length top) (hc1 : top.length ≤ c1) (hr3 : Kd.C k171 w A3 cr.length cr) (hc3 : cr.length ≤ c3)
    (hf : z62_.f bot top bend cr = some 0) (hb : z9_.f k bot bend = some (rb, true)) (ht : z9_.f k top bend = some (rt, true))
    (h1 : z11_.f 1 30 [long] = some true) (h2 : z11_.f 1 300 [wide] = some true) (h3 : z11_.f 0 50 [kerf, across] = some true) (hp : z68_.f bot top bend cr rb rt long wide kerf across x 0 = some true)
    (hs : z21_.f ks bot top bend cr rb rt = some (s1, s2, s3)) (hbl : z35_.f kb s1 s2 s3 long wide kerf across x = some r) :
    Calls Tryz.prog 65 #[.agg (bladeV A0 A1 A3 bot.length c0 top.length c1 cr.length c3 bend), .agg #[.int .i64 long, .int .i64 wide, .int .i64 kerf, .int .i64 across], .int .i64 x] w fun e w' =>
      ∃ v : Value, e = .returned (.tuple #[v, .int .i64 0]) ∧ Kd.R (Kd.int .i64) 3 w' w.heap.size (fun _ => True) v r ∧ Below w.heap.size w w' := by
  have HF : Aside0 (∀ {w1 W : World} {o : Obj}, Below (twoW w 126 130 (bladeV A0 A1 A3 bot.length c0 top.length c1 cr.length c3 bend) #[.int .i64 long, .int .i64 wide, .int .i64 kerf, .int .i64 across]).heap.size (twoW w 126 130 (bladeV A0 A1 A3 bot.length c0 top.length c1 cr.length c3 bend) #[.int .i64 long, .int .i64 wide, .int .i64 kerf, .int .i64 across]) w1 → Below (w1.alloc o).heap.size (w1.alloc o) W → _) := ⟨fun hb h => blockW_facts hb h⟩
  have CN : Aside0 (∀ W, Below w.heap.size w W → Calls Tryz.prog 85 #[.agg (bladeV A0 A1 A3 bot.length c0 top.length c1 cr.length c3 bend), .agg #[.int .i64 long, .int .i64 wide, .int .i64 kerf, .int .i64 across]] W _) := ⟨fun W h => open_calls (Kd.C_below hr0 h) hc0 (Kd.C_below hr1 h) hc1 (Kd.C_below hr3 h) hc3 hf hb ht h1 h2 h3⟩
  have CS : Aside0 (∀ (W : World) (Ab At : Option Addr) (cb ct : Nat), Below w.heap.size w W → Kd.C k30 W Ab rb.length rb → rb.length ≤ cb → Kd.C k30 W At rt.length rt → rt.length ≤ ct → Calls Tryz.prog 87 #[.agg #[.slice A0 bot.length c0, .slice A1 top.length c1, .int .i64 bend, .slice A3 cr.length c3, .slice Ab rb.length cb, .slice At rt.length ct]] W _) := ⟨fun W Ab At cb ct h e1 e2 e3 e4 => z21_.calls ks A0 c0 bot A1 c1 top bend A3 c3 cr Ab cb rb At ct rt s1 s2 s3 W (Kd.C_below hr0 h) hc0 (Kd.C_below hr1 h) hc1 (Kd.C_below hr3 h) hc3 e1 e2 e3 e4 hs⟩
  have CP : Aside0 (∀ (W : World) (Ab At : Option Addr) (cb ct : Nat), Below w.heap.size w W → Kd.C k30 W Ab rb.length rb → rb.length ≤ cb → Kd.C k30 W At rt.length rt → rt.length ≤ ct → Calls Tryz.prog 86 #[.agg #[.slice A0 bot.length c0, .slice A1 top.length c1, .int .i64 bend, .slice A3 cr.length c3, .slice Ab rb.length cb, .slice At rt.length ct], .agg #[.int .i64 long, .int .i64 wide, .int .i64 kerf, .int .i64 across], .agg #[.int .i64 x, .int .i64 0]] W _) := ⟨fun W Ab At cb ct h e1 e2 e3 e4 => z68_.calls A0 c0 bot A1 c1 top bend A3 c3 cr Ab cb rb At ct rt long wide kerf across x 0 true W (Kd.C_below hr0 h) hc0 (Kd.C_below hr1 h) hc1 (Kd.C_below hr3 h) hc3 e1 e2 e3 e4 hp⟩
  have HS : Aside0 (Below w.heap.size w (twoW w 126 130 (bladeV A0 A1 A3 bot.length c0 top.length c1 cr.length c3 bend) #[.int .i64 long, .int .i64 wide, .int .i64 kerf, .int .i64 across])) := ⟨below_alloc (below_alloc (Below.refl _ _) _) _⟩
  have HBL := Aside0.mk hbl
  clear hr0 hr1 hr3 hc0 hc1 hc3 hf hb ht h1 h2 h3 hs hp hbl
  go_enter Tryz.func65, Tryz.ntmps65
  go_upto_region 4 with (first
    | (go_at_call 85; refine (CN.out _ HS.out).mono ?_; rintro e w1 ⟨vb, vt, rfl, hvb, hvt, hb1⟩; obtain ⟨Ab, cb, rfl, hlb, hCb⟩ := Kd.R_reads hvb; obtain ⟨At, ct, rfl, hlt, hCt⟩ := Kd.R_reads hvt; have HB1 := Aside0.mk hb1; have HCB := Aside0.mk hCb; have HCT := Aside0.mk hCt; have HLB := Aside0.mk hlb; have HLT := Aside0.mk hlt; clear hvb hvt hb1 hCb hCt hlb hlt))
  have HG : Aside0 (∀ {W : World}, Below (w1.alloc (.cells #[.slice A0 bot.length c0, .slice A1 top.length c1, .int .i64 bend, .slice A3 cr.length c3, .slice Ab rb.length cb, .slice At rt.length ct] 152 (0, 0))).heap.size (w1.alloc (.cells #[.slice A0 bot.length c0, .slice A1 top.length c1, .int .i64 bend, .slice A3 cr.length c3, .slice Ab rb.length cb, .slice At rt.length ct] 152 (0, 0))) W → _) := ⟨fun h => HF.out HB1.out h⟩
  have H0 := Aside0.mk (Below.refl (w1.alloc (.cells #[.slice A0 bot.length c0, .slice A1 top.length c1, .int .i64 bend, .slice A3 cr.length c3, .slice Ab rb.length cb, .slice At rt.length ct] 152 (0, 0))).heap.size (w1.alloc (.cells #[.slice A0 bot.length c0, .slice A1 top.length c1, .int .i64 bend, .slice A3 cr.length c3, .slice Ab rb.length cb, .slice At rt.length ct] 152 (0, 0))))
  clear HS CN HF
  generalize w1.alloc (.cells #[.slice A0 bot.length c0, .slice A1 top.length c1, .int .i64 bend, .slice A3 cr.length c3, .slice Ab rb.length cb, .slice At rt.length ct] 152 (0, 0)) = wz at HG H0 ⊢
  obtain ⟨b2, b6, hbw, hb11⟩ := HG.out H0.out
  have y0 := (blk_cell b2 0).trans rfl
  have y1 := (blk_cell b2 1).trans rfl
  have y2 := (blk_cell b2 2).trans rfl
  have y3 := (blk_cell b2 3).trans rfl
  have x0 := (blk_cell b6 0).trans rfl
  have x1 := (blk_cell b6 1).trans rfl
  have x2 := (blk_cell b6 2).trans rfl
  have x3 := (blk_cell b6 3).trans rfl
  have x4 := (blk_cell b6 4).trans rfl
  have x5 := (blk_cell b6 5).trans rfl
  have HCB2 := Aside0.mk (Kd.C_below HCB.out hb11)
  have HCT2 := Aside0.mk (Kd.C_below HCT.out hb11)
  have HBW := Aside0.mk hbw
  clear b2 b6 hbw hb11
  go_upto_region 6 with (go_at_call 86; refine (CP.out wz Ab At cb ct HBW.out HCB2.out HLB.out HCT2.out HLT.out).mono ?_; rintro e wp ⟨rfl, hbp⟩; have HBP := Aside0.mk hbp; clear hbp)
  obtain ⟨b2, b6, hbw, hb11⟩ := HG.out HBP.out
  clear y0 y1 y2 y3 x0 x1 x2 x3 x4 x5
  have y0 := (blk_cell b2 0).trans rfl
  have y1 := (blk_cell b2 1).trans rfl
  have y2 := (blk_cell b2 2).trans rfl
  have y3 := (blk_cell b2 3).trans rfl
  have x0 := (blk_cell b6 0).trans rfl
  have x1 := (blk_cell b6 1).trans rfl
  have x2 := (blk_cell b6 2).trans rfl
  have x3 := (blk_cell b6 3).trans rfl
  have x4 := (blk_cell b6 4).trans rfl
  have x5 := (blk_cell b6 5).trans rfl
  have HCB3 := Aside0.mk (Kd.C_below HCB.out hb11)
  have HCT3 := Aside0.mk (Kd.C_below HCT.out hb11)
  have HBW3 := Aside0.mk hbw
  clear b2 b6 hbw hb11
  go_region_with (first
    | (go_at_call 87; refine (CS.out wp.drew Ab At cb ct (below_drew HBW3.out) (Kd.C_drew HCB3.out) HLB.out (Kd.C_drew HCT3.out) HLT.out).mono ?_; rintro e w2 ⟨va, vc, vd, rfl, hva, hvc, hvd, hb2⟩; obtain ⟨Aa, ca, rfl, hla, hCa⟩ := Kd.R_reads hva; obtain ⟨Ac, cc, rfl, hlc, hCc⟩ := Kd.R_reads hvc; obtain ⟨Ad, cd, rfl, hld, hCd⟩ := Kd.R_reads hvd; have hb3 := later_below (below_drew HBP.out) hb2; obtain ⟨b2, b6, hbw, hb11⟩ := HG.out hb3; clear y0 y1 y2 y3; have y0 := (blk_cell b2 0).trans rfl; have y1 := (blk_cell b2 1).trans rfl; have y2 := (blk_cell b2 2).trans rfl; have y3 := (blk_cell b2 3).trans rfl; have HBW2 := Aside0.mk hbw; have HCA := Aside0.mk hCa; have HCC := Aside0.mk hCc; have HCD := Aside0.mk hCd; have HLA := Aside0.mk hla; have HLC := Aside0.mk hlc; have HLD := Aside0.mk hld; clear hva hvc hvd hb2 hb3 b2 b6 hbw hb11 hCa hCc hCd hla hlc hld)
    | (go_at_call 88; refine (z35_.calls kb _ _ s1 _ _ s2 _ _ s3 long wide kerf across x r _ HCA.out HLA.out HCC.out HLC.out HCD.out HLD.out HBL.out).mono ?_; rintro e w3 ⟨v, rfl, hv, hb3⟩; have HV := Aside0.mk hv; have HB3 := Aside0.mk hb3; clear hv hb3))
  all_goals (go_wp2; go_ret2; exact ⟨_, rfl, Kd.R_lower HV.out (below_size HBW2.out), later_below HBW2.out HB3.out⟩)
end X
end Go.Proofs.YtgdkmadcegleiaaGreatDoor
namespace Go.Proofs.YtgdkmadcegleiaaGreatDoor
namespace X
theorem enters_stwithin1 : ∀ args w, (callFunc 67 args).run Tryz.prog w = .ok (.enter 67 args) w := enters_of Tryz.func67 (by kernel_rfl) rfl
def stOutside (least most n : Int) : Bool := decide (n < least) || decide (most < n)
theorem stwithin1_pred {g1 g2 : Nat} {least most : Int} {xs : List Int} {w : World} (h1 : w.cell? ⟨g1, 0, none⟩ = some (.int .i64 least)) (h2 : w.cell? ⟨g2, 0, none⟩ = some (.int .i64 most)) :
    PredK 67 #[.pointer (some ⟨g1, 0, none⟩), .pointer (some ⟨g2, 0, none⟩)] (Kd.int .i64) cell1 xs (stOutside least most) w := by
  intro x _ W cs hb hK
  have e : cs = [.int .i64 x] := hK
  subst e
  have k1 : W.cell? ⟨g1, 0, none⟩ = some (.int .i64 least) := pw_cell_below hb h1
  have k2 : W.cell? ⟨g2, 0, none⟩ = some (.int .i64 most) := pw_cell_below hb h2
  simp only [cell1, List.getD_cons_zero]
  show Calls Tryz.prog 67 #[.int .i64 x, .pointer (some ⟨g1, 0, none⟩), .pointer (some ⟨g2, 0, none⟩)] W _
  clear hb h1 h2 hK
  by_cases c1 : x < least
  · have d1 : decide (x < least) = true := decide_eq_true c1
    have e1 : stOutside least most x = true := by simp [stOutside, d1]
    rw [e1]
    clear c1 e1
    go_enter Tryz.func67, Tryz.ntmps67
    go_wp2
    go_ret
    exact ⟨rfl, by first | exact Below.refl _ _ | exact pw_below_drewN (Below.refl _ _) _⟩
  · have d1 : decide (x < least) = false := decide_eq_false c1
    clear c1
    by_cases c2 : most < x
    · have d2 : decide (most < x) = true := decide_eq_true c2
      have e1 : stOutside least most x = true := by simp [stOutside, d2]
      rw [e1]
      clear c2 e1
      go_enter Tryz.func67, Tryz.ntmps67
      go_wp2
      go_ret
      exact ⟨rfl, by first | exact Below.refl _ _ | exact pw_below_drewN (Below.refl _ _) _⟩
    · have d2 : decide (most < x) = false := decide_eq_false c2
      have e1 : stOutside least most x = false := by simp [stOutside, d1, d2]
      rw [e1]
      clear c2 e1
      go_enter Tryz.func67, Tryz.ntmps67
      go_wp2
      go_ret
      exact ⟨rfl, by first | exact Below.refl _ _ | exact pw_below_drewN (Below.refl _ _) _⟩
def z27_.f (a0 a1 : Int) (l2 : List Int) : Option Bool := some (l2.all fun n => decide (a0 ≤ n) && decide (n ≤ a1))
theorem any_stOutside (a0 a1 : Int) (l : List Int) : (!(l.any (stOutside a0 a1))) = l.all fun n => decide (a0 ≤ n) && decide (n ≤ a1) := by
  induction l with
  | nil => rfl
  | cons x l ih =>
    simp only [List.any_cons, List.all_cons, Bool.not_or, ih]
    congr 1
    simp only [stOutside, Bool.not_or]
    by_cases h1 : a0 ≤ x <;> by_cases h2 : x ≤ a1 <;> simp [h1, h2] <;> omega
set_option maxHeartbeats 1000000 in
theorem z27_.calls (a0 : Int) (a1 : Int) (A2 : Option Addr) (c2 : Nat) (l2 : List Int) (r : Bool) (w : World) (hr2 : Kd.C (Kd.int .i64) w A2 l2.length l2) (_hc2 : l2.length ≤ c2) (h : z27_.f a0 a1 l2 = some r) :
    Calls Tryz.prog 31 #[.int .i64 a0, .int .i64 a1, .slice A2 l2.length c2] w fun e w' => e = .returned (.bool r) ∧ Below w.heap.size w w' := by
  obtain rfl := Option.some.inj h
  rw [← any_stOutside]
  have HR := Aside0.mk hr2
  clear hr2 h
  go_enter Tryz.func31, Tryz.ntmps31
  go_wp2_with fail
  refine (contains_int (p := stOutside a0 a1) enters_stwithin1 (Kd.C_alloc (Kd.C_alloc HR.out _) _) (stwithin1_pred (by simp) (by simp))).mono ?_
  rintro e w' ⟨rfl, hb⟩
  have HB := Aside0.mk (below_then (below_alloc (below_alloc (Below.refl _ _) _) _) (by simp; omega) hb)
  clear hb
  go_wp2
  go_ret
  exact ⟨rfl, HB.out⟩
end X
end Go.Proofs.YtgdkmadcegleiaaGreatDoor
namespace Go.Proofs.YtgdkmadcegleiaaGreatDoor
namespace PSti
open X
attribute [local go_sem] max2_int min2_int max_two min_two max_three min_three max_four min_four   -- for this text's walks alone
def errW : Option Int → Value
  | none => .nilIface
  | some c => .iface 0 (.int .i64 c)
theorem errW_none : errW none = .nilIface := rfl
theorem errW_some (c : Int) : errW (some c) = .iface 0 (.int .i64 c) := rfl
theorem info3 : (Tryz.prog.info? 3).map (fun i => (i.zero, i.size, i.bytes)) = some (some (.int .i64 0), 1, 8) := by kernel_rfl
end PSti
end Go.Proofs.YtgdkmadcegleiaaGreatDoor
namespace Go.Proofs.YtgdkmadcegleiaaGreatDoor
namespace PSti
open Sq X
attribute [local go_sem] max2_int min2_int max_two min_two max_three min_three max_four min_four   -- for this text's walks alone
def z63_.f (a0_0 : Int) (a0_1 : Int) : Option (Bool) := (z27_.f 2 10 (([a0_0] : List Int))).bind fun t105 => (if t105 = true then ((z27_.f 0 a0_0 (([a0_1] : List Int))).bind fun t109 => (some t109)) else (some false))
set_option maxHeartbeats 8000000 in
set_option maxRecDepth 100000 in
theorem z63_.calls (a0_0 : Int) (a0_1 : Int) (r : Bool) (w : World) (h : z63_.f a0_0 a0_1 = some r) :
  Calls Tryz.prog 30 #[.agg #[.int .i64 a0_0, .int .i64 a0_1]] w fun e w' => e = .returned (.bool r) ∧ Below w.heap.size w w' := by
 have hu42 := Tryz.underlying42
 have HB := Aside0.mk (Below.refl w.heap.size w)
 have H : ((z27_.f 2 10 (([a0_0] : List Int))).bind fun t105 => (if t105 = true then ((z27_.f 0 a0_0 (([a0_1] : List Int))).bind fun t109 => (some t109)) else (some false))) = some r := h
 clear h
 obtain ⟨y102, hy102⟩ : ∃ y_ : List Int, y_ = (([a0_0] : List Int)) := ⟨_, rfl⟩
 replace H : ((z27_.f 2 10 y102).bind fun t105 => (if t105 = true then ((z27_.f 0 a0_0 (([a0_1] : List Int))).bind fun t109 => (some t109)) else (some false))) = some r := by first | (rw [hy102]; with_reducible exact H) | (have H2_ := (Option.bind_some _ _).symm.trans H; rw [hy102]; with_reducible exact H2_) | (have H2_ := (Option.bind_some _ _).symm.trans H; with_reducible exact H2_) | with_reducible exact H | (rw [hy102]; exact H) | exact H
 have Ny102 := Aside0.mk hy102
 clear hy102
 replace H := bindA H
 obtain ⟨t105, A2, H⟩ := H
 try dsimp only at H
 by_cases c3 : t105 = true
 ·subst c3
  have H1 : ((z27_.f 0 a0_0 (([a0_1] : List Int))).bind fun t109 => (some t109)) = some r := by rw [if_pos rfl] at H; exact H
  clear H
  have H := H1
  clear H1
  obtain ⟨y106, hy106⟩ : ∃ y_ : List Int, y_ = (([a0_1] : List Int)) := ⟨_, rfl⟩
  replace H : ((z27_.f 0 a0_0 y106).bind fun t109 => (some t109)) = some r := by first | (rw [hy106]; with_reducible exact H) | (have H2_ := (Option.bind_some _ _).symm.trans H; rw [hy106]; with_reducible exact H2_) | (have H2_ := (Option.bind_some _ _).symm.trans H; with_reducible exact H2_) | with_reducible exact H | (rw [hy106]; exact H) | exact H
  have Ny106 := Aside0.mk hy106
  clear hy106
  replace H := bindA H
  obtain ⟨t109, A4, H⟩ := H
  try dsimp only at H
  obtain rfl := Option.some.inj H
  go_enter Tryz.func30, Tryz.ntmps30
  go_wp2_with (first | ((with_reducible refine gate_dst (N := 1) rfl ?_); (try (refine gate_guard (by rfl) ?_; dsimp only)); refine boxA (N := 1) (cs := #[.int .i64 a0_0, .int .i64 a0_1]) (t := 42) ?_; intro gb101 hg w5 hbox hb; have BK101 := Aside0.mk (hbox); have GE101 := bG HB hg; replace HB := bS HB hb; clear hb hbox hg; obtain ⟨hcz6_0, hcz6_1, hfz6_0, hfz6_1⟩ := cc2 BK101) | ((with_reducible refine gate_dst (N := 5) rfl ?_); (try (refine gate_guard (by rfl) ?_; dsimp only)); refine Kd.R_lit (Kd.int .i64) _ 3 ?hg (N := 5) ?hd (xs := ([a0_0] : List Int)) (inner := [.int .i64 a0_0]) (ok := fun _ => True) (okp := fun _ => True) ?hr ?hp (fun _ hk => hk) trivial (Below.refl _ _) (Nat.le_refl _) (by simp) ?_; (case hd => rfl); (case hg => rfl); (case hr => first | (go_simp; done) | (go_simp; rfl)); (case hp => exact (Reps.one (show Kd.M (Kd.int .i64) _ _ _ a0_0 [.int .i64 a0_0] from rfl) (Reps.none _ _))); intro v103 w7 ho8 hb hg_ hnew_; clear hg_ hnew_; (first | rw [← Ny102.out] at ho8 | (simp only [Int.reduceToNat] at ho8; rw [← Ny102.out] at ho8)); have HO104 := Aside0.mk (Kd.R_lower ho8 (below_size (bX HB))); replace BK101 := kB BK101 hb; replace HB := bS HB hb; clear hb ho8; obtain ⟨Ao9, co9, eo9⟩ := Kd.R_slice HO104.out; subst eo9) | ((with_reducible refine gate_callee (f := 31) rfl ?_); refine goesA (some 6) Tryz.func31 #[.int .i64 2, .int .i64 10, .slice Ao9 y102.length co9] ?_; (with_reducible refine (z27_.calls 2 10 _ _ y102 true _ ?side1 ?side2 A2.out).mono ?_); (case side1 => exact sX (Kd.R_reads' HO104.out).2.2); (case side2 => exact (Kd.R_reads' HO104.out).2.1); rintro e w10 ⟨rfl, hb⟩; refine ⟨_, rfl, ?_⟩; replace HO104 := rB HO104 hb; replace BK101 := kB BK101 hb; replace HB := bS HB hb; obtain ⟨hcz11_0, hcz11_1, hfz11_0, hfz11_1⟩ := cc2 BK101) | ((with_reducible refine gate_dst (N := 12) rfl ?_); (try (refine gate_guard (by rfl) ?_; dsimp only)); refine Kd.R_lit (Kd.int .i64) _ 3 ?hg (N := 12) ?hd (xs := ([a0_1] : List Int)) (inner := [.int .i64 a0_1]) (ok := fun _ => True) (okp := fun _ => True) ?hr ?hp (fun _ hk => hk) trivial (Below.refl _ _) (Nat.le_refl _) (by simp) ?_; (case hd => rfl); (case hg => rfl); (case hr => first | (go_simp; done) | (go_simp; rfl)); (case hp => exact (Reps.one (show Kd.M (Kd.int .i64) _ _ _ a0_1 [.int .i64 a0_1] from rfl) (Reps.none _ _))); intro v107 w12 ho13 hb hg_ hnew_; clear hg_ hnew_; (first | rw [← Ny106.out] at ho13 | (simp only [Int.reduceToNat] at ho13; rw [← Ny106.out] at ho13)); have HO108 := Aside0.mk (Kd.R_lower (Kd.R_new' ho13 (Kd.R_lt (rX HO104.out))) (below_size (bX HB))); replace HO104 := Aside0.mk (Kd.R_elder' (rX HO104.out) (Kd.R_base ho13) hb); replace BK101 := kB BK101 hb; replace HB := bS HB hb; clear hb ho13; obtain ⟨Ao14, co14, eo14⟩ := Kd.R_slice HO108.out; subst eo14) | (go_at_call 31; (with_reducible refine (z27_.calls 0 a0_0 _ _ y106 t109 _ ?side1 ?side2 A4.out).mono ?_); (case side1 => exact sX (Kd.R_reads' HO108.out).2.2); (case side2 => exact (Kd.R_reads' HO108.out).2.1); rintro e w15 ⟨rfl, hb⟩; replace HO104 := rB HO104 hb; replace HO108 := rB HO108 hb; replace BK101 := kB BK101 hb; replace HB := bS HB hb))
  go_ret
  exact ⟨eqA, bX HB⟩
 ·replace c3 := Bool.eq_false_iff.mpr c3
  subst c3
  have H1 : (some false) = some r := by rw [if_neg (show ¬ (false = true) by decide)] at H; exact H
  clear H
  have H := H1
  clear H1
  obtain rfl := Option.some.inj H
  go_enter Tryz.func30, Tryz.ntmps30
  go_wp2_with (first | ((with_reducible refine gate_dst (N := 1) rfl ?_); (try (refine gate_guard (by rfl) ?_; dsimp only)); refine boxA (N := 1) (cs := #[.int .i64 a0_0, .int .i64 a0_1]) (t := 42) ?_; intro gb101 hg w16 hbox hb; have BK101 := Aside0.mk (hbox); have GE101 := bG HB hg; replace HB := bS HB hb; clear hb hbox hg; obtain ⟨hcz17_0, hcz17_1, hfz17_0, hfz17_1⟩ := cc2 BK101) | ((with_reducible refine gate_dst (N := 5) rfl ?_); (try (refine gate_guard (by rfl) ?_; dsimp only)); refine Kd.R_lit (Kd.int .i64) _ 3 ?hg (N := 5) ?hd (xs := ([a0_0] : List Int)) (inner := [.int .i64 a0_0]) (ok := fun _ => True) (okp := fun _ => True) ?hr ?hp (fun _ hk => hk) trivial (Below.refl _ _) (Nat.le_refl _) (by simp) ?_; (case hd => rfl); (case hg => rfl); (case hr => first | (go_simp; done) | (go_simp; rfl)); (case hp => exact (Reps.one (show Kd.M (Kd.int .i64) _ _ _ a0_0 [.int .i64 a0_0] from rfl) (Reps.none _ _))); intro v103 w18 ho19 hb hg_ hnew_; clear hg_ hnew_; (first | rw [← Ny102.out] at ho19 | (simp only [Int.reduceToNat] at ho19; rw [← Ny102.out] at ho19)); have HO104 := Aside0.mk (Kd.R_lower ho19 (below_size (bX HB))); replace BK101 := kB BK101 hb; replace HB := bS HB hb; clear hb ho19; obtain ⟨Ao20, co20, eo20⟩ := Kd.R_slice HO104.out; subst eo20) | ((with_reducible refine gate_callee (f := 31) rfl ?_); refine goesA (some 6) Tryz.func31 #[.int .i64 2, .int .i64 10, .slice Ao20 y102.length co20] ?_; (with_reducible refine (z27_.calls 2 10 _ _ y102 false _ ?side1 ?side2 A2.out).mono ?_); (case side1 => exact sX (Kd.R_reads' HO104.out).2.2); (case side2 => exact (Kd.R_reads' HO104.out).2.1); rintro e w21 ⟨rfl, hb⟩; refine ⟨_, rfl, ?_⟩; replace HO104 := rB HO104 hb; replace BK101 := kB BK101 hb; replace HB := bS HB hb))
  go_ret
  exact ⟨eqA, bX HB⟩
def z59_.f (a0_0 : Int) (a0_1 : Int) (a1 : Int) : Option (Int) := if a0_0 = 0 then (none) else (some (wrap64 ((wrap64 ((wrap64 (Int.tdiv a1 a0_0)) * a0_1)) + (mn (Int.tmod a1 a0_0) a0_1))))
set_option maxHeartbeats 8000000 in
set_option maxRecDepth 100000 in
theorem z59_.calls (a0_0 : Int) (a0_1 : Int) (a1 : Int) (r : Int) (w : World) (h : z59_.f a0_0 a0_1 a1 = some r) :
  Calls Tryz.prog 33 #[.agg #[.int .i64 a0_0, .int .i64 a0_1], .int .i64 a1] w fun e w' => e = .returned (.int .i64 r) ∧ Below w.heap.size w w' := by
 have hu88 := Tryz.underlying88
 have HB := Aside0.mk (Below.refl w.heap.size w)
 have H : (if a0_0 = 0 then (none) else (some (wrap64 ((wrap64 ((wrap64 (Int.tdiv a1 a0_0)) * a0_1)) + (mn (Int.tmod a1 a0_0) a0_1))))) = some r := h
 clear h
 by_cases c3 : a0_0 = 0
 ·rw [if_pos c3] at H
  exact absurd H (by simp)
 ·rw [if_neg c3] at H
  have c3b0 : (a0_0 == 0) = false := beq_eq_false_iff_ne.mpr c3
  have c3b1 : (a0_0 != 0) = true := bne_iff_ne.mpr c3
  obtain ⟨ji4, hji4⟩ : ∃ j_ : Int, (mn (Int.tmod a1 a0_0) a0_1) = j_ := ⟨_, rfl⟩
  replace H : (some (wrap64 ((wrap64 ((wrap64 (Int.tdiv a1 a0_0)) * a0_1)) + (ji4)))) = some r := by first | (rw [hji4] at H; exact H) | (simp only [hji4] at H ⊢; exact H)
  have hji4_ : (if a0_1 < (Int.tmod a1 a0_0) then a0_1 else (Int.tmod a1 a0_0)) = ji4 := hji4
  obtain rfl := Option.some.inj H
  go_enter Tryz.func33, Tryz.ntmps33
  go_wp2_with (first | ((with_reducible refine gate_dst (N := 2) rfl ?_); refine boxA (N := 2) (cs := #[.int .i64 a0_0, .int .i64 a0_1]) (t := 88) ?_; intro gb110 hg w5 hbox hb; have BK110 := Aside0.mk (hbox); have GE110 := bG HB hg; replace HB := bS HB hb; clear hb hbox hg; obtain ⟨hcz6_0, hcz6_1, hfz6_0, hfz6_1⟩ := cc2 BK110))
  repeat (go_quiet (first | ((with_reducible refine gate_dst (N := 2) rfl ?_); refine boxA (N := 2) (cs := #[.int .i64 a0_0, .int .i64 a0_1]) (t := 88) ?_; intro gb110 hg w5 hbox hb; have BK110 := Aside0.mk (hbox); have GE110 := bG HB hg; replace HB := bS HB hb; clear hb hbox hg; obtain ⟨hcz6_0, hcz6_1, hfz6_0, hfz6_1⟩ := cc2 BK110)); try go_wp2_with (first | ((with_reducible refine gate_dst (N := 2) rfl ?_); refine boxA (N := 2) (cs := #[.int .i64 a0_0, .int .i64 a0_1]) (t := 88) ?_; intro gb110 hg w5 hbox hb; have BK110 := Aside0.mk (hbox); have GE110 := bG HB hg; replace HB := bS HB hb; clear hb hbox hg; obtain ⟨hcz6_0, hcz6_1, hfz6_0, hfz6_1⟩ := cc2 BK110)))
  go_ret
  exact ⟨by first | rfl | (simp [errW_none, errW_some] <;> rfl) | (simp only [← hji4]; first | rfl | (simp [errW_none, errW_some] <;> rfl)) | (simp [*, errW_none, errW_some] <;> rfl), bX HB⟩
def z46_.f (a0_0 : Int) (a0_1 : Int) (a1 : Int) : Option (Int × Int × Int) := (z63_.f a0_0 a0_1).bind fun t113 => (if t113 = true then ((z27_.f 0 1000000 (([a1] : List Int))).bind fun t117 => (if t117 = true then ((z59_.f a0_0 a0_1 a1).bind fun t118 => (some (wrap64 (a1 - t118), a1, 0))) else (some (0, 0, 3)))) else (some (0, 0, 2)))
set_option maxHeartbeats 8000000 in
set_option maxRecDepth 100000 in
theorem z46_.calls (a0_0 : Int) (a0_1 : Int) (a1 : Int) (r1 : Int) (r2 : Int) (r3 : Int) (w : World) (h : z46_.f a0_0 a0_1 a1 = some (r1, r2, r3)) :
  Calls Tryz.prog 12 #[.agg #[.int .i64 a0_0, .int .i64 a0_1], .int .i64 a1] w fun e w' => e = .returned (.tuple #[.agg #[.int .i64 r1, .int .i64 r2], .int .i64 r3]) ∧ Below w.heap.size w w' := by
 have hu42 := Tryz.underlying42
 have hu30 := Tryz.underlying30
 have hu88 := Tryz.underlying88
 have HB := Aside0.mk (Below.refl w.heap.size w)
 have H : ((z63_.f a0_0 a0_1).bind fun t113 => (if t113 = true then ((z27_.f 0 1000000 (([a1] : List Int))).bind fun t117 => (if t117 = true then ((z59_.f a0_0 a0_1 a1).bind fun t118 => (some (wrap64 (a1 - t118), a1, 0))) else (some (0, 0, 3)))) else (some (0, 0, 2)))) = some (r1, r2, r3) := h
 clear h
 replace H := bindA H
 obtain ⟨t113, A3, H⟩ := H
 try dsimp only at H
 by_cases c4 : t113 = true
 ·subst c4
  have H1 : ((z27_.f 0 1000000 (([a1] : List Int))).bind fun t117 => (if t117 = true then ((z59_.f a0_0 a0_1 a1).bind fun t118 => (some (wrap64 (a1 - t118), a1, 0))) else (some (0, 0, 3)))) = some (r1, r2, r3) := by rw [if_pos rfl] at H; exact H
  clear H
  have H := H1
  clear H1
  obtain ⟨y114, hy114⟩ : ∃ y_ : List Int, y_ = (([a1] : List Int)) := ⟨_, rfl⟩
  replace H : ((z27_.f 0 1000000 y114).bind fun t117 => (if t117 = true then ((z59_.f a0_0 a0_1 a1).bind fun t118 => (some (wrap64 (a1 - t118), a1, 0))) else (some (0, 0, 3)))) = some (r1, r2, r3) := by first | (rw [hy114]; with_reducible exact H) | (have H2_ := (Option.bind_some _ _).symm.trans H; rw [hy114]; with_reducible exact H2_) | (have H2_ := (Option.bind_some _ _).symm.trans H; with_reducible exact H2_) | with_reducible exact H | (rw [hy114]; exact H) | exact H
  have Ny114 := Aside0.mk hy114
  clear hy114
  replace H := bindA H
  obtain ⟨t117, A5, H⟩ := H
  try dsimp only at H
  by_cases c6 : t117 = true
  ·subst c6
   have H1 : ((z59_.f a0_0 a0_1 a1).bind fun t118 => (some (wrap64 (a1 - t118), a1, 0))) = some (r1, r2, r3) := by rw [if_pos rfl] at H; exact H
   clear H
   have H := H1
   clear H1
   replace H := bindA H
   obtain ⟨t118, A7, H⟩ := H
   try dsimp only at H
   simp only [Option.some.injEq, Prod.mk.injEq] at H
   obtain ⟨rfl, rfl, rfl⟩ := H
   go_enter Tryz.func12, Tryz.ntmps12
   go_wp2_with (first | ((with_reducible refine gate_dst (N := 2) rfl ?_); refine boxA (N := 2) (cs := #[.int .i64 a0_0, .int .i64 a0_1]) (t := 42) ?_; intro gb111 hg w8 hbox hb; have BK111 := Aside0.mk (hbox); have GE111 := bG HB hg; replace HB := bS HB hb; clear hb hbox hg) | ((with_reducible refine gate_dst (N := 4) rfl ?_); refine boxA (N := 4) (cs := #[.int .i64 0, .int .i64 0]) (t := 30) ?_; intro gb112 hg w9 hbox hb; have BK112 := Aside0.mk (hbox); have GE112 := bG HB hg; have NB111_112 := kN BK111 hg; have NB112_111 := kM BK111 hg; replace BK111 := kB BK111 hb; replace HB := bS HB hb; clear hb hbox hg; obtain ⟨hnb10, hnc10⟩ := nn NB111_112; obtain ⟨hcz11_0, hcz11_1, hfz11_0, hfz11_1⟩ := cc2 BK111) | ((with_reducible refine gate_callee (f := 30) rfl ?_); refine goesA (some 8) Tryz.func30 #[.agg #[.int .i64 a0_0, .int .i64 a0_1]] ?_; (with_reducible refine (z63_.calls a0_0 a0_1 true _ A3.out).mono ?_); rintro e w12 ⟨rfl, hb⟩; refine ⟨_, rfl, ?_⟩; replace BK111 := kB BK111 hb; replace BK112 := kB BK112 hb; replace HB := bS HB hb) | ((with_reducible refine gate_dst (N := 13) rfl ?_); refine Kd.R_lit (Kd.int .i64) _ 3 ?hg (N := 13) ?hd (xs := ([a1] : List Int)) (inner := [.int .i64 a1]) (ok := fun _ => True) (okp := fun _ => True) ?hr ?hp (fun _ hk => hk) trivial (Below.refl _ _) (Nat.le_refl _) (by simp) ?_; (case hd => rfl); (case hg => rfl); (case hr => first | (go_simp; done) | (go_simp; rfl)); (case hp => exact (Reps.one (show Kd.M (Kd.int .i64) _ _ _ a1 [.int .i64 a1] from rfl) (Reps.none _ _))); intro v115 w13 ho14 hb hg_ hnew_; clear hg_ hnew_; (first | rw [← Ny114.out] at ho14 | (simp only [Int.reduceToNat] at ho14; rw [← Ny114.out] at ho14)); have HO116 := Aside0.mk (Kd.R_lower ho14 (below_size (bX HB))); replace BK111 := kB BK111 hb; replace BK112 := kB BK112 hb; replace HB := bS HB hb; clear hb ho14; obtain ⟨Ao15, co15, eo15⟩ := Kd.R_slice HO116.out; subst eo15) | ((with_reducible refine gate_callee (f := 31) rfl ?_); refine goesA (some 14) Tryz.func31 #[.int .i64 0, .int .i64 1000000, .slice Ao15 y114.length co15] ?_; (with_reducible refine (z27_.calls 0 1000000 _ _ y114 true _ ?side1 ?side2 A5.out).mono ?_); (case side1 => exact sX (Kd.R_reads' HO116.out).2.2); (case side2 => exact (Kd.R_reads' HO116.out).2.1); rintro e w16 ⟨rfl, hb⟩; refine ⟨_, rfl, ?_⟩; replace HO116 := rB HO116 hb; replace BK111 := kB BK111 hb; replace BK112 := kB BK112 hb; replace HB := bS HB hb; obtain ⟨hcz17_0, hcz17_1, hfz17_0, hfz17_1⟩ := cc2 BK111) | ((with_reducible refine gate_callee (f := 33) rfl ?_); refine goesA (some 21) Tryz.func33 #[.agg #[.int .i64 a0_0, .int .i64 a0_1], .int .i64 a1] ?_; (with_reducible refine (z59_.calls a0_0 a0_1 a1 t118 _ A7.out).mono ?_); rintro e w18 ⟨rfl, hb⟩; refine ⟨_, rfl, ?_⟩; replace HO116 := rB HO116 hb; replace BK111 := kB BK111 hb; replace BK112 := kB BK112 hb; replace HB := bS HB hb; obtain ⟨hcz19_0, hcz19_1, hfz19_0, hfz19_1⟩ := cc2 BK112))
   refine bodyPost_ret (results_ct rfl _ _ gb112 30 #[.int .i64 (wrap64 (a1 - t118)), .int .i64 a1] (0, 0) _ rfl (kP BK112) Tryz.underlying30 rfl (by kernel_rfl)) rfl ?_
   exact ⟨eqA, bX HB⟩
  ·replace c6 := Bool.eq_false_iff.mpr c6
   subst c6
   have H1 : (some (0, 0, 3)) = some (r1, r2, r3) := by rw [if_neg (show ¬ (false = true) by decide)] at H; exact H
   clear H
   have H := H1
   clear H1
   simp only [Option.some.injEq, Prod.mk.injEq] at H
   obtain ⟨rfl, rfl, rfl⟩ := H
   go_enter Tryz.func12, Tryz.ntmps12
   go_wp2_with (first | ((with_reducible refine gate_dst (N := 2) rfl ?_); refine boxA (N := 2) (cs := #[.int .i64 a0_0, .int .i64 a0_1]) (t := 42) ?_; intro gb111 hg w20 hbox hb; have BK111 := Aside0.mk (hbox); have GE111 := bG HB hg; replace HB := bS HB hb; clear hb hbox hg) | ((with_reducible refine gate_dst (N := 4) rfl ?_); refine boxA (N := 4) (cs := #[.int .i64 0, .int .i64 0]) (t := 30) ?_; intro gb112 hg w21 hbox hb; have BK112 := Aside0.mk (hbox); have GE112 := bG HB hg; have NB111_112 := kN BK111 hg; have NB112_111 := kM BK111 hg; replace BK111 := kB BK111 hb; replace HB := bS HB hb; clear hb hbox hg; obtain ⟨hnb22, hnc22⟩ := nn NB111_112; obtain ⟨hcz23_0, hcz23_1, hfz23_0, hfz23_1⟩ := cc2 BK111) | ((with_reducible refine gate_callee (f := 30) rfl ?_); refine goesA (some 8) Tryz.func30 #[.agg #[.int .i64 a0_0, .int .i64 a0_1]] ?_; (with_reducible refine (z63_.calls a0_0 a0_1 true _ A3.out).mono ?_); rintro e w24 ⟨rfl, hb⟩; refine ⟨_, rfl, ?_⟩; replace BK111 := kB BK111 hb; replace BK112 := kB BK112 hb; replace HB := bS HB hb) | ((with_reducible refine gate_dst (N := 13) rfl ?_); refine Kd.R_lit (Kd.int .i64) _ 3 ?hg (N := 13) ?hd (xs := ([a1] : List Int)) (inner := [.int .i64 a1]) (ok := fun _ => True) (okp := fun _ => True) ?hr ?hp (fun _ hk => hk) trivial (Below.refl _ _) (Nat.le_refl _) (by simp) ?_; (case hd => rfl); (case hg => rfl); (case hr => first | (go_simp; done) | (go_simp; rfl)); (case hp => exact (Reps.one (show Kd.M (Kd.int .i64) _ _ _ a1 [.int .i64 a1] from rfl) (Reps.none _ _))); intro v115 w25 ho26 hb hg_ hnew_; clear hg_ hnew_; (first | rw [← Ny114.out] at ho26 | (simp only [Int.reduceToNat] at ho26; rw [← Ny114.out] at ho26)); have HO116 := Aside0.mk (Kd.R_lower ho26 (below_size (bX HB))); replace BK111 := kB BK111 hb; replace BK112 := kB BK112 hb; replace HB := bS HB hb; clear hb ho26; obtain ⟨Ao27, co27, eo27⟩ := Kd.R_slice HO116.out; subst eo27) | ((with_reducible refine gate_callee (f := 31) rfl ?_); refine goesA (some 14) Tryz.func31 #[.int .i64 0, .int .i64 1000000, .slice Ao27 y114.length co27] ?_; (with_reducible refine (z27_.calls 0 1000000 _ _ y114 false _ ?side1 ?side2 A5.out).mono ?_); (case side1 => exact sX (Kd.R_reads' HO116.out).2.2); (case side2 => exact (Kd.R_reads' HO116.out).2.1); rintro e w28 ⟨rfl, hb⟩; refine ⟨_, rfl, ?_⟩; replace HO116 := rB HO116 hb; replace BK111 := kB BK111 hb; replace BK112 := kB BK112 hb; replace HB := bS HB hb; obtain ⟨hcz29_0, hcz29_1, hfz29_0, hfz29_1⟩ := cc2 BK112))
   refine bodyPost_ret (results_ct rfl _ _ gb112 30 #[.int .i64 0, .int .i64 0] (0, 0) _ rfl (kP BK112) Tryz.underlying30 rfl (by kernel_rfl)) rfl ?_
   exact ⟨eqA, bX HB⟩
 ·replace c4 := Bool.eq_false_iff.mpr c4
  subst c4
  have H1 : (some (0, 0, 2)) = some (r1, r2, r3) := by rw [if_neg (show ¬ (false = true) by decide)] at H; exact H
  clear H
  have H := H1
  clear H1
  simp only [Option.some.injEq, Prod.mk.injEq] at H
  obtain ⟨rfl, rfl, rfl⟩ := H
  go_enter Tryz.func12, Tryz.ntmps12
  go_wp2_with (first | ((with_reducible refine gate_dst (N := 2) rfl ?_); refine boxA (N := 2) (cs := #[.int .i64 a0_0, .int .i64 a0_1]) (t := 42) ?_; intro gb111 hg w30 hbox hb; have BK111 := Aside0.mk (hbox); have GE111 := bG HB hg; replace HB := bS HB hb; clear hb hbox hg) | ((with_reducible refine gate_dst (N := 4) rfl ?_); refine boxA (N := 4) (cs := #[.int .i64 0, .int .i64 0]) (t := 30) ?_; intro gb112 hg w31 hbox hb; have BK112 := Aside0.mk (hbox); have GE112 := bG HB hg; have NB111_112 := kN BK111 hg; have NB112_111 := kM BK111 hg; replace BK111 := kB BK111 hb; replace HB := bS HB hb; clear hb hbox hg; obtain ⟨hnb32, hnc32⟩ := nn NB111_112; obtain ⟨hcz33_0, hcz33_1, hfz33_0, hfz33_1⟩ := cc2 BK111) | ((with_reducible refine gate_callee (f := 30) rfl ?_); refine goesA (some 8) Tryz.func30 #[.agg #[.int .i64 a0_0, .int .i64 a0_1]] ?_; (with_reducible refine (z63_.calls a0_0 a0_1 false _ A3.out).mono ?_); rintro e w34 ⟨rfl, hb⟩; refine ⟨_, rfl, ?_⟩; replace BK111 := kB BK111 hb; replace BK112 := kB BK112 hb; replace HB := bS HB hb; obtain ⟨hcz35_0, hcz35_1, hfz35_0, hfz35_1⟩ := cc2 BK112))
  refine bodyPost_ret (results_ct rfl _ _ gb112 30 #[.int .i64 0, .int .i64 0] (0, 0) _ rfl (kP BK112) Tryz.underlying30 rfl (by kernel_rfl)) rfl ?_
  exact ⟨eqA, bX HB⟩
end PSti
end Go.Proofs.YtgdkmadcegleiaaGreatDoor
namespace Go.Proofs.YtgdkmadcegleiaaGreatDoor
namespace PSti
open X
attribute [local go_sem] max2_int min2_int max_two min_two max_three min_three max_four min_four   -- for this text's walks alone
end PSti
end Go.Proofs.YtgdkmadcegleiaaGreatDoor
namespace Go.Proofs.YtgdkmadcegleiaaGreatDoor
namespace X
theorem enters_riwithin1 : ∀ args w, (callFunc 79 args).run Tryz.prog w = .ok (.enter 79 args) w := enters_of Tryz.func79 (by kernel_rfl) rfl
def riOutside (least most n : Int) : Bool := decide (n < least) || decide (most < n)
theorem riwithin1_pred {g1 g2 : Nat} {least most : Int} {xs : List Int} {w : World} (h1 : w.cell? ⟨g1, 0, none⟩ = some (.int .i64 least)) (h2 : w.cell? ⟨g2, 0, none⟩ = some (.int .i64 most)) :
    PredK 79 #[.pointer (some ⟨g1, 0, none⟩), .pointer (some ⟨g2, 0, none⟩)] (Kd.int .i64) cell1 xs (riOutside least most) w := by
  intro x _ W cs hb hK
  have e : cs = [.int .i64 x] := hK
  subst e
  have k1 : W.cell? ⟨g1, 0, none⟩ = some (.int .i64 least) := pw_cell_below hb h1
  have k2 : W.cell? ⟨g2, 0, none⟩ = some (.int .i64 most) := pw_cell_below hb h2
  simp only [cell1, List.getD_cons_zero]
  show Calls Tryz.prog 79 #[.int .i64 x, .pointer (some ⟨g1, 0, none⟩), .pointer (some ⟨g2, 0, none⟩)] W _
  clear hb h1 h2 hK
  by_cases c1 : x < least
  · have d1 : decide (x < least) = true := decide_eq_true c1
    have e1 : riOutside least most x = true := by simp [riOutside, d1]
    rw [e1]
    clear c1 e1
    go_enter Tryz.func79, Tryz.ntmps79
    go_wp2
    go_ret
    exact ⟨rfl, by first | exact Below.refl _ _ | exact pw_below_drewN (Below.refl _ _) _⟩
  · have d1 : decide (x < least) = false := decide_eq_false c1
    clear c1
    by_cases c2 : most < x
    · have d2 : decide (most < x) = true := decide_eq_true c2
      have e1 : riOutside least most x = true := by simp [riOutside, d2]
      rw [e1]
      clear c2 e1
      go_enter Tryz.func79, Tryz.ntmps79
      go_wp2
      go_ret
      exact ⟨rfl, by first | exact Below.refl _ _ | exact pw_below_drewN (Below.refl _ _) _⟩
    · have d2 : decide (most < x) = false := decide_eq_false c2
      have e1 : riOutside least most x = false := by simp [riOutside, d1, d2]
      rw [e1]
      clear c2 e1
      go_enter Tryz.func79, Tryz.ntmps79
      go_wp2
      go_ret
      exact ⟨rfl, by first | exact Below.refl _ _ | exact pw_below_drewN (Below.refl _ _) _⟩
def z47_.f (a0 a1 : Int) (l2 : List Int) : Option Bool := some (l2.all fun n => decide (a0 ≤ n) && decide (n ≤ a1))
theorem any_riOutside (a0 a1 : Int) (l : List Int) : (!(l.any (riOutside a0 a1))) = l.all fun n => decide (a0 ≤ n) && decide (n ≤ a1) := by
  induction l with
  | nil => rfl
  | cons x l ih =>
    simp only [List.any_cons, List.all_cons, Bool.not_or, ih]
    congr 1
    simp only [riOutside, Bool.not_or]
    by_cases h1 : a0 ≤ x <;> by_cases h2 : x ≤ a1 <;> simp [h1, h2] <;> omega
set_option maxHeartbeats 1000000 in
theorem z47_.calls (a0 : Int) (a1 : Int) (A2 : Option Addr) (c2 : Nat) (l2 : List Int) (r : Bool) (w : World) (hr2 : Kd.C (Kd.int .i64) w A2 l2.length l2) (_hc2 : l2.length ≤ c2) (h : z47_.f a0 a1 l2 = some r) :
    Calls Tryz.prog 53 #[.int .i64 a0, .int .i64 a1, .slice A2 l2.length c2] w fun e w' => e = .returned (.bool r) ∧ Below w.heap.size w w' := by
  obtain rfl := Option.some.inj h
  rw [← any_riOutside]
  have HR := Aside0.mk hr2
  clear hr2 h
  go_enter Tryz.func53, Tryz.ntmps53
  go_wp2_with fail
  refine (contains_int (p := riOutside a0 a1) enters_riwithin1 (Kd.C_alloc (Kd.C_alloc HR.out _) _) (riwithin1_pred (by simp) (by simp))).mono ?_
  rintro e w' ⟨rfl, hb⟩
  have HB := Aside0.mk (below_then (below_alloc (below_alloc (Below.refl _ _) _) _) (by simp; omega) hb)
  clear hb
  go_wp2
  go_ret
  exact ⟨rfl, HB.out⟩
end X
end Go.Proofs.YtgdkmadcegleiaaGreatDoor
namespace Go.Proofs.YtgdkmadcegleiaaGreatDoor
namespace X
abbrev fnV (n : Int) : Value := .func (.func n.toNat) #[] #[]
def IsEnd (n : Int) : Prop := n = 73 ∨ n = 74
theorem enters_rlow : ∀ args w, (callFunc 73 args).run Tryz.prog w = .ok (.enter 73 args) w := enters_of Tryz.func73 (by kernel_rfl) rfl
theorem enters_rhigh : ∀ args w, (callFunc 74 args).run Tryz.prog w = .ok (.enter 74 args) w := enters_of Tryz.func74 (by kernel_rfl) rfl
theorem IsEnd.enters {n : Int} (h : IsEnd n) : ∀ args w, (callFunc n.toNat args).run Tryz.prog w = .ok (.enter n.toNat args) w := by
  rcases h with rfl | rfl
  · exact enters_rlow
  · exact enters_rhigh
def z17_.f (a0 : Int) (a1_0 : Int) (a1_1 : Int) : Option Int := if a0 = 73 then some a1_0 else if a0 = 74 then some a1_1 else none
theorem z64_ {n a b r : Int} (h : z17_.f n a b = some r) : IsEnd n := by
  unfold z17_.f at h
  split at h
  · exact .inl (by assumption)
  · split at h
    · exact .inr (by assumption)
    · cases h
theorem rlow_calls (a b : Int) (w : World) : Calls Tryz.prog 73 #[.agg #[.int .i64 a, .int .i64 b]] w fun e w' => e = .returned (.int .i64 a) ∧ Below w.heap.size w w' := by
  go_enter Tryz.func73, Tryz.ntmps73
  go_wp2
  go_ret
  exact ⟨rfl, below_alloc (Below.refl _ _) _⟩
theorem rhigh_calls (a b : Int) (w : World) : Calls Tryz.prog 74 #[.agg #[.int .i64 a, .int .i64 b]] w fun e w' => e = .returned (.int .i64 b) ∧ Below w.heap.size w w' := by
  go_enter Tryz.func74, Tryz.ntmps74
  go_wp2
  go_ret
  exact ⟨rfl, below_alloc (Below.refl _ _) _⟩
theorem z17_.calls (a0 : Int) (a1_0 : Int) (a1_1 : Int) (r : Int) (w : World) (h : z17_.f a0 a1_0 a1_1 = some r) :
    Calls Tryz.prog a0.toNat #[.agg #[.int .i64 a1_0, .int .i64 a1_1]] w fun e w' => e = .returned (.int .i64 r) ∧ Below w.heap.size w w' := by
  unfold z17_.f at h
  split at h
  · rename_i h0
    subst h0
    cases h
    exact rlow_calls _ _ _
  · split at h
    · rename_i h0
      subst h0
      cases h
      exact rhigh_calls _ _ _
    · cases h
theorem run_store_func {P : Program} {w : World} {a : Addr} {m : Mode} (f : Fn) (x y : Array Value) : (store a (.func f x y) m).run P w = stored P w a (.func f x y) m := run_store P w a _ m rfl
section
variable {ops : Array Oper} {Q : Exit → Act → World → Prop}
theorem goesF_ {oi : Oper} {N : Option Tmp} {a : Act} {w : World} {K : Act → World → Prop} {t : Tmp} {xs : Array Operand} {ts : Array TypeId} (tag : Int) (ht : IsEnd tag) (args : Array Value)
    (hw : Region.wanted oi (yielded ops a.tmps) = true) (hN : oi.dst = N) (hop : oi.op = .call { callee := .value (.tmp t), args := xs, argTypes := ts }) (hv : a.eval (.tmp t) = fnV tag) (hargs : xs.map a.eval = args)
    (h : Calls Tryz.prog tag.toNat args w fun e w' => ∃ v, e = .returned v ∧ K (a.put N v) w') : if Region.wanted oi (yielded ops a.tmps) = true then Oper.wp Tryz.prog oi a w K Q else K (a.put N undef) w := by
  refine call_ tag.toNat args hw hN ?_ h
  have he := ht.enters args w
  unfold execOp
  simp [hop, resolve, Deferred.ofValue, invoke, hv, hargs, he]
end
end X
end Go.Proofs.YtgdkmadcegleiaaGreatDoor
namespace Go.Proofs.YtgdkmadcegleiaaGreatDoor
namespace PRvs
open X
attribute [local go_sem] max2_int min2_int max_two min_two max_three min_three max_four min_four   -- for this text's walks alone
def errW : Option Int → Value
  | none => .nilIface
  | some c => .iface 0 (.int .i64 c)
theorem errW_none : errW none = .nilIface := rfl
theorem errW_some (c : Int) : errW (some c) = .iface 0 (.int .i64 c) := rfl
theorem info3 : (Tryz.prog.info? 3).map (fun i => (i.zero, i.size, i.bytes)) = some (some (.int .i64 0), 1, 8) := by kernel_rfl
end PRvs
end Go.Proofs.YtgdkmadcegleiaaGreatDoor
namespace Go.Proofs.YtgdkmadcegleiaaGreatDoor
namespace PRvs
open Sq X
attribute [local go_sem] max2_int min2_int max_two min_two max_three min_three max_four min_four   -- for this text's walks alone
def z18_.f (a0_0 : Int) (a0_1 : Int) (a1 : Int) (a2 : Int) : Option (Bool) := (z47_.f a1 a2 (([a0_0, a0_1] : List Int))).bind fun t105 => (if t105 = true then (some (decide (a0_0 ≤ a0_1))) else (some false))
set_option maxHeartbeats 8000000 in
set_option maxRecDepth 100000 in
theorem z18_.calls (a0_0 : Int) (a0_1 : Int) (a1 : Int) (a2 : Int) (r : Bool) (w : World) (h : z18_.f a0_0 a0_1 a1 a2 = some r) :
  Calls Tryz.prog 51 #[.agg #[.int .i64 a0_0, .int .i64 a0_1], .int .i64 a1, .int .i64 a2] w fun e w' => e = .returned (.bool r) ∧ Below w.heap.size w w' := by
 have hu30 := Tryz.underlying30
 have HB := Aside0.mk (Below.refl w.heap.size w)
 have H : ((z47_.f a1 a2 (([a0_0, a0_1] : List Int))).bind fun t105 => (if t105 = true then (some (decide (a0_0 ≤ a0_1))) else (some false))) = some r := h
 clear h
 obtain ⟨y102, hy102⟩ : ∃ y_ : List Int, y_ = (([a0_0, a0_1] : List Int)) := ⟨_, rfl⟩
 replace H : ((z47_.f a1 a2 y102).bind fun t105 => (if t105 = true then (some (decide (a0_0 ≤ a0_1))) else (some false))) = some r := by first | (rw [hy102]; with_reducible exact H) | (have H2_ := (Option.bind_some _ _).symm.trans H; rw [hy102]; with_reducible exact H2_) | (have H2_ := (Option.bind_some _ _).symm.trans H; with_reducible exact H2_) | with_reducible exact H | (rw [hy102]; exact H) | exact H
 have Ny102 := Aside0.mk hy102
 clear hy102
 replace H := bindA H
 obtain ⟨t105, A4, H⟩ := H
 try dsimp only at H
 by_cases c5 : t105 = true
 ·subst c5
  have H1 : (some (decide (a0_0 ≤ a0_1))) = some r := by rw [if_pos rfl] at H; exact H
  clear H
  have H := H1
  clear H1
  obtain rfl := Option.some.inj H
  go_enter Tryz.func51, Tryz.ntmps51
  go_wp2_with (first | ((with_reducible refine gate_dst (N := 3) rfl ?_); refine boxA (N := 3) (cs := #[.int .i64 a0_0, .int .i64 a0_1]) (t := 30) ?_; intro gb101 hg w6 hbox hb; have BK101 := Aside0.mk (hbox); have GE101 := bG HB hg; replace HB := bS HB hb; clear hb hbox hg; obtain ⟨hcz7_0, hcz7_1, hfz7_0, hfz7_1⟩ := cc2 BK101) | ((with_reducible refine gate_dst (N := 13) rfl ?_); refine Kd.R_lit (Kd.int .i64) _ 3 ?hg (N := 13) ?hd (xs := ([a0_0, a0_1] : List Int)) (inner := [.int .i64 a0_0, .int .i64 a0_1]) (ok := fun _ => True) (okp := fun _ => True) ?hr ?hp (fun _ hk => hk) trivial (Below.refl _ _) (Nat.le_refl _) (by simp) ?_; (case hd => rfl); (case hg => rfl); (case hr => first | (go_simp; done) | (go_simp; rfl)); (case hp => exact (Reps.one (show Kd.M (Kd.int .i64) _ _ _ a0_0 [.int .i64 a0_0] from rfl) (Reps.one (show Kd.M (Kd.int .i64) _ _ _ a0_1 [.int .i64 a0_1] from rfl) (Reps.none _ _)))); intro v103 w8 ho9 hb hg_ hnew_; clear hg_ hnew_; (first | rw [← Ny102.out] at ho9 | (simp only [Int.reduceToNat] at ho9; rw [← Ny102.out] at ho9)); have HO104 := Aside0.mk (Kd.R_lower ho9 (below_size (bX HB))); replace BK101 := kB BK101 hb; replace HB := bS HB hb; clear hb ho9; obtain ⟨Ao10, co10, eo10⟩ := Kd.R_slice HO104.out; subst eo10) | ((with_reducible refine gate_callee (f := 53) rfl ?_); refine goesA (some 14) Tryz.func53 #[.int .i64 a1, .int .i64 a2, .slice Ao10 y102.length co10] ?_; (with_reducible refine (z47_.calls a1 a2 _ _ y102 true _ ?side1 ?side2 A4.out).mono ?_); (case side1 => exact sX (Kd.R_reads' HO104.out).2.2); (case side2 => exact (Kd.R_reads' HO104.out).2.1); rintro e w11 ⟨rfl, hb⟩; refine ⟨_, rfl, ?_⟩; replace HO104 := rB HO104 hb; replace BK101 := kB BK101 hb; replace HB := bS HB hb; obtain ⟨hcz12_0, hcz12_1, hfz12_0, hfz12_1⟩ := cc2 BK101))
  go_ret
  exact ⟨eqA, bX HB⟩
 ·replace c5 := Bool.eq_false_iff.mpr c5
  subst c5
  have H1 : (some false) = some r := by rw [if_neg (show ¬ (false = true) by decide)] at H; exact H
  clear H
  have H := H1
  clear H1
  obtain rfl := Option.some.inj H
  go_enter Tryz.func51, Tryz.ntmps51
  go_wp2_with (first | ((with_reducible refine gate_dst (N := 3) rfl ?_); refine boxA (N := 3) (cs := #[.int .i64 a0_0, .int .i64 a0_1]) (t := 30) ?_; intro gb101 hg w13 hbox hb; have BK101 := Aside0.mk (hbox); have GE101 := bG HB hg; replace HB := bS HB hb; clear hb hbox hg; obtain ⟨hcz14_0, hcz14_1, hfz14_0, hfz14_1⟩ := cc2 BK101) | ((with_reducible refine gate_dst (N := 13) rfl ?_); refine Kd.R_lit (Kd.int .i64) _ 3 ?hg (N := 13) ?hd (xs := ([a0_0, a0_1] : List Int)) (inner := [.int .i64 a0_0, .int .i64 a0_1]) (ok := fun _ => True) (okp := fun _ => True) ?hr ?hp (fun _ hk => hk) trivial (Below.refl _ _) (Nat.le_refl _) (by simp) ?_; (case hd => rfl); (case hg => rfl); (case hr => first | (go_simp; done) | (go_simp; rfl)); (case hp => exact (Reps.one (show Kd.M (Kd.int .i64) _ _ _ a0_0 [.int .i64 a0_0] from rfl) (Reps.one (show Kd.M (Kd.int .i64) _ _ _ a0_1 [.int .i64 a0_1] from rfl) (Reps.none _ _)))); intro v103 w15 ho16 hb hg_ hnew_; clear hg_ hnew_; (first | rw [← Ny102.out] at ho16 | (simp only [Int.reduceToNat] at ho16; rw [← Ny102.out] at ho16)); have HO104 := Aside0.mk (Kd.R_lower ho16 (below_size (bX HB))); replace BK101 := kB BK101 hb; replace HB := bS HB hb; clear hb ho16; obtain ⟨Ao17, co17, eo17⟩ := Kd.R_slice HO104.out; subst eo17) | ((with_reducible refine gate_callee (f := 53) rfl ?_); refine goesA (some 14) Tryz.func53 #[.int .i64 a1, .int .i64 a2, .slice Ao17 y102.length co17] ?_; (with_reducible refine (z47_.calls a1 a2 _ _ y102 false _ ?side1 ?side2 A4.out).mono ?_); (case side1 => exact sX (Kd.R_reads' HO104.out).2.2); (case side2 => exact (Kd.R_reads' HO104.out).2.1); rintro e w18 ⟨rfl, hb⟩; refine ⟨_, rfl, ?_⟩; replace HO104 := rB HO104 hb; replace BK101 := kB BK101 hb; replace HB := bS HB hb))
  go_ret
  exact ⟨eqA, bX HB⟩
def z31_.f (a0 : Int) : Option (Bool) := (z47_.f 0 360 (([a0] : List Int))).bind fun t109 => (some t109)
set_option maxHeartbeats 8000000 in
set_option maxRecDepth 100000 in
theorem z31_.calls (a0 : Int) (r : Bool) (w : World) (h : z31_.f a0 = some r) :
  Calls Tryz.prog 25 #[.int .i64 a0] w fun e w' => e = .returned (.bool r) ∧ Below w.heap.size w w' := by
 have HB := Aside0.mk (Below.refl w.heap.size w)
 have H : ((z47_.f 0 360 (([a0] : List Int))).bind fun t109 => (some t109)) = some r := h
 clear h
 obtain ⟨y106, hy106⟩ : ∃ y_ : List Int, y_ = (([a0] : List Int)) := ⟨_, rfl⟩
 replace H : ((z47_.f 0 360 y106).bind fun t109 => (some t109)) = some r := by first | (rw [hy106]; with_reducible exact H) | (have H2_ := (Option.bind_some _ _).symm.trans H; rw [hy106]; with_reducible exact H2_) | (have H2_ := (Option.bind_some _ _).symm.trans H; with_reducible exact H2_) | with_reducible exact H | (rw [hy106]; exact H) | exact H
 have Ny106 := Aside0.mk hy106
 clear hy106
 replace H := bindA H
 obtain ⟨t109, A2, H⟩ := H
 try dsimp only at H
 obtain rfl := Option.some.inj H
 go_enter Tryz.func25, Tryz.ntmps25
 go_wp2_with (first | ((with_reducible refine gate_dst (N := 4) rfl ?_); refine Kd.R_lit (Kd.int .i64) _ 3 ?hg (N := 4) ?hd (xs := ([a0] : List Int)) (inner := [.int .i64 a0]) (ok := fun _ => True) (okp := fun _ => True) ?hr ?hp (fun _ hk => hk) trivial (Below.refl _ _) (Nat.le_refl _) (by simp) ?_; (case hd => rfl); (case hg => rfl); (case hr => first | (go_simp; done) | (go_simp; rfl)); (case hp => exact (Reps.one (show Kd.M (Kd.int .i64) _ _ _ a0 [.int .i64 a0] from rfl) (Reps.none _ _))); intro v107 w3 ho4 hb hg_ hnew_; clear hg_ hnew_; (first | rw [← Ny106.out] at ho4 | (simp only [Int.reduceToNat] at ho4; rw [← Ny106.out] at ho4)); have HO108 := Aside0.mk (Kd.R_lower ho4 (below_size (bX HB))); replace HB := bS HB hb; clear hb ho4; obtain ⟨Ao5, co5, eo5⟩ := Kd.R_slice HO108.out; subst eo5) | ((with_reducible refine gate_callee (f := 53) rfl ?_); refine goesA (some 5) Tryz.func53 #[.int .i64 0, .int .i64 360, .slice Ao5 y106.length co5] ?_; (with_reducible refine (z47_.calls 0 360 _ _ y106 t109 _ ?side1 ?side2 A2.out).mono ?_); (case side1 => exact sX (Kd.R_reads' HO108.out).2.2); (case side2 => exact (Kd.R_reads' HO108.out).2.1); rintro e w6 ⟨rfl, hb⟩; refine ⟨_, rfl, ?_⟩; replace HO108 := rB HO108 hb; replace HB := bS HB hb))
 go_ret
 exact ⟨eqA, bX HB⟩
end PRvs
end Go.Proofs.YtgdkmadcegleiaaGreatDoor
namespace Go.Proofs.YtgdkmadcegleiaaGreatDoor
namespace PRvs
open X
attribute [local go_sem] max2_int min2_int max_two min_two max_three min_three max_four min_four   -- for this text's walks alone
end PRvs
end Go.Proofs.YtgdkmadcegleiaaGreatDoor
namespace Go.Proofs.YtgdkmadcegleiaaGreatDoor
namespace X
abbrev z18_.f := PRvs.z18_.f
theorem z18_.calls : type_of% @PRvs.z18_.calls := @PRvs.z18_.calls
theorem risSpan_f (lo hi least most : Int) : z18_.f lo hi least most = some (spanB lo hi least most) := by
  show PRvs.z18_.f lo hi least most = _
  unfold PRvs.z18_.f z47_.f spanB
  simp only [Option.bind_some, List.all_cons, List.all_nil, Bool.and_true]
  cases ((decide (least ≤ lo) && decide (lo ≤ most)) && (decide (least ≤ hi) && decide (hi ≤ most))) <;> simp
def gapBad (x : S47) : Bool := !(spanB x.f0.f0 x.f0.f1 0 1000) || !(spanB x.f1.f0 x.f1.f1 0 500)
theorem enters_rcheck1 : ∀ args w, (callFunc 50 args).run Tryz.prog w = .ok (.enter 50 args) w := enters_of Tryz.func50 (by kernel_rfl) rfl
set_option maxHeartbeats 2000000 in
theorem rcheck1_pred {xs : List S47} {w : World} : PredK 50 #[] k47 cellN xs gapBad w := by
  intro x _ W cs hb hK
  have e := k47_open hK
  subst e
  simp only [cellN]
  show Calls Tryz.prog 50 #[.agg #[.int .i64 x.f0.f0, .int .i64 x.f0.f1, .int .i64 x.f1.f0, .int .i64 x.f1.f1]] W _
  have HS0 := Aside0.mk (risSpan_f x.f0.f0 x.f0.f1 0 1000)
  have HS1 := Aside0.mk (risSpan_f x.f1.f0 x.f1.f1 0 500)
  unfold gapBad
  clear hb hK
  have step : ∀ {w1 : World}, Below (W.alloc (.cells #[.int .i64 x.f0.f0, .int .i64 x.f0.f1, .int .i64 x.f1.f0, .int .i64 x.f1.f1] 47 (0, 0))).heap.size (W.alloc (.cells #[.int .i64 x.f0.f0, .int .i64 x.f0.f1, .int .i64 x.f1.f0, .int .i64 x.f1.f1] 47 (0, 0))) w1 →
      (w1.cell? ⟨W.heap.size, 2, none⟩ = some (.int .i64 x.f1.f0) ∧ w1.cell? ⟨W.heap.size, 3, none⟩ = some (.int .i64 x.f1.f1)) ∧ Aside0 (Below W.heap.size W w1) := fun hb =>
    ⟨⟨pw_cell_below hb ((blk_cell (blk_new W _) 2).trans rfl), pw_cell_below hb ((blk_cell (blk_new W _) 3).trans rfl)⟩, ⟨below_then (below_alloc (Below.refl _ _) _) (by simp) hb⟩⟩
  have STEP := Aside0.mk @step
  clear step
  cases q0 : spanB x.f0.f0 x.f0.f1 0 1000 with
  | false =>
    rw [q0] at HS0
    clear q0
    go_enter Tryz.func50, Tryz.ntmps50
    go_wp2_with (go_at_call 51; with_reducible refine (z18_.calls x.f0.f0 x.f0.f1 0 1000 false _ HS0.out).mono ?_; rintro e w1 ⟨rfl, hb1⟩; obtain ⟨⟨c2, c3⟩, HB⟩ := STEP.out hb1; clear hb1)
    go_ret
    exact ⟨rfl, HB.out⟩
  | true =>
    rw [q0] at HS0
    clear q0
    obtain ⟨q, hq⟩ : ∃ q, spanB x.f1.f0 x.f1.f1 0 500 = q := ⟨_, rfl⟩
    rw [hq] at HS1 ⊢
    clear hq
    go_enter Tryz.func50, Tryz.ntmps50
    go_wp2_with (first | (go_at_call 51; with_reducible refine (z18_.calls x.f0.f0 x.f0.f1 0 1000 true _ HS0.out).mono ?_; rintro e w1 ⟨rfl, hb1⟩; obtain ⟨⟨c2, c3⟩, HB⟩ := STEP.out hb1; clear hb1) | (go_at_call 51; with_reducible refine (z18_.calls x.f1.f0 x.f1.f1 0 500 q _ HS1.out).mono ?_; rintro e w2 ⟨rfl, hb2⟩; have HB2 := Aside0.mk (later_below HB.out hb2); clear hb2))
    go_ret
    exact ⟨by simp, HB2.out⟩
end X
namespace Yc
open X
def z22_.f (l0 : List S47) (a1 : Int) : Option Bool := if a1 = 50 then some (l0.any gapBad) else none
theorem z22_.calls (A0 : Option Addr) (c0 : Nat) (l0 : List S47) (a1 : Int) (r : Bool) (w : World) (hr0 : Kd.C k47 w A0 l0.length l0) (_hc0 : l0.length ≤ c0) (h : z22_.f l0 a1 = some r) :
    Calls Tryz.prog 52 #[.slice A0 l0.length c0, .func (.func 50) #[] #[]] w fun e w' => e = .returned (.bool r) ∧ Below w.heap.size w w' := by
  unfold z22_.f at h
  split at h
  · cases h
    exact contains_gap enters_rcheck1 hr0 rcheck1_pred
  · cases h
end Yc
end Go.Proofs.YtgdkmadcegleiaaGreatDoor
namespace Go.Proofs.YtgdkmadcegleiaaGreatDoor
namespace X
theorem info_gap : (Tryz.prog.info? 47).map (fun i => (i.zero, i.size, i.bytes)) = some (some (.agg #[(.int .i64 0), (.int .i64 0), (.int .i64 0), (.int .i64 0)]), 4, 32) := by kernel_rfl
theorem gap_some_nil (ad : Addr) (n c : Nat) (W : World) : (binOp BinOp.eql 31 (Value.slice (some ad) n c) (Value.slice none 0 0)).run Tryz.prog W = .ok (.bool false) W :=
  Lib.run_eql_slice_nil W _ _ (some ad) n c 0 0 Tryz.underlying31
theorem gap_none_nil (n c : Nat) (W : World) : (binOp BinOp.eql 31 (Value.slice none n c) (Value.slice none 0 0)).run Tryz.prog W = .ok (.bool true) W :=
  Lib.run_eql_slice_nil W _ _ none n c 0 0 Tryz.underlying31
def z50_.g (l0 : List S47) : Option (List S47) := (some (([] : List (S47)) : List (S47))).bind fun y101 => (if y101.length + l0.length < 4398046511104 then (some (y101 ++ l0)) else (none))
set_option maxHeartbeats 8000000 in
set_option maxRecDepth 100000 in
theorem gclone_some (ad0 : Addr) (c0 : Nat) (l0 : List (S47)) (r : List (S47)) (w : World) (hr0 : Kd.C k47 w (some ad0) l0.length l0) (hc0 : l0.length ≤ c0) (h : z50_.g l0 = some r) :
    Calls Tryz.prog 35 #[.slice (some ad0) l0.length c0] w fun e w' => ∃ v0_ : Value, e = .returned (v0_) ∧ Kd.R k47 47 w' w.heap.size (fun _ => True) v0_ r ∧ Below w.heap.size w w' := by
  have HR0 := Aside0.mk hr0
  have HC0 := Aside0.mk hc0
  clear hr0 hc0
  have HB := Aside0.mk (Below.refl w.heap.size w)
  have H : ((some (([] : List (S47)) : List (S47))).bind fun y101 => (if y101.length + l0.length < 4398046511104 then (some (y101 ++ l0)) else (none))) = some r := h
  clear h
  obtain ⟨y101, hy101⟩ : ∃ y_ : List (S47), y_ = (([] : List (S47))) := ⟨_, rfl⟩
  replace H : (if y101.length + l0.length < 4398046511104 then (some (y101 ++ l0)) else (none)) = some r := by first | (rw [hy101]; with_reducible exact H) | (have H2_ := (Option.bind_some _ _).symm.trans H; rw [hy101]; with_reducible exact H2_) | (have H2_ := (Option.bind_some _ _).symm.trans H; with_reducible exact H2_) | with_reducible exact H | (rw [hy101]; exact H) | exact H
  have Ny101 := Aside0.mk hy101
  clear hy101
  by_cases c2 : y101.length + l0.length < 4398046511104
  · rw [if_pos c2] at H
    have LMc2 := Aside0.mk c2
    clear c2
    obtain ⟨y104, hy104⟩ : ∃ y_ : List (S47), y_ = (y101 ++ l0) := ⟨_, rfl⟩
    replace H : (some y104) = some r := by first | (rw [hy104]; with_reducible exact H) | (have H2_ := (Option.bind_some _ _).symm.trans H; rw [hy104]; with_reducible exact H2_) | (have H2_ := (Option.bind_some _ _).symm.trans H; with_reducible exact H2_) | with_reducible exact H | (rw [hy104]; exact H) | exact H
    have Ny104 := Aside0.mk hy104
    clear hy104
    obtain rfl := Option.some.inj H
    have hne := gap_some_nil ad0 l0.length c0
    go_enter Tryz.func35, Tryz.ntmps35
    go_wp2_with (first | ((with_reducible refine gate_dst (N := 5) rfl ?_); refine Kd.R_lit k47 _ 47 ?hg (N := 5) ?hd (xs := ([] : List (S47))) (inner := []) (ok := fun _ => True) (okp := fun _ => True) ?hr ?hp (fun _ hk => hk) trivial (Below.refl _ _) (Nat.le_refl _) (by simp) ?_; (case hd => rfl); (case hg => rfl); (case hr => first | (go_simp; done) | (go_simp; rfl)); (case hp => exact (Reps.none _ _)); intro v102 w3 ho4 hb hg_ hnew_; clear hg_ hnew_; (first | rw [← Ny101.out] at ho4 | (simp only [Int.reduceToNat] at ho4; rw [← Ny101.out] at ho4)); have n0_ := Aside0.mk (Kd.R_lower ho4 (below_size (by repeat (first | (with_reducible first | exact HB.out | apply below_alloc | apply pw_below_drewN | apply below_drew1) | exact HB.out)))); have n1_ := Aside0.mk (below_step (by repeat (first | (with_reducible first | exact HB.out | apply below_alloc | apply pw_below_drewN | apply below_drew1) | exact HB.out)) hb); clear HB; have HO103 := n0_; have HB := n1_; clear n0_ n1_; clear hb ho4) | ((with_reducible refine gate_builtin (b := .append) (xs := #[.tmp 5, .tmp 6]) rfl ?_); at_builtin; refine Kd.R_append_rows k47 (w0 := w) w.heap.size rfl (.tmp 5) (.tmp 6) 31 47 (.agg #[(.int .i64 0), (.int .i64 0), (.int .i64 0), (.int .i64 0)]) 32 rfl Tryz.underlying31 info_gap rfl (by decide) (by omega) v102 y101 l0 _ _ _ (fun _ => True) (fun _ => False) rfl rfl ?aO ?aR (fun _ _ h => h) (fun _ h => h.elim) ?aF ?aB ?aS ?aL ?_; (case aR => repeat (first | exact (Kd.C_below HR0.out HB.out) | (with_reducible refine Kd.C_alloc ?_ _) | (with_reducible refine Kd.C_drewN ?_ _) | (with_reducible refine Kd.C_drew ?_))); (case aB => exact (by repeat (first | (with_reducible first | exact HB.out | apply below_alloc | apply pw_below_drewN | apply below_drew1) | exact HB.out))); (case aF => exact (fun _ _ => trivial)); (case aO => exact (by (with_reducible repeat (first | apply Kd.R_alloc | apply Kd.R_drewN | apply Kd.R_drew)); exact HO103.out)); (case aS => exact (below_size (by repeat (first | (with_reducible first | exact HB.out | apply below_alloc | apply pw_below_drewN | apply below_drew1) | exact HB.out)))); (case aL => have := LMc2.out; omega); intro v105 w5 ho hb hg hat; rw [← Ny104.out] at ho; have n0_ := Aside0.mk (hb); have n1_ := Aside0.mk (ho); clear HB; clear HO103; have HB := n0_; have HO106 := n1_; clear n0_ n1_; clear ho hb hg hat))
    go_ret
    exact ⟨_, by first | rfl | (simp [errW_none, errW_some] <;> rfl) | (simp [*, errW_none, errW_some] <;> rfl), by (with_reducible repeat (first | apply Kd.R_alloc | apply Kd.R_drewN | apply Kd.R_drew)); exact HO106.out, by repeat (first | (with_reducible first | exact HB.out | apply below_alloc | apply pw_below_drewN | apply below_drew1) | exact HB.out)⟩
  · rw [if_neg c2] at H
    exact absurd H (by simp)
def z50_.f (l0 : List S47) : Option (List S47) := if l0.length < 4398046511104 then some l0 else none
theorem z50_.calls (A0 : Option Addr) (c0 : Nat) (l0 : List S47) (r : List S47) (w : World) (hr0 : Kd.C k47 w A0 l0.length l0) (hc0 : l0.length ≤ c0) (h : z50_.f l0 = some r) :
    Calls Tryz.prog 35 #[.slice A0 l0.length c0] w fun e w' => ∃ v0_ : Value, e = .returned (v0_) ∧ Kd.R k47 47 w' w.heap.size (fun _ => True) v0_ r ∧ Below w.heap.size w w' := by
  have hg : z50_.g l0 = some r := by
    unfold z50_.f at h
    unfold z50_.g
    simp only [Option.bind_some, List.length_nil, Nat.zero_add, List.nil_append]
    exact h
  cases A0 with
  | some ad0 => exact gclone_some ad0 c0 l0 r w hr0 hc0 hg
  | none =>
    have hl : l0 = [] := by
      cases l0 with
      | nil => rfl
      | cons x xs =>
        obtain ⟨ad, _, e, _⟩ := Kd.C_get hr0 z47 0 (Int.le_refl _) (by simp)
        cases e
    subst hl
    have hr : r = [] := by
      unfold z50_.f at h
      rw [if_pos (by simp)] at h
      exact (Option.some.inj h).symm
    subst hr
    clear hr0 hc0 h hg
    have hne := gap_none_nil 0 c0
    go_enter Tryz.func35, Tryz.ntmps35
    go_wp2
    go_ret
    exact ⟨_, rfl, Kd.R_nil _ _ _ _ _, Below.refl _ _⟩
end X
end Go.Proofs.YtgdkmadcegleiaaGreatDoor
namespace Go.Proofs.YtgdkmadcegleiaaGreatDoor
namespace PRck
open X Yc
attribute [local go_sem] max2_int min2_int max_two min_two max_three min_three max_four min_four   -- for this text's walks alone
def errW : Option Int → Value
  | none => .nilIface
  | some c => .iface 0 (.int .i64 c)
theorem errW_none : errW none = .nilIface := rfl
theorem errW_some (c : Int) : errW (some c) = .iface 0 (.int .i64 c) := rfl
end PRck
end Go.Proofs.YtgdkmadcegleiaaGreatDoor
namespace Go.Proofs.YtgdkmadcegleiaaGreatDoor
namespace PRck
open Sq X Yc
attribute [local go_sem] max2_int min2_int max_two min_two max_three min_three max_four min_four   -- for this text's walks alone
def z5_.j0 : Nat → Int → Bool → Int → Int → Int → Int → List (S47) → Option (Int)
 | 0, _, _, _, _, _, _, _ => none
 | k + 1, x3, x4, x102000, x102001, x102002, x102003, x102004 => if x4 = true then (some 3) else (if (x102004.length : Int) > 40 then (some 5) else ((z22_.f x102004 x3).bind fun t104 => (if t104 = true then (some 2) else (some 0))))
def z5_.f (k : Nat) (a0_0 : Int) (a0_1 : Int) (a0_2 : Int) (a0_3 : Int) (l0_4 : List (S47)) : Option (Int) := (z18_.f a0_0 a0_1 1 5000).bind fun t102 => (if t102 = true then ((z18_.f a0_2 a0_3 1 5000).bind fun t103 => (if t103 = true then (z5_.j0 k 50 (decide (a0_3 ≥ a0_0)) a0_0 a0_1 a0_2 a0_3 l0_4) else (z5_.j0 k 50 (!t103) a0_0 a0_1 a0_2 a0_3 l0_4))) else (z5_.j0 k 50 (!t102) a0_0 a0_1 a0_2 a0_3 l0_4))
set_option maxHeartbeats 8000000 in
set_option maxRecDepth 100000 in
theorem z5_.calls (k : Nat) (a0_0 : Int) (a0_1 : Int) (a0_2 : Int) (a0_3 : Int) (A0_4 : Option Addr) (c0_4 : Nat) (l0_4 : List (S47)) (r : Int) (w : World) (hr0_4 : Kd.C k47 w A0_4 l0_4.length l0_4) (hc0_4 : l0_4.length ≤ c0_4) (h : z5_.f k a0_0 a0_1 a0_2 a0_3 l0_4 = some r) :
  Calls Tryz.prog 24 #[.agg #[.int .i64 a0_0, .int .i64 a0_1, .int .i64 a0_2, .int .i64 a0_3, .slice A0_4 l0_4.length c0_4]] w fun e w' => e = .returned (.int .i64 r) ∧ Below w.heap.size w w' := by
 have hu33 := Tryz.underlying33
 have hu30 := Tryz.underlying30
 have HR0_4 := Aside0.mk hr0_4
 have HC0_4 := Aside0.mk hc0_4
 clear hr0_4 hc0_4
 have HB := Aside0.mk (Below.refl w.heap.size w)
 have H : ((z18_.f a0_0 a0_1 1 5000).bind fun t102 => (if t102 = true then ((z18_.f a0_2 a0_3 1 5000).bind fun t103 => (if t103 = true then (z5_.j0 k 50 (decide (a0_3 ≥ a0_0)) a0_0 a0_1 a0_2 a0_3 l0_4) else (z5_.j0 k 50 (!t103) a0_0 a0_1 a0_2 a0_3 l0_4))) else (z5_.j0 k 50 (!t102) a0_0 a0_1 a0_2 a0_3 l0_4))) = some r := h
 clear h
 replace H := bindA H
 obtain ⟨t102, A2, H⟩ := H
 try dsimp only at H
 have HC3 := Aside0.mk H
 clear H
 go_enter Tryz.func24, Tryz.ntmps24
 go_upto_if 4 with (first | ((with_reducible refine gate_dst (N := 1) rfl ?_); refine boxA (N := 1) (cs := #[.int .i64 a0_0, .int .i64 a0_1, .int .i64 a0_2, .int .i64 a0_3, .slice A0_4 l0_4.length c0_4]) (t := 33) ?_; intro gb101 hg w4 hbox hb; have BK101 := Aside0.mk (hbox); have GE101 := bG HB hg; replace HB := bS HB hb; clear hb hbox hg; obtain ⟨hcz5_0, hcz5_1, hcz5_2, hcz5_3, hcz5_4, hfz5_0, hfz5_1, hfz5_2, hfz5_3, hfz5_4⟩ := cc5 BK101) | ((with_reducible refine gate_callee (f := 51) rfl ?_); refine goesA (some 7) Tryz.func51 #[.agg #[.int .i64 a0_0, .int .i64 a0_1], .int .i64 1, .int .i64 5000] ?_; (with_reducible refine (z18_.calls a0_0 a0_1 1 5000 t102 _ A2.out).mono ?_); rintro e w6 ⟨rfl, hb⟩; refine ⟨_, rfl, ?_⟩; replace BK101 := kB BK101 hb; replace HB := bS HB hb))
 (try simp only [Act.put, List.setIfInBounds_toArray, List.set_cons_zero, List.set_cons_succ])
 go_cut [4] (fun v4 wc => ∃ (kq : Nat) (x4_2 : Bool), v4 = .bool x4_2 ∧ Aside0 (z5_.j0 kq 50 x4_2 a0_0 a0_1 a0_2 a0_3 l0_4 = some r) ∧ Aside0 (kq ≤ k) ∧ Aside0 (wc.heap[gb101]? = some (.cells #[.int .i64 a0_0, .int .i64 a0_1, .int .i64 a0_2, .int .i64 a0_3, (.slice A0_4 l0_4.length c0_4)] 33 (0, 0))) ∧ Aside0 (Below w.heap.size w wc))
 case first =>
  have H := HC3.out
  clear HC3
  by_cases c7 : t102 = true
  ·subst c7
   have H1 : ((z18_.f a0_2 a0_3 1 5000).bind fun t103 => (if t103 = true then (z5_.j0 k 50 (decide (a0_3 ≥ a0_0)) a0_0 a0_1 a0_2 a0_3 l0_4) else (z5_.j0 k 50 (!t103) a0_0 a0_1 a0_2 a0_3 l0_4))) = some r := by rw [if_pos rfl] at H; exact H
   clear H
   have H := H1
   clear H1
   replace H := bindA H
   obtain ⟨t103, A8, H⟩ := H
   try dsimp only at H
   by_cases c9 : t103 = true
   ·subst c9
    have H1 : (z5_.j0 k 50 (decide (a0_3 ≥ a0_0)) a0_0 a0_1 a0_2 a0_3 l0_4) = some r := by rw [if_pos rfl] at H; exact H
    clear H
    have H := H1
    clear H1
    have H' := Aside0.mk H
    clear H
    obtain ⟨hcz10_0, hcz10_1, hcz10_2, hcz10_3, hcz10_4, hfz10_0, hfz10_1, hfz10_2, hfz10_3, hfz10_4⟩ := cc5 BK101
    go_wp2_with (first | ((with_reducible refine gate_callee (f := 51) rfl ?_); refine goesA (some 11) Tryz.func51 #[.agg #[.int .i64 a0_2, .int .i64 a0_3], .int .i64 1, .int .i64 5000] ?_; (with_reducible refine (z18_.calls a0_2 a0_3 1 5000 true _ A8.out).mono ?_); rintro e w11 ⟨rfl, hb⟩; refine ⟨_, rfl, ?_⟩; replace BK101 := kB BK101 hb; replace HB := bS HB hb; obtain ⟨hcz12_0, hcz12_1, hcz12_2, hcz12_3, hcz12_4, hfz12_0, hfz12_1, hfz12_2, hfz12_3, hfz12_4⟩ := cc5 BK101))
    go_meet
    case rel => exact ⟨_, (decide (a0_3 ≥ a0_0)), eR, H', ⟨by first | omega | exact Nat.le_refl _⟩, ⟨kX BK101.out⟩, ⟨bX HB⟩⟩
   ·replace c9 := Bool.eq_false_iff.mpr c9
    subst c9
    have H1 : (z5_.j0 k 50 (!false) a0_0 a0_1 a0_2 a0_3 l0_4) = some r := by rw [if_neg (show ¬ (false = true) by decide)] at H; exact H
    clear H
    have H := H1
    clear H1
    have H' := Aside0.mk H
    clear H
    obtain ⟨hcz13_0, hcz13_1, hcz13_2, hcz13_3, hcz13_4, hfz13_0, hfz13_1, hfz13_2, hfz13_3, hfz13_4⟩ := cc5 BK101
    go_wp2_with (first | ((with_reducible refine gate_callee (f := 51) rfl ?_); refine goesA (some 11) Tryz.func51 #[.agg #[.int .i64 a0_2, .int .i64 a0_3], .int .i64 1, .int .i64 5000] ?_; (with_reducible refine (z18_.calls a0_2 a0_3 1 5000 false _ A8.out).mono ?_); rintro e w14 ⟨rfl, hb⟩; refine ⟨_, rfl, ?_⟩; replace BK101 := kB BK101 hb; replace HB := bS HB hb))
    go_meet
    case rel => exact ⟨_, (!false), eR, H', ⟨by first | omega | exact Nat.le_refl _⟩, ⟨kX BK101.out⟩, ⟨bX HB⟩⟩
  ·replace c7 := Bool.eq_false_iff.mpr c7
   subst c7
   have H1 : (z5_.j0 k 50 (!false) a0_0 a0_1 a0_2 a0_3 l0_4) = some r := by rw [if_neg (show ¬ (false = true) by decide)] at H; exact H
   clear H
   have H := H1
   clear H1
   have H' := Aside0.mk H
   clear H
   go_wp2
   go_meet
   case rel => exact ⟨_, (!false), eR, H', ⟨by first | omega | exact Nat.le_refl _⟩, ⟨kX BK101.out⟩, ⟨bX HB⟩⟩
 case rest =>
  clear HC3
  try clear p2
  try clear hcz10_0 hcz10_1 hcz10_2 hcz10_3 hcz10_4 hfz10_0 hfz10_1 hfz10_2 hfz10_3 hfz10_4
  try clear hcz12_0 hcz12_1 hcz12_2 hcz12_3 hcz12_4 hfz12_0 hfz12_1 hfz12_2 hfz12_3 hfz12_4
  try clear hcz13_0 hcz13_1 hcz13_2 hcz13_3 hcz13_4 hfz13_0 hfz13_1 hfz13_2 hfz13_3 hfz13_4
  try clear hcz5_0 hcz5_1 hcz5_2 hcz5_3 hcz5_4 hfz5_0 hfz5_1 hfz5_2 hfz5_3 hfz5_4
  obtain ⟨kq, x4_2, rfl, HA, HJ2, BK101, HB⟩ := hcut
  cases kq with
  | zero => exact absurd HA.out (by simp [z5_.j0])
  | succ kj2 =>
   have H := HA.out
   clear HA
   simp only [z5_.j0] at H
   by_cases c15 : x4_2 = true
   ·subst c15
    have H1 : (some 3) = some r := by rw [if_pos rfl] at H; exact H
    clear H
    have H := H1
    clear H1
    obtain rfl := Option.some.inj H
    go_wp2
    go_ret
    exact ⟨eqA, bX HB⟩
   ·replace c15 := Bool.eq_false_iff.mpr c15
    subst c15
    have H1 : (if (l0_4.length : Int) > 40 then (some 5) else ((z22_.f l0_4 50).bind fun t104 => (if t104 = true then (some 2) else (some 0)))) = some r := by rw [if_neg (show ¬ (false = true) by decide)] at H; exact H
    clear H
    have H := H1
    clear H1
    by_cases c16 : (l0_4.length : Int) > 40
    ·rw [if_pos c16] at H
     have c16b0 : decide (40 < (l0_4.length : Int)) = true := decide_eq_true c16
     have c16b1 : decide (40 < l0_4.length) = true := decide_eq_true (by omega)
     clear c16
     obtain rfl := Option.some.inj H
     obtain ⟨hcz17_0, hcz17_1, hcz17_2, hcz17_3, hcz17_4, hfz17_0, hfz17_1, hfz17_2, hfz17_3, hfz17_4⟩ := cc5 BK101
     go_wp2
     go_ret
     exact ⟨eqA, bX HB⟩
    ·rw [if_neg c16] at H
     have c16b0 : decide (40 < (l0_4.length : Int)) = false := decide_eq_false c16
     have c16b1 : decide (40 < l0_4.length) = false := decide_eq_false (by omega)
     clear c16
     replace H := bindA H
     obtain ⟨t104, A18, H⟩ := H
     try dsimp only at H
     by_cases c19 : t104 = true
     ·subst c19
      have H1 : (some 2) = some r := by rw [if_pos rfl] at H; exact H
      clear H
      have H := H1
      clear H1
      obtain rfl := Option.some.inj H
      obtain ⟨hcz20_0, hcz20_1, hcz20_2, hcz20_3, hcz20_4, hfz20_0, hfz20_1, hfz20_2, hfz20_3, hfz20_4⟩ := cc5 BK101
      go_wp2_with (first | ((with_reducible refine gate_callee (f := 52) rfl ?_); refine goesA (some 29) Tryz.func52 #[.slice A0_4 l0_4.length c0_4, .func (.func 50) #[] #[]] ?_; (with_reducible refine (z22_.calls _ _ l0_4 50 true _ ?side1 ?side2 A18.out).mono ?_); (case side1 => exact sX (Kd.C_below HR0_4.out HB.out)); (case side2 => exact HC0_4.out); rintro e w21 ⟨rfl, hb⟩; refine ⟨_, rfl, ?_⟩; replace BK101 := kB BK101 hb; replace HB := bS HB hb))
      go_ret
      exact ⟨eqA, bX HB⟩
     ·replace c19 := Bool.eq_false_iff.mpr c19
      subst c19
      have H1 : (some 0) = some r := by rw [if_neg (show ¬ (false = true) by decide)] at H; exact H
      clear H
      have H := H1
      clear H1
      obtain rfl := Option.some.inj H
      obtain ⟨hcz22_0, hcz22_1, hcz22_2, hcz22_3, hcz22_4, hfz22_0, hfz22_1, hfz22_2, hfz22_3, hfz22_4⟩ := cc5 BK101
      go_wp2_with (first | ((with_reducible refine gate_callee (f := 52) rfl ?_); refine goesA (some 29) Tryz.func52 #[.slice A0_4 l0_4.length c0_4, .func (.func 50) #[] #[]] ?_; (with_reducible refine (z22_.calls _ _ l0_4 50 false _ ?side1 ?side2 A18.out).mono ?_); (case side1 => exact sX (Kd.C_below HR0_4.out HB.out)); (case side2 => exact HC0_4.out); rintro e w23 ⟨rfl, hb⟩; refine ⟨_, rfl, ?_⟩; replace BK101 := kB BK101 hb; replace HB := bS HB hb))
      go_ret
      exact ⟨eqA, bX HB⟩
end PRck
end Go.Proofs.YtgdkmadcegleiaaGreatDoor
namespace Go.Proofs.YtgdkmadcegleiaaGreatDoor
namespace PRck
open X Yc
attribute [local go_sem] max2_int min2_int max_two min_two max_three min_three max_four min_four   -- for this text's walks alone
end PRck
end Go.Proofs.YtgdkmadcegleiaaGreatDoor
namespace Go.Proofs.YtgdkmadcegleiaaGreatDoor
namespace PRiv
open X
attribute [local go_sem] max2_int min2_int max_two min_two max_three min_three max_four min_four   -- for this text's walks alone
def errW : Option Int → Value
  | none => .nilIface
  | some c => .iface 0 (.int .i64 c)
theorem errW_none : errW none = .nilIface := rfl
theorem errW_some (c : Int) : errW (some c) = .iface 0 (.int .i64 c) := rfl
end PRiv
end Go.Proofs.YtgdkmadcegleiaaGreatDoor
namespace Go.Proofs.YtgdkmadcegleiaaGreatDoor
namespace PRiv
open Sq X
attribute [local go_sem] run_store_func max2_int min2_int max_two min_two max_three min_three max_four min_four   -- for this text's walks alone
def rivet_high.f (a0_0 : Int) (a0_1 : Int) : Option (Int) := some a0_1
def z28_.f  : Option (Int × Int) := some (73, 74)
set_option maxHeartbeats 8000000 in
set_option maxRecDepth 100000 in
theorem z28_.calls  (r1 : Int) (r2 : Int) (w : World) (h : z28_.f  = some (r1, r2)) :
  Calls Tryz.prog 46 #[] w fun e w' => e = .returned (.agg #[(fnV r1), (fnV r2)]) ∧ Below w.heap.size w w' := by
 have hu105 := Tryz.underlying105
 have HB := Aside0.mk (Below.refl w.heap.size w)
 have H : (some (73, 74)) = some (r1, r2) := h
 clear h
 simp only [Option.some.injEq, Prod.mk.injEq] at H
 obtain ⟨rfl, rfl⟩ := H
 go_enter Tryz.func46, Tryz.ntmps46
 go_wp2_with (first | ((with_reducible refine gate_dst (N := 0) rfl ?_); refine boxA (N := 0) (cs := #[.nilFunc, .nilFunc]) (t := 105) ?_; intro gb102 hg w1 hbox hb; have BK102 := Aside0.mk (hbox); have GE102 := bG HB hg; replace HB := bS HB hb; clear hb hbox hg; obtain ⟨hcz2_0, hcz2_1, hfz2_0, hfz2_1⟩ := cc2 BK102))
 refine bodyPost_ret (results_cell_row rfl _ _ gb102 105 #[(.func (.func 73) #[] #[]), (.func (.func 74) #[] #[])] (0, 0) _ rfl (kP BK102) Tryz.underlying105 rfl (by kernel_rfl)) rfl ?_
 exact ⟨eqA, bX HB⟩
def z19_.j0 : Nat → Int → Int → Int → Int → Option (Int × Int × Int × Int)
 | 0, _, _, _, _ => none
 | k + 1, x105000, x105001, x105002, x105003 => some (x105000, x105001, x105002, x105003)
def z19_.f (k : Nat) (a0_0 : Int) (a0_1 : Int) (a1_0 : Int) (a1_1 : Int) (a1_2 : Int) (a1_3 : Int) (a2_0 : Int) (a2_1 : Int) (a2_2 : Int) (a2_3 : Int) : Option (Int × Int × Int × Int) := (z17_.f a0_0 a2_0 a2_1).bind fun t107 => ((z17_.f a0_0 a2_2 a2_3).bind fun t108 => (if (wrap64 (t107 * a1_3)) ≤ (wrap64 (t108 * a1_2)) then (z19_.j0 k (wrap64 (a1_0 + t107)) a1_1 a1_2 a1_3) else (z19_.j0 k a1_0 (wrap64 (a1_1 + t108)) a1_2 a1_3)))
def z19_.T1 : Bool × List (List Nat × List Nat) := (true, [([], []), ([0], [0]), ([], []), ([2], [2]), ([1, 3], [1, 3]), ([], []), ([5], [5]), ([], []), ([7], [7]), ([6, 8, 4], [6, 8]), ([4, 9, 0, 1, 2, 3, 4], [4]), ([9, 10, 0, 1, 2, 3, 4, 5, 6, 7, 8, 9, 10], [9])])
def z19_.B1 : List Nat := [0, 1, 0, 4, 15, 0, 32, 0, 128, 511, 1023, 2047]
theorem z19_.tab1 : rtab .any (opsOf Tryz.f75 1) = z19_.T1 := by kernel_rfl
theorem z19_.bits1 : waitsOk z19_.T1.2 z19_.B1 = true := by kernel_rfl
set_option maxHeartbeats 8000000 in
set_option maxRecDepth 100000 in
theorem z19_.calls (k : Nat) (a0_0 : Int) (a0_1 : Int) (a1_0 : Int) (a1_1 : Int) (a1_2 : Int) (a1_3 : Int) (a2_0 : Int) (a2_1 : Int) (a2_2 : Int) (a2_3 : Int) (r1 : Int) (r2 : Int) (r3 : Int) (r4 : Int) (w : World) (h : z19_.f k a0_0 a0_1 a1_0 a1_1 a1_2 a1_3 a2_0 a2_1 a2_2 a2_3 = some (r1, r2, r3, r4)) :
  Calls Tryz.prog 75 #[.agg #[(fnV a0_0), (fnV a0_1)], .agg #[.int .i64 a1_0, .int .i64 a1_1, .int .i64 a1_2, .int .i64 a1_3], .agg #[.int .i64 a2_0, .int .i64 a2_1, .int .i64 a2_2, .int .i64 a2_3]] w fun e w' => e = .returned (.agg #[.int .i64 r1, .int .i64 r2, .int .i64 r3, .int .i64 r4]) ∧ Below w.heap.size w w' := by
 have hu105 := Tryz.underlying105
 have hu102 := Tryz.underlying102
 have hu47 := Tryz.underlying47
 have hu30 := Tryz.underlying30
 have HB := Aside0.mk (Below.refl w.heap.size w)
 have H : ((z17_.f a0_0 a2_0 a2_1).bind fun t107 => ((z17_.f a0_0 a2_2 a2_3).bind fun t108 => (if (wrap64 (t107 * a1_3)) ≤ (wrap64 (t108 * a1_2)) then (z19_.j0 k (wrap64 (a1_0 + t107)) a1_1 a1_2 a1_3) else (z19_.j0 k a1_0 (wrap64 (a1_1 + t108)) a1_2 a1_3)))) = some (r1, r2, r3, r4) := h
 clear h
 replace H := bindA H
 obtain ⟨t107, A4, H⟩ := H
 try dsimp only at H
 replace H := bindA H
 obtain ⟨t108, A5, H⟩ := H
 try dsimp only at H
 have HC6 := Aside0.mk H
 clear H
 go_enter Tryz.func75, Tryz.ntmps75
 try go_wp2_with (first | ((with_reducible refine gate_dst (N := 3) rfl ?_); refine boxA (N := 3) (cs := #[(fnV a0_0), (fnV a0_1)]) (t := 105) ?_; intro gb103 hg w7 hbox hb; have BK103 := Aside0.mk (hbox); have GE103 := bG HB hg; replace HB := bS HB hb; clear hb hbox hg) | ((with_reducible refine gate_dst (N := 4) rfl ?_); refine boxA (N := 4) (cs := #[.int .i64 a1_0, .int .i64 a1_1, .int .i64 a1_2, .int .i64 a1_3]) (t := 102) ?_; intro gb104 hg w8 hbox hb; have BK104 := Aside0.mk (hbox); have GE104 := bG HB hg; have NB103_104 := kN BK103 hg; have NB104_103 := kM BK103 hg; replace BK103 := kB BK103 hb; replace HB := bS HB hb; clear hb hbox hg) | ((with_reducible refine gate_dst (N := 5) rfl ?_); refine boxA (N := 5) (cs := #[.int .i64 a2_0, .int .i64 a2_1, .int .i64 a2_2, .int .i64 a2_3]) (t := 47) ?_; intro gb105 hg w9 hbox hb; have BK105 := Aside0.mk (hbox); have GE105 := bG HB hg; have NB103_105 := kN BK103 hg; have NB105_103 := kM BK103 hg; have NB104_105 := kN BK104 hg; have NB105_104 := kM BK104 hg; replace BK103 := kB BK103 hb; replace BK104 := kB BK104 hb; replace HB := bS HB hb; clear hb hbox hg) | ((with_reducible refine gate_dst (N := 6) rfl ?_); refine boxA (N := 6) (cs := #[.int .i64 0, .int .i64 0, .int .i64 0, .int .i64 0]) (t := 102) ?_; intro gb106 hg w10 hbox hb; have BK106 := Aside0.mk (hbox); have GE106 := bG HB hg; have NB103_106 := kN BK103 hg; have NB106_103 := kM BK103 hg; have NB104_106 := kN BK104 hg; have NB106_104 := kM BK104 hg; have NB105_106 := kN BK105 hg; have NB106_105 := kM BK105 hg; replace BK103 := kB BK103 hb; replace BK104 := kB BK104 hb; replace BK105 := kB BK105 hb; replace HB := bS HB hb; clear hb hbox hg))
 replace BK103 := Aside0.mk (blk_drew BK103.out)
 replace BK104 := Aside0.mk (blk_drew BK104.out)
 replace BK105 := Aside0.mk (blk_drew BK105.out)
 replace BK106 := Aside0.mk (blk_drew BK106.out)
 replace HB := Aside0.mk (below_drew1 HB.out)
 refine start_ (n := 12) (S := fun w' => w'.cell? ⟨gb103, 0, none⟩ = some ((fnV a0_0)) ∧ w'.cell? ⟨gb103, 1, none⟩ = some ((fnV a0_1)) ∧ w'.cell? ⟨gb105, 0, none⟩ = some (.int .i64 a2_0) ∧ w'.cell? ⟨gb105, 1, none⟩ = some (.int .i64 a2_1) ∧ w'.cell? ⟨gb105, 2, none⟩ = some (.int .i64 a2_2) ∧ w'.cell? ⟨gb105, 3, none⟩ = some (.int .i64 a2_3)) (ds := []) #[false, false, false, false, false, false, false, false, false, false, false, false] (by kernel_rfl) rfl rfl ⟨bc BK103 0, bc BK103 1, bc BK105 0, bc BK105 1, bc BK105 2, bc BK105 3⟩ (fun hHeld => ?_); refine with_tabW z19_.tab1 z19_.bits1 (fun HT_ HW_ => ?_)
 generalize w10.drew = w11 at BK103 BK104 BK105 BK106 HB hHeld ⊢
 refine pA 0 9 HT_ ?_
 refine pA 2 11 HT_ ?_
 refine pA 5 14 HT_ ?_
 refine pA 7 16 HT_ ?_
 refine tA 1 10 HT_ HW_ hHeld ?_
 refine tA 3 12 HT_ HW_ hHeld ?_
 refine tA 6 15 HT_ HW_ hHeld ?_
 refine tA 8 17 HT_ HW_ hHeld ?_
 refine oneA (i := 4) (N := some 13) HT_ (fun K hK => ?_)
 refine goesF_ a0_0 (z64_ A4.out) #[.agg #[.int .i64 a2_0, .int .i64 a2_1]] (by rfl) rfl rfl (by rfl) (by (try simp only [List.map_toArray, List.map_cons, List.map_nil]); first | done | rfl | (simp only [List.length_drop, List.length_take]; rfl)) ?_
 with_reducible refine (z17_.calls a0_0 a2_0 a2_1 t107 _ A4.out).mono ?_
 rintro e w12 ⟨rfl, hb⟩
 refine ⟨_, rfl, ?_⟩
 replace BK103 := kB BK103 hb
 replace BK104 := kB BK104 hb
 replace BK105 := kB BK105 hb
 replace BK106 := kB BK106 hb
 replace HB := bS HB hb
 refine hK.out _ _ ⟨bc BK103 0, bc BK103 1, bc BK105 0, bc BK105 1, bc BK105 2, bc BK105 3⟩ (fun hHeld => ?_)
 clear hK K
 refine normA (N := some 13) ?_
 refine oneA (i := 9) (N := some 18) HT_ (fun K hK => ?_)
 refine goesF_ a0_0 (z64_ A5.out) #[.agg #[.int .i64 a2_2, .int .i64 a2_3]] (by rfl) rfl rfl (by rfl) (by (try simp only [List.map_toArray, List.map_cons, List.map_nil]); first | done | rfl | (simp only [List.length_drop, List.length_take]; rfl)) ?_
 with_reducible refine (z17_.calls a0_0 a2_2 a2_3 t108 _ A5.out).mono ?_
 rintro e w13 ⟨rfl, hb⟩
 refine ⟨_, rfl, ?_⟩
 replace BK103 := kB BK103 hb
 replace BK104 := kB BK104 hb
 replace BK105 := kB BK105 hb
 replace BK106 := kB BK106 hb
 replace HB := bS HB hb
 refine hK.out _ _ ⟨bc BK103 0, bc BK103 1, bc BK105 0, bc BK105 1, bc BK105 2, bc BK105 3⟩ (fun hHeld => ?_)
 clear hK K
 refine normA (N := some 18) ?_
 refine pA 10 7 HT_ ?_
 refine pA 11 8 HT_ ?_
 refine done_ (done_of HT_.out (by kernel_rfl)) ?_
 obtain ⟨hnb14, hnc14⟩ := nn NB104_103
 obtain ⟨hnb15, hnc15⟩ := nn NB104_105
 obtain ⟨hnb16, hnc16⟩ := nn NB104_106
 obtain ⟨hcz17_0, hcz17_1, hcz17_2, hcz17_3, hfz17_0, hfz17_1, hfz17_2, hfz17_3⟩ := cc4 BK104
 go_upto_if 27 with (fail)
 go_cut [] (fun wc => ∃ (kq : Nat) (x105000_5 : Int) (x105001_5 : Int), Aside0 (z19_.j0 kq x105000_5 x105001_5 a1_2 a1_3 = some (r1, r2, r3, r4)) ∧ Aside0 (kq ≤ k) ∧ Aside0 (wc.heap[gb103]? = some (.cells #[(fnV a0_0), (fnV a0_1)] 105 (0, 0))) ∧ Aside0 (wc.heap[gb104]? = some (.cells #[.int .i64 x105000_5, .int .i64 x105001_5, .int .i64 a1_2, .int .i64 a1_3] 102 (0, 0))) ∧ Aside0 (wc.heap[gb105]? = some (.cells #[.int .i64 a2_0, .int .i64 a2_1, .int .i64 a2_2, .int .i64 a2_3] 47 (0, 0))) ∧ Aside0 (wc.heap[gb106]? = some (.cells #[.int .i64 0, .int .i64 0, .int .i64 0, .int .i64 0] 102 (0, 0))) ∧ Aside0 (Below w.heap.size w wc))
 case first =>
  have H := HC6.out
  clear HC6
  by_cases c18 : (wrap64 (t107 * a1_3)) ≤ (wrap64 (t108 * a1_2))
  ·rw [if_pos c18] at H
   have c18b0 : decide ((wrap64 (t107 * a1_3)) ≤ (wrap64 (t108 * a1_2))) = true := decide_eq_true c18
   clear c18
   (first | rw [c18b0] | (simp only [i64_w, i32_w]; rw [c18b0]) | skip)
   have H' := Aside0.mk H
   clear H
   obtain ⟨hnb19, hnc19⟩ := nn NB104_103
   obtain ⟨hnb20, hnc20⟩ := nn NB104_105
   obtain ⟨hnb21, hnc21⟩ := nn NB104_106
   obtain ⟨hcz22_0, hcz22_1, hcz22_2, hcz22_3, hfz22_0, hfz22_1, hfz22_2, hfz22_3⟩ := cc4 BK104
   go_wp2
   go_meet
   case rel => exact ⟨_, (wrap64 (a1_0 + t107)), (a1_1), H', ⟨by first | omega | exact Nat.le_refl _⟩, ⟨by (with_reducible repeat (first | refine blk_drewN ?_ _ | refine blk_drew ?_ | refine blk_alloc ?_ _)); refine blk_far ?_ NB103_104.out _; (with_reducible repeat (first | refine blk_drewN ?_ _ | refine blk_drew ?_ | refine blk_alloc ?_ _)); exact BK103.out⟩, ⟨by (with_reducible repeat (first | refine blk_drewN ?_ _ | refine blk_drew ?_ | refine blk_alloc ?_ _)); refine blk_put (cs := #[.int .i64 a1_0, .int .i64 a1_1, .int .i64 a1_2, .int .i64 a1_3]) ?_ 0 _ rfl; (with_reducible repeat (first | refine blk_drewN ?_ _ | refine blk_drew ?_ | refine blk_alloc ?_ _)); exact BK104.out⟩, ⟨by (with_reducible repeat (first | refine blk_drewN ?_ _ | refine blk_drew ?_ | refine blk_alloc ?_ _)); refine blk_far ?_ NB105_104.out _; (with_reducible repeat (first | refine blk_drewN ?_ _ | refine blk_drew ?_ | refine blk_alloc ?_ _)); exact BK105.out⟩, ⟨by (with_reducible repeat (first | refine blk_drewN ?_ _ | refine blk_drew ?_ | refine blk_alloc ?_ _)); refine blk_far ?_ NB106_104.out _; (with_reducible repeat (first | refine blk_drewN ?_ _ | refine blk_drew ?_ | refine blk_alloc ?_ _)); exact BK106.out⟩, ⟨bX HB⟩⟩
  ·rw [if_neg c18] at H
   have c18b0 : decide ((wrap64 (t107 * a1_3)) ≤ (wrap64 (t108 * a1_2))) = false := decide_eq_false c18
   clear c18
   (first | rw [c18b0] | (simp only [i64_w, i32_w]; rw [c18b0]) | skip)
   have H' := Aside0.mk H
   clear H
   obtain ⟨hnb23, hnc23⟩ := nn NB104_103
   obtain ⟨hnb24, hnc24⟩ := nn NB104_105
   obtain ⟨hnb25, hnc25⟩ := nn NB104_106
   obtain ⟨hcz26_0, hcz26_1, hcz26_2, hcz26_3, hfz26_0, hfz26_1, hfz26_2, hfz26_3⟩ := cc4 BK104
   go_wp2
   go_meet
   case rel => exact ⟨_, (a1_0), (wrap64 (a1_1 + t108)), H', ⟨by first | omega | exact Nat.le_refl _⟩, ⟨by (with_reducible repeat (first | refine blk_drewN ?_ _ | refine blk_drew ?_ | refine blk_alloc ?_ _)); refine blk_far ?_ NB103_104.out _; (with_reducible repeat (first | refine blk_drewN ?_ _ | refine blk_drew ?_ | refine blk_alloc ?_ _)); exact BK103.out⟩, ⟨by (with_reducible repeat (first | refine blk_drewN ?_ _ | refine blk_drew ?_ | refine blk_alloc ?_ _)); refine blk_put (cs := #[.int .i64 a1_0, .int .i64 a1_1, .int .i64 a1_2, .int .i64 a1_3]) ?_ 1 _ rfl; (with_reducible repeat (first | refine blk_drewN ?_ _ | refine blk_drew ?_ | refine blk_alloc ?_ _)); exact BK104.out⟩, ⟨by (with_reducible repeat (first | refine blk_drewN ?_ _ | refine blk_drew ?_ | refine blk_alloc ?_ _)); refine blk_far ?_ NB105_104.out _; (with_reducible repeat (first | refine blk_drewN ?_ _ | refine blk_drew ?_ | refine blk_alloc ?_ _)); exact BK105.out⟩, ⟨by (with_reducible repeat (first | refine blk_drewN ?_ _ | refine blk_drew ?_ | refine blk_alloc ?_ _)); refine blk_far ?_ NB106_104.out _; (with_reducible repeat (first | refine blk_drewN ?_ _ | refine blk_drew ?_ | refine blk_alloc ?_ _)); exact BK106.out⟩, ⟨bX HB⟩⟩
 case rest =>
  clear HC6
  try clear p2
  try clear p6
  try clear c18b0
  try clear hcz17_0 hcz17_1 hcz17_2 hcz17_3 hfz17_0 hfz17_1 hfz17_2 hfz17_3
  try clear hcz22_0 hcz22_1 hcz22_2 hcz22_3 hfz22_0 hfz22_1 hfz22_2 hfz22_3
  try clear hcz26_0 hcz26_1 hcz26_2 hcz26_3 hfz26_0 hfz26_1 hfz26_2 hfz26_3
  obtain ⟨kq, x105000_5, x105001_5, HA, HJ5, BK103, BK104, BK105, BK106, HB⟩ := hcut
  cases kq with
  | zero => exact absurd HA.out (by simp [z19_.j0])
  | succ kj5 =>
   have H := HA.out
   clear HA
   simp only [z19_.j0] at H
   simp only [Option.some.injEq, Prod.mk.injEq] at H
   obtain ⟨rfl, rfl, rfl, rfl⟩ := H
   obtain ⟨hnb27, hnc27⟩ := nn NB104_103
   obtain ⟨hnb28, hnc28⟩ := nn NB104_105
   obtain ⟨hnb29, hnc29⟩ := nn NB104_106
   obtain ⟨hcz30_0, hcz30_1, hcz30_2, hcz30_3, hfz30_0, hfz30_1, hfz30_2, hfz30_3⟩ := cc4 BK104
   obtain ⟨hnb31, hnc31⟩ := nn NB106_103
   obtain ⟨hnb32, hnc32⟩ := nn NB106_105
   obtain ⟨hcz33_0, hcz33_1, hcz33_2, hcz33_3, hfz33_0, hfz33_1, hfz33_2, hfz33_3⟩ := cc4 BK106
   go_wp2
   refine bodyPost_ret (results_cell_row rfl _ _ gb106 102 #[.int .i64 x105000_5, .int .i64 x105001_5, .int .i64 a1_2, .int .i64 a1_3] (0, 0) _ rfl (by (with_reducible repeat (first | refine blk_drewN ?_ _ | refine blk_drew ?_ | refine blk_alloc ?_ _)); refine blk_put (cs := #[.int .i64 x105000_5, .int .i64 x105001_5, .int .i64 a1_2, .int .i64 0]) ?_ 3 _ rfl; (with_reducible repeat (first | refine blk_drewN ?_ _ | refine blk_drew ?_ | refine blk_alloc ?_ _)); refine blk_put (cs := #[.int .i64 x105000_5, .int .i64 x105001_5, .int .i64 0, .int .i64 0]) ?_ 2 _ rfl; (with_reducible repeat (first | refine blk_drewN ?_ _ | refine blk_drew ?_ | refine blk_alloc ?_ _)); refine blk_put (cs := #[.int .i64 x105000_5, .int .i64 0, .int .i64 0, .int .i64 0]) ?_ 1 _ rfl; (with_reducible repeat (first | refine blk_drewN ?_ _ | refine blk_drew ?_ | refine blk_alloc ?_ _)); refine blk_put (cs := #[.int .i64 0, .int .i64 0, .int .i64 0, .int .i64 0]) ?_ 0 _ rfl; (with_reducible repeat (first | refine blk_drewN ?_ _ | refine blk_drew ?_ | refine blk_alloc ?_ _)); exact BK106.out) Tryz.underlying102 rfl (by kernel_rfl)) rfl ?_
   exact ⟨eqA, bX HB⟩
end PRiv
end Go.Proofs.YtgdkmadcegleiaaGreatDoor
namespace Go.Proofs.YtgdkmadcegleiaaGreatDoor
namespace PRiv
open Sq X
attribute [local go_sem] run_store_func max2_int min2_int max_two min_two max_three min_three max_four min_four   -- for this text's walks alone
def z8_.l0 : Nat → List (S47) → Int → Int → Int → Int → Int → Int → Int → Int → Option (Int × Int × Int × Int)
 | 0, _, _, _, _, _, _, _, _, _ => none
 | k + 1, x20, x21, x22, x110000, x110001, x115000, x115001, x115002, x115003 => if x22 < x21 then (if 0 ≤ x22 then (if x22 < (x20.length : Int) then ((z19_.f k x110000 x110001 x115000 x115001 x115002 x115003 ((rd_T47 x20 x22).f0.f0) ((rd_T47 x20 x22).f0.f1) ((rd_T47 x20 x22).f1.f0) ((rd_T47 x20 x22).f1.f1)).bind fun bt117 => (z8_.l0 k x20 x21 (wrap64 (x22 + 1)) x110000 x110001 bt117.1 bt117.2.1 bt117.2.2.1 bt117.2.2.2)) else (none)) else (none)) else (some (x115000, x115001, x115002, x115003))
def z8_.f (k : Nat) (a0_0 : Int) (a0_1 : Int) (a1_0 : Int) (a1_1 : Int) (a1_2 : Int) (a1_3 : Int) (l1_4 : List (S47)) : Option (Int × Int × Int × Int) := (z17_.f a0_1 a1_0 a1_1).bind fun t112 => ((z17_.f a0_1 a1_2 a1_3).bind fun t113 => (z8_.l0 k l1_4 (l1_4.length : Int) 0 a0_0 a0_1 0 0 t112 t113))
def z8_.T1 : Bool × List (List Nat × List Nat) := (true, [([], []), ([0], [0]), ([], []), ([2], [2]), ([1, 3], [1, 3]), ([], []), ([5], [5]), ([], []), ([7], [7]), ([6, 8, 4], [6, 8]), ([4, 9], [4, 9]), ([], []), ([11, 10, 9, 0, 1, 2, 3, 4, 5, 6, 7, 8, 9, 10, 11], [10, 11])])
def z8_.B1 : List Nat := [0, 1, 0, 4, 15, 0, 32, 0, 128, 511, 1023, 0, 4095]
theorem z8_.tab1 : rtab .any (opsOf Tryz.f47 1) = z8_.T1 := by kernel_rfl
theorem z8_.bits1 : waitsOk z8_.T1.2 z8_.B1 = true := by kernel_rfl
set_option maxHeartbeats 8000000 in
set_option maxRecDepth 100000 in
theorem z8_.calls (k : Nat) (a0_0 : Int) (a0_1 : Int) (a1_0 : Int) (a1_1 : Int) (a1_2 : Int) (a1_3 : Int) (A1_4 : Option Addr) (c1_4 : Nat) (l1_4 : List (S47)) (r1 : Int) (r2 : Int) (r3 : Int) (r4 : Int) (w : World) (hr1_4 : Kd.C k47 w A1_4 l1_4.length l1_4) (hc1_4 : l1_4.length ≤ c1_4) (h : z8_.f k a0_0 a0_1 a1_0 a1_1 a1_2 a1_3 l1_4 = some (r1, r2, r3, r4)) :
  Calls Tryz.prog 47 #[.agg #[(fnV a0_0), (fnV a0_1)], .agg #[.int .i64 a1_0, .int .i64 a1_1, .int .i64 a1_2, .int .i64 a1_3, .slice A1_4 l1_4.length c1_4]] w fun e w' => e = .returned (.agg #[.int .i64 r1, .int .i64 r2, .int .i64 r3, .int .i64 r4]) ∧ Below w.heap.size w w' := by
 have hu105 := Tryz.underlying105
 have hu33 := Tryz.underlying33
 have hu102 := Tryz.underlying102
 have hu30 := Tryz.underlying30
 have hu47 := Tryz.underlying47
 have HR1_4 := Aside0.mk hr1_4
 have HC1_4 := Aside0.mk hc1_4
 clear hr1_4 hc1_4
 have HB := Aside0.mk (Below.refl w.heap.size w)
 have H : ((z17_.f a0_1 a1_0 a1_1).bind fun t112 => ((z17_.f a0_1 a1_2 a1_3).bind fun t113 => (z8_.l0 k l1_4 (l1_4.length : Int) 0 a0_0 a0_1 0 0 t112 t113))) = some (r1, r2, r3, r4) := h
 clear h
 replace H := bindA H
 obtain ⟨t112, A3, H⟩ := H
 try dsimp only at H
 replace H := bindA H
 obtain ⟨t113, A4, H⟩ := H
 try dsimp only at H
 have H' := Aside0.mk H
 clear H
 go_enter Tryz.func47, Tryz.ntmps47
 try go_wp2_with (first | ((with_reducible refine gate_dst (N := 2) rfl ?_); refine boxA (N := 2) (cs := #[(fnV a0_0), (fnV a0_1)]) (t := 105) ?_; intro gb109 hg w5 hbox hb; have BK109 := Aside0.mk (hbox); have GE109 := bG HB hg; replace HB := bS HB hb; clear hb hbox hg) | ((with_reducible refine gate_dst (N := 3) rfl ?_); refine boxA (N := 3) (cs := #[.int .i64 a1_0, .int .i64 a1_1, .int .i64 a1_2, .int .i64 a1_3, .slice A1_4 l1_4.length c1_4]) (t := 33) ?_; intro gb110 hg w6 hbox hb; have BK110 := Aside0.mk (hbox); have GE110 := bG HB hg; have NB109_110 := kN BK109 hg; have NB110_109 := kM BK109 hg; replace BK109 := kB BK109 hb; replace HB := bS HB hb; clear hb hbox hg) | ((with_reducible refine gate_dst (N := 4) rfl ?_); refine boxA (N := 4) (cs := #[.int .i64 0, .int .i64 0, .int .i64 0, .int .i64 0]) (t := 102) ?_; intro gb111 hg w7 hbox hb; have BK111 := Aside0.mk (hbox); have GE111 := bG HB hg; have NB109_111 := kN BK109 hg; have NB111_109 := kM BK109 hg; have NB110_111 := kN BK110 hg; have NB111_110 := kM BK110 hg; replace BK109 := kB BK109 hb; replace BK110 := kB BK110 hb; replace HB := bS HB hb; clear hb hbox hg))
 replace BK109 := Aside0.mk (blk_drew BK109.out)
 replace BK110 := Aside0.mk (blk_drew BK110.out)
 replace BK111 := Aside0.mk (blk_drew BK111.out)
 replace HB := Aside0.mk (below_drew1 HB.out)
 refine start_ (n := 13) (S := fun w' => w'.cell? ⟨gb109, 0, none⟩ = some ((fnV a0_0)) ∧ w'.cell? ⟨gb109, 1, none⟩ = some ((fnV a0_1)) ∧ w'.cell? ⟨gb110, 0, none⟩ = some (.int .i64 a1_0) ∧ w'.cell? ⟨gb110, 1, none⟩ = some (.int .i64 a1_1) ∧ w'.cell? ⟨gb110, 2, none⟩ = some (.int .i64 a1_2) ∧ w'.cell? ⟨gb110, 3, none⟩ = some (.int .i64 a1_3) ∧ w'.cell? ⟨gb110, 4, none⟩ = some (.slice A1_4 l1_4.length c1_4)) (ds := []) #[false, false, false, false, false, false, false, false, false, false, false, false, false] (by kernel_rfl) rfl rfl ⟨bc BK109 0, bc BK109 1, bc BK110 0, bc BK110 1, bc BK110 2, bc BK110 3, bc BK110 4⟩ (fun hHeld => ?_); refine with_tabW z8_.tab1 z8_.bits1 (fun HT_ HW_ => ?_)
 generalize w7.drew = w8 at BK109 BK110 BK111 HB hHeld ⊢
 refine pA 0 8 HT_ ?_
 refine pA 2 10 HT_ ?_
 refine pA 5 13 HT_ ?_
 refine pA 7 15 HT_ ?_
 refine tA 1 9 HT_ HW_ hHeld ?_
 refine tA 3 11 HT_ HW_ hHeld ?_
 refine tA 6 14 HT_ HW_ hHeld ?_
 refine tA 8 16 HT_ HW_ hHeld ?_
 refine join_ (σ := Nat) 1 #[true, true, true, true, true, true, true, true, true, true, true, true, false] (fun s_ => [(12, .int .i64 t112), (17, .int .i64 t113), (5, .pointer (some ⟨s_, 0, none⟩)), (18, .agg #[.int .i64 0, .int .i64 0, .int .i64 t112, .int .i64 t113])]) (fun s_ w' => (w'.cell? ⟨gb109, 0, none⟩ = some ((fnV a0_0)) ∧ w'.cell? ⟨gb109, 1, none⟩ = some ((fnV a0_1)) ∧ w'.cell? ⟨gb110, 0, none⟩ = some (.int .i64 a1_0) ∧ w'.cell? ⟨gb110, 1, none⟩ = some (.int .i64 a1_1) ∧ w'.cell? ⟨gb110, 2, none⟩ = some (.int .i64 a1_2) ∧ w'.cell? ⟨gb110, 3, none⟩ = some (.int .i64 a1_3) ∧ w'.cell? ⟨gb110, 4, none⟩ = some (.slice A1_4 l1_4.length c1_4)) ∧ (w'.heap[gb109]? = some (.cells #[(fnV a0_0), (fnV a0_1)] 105 (0, 0))) ∧ (w'.heap[gb110]? = some (.cells #[.int .i64 a1_0, .int .i64 a1_1, .int .i64 a1_2, .int .i64 a1_3, .slice A1_4 l1_4.length c1_4] 33 (0, 0))) ∧ (w'.heap[gb111]? = some (.cells #[.int .i64 0, .int .i64 0, .int .i64 0, .int .i64 0] 102 (0, 0))) ∧ (w'.heap[s_]? = some (.cells #[.int .i64 0, .int .i64 0, .int .i64 0, .int .i64 0] 102 (0, 0))) ∧ (w.heap.size ≤ s_) ∧ (w.heap.size ≤ s_) ∧ (gb109 ≠ s_) ∧ (s_ ≠ gb109) ∧ (gb110 ≠ s_) ∧ (s_ ≠ gb110) ∧ (gb111 ≠ s_) ∧ (s_ ≠ gb111) ∧ (Below w.heap.size w w')) ?_ ?_
 rotate_left
 ·intro hCont
  refine two_ (i := 4) (j := 11) (Ni := some 12) (Nj := some 5) #[true, true, true, true, true, true, true, true, true, false, false, false, false] #[true, true, true, true, false, true, true, true, true, false, false, true, false] rfl rfl rfl rfl (two_of HT_.out (by kernel_rfl)) (by decide) (by decide) (fun K hK => ?_) (fun K hK => ?_)
  ·skip
   refine goesF_ a0_1 (z64_ A3.out) #[.agg #[.int .i64 a1_0, .int .i64 a1_1]] (by rfl) rfl rfl (by rfl) (by (try simp only [List.map_toArray, List.map_cons, List.map_nil]); first | done | rfl | (simp only [List.length_drop, List.length_take]; rfl)) ?_
   with_reducible refine (z17_.calls a0_1 a1_0 a1_1 t112 _ A3.out).mono ?_
   rintro e w9 ⟨rfl, hb⟩
   refine ⟨_, rfl, ?_⟩
   replace BK109 := kB BK109 hb
   replace BK110 := kB BK110 hb
   replace BK111 := kB BK111 hb
   replace HB := bS HB hb
   refine hK.out _ _ ⟨bc BK109 0, bc BK109 1, bc BK110 0, bc BK110 1, bc BK110 2, bc BK110 3, bc BK110 4⟩ (fun hHeld => ?_)
   clear hK K
   refine normA (N := some 12) ?_
   refine two_ (i := 9) (j := 11) (Ni := some 17) (Nj := some 5) #[true, true, true, true, true, true, true, true, true, true, false, false, false] #[true, true, true, true, true, true, true, true, true, false, false, true, false] rfl rfl rfl rfl (two_of HT_.out (by kernel_rfl)) (by decide) (by decide) (fun K hK => ?_) (fun K hK => ?_)
   ·skip
    refine goesF_ a0_1 (z64_ A4.out) #[.agg #[.int .i64 a1_2, .int .i64 a1_3]] (by rfl) rfl rfl (by rfl) (by (try simp only [List.map_toArray, List.map_cons, List.map_nil]); first | done | rfl | (simp only [List.length_drop, List.length_take]; rfl)) ?_
    with_reducible refine (z17_.calls a0_1 a1_2 a1_3 t113 _ A4.out).mono ?_
    rintro e w10 ⟨rfl, hb⟩
    refine ⟨_, rfl, ?_⟩
    replace BK109 := kB BK109 hb
    replace BK110 := kB BK110 hb
    replace BK111 := kB BK111 hb
    replace HB := bS HB hb
    refine hK.out _ _ ⟨bc BK109 0, bc BK109 1, bc BK110 0, bc BK110 1, bc BK110 2, bc BK110 3, bc BK110 4⟩ (fun hHeld => ?_)
    clear hK K
    refine normA (N := some 17) ?_
    refine pA 10 18 HT_ ?_
    refine oneA (i := 11) (N := some 5) HT_ (fun K hK => ?_)
    refine box_step ?hg (N := 5) ?hd (cs := #[.int .i64 0, .int .i64 0, .int .i64 0, .int .i64 0]) (t := 102) ?hr ?_; (case hd => rfl); (case hg => rfl); (case hr => first | (go_simp; done) | (go_simp; rfl))
    intro gb114 hg w11 hbox hb
    have BK114 := Aside0.mk (hbox)
    have GW114 := bG HB hg
    have GE114 := bG HB hg
    have NB109_114 := kN BK109 hg
    have NB114_109 := kM BK109 hg
    have NB110_114 := kN BK110 hg
    have NB114_110 := kM BK110 hg
    have NB111_114 := kN BK111 hg
    have NB114_111 := kM BK111 hg
    replace BK109 := kB BK109 hb
    replace BK110 := kB BK110 hb
    replace BK111 := kB BK111 hb
    replace HB := bS HB hb
    clear hb hbox hg
    refine hK.out _ _ ⟨bc BK109 0, bc BK109 1, bc BK110 0, bc BK110 1, bc BK110 2, bc BK110 3, bc BK110 4⟩ (fun hHeld => ?_)
    clear hK K
    refine normA (N := some 5) ?_
    exact norm_ (by simp only [putAll, Act.put, List.setIfInBounds_toArray, List.set_cons_zero, List.set_cons_succ]) (hCont (gb114) _ ⟨hHeld, (kX BK109.out), (kX BK110.out), (kX BK111.out), (kX BK114.out), GW114.out, GE114.out, NB109_114.out, NB114_109.out, NB110_114.out, NB114_110.out, NB111_114.out, NB114_111.out, (bX HB)⟩)
   ·skip
    refine box_step ?hg (N := 5) ?hd (cs := #[.int .i64 0, .int .i64 0, .int .i64 0, .int .i64 0]) (t := 102) ?hr ?_; (case hd => rfl); (case hg => rfl); (case hr => first | (go_simp; done) | (go_simp; rfl))
    intro gb114 hg w10 hbox hb
    have BK114 := Aside0.mk (hbox)
    have GW114 := bG HB hg
    have GE114 := bG HB hg
    have NB109_114 := kN BK109 hg
    have NB114_109 := kM BK109 hg
    have NB110_114 := kN BK110 hg
    have NB114_110 := kM BK110 hg
    have NB111_114 := kN BK111 hg
    have NB114_111 := kM BK111 hg
    replace BK109 := kB BK109 hb
    replace BK110 := kB BK110 hb
    replace BK111 := kB BK111 hb
    replace HB := bS HB hb
    clear hb hbox hg
    refine hK.out _ _ ⟨bc BK109 0, bc BK109 1, bc BK110 0, bc BK110 1, bc BK110 2, bc BK110 3, bc BK110 4⟩ (fun hHeld => ?_)
    clear hK K
    refine normA (N := some 5) ?_
    refine oneA (i := 9) (N := some 17) HT_ (fun K hK => ?_)
    refine goesF_ a0_1 (z64_ A4.out) #[.agg #[.int .i64 a1_2, .int .i64 a1_3]] (by rfl) rfl rfl (by rfl) (by (try simp only [List.map_toArray, List.map_cons, List.map_nil]); first | done | rfl | (simp only [List.length_drop, List.length_take]; rfl)) ?_
    with_reducible refine (z17_.calls a0_1 a1_2 a1_3 t113 _ A4.out).mono ?_
    rintro e w11 ⟨rfl, hb⟩
    refine ⟨_, rfl, ?_⟩
    replace BK109 := kB BK109 hb
    replace BK110 := kB BK110 hb
    replace BK111 := kB BK111 hb
    replace BK114 := kB BK114 hb
    replace HB := bS HB hb
    refine hK.out _ _ ⟨bc BK109 0, bc BK109 1, bc BK110 0, bc BK110 1, bc BK110 2, bc BK110 3, bc BK110 4⟩ (fun hHeld => ?_)
    clear hK K
    refine normA (N := some 17) ?_
    refine pA 10 18 HT_ ?_
    exact norm_ (by simp only [putAll, Act.put, List.setIfInBounds_toArray, List.set_cons_zero, List.set_cons_succ]) (hCont (gb114) _ ⟨hHeld, (kX BK109.out), (kX BK110.out), (kX BK111.out), (kX BK114.out), GW114.out, GE114.out, NB109_114.out, NB114_109.out, NB110_114.out, NB114_110.out, NB111_114.out, NB114_111.out, (bX HB)⟩)
  ·skip
   refine box_step ?hg (N := 5) ?hd (cs := #[.int .i64 0, .int .i64 0, .int .i64 0, .int .i64 0]) (t := 102) ?hr ?_; (case hd => rfl); (case hg => rfl); (case hr => first | (go_simp; done) | (go_simp; rfl))
   intro gb114 hg w9 hbox hb
   have BK114 := Aside0.mk (hbox)
   have GW114 := bG HB hg
   have GE114 := bG HB hg
   have NB109_114 := kN BK109 hg
   have NB114_109 := kM BK109 hg
   have NB110_114 := kN BK110 hg
   have NB114_110 := kM BK110 hg
   have NB111_114 := kN BK111 hg
   have NB114_111 := kM BK111 hg
   replace BK109 := kB BK109 hb
   replace BK110 := kB BK110 hb
   replace BK111 := kB BK111 hb
   replace HB := bS HB hb
   clear hb hbox hg
   refine hK.out _ _ ⟨bc BK109 0, bc BK109 1, bc BK110 0, bc BK110 1, bc BK110 2, bc BK110 3, bc BK110 4⟩ (fun hHeld => ?_)
   clear hK K
   refine normA (N := some 5) ?_
   refine oneA (i := 4) (N := some 12) HT_ (fun K hK => ?_)
   refine goesF_ a0_1 (z64_ A3.out) #[.agg #[.int .i64 a1_0, .int .i64 a1_1]] (by rfl) rfl rfl (by rfl) (by (try simp only [List.map_toArray, List.map_cons, List.map_nil]); first | done | rfl | (simp only [List.length_drop, List.length_take]; rfl)) ?_
   with_reducible refine (z17_.calls a0_1 a1_0 a1_1 t112 _ A3.out).mono ?_
   rintro e w10 ⟨rfl, hb⟩
   refine ⟨_, rfl, ?_⟩
   replace BK109 := kB BK109 hb
   replace BK110 := kB BK110 hb
   replace BK111 := kB BK111 hb
   replace BK114 := kB BK114 hb
   replace HB := bS HB hb
   refine hK.out _ _ ⟨bc BK109 0, bc BK109 1, bc BK110 0, bc BK110 1, bc BK110 2, bc BK110 3, bc BK110 4⟩ (fun hHeld => ?_)
   clear hK K
   refine normA (N := some 12) ?_
   refine oneA (i := 9) (N := some 17) HT_ (fun K hK => ?_)
   refine goesF_ a0_1 (z64_ A4.out) #[.agg #[.int .i64 a1_2, .int .i64 a1_3]] (by rfl) rfl rfl (by rfl) (by (try simp only [List.map_toArray, List.map_cons, List.map_nil]); first | done | rfl | (simp only [List.length_drop, List.length_take]; rfl)) ?_
   with_reducible refine (z17_.calls a0_1 a1_2 a1_3 t113 _ A4.out).mono ?_
   rintro e w11 ⟨rfl, hb⟩
   refine ⟨_, rfl, ?_⟩
   replace BK109 := kB BK109 hb
   replace BK110 := kB BK110 hb
   replace BK111 := kB BK111 hb
   replace BK114 := kB BK114 hb
   replace HB := bS HB hb
   refine hK.out _ _ ⟨bc BK109 0, bc BK109 1, bc BK110 0, bc BK110 1, bc BK110 2, bc BK110 3, bc BK110 4⟩ (fun hHeld => ?_)
   clear hK K
   refine normA (N := some 17) ?_
   refine pA 10 18 HT_ ?_
   exact norm_ (by simp only [putAll, Act.put, List.setIfInBounds_toArray, List.set_cons_zero, List.set_cons_succ]) (hCont (gb114) _ ⟨hHeld, (kX BK109.out), (kX BK110.out), (kX BK111.out), (kX BK114.out), GW114.out, GE114.out, NB109_114.out, NB114_109.out, NB110_114.out, NB114_110.out, NB111_114.out, NB114_111.out, (bX HB)⟩)
 rintro gb114 w12 ⟨hS_, h0_, h1_, h2_, h3_, h4_, h5_, h6_, h7_, h8_, h9_, h10_, h11_, h12_⟩
 have n0_ : Aside0 (w12.heap[gb109]? = some (.cells #[(fnV a0_0), (fnV a0_1)] 105 (0, 0))) := ⟨h0_⟩
 have n1_ : Aside0 (w12.heap[gb110]? = some (.cells #[.int .i64 a1_0, .int .i64 a1_1, .int .i64 a1_2, .int .i64 a1_3, .slice A1_4 l1_4.length c1_4] 33 (0, 0))) := ⟨h1_⟩
 have n2_ : Aside0 (w12.heap[gb111]? = some (.cells #[.int .i64 0, .int .i64 0, .int .i64 0, .int .i64 0] 102 (0, 0))) := ⟨h2_⟩
 have n3_ : Aside0 (w12.heap[gb114]? = some (.cells #[.int .i64 0, .int .i64 0, .int .i64 0, .int .i64 0] 102 (0, 0))) := ⟨h3_⟩
 have n4_ : Aside0 (w.heap.size ≤ gb114) := ⟨h4_⟩
 have n5_ : Aside0 (w.heap.size ≤ gb114) := ⟨h5_⟩
 have n6_ : Aside0 (gb109 ≠ gb114) := ⟨h6_⟩
 have n7_ : Aside0 (gb114 ≠ gb109) := ⟨h7_⟩
 have n8_ : Aside0 (gb110 ≠ gb114) := ⟨h8_⟩
 have n9_ : Aside0 (gb114 ≠ gb110) := ⟨h9_⟩
 have n10_ : Aside0 (gb111 ≠ gb114) := ⟨h10_⟩
 have n11_ : Aside0 (gb114 ≠ gb111) := ⟨h11_⟩
 have n12_ : Aside0 (Below w.heap.size w w12) := ⟨h12_⟩
 clear BK109
 clear BK110
 clear BK111
 clear HB
 clear h0_ h1_ h2_ h3_ h4_ h5_ h6_ h7_ h8_ h9_ h10_ h11_ h12_
 have BK109 := n0_
 have BK110 := n1_
 have BK111 := n2_
 have BK114 := n3_
 have GW114 := n4_
 have GE114 := n5_
 have NB109_114 := n6_
 have NB114_109 := n7_
 have NB110_114 := n8_
 have NB114_110 := n9_
 have NB111_114 := n10_
 have NB114_111 := n11_
 have HB := n12_
 clear n0_ n1_ n2_ n3_ n4_ n5_ n6_ n7_ n8_ n9_ n10_ n11_ n12_
 have hHeld : w12.cell? ⟨gb109, 0, none⟩ = some ((fnV a0_0)) ∧ w12.cell? ⟨gb109, 1, none⟩ = some ((fnV a0_1)) ∧ w12.cell? ⟨gb110, 0, none⟩ = some (.int .i64 a1_0) ∧ w12.cell? ⟨gb110, 1, none⟩ = some (.int .i64 a1_1) ∧ w12.cell? ⟨gb110, 2, none⟩ = some (.int .i64 a1_2) ∧ w12.cell? ⟨gb110, 3, none⟩ = some (.int .i64 a1_3) ∧ w12.cell? ⟨gb110, 4, none⟩ = some (.slice A1_4 l1_4.length c1_4) := hS_
 refine norm_ (a' := ?_) ?_ ?_
 rotate_left
 ·simp only [putAll, Act.put, List.setIfInBounds_toArray, List.set_cons_zero, List.set_cons_succ]
  rfl
 refine one_ (i := 12) (N := none) #[true, true, true, true, true, true, true, true, true, true, true, true, true] rfl rfl (one_of HT_.out (by kernel_rfl)) (by decide) (fun K hK => ?_)
 have hs13 : w12.cell? ⟨gb114, 0, none⟩ = some (.int .i64 0) := bc BK114 0
 have hfs13 := blk_frozen BK114.out 0
 have hns13_0 := NB109_114.out
 have hns13_1 := NB110_114.out
 have hns13_2 := NB111_114.out
 have hms13_0 := NB114_109.out
 have hms13_1 := NB114_110.out
 have hms13_2 := NB114_111.out
 have hs14 : w12.cell? ⟨gb114, 1, none⟩ = some (.int .i64 0) := bc BK114 1
 have hfs14 := blk_frozen BK114.out 1
 have hns14_0 := NB109_114.out
 have hns14_1 := NB110_114.out
 have hns14_2 := NB111_114.out
 have hms14_0 := NB114_109.out
 have hms14_1 := NB114_110.out
 have hms14_2 := NB114_111.out
 have hs15 : w12.cell? ⟨gb114, 2, none⟩ = some (.int .i64 0) := bc BK114 2
 have hfs15 := blk_frozen BK114.out 2
 have hns15_0 := NB109_114.out
 have hns15_1 := NB110_114.out
 have hns15_2 := NB111_114.out
 have hms15_0 := NB114_109.out
 have hms15_1 := NB114_110.out
 have hms15_2 := NB114_111.out
 have hs16 : w12.cell? ⟨gb114, 3, none⟩ = some (.int .i64 0) := bc BK114 3
 have hfs16 := blk_frozen BK114.out 3
 have hns16_0 := NB109_114.out
 have hns16_1 := NB110_114.out
 have hns16_2 := NB111_114.out
 have hms16_0 := NB114_109.out
 have hms16_1 := NB114_110.out
 have hms16_2 := NB114_111.out
 refine skip_ (w1 := ?_) (by rfl) rfl ?_ ?_
 rotate_left
 ·go_simp
  rfl
 refine hK.out _ _ ⟨((cell_far (p := ⟨gb114, _, none⟩) NB109_114.out _).trans (((cell_far (p := ⟨gb114, _, none⟩) NB109_114.out _).trans (((cell_far (p := ⟨gb114, _, none⟩) NB109_114.out _).trans (((cell_far (p := ⟨gb114, _, none⟩) NB109_114.out _).trans (hHeld.1)))))))), ((cell_far (p := ⟨gb114, _, none⟩) NB109_114.out _).trans (((cell_far (p := ⟨gb114, _, none⟩) NB109_114.out _).trans (((cell_far (p := ⟨gb114, _, none⟩) NB109_114.out _).trans (((cell_far (p := ⟨gb114, _, none⟩) NB109_114.out _).trans (hHeld.2.1)))))))), ((cell_far (p := ⟨gb114, _, none⟩) NB110_114.out _).trans (((cell_far (p := ⟨gb114, _, none⟩) NB110_114.out _).trans (((cell_far (p := ⟨gb114, _, none⟩) NB110_114.out _).trans (((cell_far (p := ⟨gb114, _, none⟩) NB110_114.out _).trans (hHeld.2.2.1)))))))), ((cell_far (p := ⟨gb114, _, none⟩) NB110_114.out _).trans (((cell_far (p := ⟨gb114, _, none⟩) NB110_114.out _).trans (((cell_far (p := ⟨gb114, _, none⟩) NB110_114.out _).trans (((cell_far (p := ⟨gb114, _, none⟩) NB110_114.out _).trans (hHeld.2.2.2.1)))))))), ((cell_far (p := ⟨gb114, _, none⟩) NB110_114.out _).trans (((cell_far (p := ⟨gb114, _, none⟩) NB110_114.out _).trans (((cell_far (p := ⟨gb114, _, none⟩) NB110_114.out _).trans (((cell_far (p := ⟨gb114, _, none⟩) NB110_114.out _).trans (hHeld.2.2.2.2.1)))))))), ((cell_far (p := ⟨gb114, _, none⟩) NB110_114.out _).trans (((cell_far (p := ⟨gb114, _, none⟩) NB110_114.out _).trans (((cell_far (p := ⟨gb114, _, none⟩) NB110_114.out _).trans (((cell_far (p := ⟨gb114, _, none⟩) NB110_114.out _).trans (hHeld.2.2.2.2.2.1)))))))), ((cell_far (p := ⟨gb114, _, none⟩) NB110_114.out _).trans (((cell_far (p := ⟨gb114, _, none⟩) NB110_114.out _).trans (((cell_far (p := ⟨gb114, _, none⟩) NB110_114.out _).trans (((cell_far (p := ⟨gb114, _, none⟩) NB110_114.out _).trans (hHeld.2.2.2.2.2.2))))))))⟩ (fun hHeld => ?_)
 clear hK K
 refine done_ (done_of HT_.out (by kernel_rfl)) ?_
 obtain ⟨hnb17, hnc17⟩ := nn NB110_109
 obtain ⟨hnb18, hnc18⟩ := nn NB110_111
 obtain ⟨hnb19, hnc19⟩ := nn NB110_114
 obtain ⟨hcz20_0, hcz20_1, hcz20_2, hcz20_3, hcz20_4, hfz20_0, hfz20_1, hfz20_2, hfz20_3, hfz20_4⟩ := cc5 BK110
 try go_wp2
 go_loopg [22] k (fun kq v22 w' => ∃ (x22_1 : Int) (x115000_1 : Int) (x115001_1 : Int) (x115002_1 : Int) (x115003_1 : Int), v22 = .int .i64 x22_1 ∧ Aside0 (z8_.l0 kq l1_4 (l1_4.length : Int) x22_1 a0_0 a0_1 x115000_1 x115001_1 x115002_1 x115003_1 = some (r1, r2, r3, r4)) ∧ Aside0 (kq ≤ k) ∧ Aside0 (w'.heap[gb109]? = some (.cells #[(fnV a0_0), (fnV a0_1)] 105 (0, 0))) ∧ Aside0 (w'.heap[gb110]? = some (.cells #[.int .i64 a1_0, .int .i64 a1_1, .int .i64 a1_2, .int .i64 a1_3, (.slice A1_4 l1_4.length c1_4)] 33 (0, 0))) ∧ Aside0 (w'.heap[gb111]? = some (.cells #[.int .i64 0, .int .i64 0, .int .i64 0, .int .i64 0] 102 (0, 0))) ∧ Aside0 (w'.heap[gb114]? = some (.cells #[.int .i64 x115000_1, .int .i64 x115001_1, .int .i64 x115002_1, .int .i64 x115003_1] 102 (0, 0))) ∧ Aside0 (Below w.heap.size w w'))
 case atStart => exact ⟨(0), (0), (0), (t112), (t113), eR, H', ⟨Nat.le_refl _⟩, ⟨by (with_reducible repeat (first | refine blk_drewN ?_ _ | refine blk_drew ?_ | refine blk_alloc ?_ _)); refine blk_far ?_ NB109_114.out _; (with_reducible repeat (first | refine blk_drewN ?_ _ | refine blk_drew ?_ | refine blk_alloc ?_ _)); refine blk_far ?_ NB109_114.out _; (with_reducible repeat (first | refine blk_drewN ?_ _ | refine blk_drew ?_ | refine blk_alloc ?_ _)); refine blk_far ?_ NB109_114.out _; (with_reducible repeat (first | refine blk_drewN ?_ _ | refine blk_drew ?_ | refine blk_alloc ?_ _)); refine blk_far ?_ NB109_114.out _; (with_reducible repeat (first | refine blk_drewN ?_ _ | refine blk_drew ?_ | refine blk_alloc ?_ _)); exact BK109.out⟩, ⟨by (with_reducible repeat (first | refine blk_drewN ?_ _ | refine blk_drew ?_ | refine blk_alloc ?_ _)); refine blk_far ?_ NB110_114.out _; (with_reducible repeat (first | refine blk_drewN ?_ _ | refine blk_drew ?_ | refine blk_alloc ?_ _)); refine blk_far ?_ NB110_114.out _; (with_reducible repeat (first | refine blk_drewN ?_ _ | refine blk_drew ?_ | refine blk_alloc ?_ _)); refine blk_far ?_ NB110_114.out _; (with_reducible repeat (first | refine blk_drewN ?_ _ | refine blk_drew ?_ | refine blk_alloc ?_ _)); refine blk_far ?_ NB110_114.out _; (with_reducible repeat (first | refine blk_drewN ?_ _ | refine blk_drew ?_ | refine blk_alloc ?_ _)); exact BK110.out⟩, ⟨by (with_reducible repeat (first | refine blk_drewN ?_ _ | refine blk_drew ?_ | refine blk_alloc ?_ _)); refine blk_far ?_ NB111_114.out _; (with_reducible repeat (first | refine blk_drewN ?_ _ | refine blk_drew ?_ | refine blk_alloc ?_ _)); refine blk_far ?_ NB111_114.out _; (with_reducible repeat (first | refine blk_drewN ?_ _ | refine blk_drew ?_ | refine blk_alloc ?_ _)); refine blk_far ?_ NB111_114.out _; (with_reducible repeat (first | refine blk_drewN ?_ _ | refine blk_drew ?_ | refine blk_alloc ?_ _)); refine blk_far ?_ NB111_114.out _; (with_reducible repeat (first | refine blk_drewN ?_ _ | refine blk_drew ?_ | refine blk_alloc ?_ _)); exact BK111.out⟩, ⟨by (with_reducible repeat (first | refine blk_drewN ?_ _ | refine blk_drew ?_ | refine blk_alloc ?_ _)); refine blk_put (cs := #[.int .i64 0, .int .i64 0, .int .i64 t112, .int .i64 0]) ?_ 3 _ rfl; (with_reducible repeat (first | refine blk_drewN ?_ _ | refine blk_drew ?_ | refine blk_alloc ?_ _)); refine blk_put (cs := #[.int .i64 0, .int .i64 0, .int .i64 0, .int .i64 0]) ?_ 2 _ rfl; (with_reducible repeat (first | refine blk_drewN ?_ _ | refine blk_drew ?_ | refine blk_alloc ?_ _)); refine blk_put (cs := #[.int .i64 0, .int .i64 0, .int .i64 0, .int .i64 0]) ?_ 1 _ rfl; (with_reducible repeat (first | refine blk_drewN ?_ _ | refine blk_drew ?_ | refine blk_alloc ?_ _)); refine blk_put (cs := #[.int .i64 0, .int .i64 0, .int .i64 0, .int .i64 0]) ?_ 0 _ rfl; (with_reducible repeat (first | refine blk_drewN ?_ _ | refine blk_drew ?_ | refine blk_alloc ?_ _)); exact BK114.out⟩, ⟨bX HB⟩⟩
 case round =>
  clear H'
  try clear p2
  try clear hcz20_0 hcz20_1 hcz20_2 hcz20_3 hcz20_4 hfz20_0 hfz20_1 hfz20_2 hfz20_3 hfz20_4
  obtain ⟨x22_1, x115000_1, x115001_1, x115002_1, x115003_1, rfl, HA, HK1, BK109, BK110, BK111, BK114, HB⟩ := hrel
  cases gk with
  | zero => exact absurd HA.out (by simp [z8_.l0])
  | succ k1 =>
   have H := HA.out
   clear HA
   simp only [z8_.l0] at H
   by_cases c21 : x22_1 < (l1_4.length : Int)
   ·rw [if_pos c21] at H
    have c21b0 : decide (x22_1 < (l1_4.length : Int)) = true := decide_eq_true c21
    clear c21
    by_cases c22 : 0 ≤ x22_1
    ·rw [if_pos c22] at H
     have c22b0 : decide (0 ≤ x22_1) = true := decide_eq_true c22
     clear c22
     by_cases c23 : x22_1 < (l1_4.length : Int)
     ·rw [if_pos c23] at H
      have c23b0 : decide (x22_1 < (l1_4.length : Int)) = true := decide_eq_true c23
      clear c23
      replace H := bindA H
      obtain ⟨⟨t117, t118, t119, t120⟩, A24, H⟩ := H
      try dsimp only at H
      have H' := Aside0.mk H
      clear H
      have p115 : 0 ≤ (x22_1 : Int) := of_decide_eq_true (by first | (with_reducible assumption) | assumption)
      have q115 : x22_1 < (l1_4.length : Int) := of_decide_eq_true (by first | (with_reducible assumption) | assumption)
      obtain ⟨ad115, e115, hx115_0, hx115_1, hx115_2, hx115_3⟩ := at_T47 HR1_4.out x22_1 p115 q115
      cases e115
      replace hx115_0 := (HB.out.cell (World.block_lt_of_cell? w _ hx115_0)).trans hx115_0
      replace hx115_1 := (HB.out.cell (World.block_lt_of_cell? w _ hx115_1)).trans hx115_1
      replace hx115_2 := (HB.out.cell (World.block_lt_of_cell? w _ hx115_2)).trans hx115_2
      replace hx115_3 := (HB.out.cell (World.block_lt_of_cell? w _ hx115_3)).trans hx115_3
      replace p115 := eq_true p115
      replace q115 := eq_true q115
      go_wp2_with (first | ((with_reducible refine gate_dst (N := 7) rfl ?_); refine boxA (N := 7) (cs := #[.int .i64 0, .int .i64 0, .int .i64 0, .int .i64 0]) (t := 47) ?_; intro gb116 hg w25 hbox hb; have BK116 := Aside0.mk (hbox); have GE116 := bG HB hg; have NB109_116 := kN BK109 hg; have NB116_109 := kM BK109 hg; have NB110_116 := kN BK110 hg; have NB116_110 := kM BK110 hg; have NB111_116 := kN BK111 hg; have NB116_111 := kM BK111 hg; have NB114_116 := kN BK114 hg; have NB116_114 := kM BK114 hg; replace BK109 := kB BK109 hb; replace BK110 := kB BK110 hb; replace BK111 := kB BK111 hb; replace BK114 := kB BK114 hb; replace HB := bS HB hb; clear hb hbox hg; obtain ⟨hnb26, hnc26⟩ := nn NB116_109; obtain ⟨hnb27, hnc27⟩ := nn NB116_110; obtain ⟨hnb28, hnc28⟩ := nn NB116_111; obtain ⟨hnb29, hnc29⟩ := nn NB116_114; obtain ⟨hcz30_0, hcz30_1, hcz30_2, hcz30_3, hfz30_0, hfz30_1, hfz30_2, hfz30_3⟩ := cc4 BK116; obtain ⟨hnb31, hnc31⟩ := nn NB109_110; obtain ⟨hnb32, hnc32⟩ := nn NB109_111; obtain ⟨hnb33, hnc33⟩ := nn NB109_114; obtain ⟨hcz34_0, hcz34_1, hfz34_0, hfz34_1⟩ := cc2 BK109; obtain ⟨hnb35, hnc35⟩ := nn NB114_110; obtain ⟨hnb36, hnc36⟩ := nn NB114_111; obtain ⟨hcz37_0, hcz37_1, hcz37_2, hcz37_3, hfz37_0, hfz37_1, hfz37_2, hfz37_3⟩ := cc4 BK114) | ((with_reducible refine gate_callee (f := 75) rfl ?_); refine goesA (some 29) Tryz.func75 #[.agg #[(fnV a0_0), (fnV a0_1)], .agg #[.int .i64 x115000_1, .int .i64 x115001_1, .int .i64 x115002_1, .int .i64 x115003_1], .agg #[.int .i64 ((rd_T47 l1_4 x22_1).f0.f0), .int .i64 ((rd_T47 l1_4 x22_1).f0.f1), .int .i64 ((rd_T47 l1_4 x22_1).f1.f0), .int .i64 ((rd_T47 l1_4 x22_1).f1.f1)]] ?_; (with_reducible refine (z19_.calls k1 a0_0 a0_1 x115000_1 x115001_1 x115002_1 x115003_1 ((rd_T47 l1_4 x22_1).f0.f0) ((rd_T47 l1_4 x22_1).f0.f1) ((rd_T47 l1_4 x22_1).f1.f0) ((rd_T47 l1_4 x22_1).f1.f1) t117 t118 t119 t120 _ A24.out).mono ?_); rintro e w38 ⟨rfl, hb⟩; refine ⟨_, rfl, ?_⟩; have n0_ := Aside0.mk (blk_below (kF BK109 NB109_116) hb); have n1_ := Aside0.mk (blk_below (kF BK110 NB110_116) hb); have n2_ := Aside0.mk (blk_below (kF BK111 NB111_116) hb); have n3_ := Aside0.mk (blk_below (kF BK114 NB114_116) hb); have n4_ := Aside0.mk (blk_below (g := gb116) (o := .cells #[.int .i64 ((rd_T47 l1_4 x22_1).f0.f0), .int .i64 ((rd_T47 l1_4 x22_1).f0.f1), .int .i64 ((rd_T47 l1_4 x22_1).f1.f0), .int .i64 ((rd_T47 l1_4 x22_1).f1.f1)] 47 (0, 0)) (by (with_reducible repeat (first | refine blk_drewN ?_ _ | refine blk_drew ?_ | refine blk_alloc ?_ _)); refine blk_put (cs := #[.int .i64 ((rd_T47 l1_4 x22_1).f0.f0), .int .i64 ((rd_T47 l1_4 x22_1).f0.f1), .int .i64 ((rd_T47 l1_4 x22_1).f1.f0), .int .i64 0]) ?_ 3 _ rfl; (with_reducible repeat (first | refine blk_drewN ?_ _ | refine blk_drew ?_ | refine blk_alloc ?_ _)); refine blk_put (cs := #[.int .i64 ((rd_T47 l1_4 x22_1).f0.f0), .int .i64 ((rd_T47 l1_4 x22_1).f0.f1), .int .i64 0, .int .i64 0]) ?_ 2 _ rfl; (with_reducible repeat (first | refine blk_drewN ?_ _ | refine blk_drew ?_ | refine blk_alloc ?_ _)); refine blk_put (cs := #[.int .i64 ((rd_T47 l1_4 x22_1).f0.f0), .int .i64 0, .int .i64 0, .int .i64 0]) ?_ 1 _ rfl; (with_reducible repeat (first | refine blk_drewN ?_ _ | refine blk_drew ?_ | refine blk_alloc ?_ _)); refine blk_put (cs := #[.int .i64 0, .int .i64 0, .int .i64 0, .int .i64 0]) ?_ 0 _ rfl; (with_reducible repeat (first | refine blk_drewN ?_ _ | refine blk_drew ?_ | refine blk_alloc ?_ _)); exact BK116.out) hb); have n5_ := bS HB hb; clear BK109; clear BK110; clear BK111; clear BK114; clear BK116; clear HB; have BK109 := n0_; have BK110 := n1_; have BK111 := n2_; have BK114 := n3_; have BK116 := n4_; have HB := n5_; clear n0_ n1_ n2_ n3_ n4_ n5_; obtain ⟨hcz39_0, hcz39_1, hcz39_2, hcz39_3, hfz39_0, hfz39_1, hfz39_2, hfz39_3⟩ := cc4 BK114))
      go_roundg k1
      case measure => have := HK1.out; omega
      case rel => exact ⟨(wrap64 (x22_1 + 1)), (t117), (t118), (t119), (t120), eR, H', ⟨by have := HK1.out; omega⟩, ⟨by (with_reducible repeat (first | refine blk_drewN ?_ _ | refine blk_drew ?_ | refine blk_alloc ?_ _)); refine blk_far ?_ NB109_114.out _; (with_reducible repeat (first | refine blk_drewN ?_ _ | refine blk_drew ?_ | refine blk_alloc ?_ _)); refine blk_far ?_ NB109_114.out _; (with_reducible repeat (first | refine blk_drewN ?_ _ | refine blk_drew ?_ | refine blk_alloc ?_ _)); refine blk_far ?_ NB109_114.out _; (with_reducible repeat (first | refine blk_drewN ?_ _ | refine blk_drew ?_ | refine blk_alloc ?_ _)); refine blk_far ?_ NB109_114.out _; (with_reducible repeat (first | refine blk_drewN ?_ _ | refine blk_drew ?_ | refine blk_alloc ?_ _)); exact BK109.out⟩, ⟨by (with_reducible repeat (first | refine blk_drewN ?_ _ | refine blk_drew ?_ | refine blk_alloc ?_ _)); refine blk_far ?_ NB110_114.out _; (with_reducible repeat (first | refine blk_drewN ?_ _ | refine blk_drew ?_ | refine blk_alloc ?_ _)); refine blk_far ?_ NB110_114.out _; (with_reducible repeat (first | refine blk_drewN ?_ _ | refine blk_drew ?_ | refine blk_alloc ?_ _)); refine blk_far ?_ NB110_114.out _; (with_reducible repeat (first | refine blk_drewN ?_ _ | refine blk_drew ?_ | refine blk_alloc ?_ _)); refine blk_far ?_ NB110_114.out _; (with_reducible repeat (first | refine blk_drewN ?_ _ | refine blk_drew ?_ | refine blk_alloc ?_ _)); exact BK110.out⟩, ⟨by (with_reducible repeat (first | refine blk_drewN ?_ _ | refine blk_drew ?_ | refine blk_alloc ?_ _)); refine blk_far ?_ NB111_114.out _; (with_reducible repeat (first | refine blk_drewN ?_ _ | refine blk_drew ?_ | refine blk_alloc ?_ _)); refine blk_far ?_ NB111_114.out _; (with_reducible repeat (first | refine blk_drewN ?_ _ | refine blk_drew ?_ | refine blk_alloc ?_ _)); refine blk_far ?_ NB111_114.out _; (with_reducible repeat (first | refine blk_drewN ?_ _ | refine blk_drew ?_ | refine blk_alloc ?_ _)); refine blk_far ?_ NB111_114.out _; (with_reducible repeat (first | refine blk_drewN ?_ _ | refine blk_drew ?_ | refine blk_alloc ?_ _)); exact BK111.out⟩, ⟨by (with_reducible repeat (first | refine blk_drewN ?_ _ | refine blk_drew ?_ | refine blk_alloc ?_ _)); refine blk_put (cs := #[.int .i64 t117, .int .i64 t118, .int .i64 t119, .int .i64 x115003_1]) ?_ 3 _ rfl; (with_reducible repeat (first | refine blk_drewN ?_ _ | refine blk_drew ?_ | refine blk_alloc ?_ _)); refine blk_put (cs := #[.int .i64 t117, .int .i64 t118, .int .i64 x115002_1, .int .i64 x115003_1]) ?_ 2 _ rfl; (with_reducible repeat (first | refine blk_drewN ?_ _ | refine blk_drew ?_ | refine blk_alloc ?_ _)); refine blk_put (cs := #[.int .i64 t117, .int .i64 x115001_1, .int .i64 x115002_1, .int .i64 x115003_1]) ?_ 1 _ rfl; (with_reducible repeat (first | refine blk_drewN ?_ _ | refine blk_drew ?_ | refine blk_alloc ?_ _)); refine blk_put (cs := #[.int .i64 x115000_1, .int .i64 x115001_1, .int .i64 x115002_1, .int .i64 x115003_1]) ?_ 0 _ rfl; (with_reducible repeat (first | refine blk_drewN ?_ _ | refine blk_drew ?_ | refine blk_alloc ?_ _)); exact BK114.out⟩, ⟨bX HB⟩⟩
     ·rw [if_neg c23] at H
      exact absurd H (by simp)
    ·rw [if_neg c22] at H
     exact absurd H (by simp)
   ·rw [if_neg c21] at H
    have c21b0 : decide (x22_1 < (l1_4.length : Int)) = false := decide_eq_false c21
    clear c21
    simp only [Option.some.injEq, Prod.mk.injEq] at H
    obtain ⟨rfl, rfl, rfl, rfl⟩ := H
    obtain ⟨hnb40, hnc40⟩ := nn NB114_109
    obtain ⟨hnb41, hnc41⟩ := nn NB114_110
    obtain ⟨hnb42, hnc42⟩ := nn NB114_111
    obtain ⟨hcz43_0, hcz43_1, hcz43_2, hcz43_3, hfz43_0, hfz43_1, hfz43_2, hfz43_3⟩ := cc4 BK114
    obtain ⟨hnb44, hnc44⟩ := nn NB111_109
    obtain ⟨hnb45, hnc45⟩ := nn NB111_110
    obtain ⟨hcz46_0, hcz46_1, hcz46_2, hcz46_3, hfz46_0, hfz46_1, hfz46_2, hfz46_3⟩ := cc4 BK111
    go_wp2
    refine bodyPost_ret (results_cell_row rfl _ _ gb111 102 #[.int .i64 x115000_1, .int .i64 x115001_1, .int .i64 x115002_1, .int .i64 x115003_1] (0, 0) _ rfl (by (with_reducible repeat (first | refine blk_drewN ?_ _ | refine blk_drew ?_ | refine blk_alloc ?_ _)); refine blk_put (cs := #[.int .i64 x115000_1, .int .i64 x115001_1, .int .i64 x115002_1, .int .i64 0]) ?_ 3 _ rfl; (with_reducible repeat (first | refine blk_drewN ?_ _ | refine blk_drew ?_ | refine blk_alloc ?_ _)); refine blk_put (cs := #[.int .i64 x115000_1, .int .i64 x115001_1, .int .i64 0, .int .i64 0]) ?_ 2 _ rfl; (with_reducible repeat (first | refine blk_drewN ?_ _ | refine blk_drew ?_ | refine blk_alloc ?_ _)); refine blk_put (cs := #[.int .i64 x115000_1, .int .i64 0, .int .i64 0, .int .i64 0]) ?_ 1 _ rfl; (with_reducible repeat (first | refine blk_drewN ?_ _ | refine blk_drew ?_ | refine blk_alloc ?_ _)); refine blk_put (cs := #[.int .i64 0, .int .i64 0, .int .i64 0, .int .i64 0]) ?_ 0 _ rfl; (with_reducible repeat (first | refine blk_drewN ?_ _ | refine blk_drew ?_ | refine blk_alloc ?_ _)); exact BK111.out) Tryz.underlying102 rfl (by kernel_rfl)) rfl ?_
    exact ⟨eqA, bX HB⟩
def z29_.f  : Option (Int × Int) := some (74, 73)
set_option maxHeartbeats 8000000 in
set_option maxRecDepth 100000 in
theorem z29_.calls  (r1 : Int) (r2 : Int) (w : World) (h : z29_.f  = some (r1, r2)) :
  Calls Tryz.prog 49 #[] w fun e w' => e = .returned (.agg #[(fnV r1), (fnV r2)]) ∧ Below w.heap.size w w' := by
 have hu105 := Tryz.underlying105
 have HB := Aside0.mk (Below.refl w.heap.size w)
 have H : (some (74, 73)) = some (r1, r2) := h
 clear h
 simp only [Option.some.injEq, Prod.mk.injEq] at H
 obtain ⟨rfl, rfl⟩ := H
 go_enter Tryz.func49, Tryz.ntmps49
 go_wp2_with (first | ((with_reducible refine gate_dst (N := 0) rfl ?_); refine boxA (N := 0) (cs := #[.nilFunc, .nilFunc]) (t := 105) ?_; intro gb121 hg w1 hbox hb; have BK121 := Aside0.mk (hbox); have GE121 := bG HB hg; replace HB := bS HB hb; clear hb hbox hg; obtain ⟨hcz2_0, hcz2_1, hfz2_0, hfz2_1⟩ := cc2 BK121))
 refine bodyPost_ret (results_cell_row rfl _ _ gb121 105 #[(.func (.func 74) #[] #[]), (.func (.func 73) #[] #[])] (0, 0) _ rfl (kP BK121) Tryz.underlying105 rfl (by kernel_rfl)) rfl ?_
 exact ⟨eqA, bX HB⟩
def z24_.f (a0_0 : Int) (a0_1 : Int) (a0_2 : Int) (a0_3 : Int) : Option (Int × Int) := some (wrap64 ((wrap64 (a0_0 * a0_3)) + (wrap64 (a0_1 * a0_2))), wrap64 (a0_2 * a0_3))
set_option maxHeartbeats 8000000 in
set_option maxRecDepth 100000 in
theorem z24_.calls (a0_0 : Int) (a0_1 : Int) (a0_2 : Int) (a0_3 : Int) (r1 : Int) (r2 : Int) (w : World) (h : z24_.f a0_0 a0_1 a0_2 a0_3 = some (r1, r2)) :
  Calls Tryz.prog 76 #[.agg #[.int .i64 a0_0, .int .i64 a0_1, .int .i64 a0_2, .int .i64 a0_3]] w fun e w' => e = .returned (.tuple #[.int .i64 r1, .int .i64 r2]) ∧ Below w.heap.size w w' := by
 have hu102 := Tryz.underlying102
 have HB := Aside0.mk (Below.refl w.heap.size w)
 have H : (some (wrap64 ((wrap64 (a0_0 * a0_3)) + (wrap64 (a0_1 * a0_2))), wrap64 (a0_2 * a0_3))) = some (r1, r2) := h
 clear h
 simp only [Option.some.injEq, Prod.mk.injEq] at H
 obtain ⟨rfl, rfl⟩ := H
 go_enter Tryz.func76, Tryz.ntmps76
 go_wp2_with (first | ((with_reducible refine gate_dst (N := 1) rfl ?_); refine boxA (N := 1) (cs := #[.int .i64 a0_0, .int .i64 a0_1, .int .i64 a0_2, .int .i64 a0_3]) (t := 102) ?_; intro gb122 hg w2 hbox hb; have BK122 := Aside0.mk (hbox); have GE122 := bG HB hg; replace HB := bS HB hb; clear hb hbox hg; obtain ⟨hcz3_0, hcz3_1, hcz3_2, hcz3_3, hfz3_0, hfz3_1, hfz3_2, hfz3_3⟩ := cc4 BK122))
 repeat (go_quiet (first | ((with_reducible refine gate_dst (N := 1) rfl ?_); refine boxA (N := 1) (cs := #[.int .i64 a0_0, .int .i64 a0_1, .int .i64 a0_2, .int .i64 a0_3]) (t := 102) ?_; intro gb122 hg w2 hbox hb; have BK122 := Aside0.mk (hbox); have GE122 := bG HB hg; replace HB := bS HB hb; clear hb hbox hg; obtain ⟨hcz3_0, hcz3_1, hcz3_2, hcz3_3, hfz3_0, hfz3_1, hfz3_2, hfz3_3⟩ := cc4 BK122)); try go_wp2_with (first | ((with_reducible refine gate_dst (N := 1) rfl ?_); refine boxA (N := 1) (cs := #[.int .i64 a0_0, .int .i64 a0_1, .int .i64 a0_2, .int .i64 a0_3]) (t := 102) ?_; intro gb122 hg w2 hbox hb; have BK122 := Aside0.mk (hbox); have GE122 := bG HB hg; replace HB := bS HB hb; clear hb hbox hg; obtain ⟨hcz3_0, hcz3_1, hcz3_2, hcz3_3, hfz3_0, hfz3_1, hfz3_2, hfz3_3⟩ := cc4 BK122)))
 go_ret2
 exact ⟨eqA, bX HB⟩
def z53_.f (a0_0 : Int) (a0_1 : Int) (a0_2 : Int) (a0_3 : Int) : Option (Int) := (z24_.f a0_0 a0_1 a0_2 a0_3).bind fun bt124 => (if (wrap64 (71 * bt124.2)) = 0 then (none) else (some (mn 360 (wrap64 (Int.tdiv (wrap64 (4068 * bt124.1)) (wrap64 (71 * bt124.2)))))))
set_option maxHeartbeats 8000000 in
set_option maxRecDepth 100000 in
theorem z53_.calls (a0_0 : Int) (a0_1 : Int) (a0_2 : Int) (a0_3 : Int) (r : Int) (w : World) (h : z53_.f a0_0 a0_1 a0_2 a0_3 = some r) :
  Calls Tryz.prog 54 #[.agg #[.int .i64 a0_0, .int .i64 a0_1, .int .i64 a0_2, .int .i64 a0_3]] w fun e w' => e = .returned (.int .i64 r) ∧ Below w.heap.size w w' := by
 have hu102 := Tryz.underlying102
 have HB := Aside0.mk (Below.refl w.heap.size w)
 have H : ((z24_.f a0_0 a0_1 a0_2 a0_3).bind fun bt124 => (if (wrap64 (71 * bt124.2)) = 0 then (none) else (some (mn 360 (wrap64 (Int.tdiv (wrap64 (4068 * bt124.1)) (wrap64 (71 * bt124.2)))))))) = some r := h
 clear h
 replace H := bindA H
 obtain ⟨⟨t124, t125⟩, A2, H⟩ := H
 try dsimp only at H
 by_cases c3 : (wrap64 (71 * t125)) = 0
 ·rw [if_pos c3] at H
  exact absurd H (by simp)
 ·rw [if_neg c3] at H
  have c3b0 : ((wrap64 (71 * t125)) == 0) = false := beq_eq_false_iff_ne.mpr c3
  have c3b1 : ((wrap64 (71 * t125)) != 0) = true := bne_iff_ne.mpr c3
  obtain ⟨ji4, hji4⟩ : ∃ j_ : Int, (mn 360 (wrap64 (Int.tdiv (wrap64 (4068 * t124)) (wrap64 (71 * t125))))) = j_ := ⟨_, rfl⟩
  replace H : (some ji4) = some r := by first | (rw [hji4] at H; exact H) | (simp only [hji4] at H ⊢; exact H)
  (try rw [hji4] at A2)
  (try (have hji4h : ji4 ≤ 360 := by (rw [← hji4]; unfold mn; (repeat' split) <;> omega)))
  (try (have hji4g : ji4 ≤ 64 := by omega))
  have hji4_ : (if (wrap64 (Int.tdiv (wrap64 (4068 * t124)) (wrap64 (71 * t125)))) < 360 then (wrap64 (Int.tdiv (wrap64 (4068 * t124)) (wrap64 (71 * t125)))) else 360) = ji4 := hji4
  obtain rfl := Option.some.inj H
  go_enter Tryz.func54, Tryz.ntmps54
  go_wp2_with (first | ((with_reducible refine gate_dst (N := 1) rfl ?_); refine boxA (N := 1) (cs := #[.int .i64 a0_0, .int .i64 a0_1, .int .i64 a0_2, .int .i64 a0_3]) (t := 102) ?_; intro gb123 hg w5 hbox hb; have BK123 := Aside0.mk (hbox); have GE123 := bG HB hg; replace HB := bS HB hb; clear hb hbox hg; obtain ⟨hcz6_0, hcz6_1, hcz6_2, hcz6_3, hfz6_0, hfz6_1, hfz6_2, hfz6_3⟩ := cc4 BK123) | ((with_reducible refine gate_callee (f := 76) rfl ?_); refine goesA (some 7) Tryz.func76 #[.agg #[.int .i64 a0_0, .int .i64 a0_1, .int .i64 a0_2, .int .i64 a0_3]] ?_; (with_reducible refine (z24_.calls a0_0 a0_1 a0_2 a0_3 t124 t125 _ A2.out).mono ?_); rintro e w7 ⟨rfl, hb⟩; refine ⟨_, rfl, ?_⟩; replace BK123 := kB BK123 hb; replace HB := bS HB hb))
  go_ret
  exact ⟨by first | rfl | (simp [errW_none, errW_some] <;> rfl) | (simp only [← hji4]; first | rfl | (simp [errW_none, errW_some] <;> rfl)) | (simp [*, errW_none, errW_some] <;> rfl), bX HB⟩
end PRiv
end Go.Proofs.YtgdkmadcegleiaaGreatDoor
namespace Go.Proofs.YtgdkmadcegleiaaGreatDoor
namespace PRiv
open Sq X
attribute [local go_sem] run_store_func max2_int min2_int max_two min_two max_three min_three max_four min_four   -- for this text's walks alone
def z12_.f (k : Nat) (a0_0 : Int) (a0_1 : Int) (a0_2 : Int) (a0_3 : Int) (l0_4 : List (S47)) : Option (Int × Int) := (z28_.f).bind fun bt128 => ((z8_.f k bt128.1 bt128.2 a0_0 a0_1 a0_2 a0_3 l0_4).bind fun bt130 => ((z53_.f bt130.1 bt130.2.1 bt130.2.2.1 bt130.2.2.2).bind fun t134 => ((z29_.f).bind fun bt135 => ((z8_.f k bt135.1 bt135.2 a0_0 a0_1 a0_2 a0_3 l0_4).bind fun bt137 => ((z53_.f bt137.1 bt137.2.1 bt137.2.2.1 bt137.2.2.2).bind fun t141 => (some (t134, t141)))))))
def z12_.T1 : Bool × List (List Nat × List Nat) := (true, [([], []), ([], []), ([0, 1, 0], [0, 1]), ([2, 2], [2]), ([3], []), ([], []), ([4, 5, 4], [4, 5]), ([6, 6], [6]), ([3, 7], [3, 7]), ([8, 7, 0, 1, 2, 3, 4, 5, 6, 7, 8], [8])])
def z12_.B1 : List Nat := [0, 0, 3, 7, 15, 0, 63, 127, 255, 511]
theorem z12_.tab1 : rtab .any (opsOf Tryz.f26 1) = z12_.T1 := by kernel_rfl
theorem z12_.bits1 : waitsOk z12_.T1.2 z12_.B1 = true := by kernel_rfl
set_option maxHeartbeats 8000000 in
set_option maxRecDepth 100000 in
theorem z12_.calls (k : Nat) (a0_0 : Int) (a0_1 : Int) (a0_2 : Int) (a0_3 : Int) (A0_4 : Option Addr) (c0_4 : Nat) (l0_4 : List (S47)) (r1 : Int) (r2 : Int) (w : World) (hr0_4 : Kd.C k47 w A0_4 l0_4.length l0_4) (hc0_4 : l0_4.length ≤ c0_4) (h : z12_.f k a0_0 a0_1 a0_2 a0_3 l0_4 = some (r1, r2)) :
  Calls Tryz.prog 26 #[.agg #[.int .i64 a0_0, .int .i64 a0_1, .int .i64 a0_2, .int .i64 a0_3, .slice A0_4 l0_4.length c0_4]] w fun e w' => e = .returned (.agg #[.int .i64 r1, .int .i64 r2]) ∧ Below w.heap.size w w' := by
 have hu33 := Tryz.underlying33
 have hu30 := Tryz.underlying30
 have HR0_4 := Aside0.mk hr0_4
 have HC0_4 := Aside0.mk hc0_4
 clear hr0_4 hc0_4
 have HB := Aside0.mk (Below.refl w.heap.size w)
 have H : ((z28_.f).bind fun bt128 => ((z8_.f k bt128.1 bt128.2 a0_0 a0_1 a0_2 a0_3 l0_4).bind fun bt130 => ((z53_.f bt130.1 bt130.2.1 bt130.2.2.1 bt130.2.2.2).bind fun t134 => ((z29_.f).bind fun bt135 => ((z8_.f k bt135.1 bt135.2 a0_0 a0_1 a0_2 a0_3 l0_4).bind fun bt137 => ((z53_.f bt137.1 bt137.2.1 bt137.2.2.1 bt137.2.2.2).bind fun t141 => (some (t134, t141)))))))) = some (r1, r2) := h
 clear h
 replace H := bindA H
 obtain ⟨⟨t128, t129⟩, A2, H⟩ := H
 try dsimp only at H
 replace H := bindA H
 obtain ⟨⟨t130, t131, t132, t133⟩, A3, H⟩ := H
 try dsimp only at H
 replace H := bindA H
 obtain ⟨t134, A4, H⟩ := H
 try dsimp only at H
 replace H := bindA H
 obtain ⟨⟨t135, t136⟩, A5, H⟩ := H
 try dsimp only at H
 replace H := bindA H
 obtain ⟨⟨t137, t138, t139, t140⟩, A6, H⟩ := H
 try dsimp only at H
 replace H := bindA H
 obtain ⟨t141, A7, H⟩ := H
 try dsimp only at H
 simp only [Option.some.injEq, Prod.mk.injEq] at H
 obtain ⟨rfl, rfl⟩ := H
 go_enter Tryz.func26, Tryz.ntmps26
 try go_wp2_with (first | ((with_reducible refine gate_dst (N := 1) rfl ?_); refine boxA (N := 1) (cs := #[.int .i64 a0_0, .int .i64 a0_1, .int .i64 a0_2, .int .i64 a0_3, .slice A0_4 l0_4.length c0_4]) (t := 33) ?_; intro gb126 hg w8 hbox hb; have BK126 := Aside0.mk (hbox); have GE126 := bG HB hg; replace HB := bS HB hb; clear hb hbox hg) | ((with_reducible refine gate_dst (N := 2) rfl ?_); refine boxA (N := 2) (cs := #[.int .i64 0, .int .i64 0]) (t := 30) ?_; intro gb127 hg w9 hbox hb; have BK127 := Aside0.mk (hbox); have GE127 := bG HB hg; have NB126_127 := kN BK126 hg; have NB127_126 := kM BK126 hg; replace BK126 := kB BK126 hb; replace HB := bS HB hb; clear hb hbox hg))
 replace BK126 := Aside0.mk (blk_drew BK126.out)
 replace BK127 := Aside0.mk (blk_drew BK127.out)
 replace HB := Aside0.mk (below_drew1 HB.out)
 refine start_ (n := 10) (S := fun w' => w'.cell? ⟨gb126, 0, none⟩ = some (.int .i64 a0_0) ∧ w'.cell? ⟨gb126, 1, none⟩ = some (.int .i64 a0_1) ∧ w'.cell? ⟨gb126, 2, none⟩ = some (.int .i64 a0_2) ∧ w'.cell? ⟨gb126, 3, none⟩ = some (.int .i64 a0_3) ∧ w'.cell? ⟨gb126, 4, none⟩ = some (.slice A0_4 l0_4.length c0_4)) (ds := []) #[false, false, false, false, false, false, false, false, false, false] (by kernel_rfl) rfl rfl ⟨bc BK126 0, bc BK126 1, bc BK126 2, bc BK126 3, bc BK126 4⟩ (fun hHeld => ?_); refine with_tabW z12_.tab1 z12_.bits1 (fun HT_ HW_ => ?_)
 generalize w9.drew = w10 at BK126 BK127 HB hHeld ⊢
 refine tA 1 4 HT_ HW_ hHeld ?_
 refine tA 5 8 HT_ HW_ hHeld ?_
 refine oneA (i := 0) (N := some 3) HT_ (fun K hK => ?_)
 refine goesB Tryz.func46 #[] ?_
 with_reducible refine (z28_.calls  t128 t129 _ A2.out).mono ?_
 rintro e w11 ⟨rfl, hb⟩
 refine ⟨_, rfl, ?_⟩
 replace BK126 := kB BK126 hb
 replace BK127 := kB BK127 hb
 replace HB := bS HB hb
 refine hK.out _ _ ⟨bc BK126 0, bc BK126 1, bc BK126 2, bc BK126 3, bc BK126 4⟩ (fun hHeld => ?_)
 clear hK K
 refine normA (N := some 3) ?_
 refine oneA (i := 2) (N := some 5) HT_ (fun K hK => ?_)
 refine goesB Tryz.func47 #[.agg #[(fnV t128), (fnV t129)], .agg #[.int .i64 a0_0, .int .i64 a0_1, .int .i64 a0_2, .int .i64 a0_3, .slice A0_4 l0_4.length c0_4]] ?_
 with_reducible refine (z8_.calls k t128 t129 a0_0 a0_1 a0_2 a0_3 _ _ l0_4 t130 t131 t132 t133 _ ?side1 ?side2 A3.out).mono ?_
 (case side1 => exact sX (Kd.C_below HR0_4.out HB.out))
 (case side2 => exact HC0_4.out)
 rintro e w12 ⟨rfl, hb⟩
 refine ⟨_, rfl, ?_⟩
 replace BK126 := kB BK126 hb
 replace BK127 := kB BK127 hb
 replace HB := bS HB hb
 refine hK.out _ _ ⟨bc BK126 0, bc BK126 1, bc BK126 2, bc BK126 3, bc BK126 4⟩ (fun hHeld => ?_)
 clear hK K
 refine normA (N := some 5) ?_
 refine oneA (i := 3) (N := some 6) HT_ (fun K hK => ?_)
 refine goesB Tryz.func54 #[.agg #[.int .i64 t130, .int .i64 t131, .int .i64 t132, .int .i64 t133]] ?_
 with_reducible refine (z53_.calls t130 t131 t132 t133 t134 _ A4.out).mono ?_
 rintro e w13 ⟨rfl, hb⟩
 refine ⟨_, rfl, ?_⟩
 replace BK126 := kB BK126 hb
 replace BK127 := kB BK127 hb
 replace HB := bS HB hb
 refine hK.out _ _ ⟨bc BK126 0, bc BK126 1, bc BK126 2, bc BK126 3, bc BK126 4⟩ (fun hHeld => ?_)
 clear hK K
 refine normA (N := some 6) ?_
 refine oneA (i := 4) (N := some 7) HT_ (fun K hK => ?_)
 refine goesB Tryz.func49 #[] ?_
 with_reducible refine (z29_.calls  t135 t136 _ A5.out).mono ?_
 rintro e w14 ⟨rfl, hb⟩
 refine ⟨_, rfl, ?_⟩
 replace BK126 := kB BK126 hb
 replace BK127 := kB BK127 hb
 replace HB := bS HB hb
 refine hK.out _ _ ⟨bc BK126 0, bc BK126 1, bc BK126 2, bc BK126 3, bc BK126 4⟩ (fun hHeld => ?_)
 clear hK K
 refine normA (N := some 7) ?_
 refine oneA (i := 6) (N := some 9) HT_ (fun K hK => ?_)
 refine goesB Tryz.func47 #[.agg #[(fnV t135), (fnV t136)], .agg #[.int .i64 a0_0, .int .i64 a0_1, .int .i64 a0_2, .int .i64 a0_3, .slice A0_4 l0_4.length c0_4]] ?_
 with_reducible refine (z8_.calls k t135 t136 a0_0 a0_1 a0_2 a0_3 _ _ l0_4 t137 t138 t139 t140 _ ?side1 ?side2 A6.out).mono ?_
 (case side1 => exact sX (Kd.C_below HR0_4.out HB.out))
 (case side2 => exact HC0_4.out)
 rintro e w15 ⟨rfl, hb⟩
 refine ⟨_, rfl, ?_⟩
 replace BK126 := kB BK126 hb
 replace BK127 := kB BK127 hb
 replace HB := bS HB hb
 refine hK.out _ _ ⟨bc BK126 0, bc BK126 1, bc BK126 2, bc BK126 3, bc BK126 4⟩ (fun hHeld => ?_)
 clear hK K
 refine normA (N := some 9) ?_
 refine oneA (i := 7) (N := some 10) HT_ (fun K hK => ?_)
 refine goesB Tryz.func54 #[.agg #[.int .i64 t137, .int .i64 t138, .int .i64 t139, .int .i64 t140]] ?_
 with_reducible refine (z53_.calls t137 t138 t139 t140 t141 _ A7.out).mono ?_
 rintro e w16 ⟨rfl, hb⟩
 refine ⟨_, rfl, ?_⟩
 replace BK126 := kB BK126 hb
 replace BK127 := kB BK127 hb
 replace HB := bS HB hb
 refine hK.out _ _ ⟨bc BK126 0, bc BK126 1, bc BK126 2, bc BK126 3, bc BK126 4⟩ (fun hHeld => ?_)
 clear hK K
 refine normA (N := some 10) ?_
 refine pA 8 11 HT_ ?_
 refine one_ (i := 9) (N := none) #[true, true, true, true, true, true, true, true, true, true] rfl rfl (one_of HT_.out (by kernel_rfl)) (by decide) (fun K hK => ?_)
 have hs17 : w16.cell? ⟨gb127, 0, none⟩ = some (.int .i64 0) := bc BK127 0
 have hfs17 := blk_frozen BK127.out 0
 have hns17_0 := NB126_127.out
 have hms17_0 := NB127_126.out
 have hs18 : w16.cell? ⟨gb127, 1, none⟩ = some (.int .i64 0) := bc BK127 1
 have hfs18 := blk_frozen BK127.out 1
 have hns18_0 := NB126_127.out
 have hms18_0 := NB127_126.out
 refine skip_ (w1 := ?_) (by rfl) rfl ?_ ?_
 rotate_left
 ·go_simp
  rfl
 refine hK.out _ _ ⟨((cell_far (p := ⟨gb127, _, none⟩) NB126_127.out _).trans (((cell_far (p := ⟨gb127, _, none⟩) NB126_127.out _).trans (hHeld.1)))), ((cell_far (p := ⟨gb127, _, none⟩) NB126_127.out _).trans (((cell_far (p := ⟨gb127, _, none⟩) NB126_127.out _).trans (hHeld.2.1)))), ((cell_far (p := ⟨gb127, _, none⟩) NB126_127.out _).trans (((cell_far (p := ⟨gb127, _, none⟩) NB126_127.out _).trans (hHeld.2.2.1)))), ((cell_far (p := ⟨gb127, _, none⟩) NB126_127.out _).trans (((cell_far (p := ⟨gb127, _, none⟩) NB126_127.out _).trans (hHeld.2.2.2.1)))), ((cell_far (p := ⟨gb127, _, none⟩) NB126_127.out _).trans (((cell_far (p := ⟨gb127, _, none⟩) NB126_127.out _).trans (hHeld.2.2.2.2))))⟩ (fun hHeld => ?_)
 clear hK K
 refine done_ (done_of HT_.out (by kernel_rfl)) ?_
 try go_wp2
 refine bodyPost_ret (results_cell_row rfl _ _ gb127 30 #[.int .i64 t134, .int .i64 t141] (0, 0) _ rfl (kP BK127) Tryz.underlying30 rfl (by kernel_rfl)) rfl ?_
 exact ⟨eqA, bX HB⟩
end PRiv
end Go.Proofs.YtgdkmadcegleiaaGreatDoor
namespace Go.Proofs.YtgdkmadcegleiaaGreatDoor
namespace PRiv
open X
attribute [local go_sem] max2_int min2_int max_two min_two max_three min_three max_four min_four   -- for this text's walks alone
end PRiv
end Go.Proofs.YtgdkmadcegleiaaGreatDoor
namespace Go.Proofs.YtgdkmadcegleiaaGreatDoor
namespace Y
open X
theorem span_f0 (a b : Int) (w : World) : (Instr.field 30 (.agg #[.int .i64 a, .int .i64 b]) 0).run Tryz.prog w = .ok (.int .i64 a) w := by kernel_rfl
theorem span_f1 (a b : Int) (w : World) : (Instr.field 30 (.agg #[.int .i64 a, .int .i64 b]) 1).run Tryz.prog w = .ok (.int .i64 b) w := by kernel_rfl
def z12_.f (a0_0 a0_1 a0_2 a0_3 : Int) (l0_4 : List S47) : Option (Int × Int) := PRiv.z12_.f (l0_4.length + 10) a0_0 a0_1 a0_2 a0_3 l0_4
theorem z12_.calls (a0_0 : Int) (a0_1 : Int) (a0_2 : Int) (a0_3 : Int) (A0_4 : Option Addr) (c0_4 : Nat) (l0_4 : List S47) (r1 : Int) (r2 : Int) (w : World) (hr0_4 : Kd.C k47 w A0_4 l0_4.length l0_4) (hc0_4 : l0_4.length ≤ c0_4) (h : z12_.f a0_0 a0_1 a0_2 a0_3 l0_4 = some (r1, r2)) :
    Calls Tryz.prog 26 #[.agg #[.int .i64 a0_0, .int .i64 a0_1, .int .i64 a0_2, .int .i64 a0_3, .slice A0_4 l0_4.length c0_4]] w fun e w' => e = .returned (.agg #[.int .i64 r1, .int .i64 r2]) ∧ Below w.heap.size w w' :=
  PRiv.z12_.calls _ a0_0 a0_1 a0_2 a0_3 A0_4 c0_4 l0_4 r1 r2 w hr0_4 hc0_4 h
def z5_.f (a0_0 a0_1 a0_2 a0_3 : Int) (l0_4 : List S47) : Option Int := PRck.z5_.f 10 a0_0 a0_1 a0_2 a0_3 l0_4
theorem z5_.calls (a0_0 : Int) (a0_1 : Int) (a0_2 : Int) (a0_3 : Int) (A0_4 : Option Addr) (c0_4 : Nat) (l0_4 : List S47) (r : Int) (w : World) (hr0_4 : Kd.C k47 w A0_4 l0_4.length l0_4) (hc0_4 : l0_4.length ≤ c0_4) (h : z5_.f a0_0 a0_1 a0_2 a0_3 l0_4 = some r) :
    Calls Tryz.prog 24 #[.agg #[.int .i64 a0_0, .int .i64 a0_1, .int .i64 a0_2, .int .i64 a0_3, .slice A0_4 l0_4.length c0_4]] w fun e w' => e = .returned (.int .i64 r) ∧ Below w.heap.size w w' :=
  PRck.z5_.calls _ a0_0 a0_1 a0_2 a0_3 A0_4 c0_4 l0_4 r w hr0_4 hc0_4 h
abbrev z31_.f := PRvs.z31_.f
theorem z31_.calls : type_of% @PRvs.z31_.calls := @PRvs.z31_.calls
abbrev z22_.f := z50_.f
theorem z22_.calls : type_of% @z50_.calls := @z50_.calls
end Y
end Go.Proofs.YtgdkmadcegleiaaGreatDoor
namespace Go.Proofs.YtgdkmadcegleiaaGreatDoor
namespace PRep
open X
attribute [local go_sem] max2_int min2_int max_two min_two max_three min_three max_four min_four   -- for this text's walks alone
def errW : Option Int → Value
  | none => .nilIface
  | some c => .iface 0 (.int .i64 c)
theorem errW_none : errW none = .nilIface := rfl
theorem errW_some (c : Int) : errW (some c) = .iface 0 (.int .i64 c) := rfl
end PRep
end Go.Proofs.YtgdkmadcegleiaaGreatDoor
namespace Go.Proofs.YtgdkmadcegleiaaGreatDoor
namespace PRep
open Sq X
attribute [local go_sem] max2_int min2_int max_two min_two max_three min_three max_four min_four   -- for this text's walks alone
def bits_Mul32.f (a0 : Int) (a1 : Int) : Option (Int × Int) := some (((IntKind.u64.wrap ((IntKind.u64.wrap (a0)) * (IntKind.u64.wrap (a1)))) / 4294967296) % 4294967296, (IntKind.u64.wrap ((IntKind.u64.wrap (a0)) * (IntKind.u64.wrap (a1)))) % 4294967296)
def bits_Mul64.f (a0 : Int) (a1 : Int) : Option (Int × Int) := some (IntKind.u64.wrap ((IntKind.u64.wrap ((IntKind.u64.wrap ((a0 / 4294967296) * (a1 / 4294967296))) + ((IntKind.u64.wrap ((IntKind.u64.wrap ((a0 / 4294967296) * (Go.bits .and .u64 a1 4294967295))) + ((IntKind.u64.wrap ((Go.bits .and .u64 a0 4294967295) * (Go.bits .and .u64 a1 4294967295))) / 4294967296))) / 4294967296))) + ((IntKind.u64.wrap ((Go.bits .and .u64 (IntKind.u64.wrap ((IntKind.u64.wrap ((a0 / 4294967296) * (Go.bits .and .u64 a1 4294967295))) + ((IntKind.u64.wrap ((Go.bits .and .u64 a0 4294967295) * (Go.bits .and .u64 a1 4294967295))) / 4294967296))) 4294967295) + (IntKind.u64.wrap ((Go.bits .and .u64 a0 4294967295) * (a1 / 4294967296))))) / 4294967296)), IntKind.u64.wrap (a0 * a1))
set_option maxHeartbeats 8000000 in
set_option maxRecDepth 100000 in
theorem bits_Mul64.calls (a0 : Int) (a1 : Int) (r1 : Int) (r2 : Int) (w : World) (h : bits_Mul64.f a0 a1 = some (r1, r2)) :
  Calls Tryz.prog 81 #[.int .u64 a0, .int .u64 a1] w fun e w' => e = .returned (.tuple #[.int .u64 r1, .int .u64 r2]) ∧ Drawn0 w w' := by
 have H : (some (IntKind.u64.wrap ((IntKind.u64.wrap ((IntKind.u64.wrap ((a0 / 4294967296) * (a1 / 4294967296))) + ((IntKind.u64.wrap ((IntKind.u64.wrap ((a0 / 4294967296) * (Go.bits .and .u64 a1 4294967295))) + ((IntKind.u64.wrap ((Go.bits .and .u64 a0 4294967295) * (Go.bits .and .u64 a1 4294967295))) / 4294967296))) / 4294967296))) + ((IntKind.u64.wrap ((Go.bits .and .u64 (IntKind.u64.wrap ((IntKind.u64.wrap ((a0 / 4294967296) * (Go.bits .and .u64 a1 4294967295))) + ((IntKind.u64.wrap ((Go.bits .and .u64 a0 4294967295) * (Go.bits .and .u64 a1 4294967295))) / 4294967296))) 4294967295) + (IntKind.u64.wrap ((Go.bits .and .u64 a0 4294967295) * (a1 / 4294967296))))) / 4294967296)), IntKind.u64.wrap (a0 * a1))) = some (r1, r2) := h
 clear h
 simp only [Option.some.injEq, Prod.mk.injEq] at H
 obtain ⟨rfl, rfl⟩ := H
 go_enter Tryz.func81, Tryz.ntmps81
 go_wp2
 go_ret2
 exact ⟨by first | rfl | (simp; done) | (simp [*]; done), by repeat (first | exact Drawn0.refl _ | apply Drawn0.step)⟩
def bits_Mul.f (a0 : Int) (a1 : Int) : Option (Int × Int) := (bits_Mul64.f a0 a1).bind fun bt101 => (some (bt101.1, bt101.2))
set_option maxHeartbeats 8000000 in
set_option maxRecDepth 100000 in
theorem bits_Mul.calls (a0 : Int) (a1 : Int) (r1 : Int) (r2 : Int) (w : World) (h : bits_Mul.f a0 a1 = some (r1, r2)) :
  Calls Tryz.prog 55 #[.int .u64 a0, .int .u64 a1] w fun e w' => e = .returned (.tuple #[.int .u64 r1, .int .u64 r2]) ∧ Drawn0 w w' := by
 have H : ((bits_Mul64.f a0 a1).bind fun bt101 => (some (bt101.1, bt101.2))) = some (r1, r2) := h
 clear h
 replace H := bindA H
 obtain ⟨⟨t101, t102⟩, A3, H⟩ := H
 try dsimp only at H
 simp only [Option.some.injEq, Prod.mk.injEq] at H
 obtain ⟨rfl, rfl⟩ := H
 go_enter Tryz.func55, Tryz.ntmps55
 go_wp2_with (first | ((with_reducible refine gate_callee (f := 81) rfl ?_); refine goesA (some 25) Tryz.func81 #[.int .u64 a0, .int .u64 a1] ?_; (with_reducible refine (bits_Mul64.calls a0 a1 t101 t102 _ A3.out).mono ?_); rintro e w' ⟨rfl, ⟨nd, rfl⟩⟩; refine ⟨_, rfl, ?_⟩))
 go_ret2
 exact ⟨by first | rfl | (simp; done) | (simp [*]; done), by repeat (first | exact Drawn0.refl _ | apply Drawn0.step)⟩
end PRep
end Go.Proofs.YtgdkmadcegleiaaGreatDoor
namespace Go.Proofs.YtgdkmadcegleiaaGreatDoor
namespace PRep
open X
attribute [local go_sem] max2_int min2_int max_two min_two max_three min_three max_four min_four   -- for this text's walks alone
end PRep
end Go.Proofs.YtgdkmadcegleiaaGreatDoor
namespace Go.Proofs.YtgdkmadcegleiaaGreatDoor
namespace X
open PRep
section
variable {P : Program} {ops : Array Oper} {rest : List Oper} {o : Oper} {a : Act} {Q : Exit → Act → World → Prop}
theorem run_copy_rowz (w : World) (dT sT ty elem : TypeId) (g p dLen dCap : Nat) (ad : Addr) (sLen sCap z : Nat) (cur : Array Value) (t : TypeId) (cs : List Value)
    (hu : P.underlying dT = some (.slice elem)) (hs : (P.info? elem).map (·.size) = some z)
    (hg : w.heap[g]? = some (.cells cur t (0, 0))) (hn : cs.length = Nat.min sLen dLen * z)
    (hsrc : ∀ j v, cs[j]? = some v → w.cell? (ad.add j) = some v) (hfit : p + cs.length ≤ cur.size) (h1 : ∀ v ∈ cs, v.oneCell' = true) :
    (Builtin.copy_ #[dT, sT] ty #[.slice (some ⟨g, p, none⟩) dLen dCap, .slice (some ad) sLen sCap]).run P w =
      .ok (goInt (Nat.min sLen dLen)) (w.setRow g (cur.toList.take p ++ cs ++ cur.toList.drop (p + cs.length)).toArray) := by
  have hl := run_loadCells_list (P := P) w ad cs hsrc
  have hst := run_storeCells_at P g p t cs 0 cur w hg (by simpa using hfit) h1
  cases hq : P.info? elem with
  | none => simp [hq] at hs
  | some i =>
    have hi : i.size = z := by simpa [hq] using hs
    simp [Builtin.copy_, run_underlying hu, Builtin.lenOf, Builtin.firstCells, sizeOf, typeInfo, hq, hi, ← hn, hl, hst]
end
def enc4 (x : S47) : List Value := [.int .i64 x.f0.f0, .int .i64 x.f0.f1, .int .i64 x.f1.f0, .int .i64 x.f1.f1]
def four (x : S47) (m : Nat) : List Value := (List.replicate m (enc4 x)).flatten
theorem four_length (x : S47) (m : Nat) : (four x m).length = m * 4 := by
  induction m with
  | zero => rfl
  | succ m ih => unfold four at *; rw [List.replicate_succ, List.flatten_cons, List.length_append, ih]; simp only [enc4, List.length_cons, List.length_nil]; omega
theorem four_add (x : S47) (m k : Nat) : four x (m + k) = four x m ++ four x k := by
  unfold four; rw [← List.flatten_append, List.replicate_append_replicate]
theorem four_one (x : S47) (m : Nat) : ∀ v ∈ four x m, v.oneCell' = true := by
  intro v hv
  obtain ⟨l, hl, hv⟩ := List.mem_flatten.1 hv
  obtain ⟨_, rfl⟩ := List.mem_replicate.1 hl
  simp only [enc4, List.mem_cons, List.not_mem_nil, or_false] at hv
  rcases hv with rfl | rfl | rfl | rfl <;> rfl
theorem four_reps (w : World) (base : Nat) (ok : Nat → Prop) (x : S47) (m : Nat) : Reps (k47.M w base ok) 4 (List.replicate m x) (four x m) := by
  induction m with
  | zero => exact Reps.none _ _
  | succ m ih =>
    rw [List.replicate_succ', four_add x m 1]
    exact Reps.snoc ih (show k47.M w base ok x (four x 1) from k47_mkM w base ok x) rfl
structure Rep4 (x : S47) (w : World) (g N m : Nat) (wr : World) : Prop where
  row : ∃ cur : Array Value, wr.heap[g]? = some (.cells cur 47 (0, 0)) ∧ cur.size = N * 4 ∧ cur.toList.take (m * 4) = four x m
  le : m ≤ N
  pos : 1 ≤ m ∨ N = 0
  base : w.heap.size ≤ g
  below : Below w.heap.size w wr
theorem Rep4.src {x : S47} {w wr : World} {g N m : Nat} (h : Rep4 x w g N m wr) (k : Nat) (hk : k ≤ m) : ∀ j v, (four x k)[j]? = some v → wr.cell? ((⟨g, 0, none⟩ : Addr).add j) = some v := by
  obtain ⟨cur, hh, hs, ht⟩ := h.row
  intro j v hj
  have hjl : j < k * 4 := by
    have := (List.getElem?_eq_some_iff.1 hj).1
    rwa [four_length] at this
  have e : (⟨g, 0, none⟩ : Addr).add j = ⟨g, j, none⟩ := by unfold Addr.add; split <;> simp_all
  rw [e]
  have h2 : (four x m)[j]? = some v := by
    obtain ⟨q, rfl⟩ := Nat.exists_eq_add_of_le hk
    rw [four_add, List.getElem?_append_left (by rw [four_length]; exact hjl)]
    exact hj
  rw [← ht, List.getElem?_take_of_lt (by omega)] at h2
  simp only [World.cell?, hh]
  rw [← Array.getElem?_toList]
  exact h2
theorem Rep4.put {x : S47} {w wr : World} {g N m : Nat} {cur : Array Value} (hh : wr.heap[g]? = some (.cells cur 47 (0, 0))) (hs : cur.size = N * 4) (ht : cur.toList.take (m * 4) = four x m) (hb : w.heap.size ≤ g) (hbe : Below w.heap.size w wr) (k : Nat) (hk : m + k ≤ N) (hp : 1 ≤ m + k ∨ N = 0) :
    Rep4 x w g N (m + k) (wr.setRow g (cur.toList.take (m * 4) ++ four x k ++ cur.toList.drop (m * 4 + (four x k).length)).toArray) where
  row := by
    refine ⟨_, setRow_heap wr g cur _ _ _ hh, ?_, ?_⟩
    · simp only [List.size_toArray, List.length_append, List.length_take, List.length_drop, four_length, Array.length_toList]; omega
    · rw [ht, ← four_add]
      have : (four x (m + k)).length = (m + k) * 4 := four_length _ _
      rw [← this, List.take_left']
      rfl
  le := hk
  pos := hp
  base := hb
  below := below_setRow hbe hb _
theorem mul_one (n : Nat) (h : n < 102) : bits_Mul.f 1 (n : Int) = some (0, (n : Int)) := by
  have key : ∀ m : Nat, m < 102 → bits_Mul.f 1 (m : Int) = some (0, (m : Int)) := by decide +kernel
  exact key n h
theorem src_one {x : S47} {W : World} {ad : Addr} (h : Kd.C k47 W (some ad) 1 [x]) (k : Nat) (hk : k ≤ 1) : ∀ j v, (four x k)[j]? = some v → W.cell? (ad.add j) = some v := by
  obtain ⟨ad', c, e, _, hK, hcell⟩ := Kd.C_get h z47 0 (Int.le_refl _) (by simp)
  obtain rfl := Option.some.inj e
  obtain rfl := k47_open hK
  intro j v hj
  have h2 : (enc4 x)[j]? = some v := by
    have h1 : four x 1 = enc4 x := by simp [four]
    obtain rfl | rfl : k = 0 ∨ k = 1 := by omega
    · exact absurd hj (by simp [four])
    · rwa [h1] at hj
  have h3 := hcell j v h2
  simpa using h3
theorem Rep4.first {x : S47} {w W : World} {g n : Nat} {z : Array Value} (hb : Below w.heap.size w W) (hg : g = W.heap.size) (hl : w.heap.size ≤ g) :
    Rep4 x w g n (0 + min 1 n) ((W.alloc (.cells (madeCells z (n * 4)) 47)).setRow g ((madeCells z (n * 4)).toList.take 0 ++ four x (min 1 n) ++ (madeCells z (n * 4)).toList.drop (0 + (four x (min 1 n)).length)).toArray) := by
  have := Rep4.put (x := x) (w := w) (m := 0) (N := n) (one_blk W (.cells (madeCells z (n * 4)) 47 (0, 0)) hg) (size_madeCells _ _) (by simp [four]) hl (below_alloc hb _) (min 1 n) (by omega) (by omega)
  simpa using this
theorem hel : Tryz.prog.elem 31 = 47 := by kernel_rfl
theorem info4 : (Tryz.prog.info? 47).map (·.size) = some 4 := by kernel_rfl
set_option maxHeartbeats 4000000 in
set_option maxRecDepth 8000 in
theorem Repeat_calls {A : Option Addr} {c n : Nat} {x : S47} {w : World} (hr : Kd.C k47 w A 1 [x]) (_hc : 1 ≤ c) (hn : n < 102) :
    Calls Tryz.prog 27 #[.slice A 1 c, .int .i64 (n : Int)] w fun e w' => ∃ v0_ : Value, e = .returned v0_ ∧ Kd.R k47 47 w' w.heap.size (fun _ => True) v0_ (List.replicate n x) ∧ Below w.heap.size w w' := by
  obtain ⟨ad, c1, rfl, hl1, hK, hcell⟩ := Kd.C_get hr z47 0 (Int.le_refl _) (by simp)
  have HR := Aside0.mk hr
  have HM := Aside0.mk (mul_one n hn)
  have w1 : IntKind.u64.wrap (n : Int) = n := by rw [IntKind.wrap_u64]; omega
  have w2 : IntKind.i64.wrap (n : Int) = n := by rw [IntKind.wrap_i64]; omega
  have n1 : ¬ ((n : Int) < 0) := by omega
  have n2 : ¬ (9223372036854775807 < (n : Int)) := by omega
  have hmake : ∀ W : World, (Instr.makeSlice 31 (.int .i64 (n : Int)) (.int .i64 (n : Int))).run Tryz.prog W = .ok (.slice (some ⟨W.heap.size, 0, none⟩) n n) (W.alloc (.cells (madeCells #[.int .i64 0, .int .i64 0, .int .i64 0, .int .i64 0] (n * 4)) 47)) := by
    intro W
    obtain ⟨i, hi, hz⟩ := Option.map_eq_some_iff.1 info_gap
    simp only [Prod.mk.injEq] at hz
    obtain ⟨hz, hs, hb⟩ := hz
    have := run_make (P := Tryz.prog) W 31 47 i _ Tryz.underlying31 hi hz .i64 .i64 n n (by omega) (Int.le_refl _) (by rw [hb]; omega) (by omega)
    rw [hs] at this
    exact this
  have HX : Aside0 (enc4 x = enc4 x) := ⟨rfl⟩
  clear hr hK hcell hl1 hn
  go_enter Tryz.func27, Tryz.ntmps27
  go_wp2_with (first
    | (go_at_call 55; refine (bits_Mul.calls 1 (n : Int) 0 (n : Int) _ HM.out).mono ?_; rintro e w' ⟨rfl, ⟨nd, rfl⟩⟩))
  (rw [run_copy_rowz (P := Tryz.prog) _ 31 31 _ 47 w.heap.size 0 n n ad 1 c 4 _ _ (four x (min 1 n)) Tryz.underlying31 info4 (one_blk (w.drewN nd) _ rfl) (by rw [four_length]) (src_one (Kd.C_alloc (Kd.C_drewN HR.out _) _) _ (by omega)) (by rw [four_length, size_madeCells]; omega) (four_one _ _)]; have HI := Aside0.mk (Rep4.first (x := x) (g := w.heap.size) (n := n) (z := #[.int .i64 0, .int .i64 0, .int .i64 0, .int .i64 0]) (pw_below_drewN (Below.refl w.heap.size w) nd) rfl (Nat.le_refl _)); generalize World.setRow _ _ _ = wr0 at HI ⊢)
  go_wp2
  go_loopg [8] n (fun gg v8 wr => ∃ m : Nat, v8 = .int .i64 m ∧ n - m ≤ gg ∧ Aside0 (Rep4 x w w.heap.size n m wr))
  case atStart => exact ⟨0 + min 1 n, by simp, by omega, HI⟩
  case round =>
    obtain ⟨m, rfl, hgg, HR4⟩ := hrel
    by_cases hlt : m < n
    · have hltz : (m : Int) < (n : Int) := by omega
      have h1m : 1 ≤ m := by have := HR4.out.pos; omega
      have hfrom : ∀ W : World, (Instr.slice 31 (.slice (some ⟨w.heap.size, 0, none⟩) n n) (some (.int .i64 (m : Int))) none none).run Tryz.prog W = .ok (.slice (some ⟨w.heap.size, m * 4, none⟩) (n - m) (n - m)) W := by
        intro W
        have h := run_slice_l (P := Tryz.prog) (w := W) 31 (some ⟨w.heap.size, 0, none⟩) n n Tryz.underlying31 .i64 (m : Int) (by omega) (by omega)
        obtain ⟨i, hi, hz⟩ := Option.map_eq_some_iff.1 info4
        rw [h, hel, run_sizeOf W hi]
        have hc : Tryz.prog.cellsOf 47 = 4 := by kernel_rfl
        simp [Result.andThen, sliced, Addr.add]
        rw [hc, if_neg (by omega), if_neg (by omega)]
      have hto : ∀ W : World, (Instr.slice 31 (.slice (some ⟨w.heap.size, 0, none⟩) n n) none (some (.int .i64 (m : Int))) none).run Tryz.prog W = .ok (.slice (some ⟨w.heap.size, 0, none⟩) m n) W := by
        intro W
        have h := run_slice_h (P := Tryz.prog) (w := W) 31 (some ⟨w.heap.size, 0, none⟩) n n Tryz.underlying31 .i64 (m : Int) (by omega) (by omega)
        obtain ⟨i, hi, hz⟩ := Option.map_eq_some_iff.1 info4
        rw [h, hel, run_sizeOf W hi]
        simp [Result.andThen, sliced, Addr.add]
      obtain ⟨cur, hh, hsz, htk⟩ := HR4.out.row
      obtain ⟨q, hq⟩ : ∃ q, q = Nat.min m (n - m) := ⟨_, rfl⟩
      have hq1 : q ≤ m := hq ▸ Nat.min_le_left _ _
      have hq2 : q ≤ n - m := hq ▸ Nat.min_le_right _ _
      have hq3 : 1 ≤ q := by
        have : q = m ∨ q = n - m := by rw [hq]; exact (Nat.le_total m (n - m)).elim (fun h => .inl (Nat.min_eq_left h)) (fun h => .inr (Nat.min_eq_right h))
        omega
      obtain ⟨ar, har⟩ : ∃ ar : Array Value, ar = (cur.toList.take (m * 4) ++ four x q ++ cur.toList.drop (m * 4 + (four x q).length)).toArray := ⟨_, rfl⟩
      have hcopy : (Builtin.copy_ #[31, 31] 3 #[.slice (some ⟨w.heap.size, m * 4, none⟩) (n - m) (n - m), .slice (some ⟨w.heap.size, 0, none⟩) m n]).run Tryz.prog wr.drew = .ok (.int .i64 (q : Int)) (wr.drew.setRow w.heap.size ar) := by
        have := run_copy_rowz (P := Tryz.prog) wr.drew 31 31 3 47 w.heap.size (m * 4) (n - m) (n - m) ⟨w.heap.size, 0, none⟩ m n 4 cur 47 (four x q) Tryz.underlying31 info4 hh (by rw [four_length, hq]) (HR4.out.src q hq1) (by rw [four_length]; omega) (four_one _ _)
        rw [← hq, ← har] at this
        exact this
      have HI2 := Aside0.mk (show Rep4 x w w.heap.size n (m + q) (wr.drew.setRow w.heap.size ar) by rw [har]; exact Rep4.put (wr := wr.drew) (k := q) hh hsz htk (Nat.le_refl _) (below_drew HR4.out.below) (by omega) (by omega))
      have hadd : IntKind.i64.wrap ((m : Int) + (q : Int)) = ((m + q : Nat) : Int) := by rw [IntKind.wrap_i64]; omega
      have HQ := Aside0.mk hq3
      clear hh hsz htk har hq hq1 hq2 hq3
      go_wp2
      go_region_with fail
      generalize World.setRow _ _ _ = wr2 at HI2 ⊢
      go_wp2
      go_roundg (n - (m + q))
      case measure => have := HQ.out; omega
      case rel => exact ⟨m + q, by go_num, Nat.le_refl _, HI2⟩
    · have hltz : ¬ (m : Int) < (n : Int) := by omega
      obtain rfl : m = n := by have := HR4.out.le; omega
      go_wp2
      go_ret
      obtain ⟨cur, hh, hsz, htk⟩ := HR4.out.row
      refine ⟨.slice (some ⟨w.heap.size, 0, none⟩) m m, rfl, ⟨fun _ _ => trivial, four x m, ?_, four_reps _ _ _ x m⟩, HR4.out.below⟩
      rw [List.length_replicate]
      exact ⟨four_length _ _, .inr ⟨w.heap.size, m, cur, rfl, Nat.le_refl _, hh, Nat.le_refl _, by simp only [maxLen]; omega, hsz, htk⟩⟩
end X
namespace Yr
open X
def z22_.f (l0 : List S47) (a1 : Int) : Option (List S47) := if l0.length = 1 ∧ 0 ≤ a1 ∧ a1 < 102 then some (List.replicate a1.toNat (l0.getD 0 z47)) else none
theorem z22_.calls (A0 : Option Addr) (c0 : Nat) (l0 : List S47) (a1 : Int) (r : List S47) (w : World) (hr0 : Kd.C k47 w A0 l0.length l0) (hc0 : l0.length ≤ c0) (h : z22_.f l0 a1 = some r) :
    Calls Tryz.prog 27 #[.slice A0 l0.length c0, .int .i64 a1] w fun e w' => ∃ v0_ : Value, e = .returned (v0_) ∧ Kd.R k47 47 w' w.heap.size (fun _ => True) v0_ r ∧ Below w.heap.size w w' := by
  unfold z22_.f at h
  split at h
  · rename_i hh
    obtain ⟨h1, h2, h3⟩ := hh
    obtain rfl := Option.some.inj h
    obtain ⟨n, rfl⟩ := Int.eq_ofNat_of_zero_le h2
    match l0, h1 with
    | [x], _ => exact Repeat_calls hr0 hc0 (by omega)
  · exact absurd h (by simp)
end Yr
end Go.Proofs.YtgdkmadcegleiaaGreatDoor
namespace Go.Proofs.YtgdkmadcegleiaaGreatDoor
namespace Yr
open X
abbrev z5_.f := Y.z5_.f
theorem z5_.calls : type_of% @Y.z5_.calls := @Y.z5_.calls
abbrev z12_.f := Y.z12_.f
theorem z12_.calls : type_of% @Y.z12_.calls := @Y.z12_.calls
abbrev z31_.f := Y.z31_.f
theorem z31_.calls : type_of% @Y.z31_.calls := @Y.z31_.calls
end Yr
end Go.Proofs.YtgdkmadcegleiaaGreatDoor
namespace Go.Proofs.YtgdkmadcegleiaaGreatDoor
namespace PRst
open X Yr
attribute [local go_sem] max2_int min2_int max_two min_two max_three min_three max_four min_four   -- for this text's walks alone
def errW : Option Int → Value
  | none => .nilIface
  | some c => .iface 0 (.int .i64 c)
theorem errW_none : errW none = .nilIface := rfl
theorem errW_some (c : Int) : errW (some c) = .iface 0 (.int .i64 c) := rfl
theorem info47 : (Tryz.prog.info? 47).map (fun i => (i.zero, i.size, i.bytes)) = some (some (.agg #[(.int .i64 0), (.int .i64 0), (.int .i64 0), (.int .i64 0)]), 4, 32) := by kernel_rfl
end PRst
end Go.Proofs.YtgdkmadcegleiaaGreatDoor
namespace Go.Proofs.YtgdkmadcegleiaaGreatDoor
namespace PRst
open Sq X Yr
attribute [local go_sem] Y.span_f0 Y.span_f1 max2_int min2_int max_two min_two max_three min_three max_four min_four   -- for this text's walks alone
def z13_.l0 : Nat → Int → Int → Int → Int → Int → Int → List (S47) → Option (Int × Int)
 | 0, _, _, _, _, _, _, _ => none
 | k + 1, x1, x23, x102000, x102001, x102002, x102003, x102004 => if x23 < 41 then (if 1 ≤ (x102004.length : Int) then ((z22_.f (x102004.take 1) x23).bind fun t108 => ((z12_.f x102000 x102001 x102002 x102003 t108).bind fun bt111 => (if bt111.1 ≥ x1 then (some (wrap64 (x23 + 1), 0)) else (z13_.l0 k x1 (wrap64 (x23 + 1)) x102000 x102001 x102002 x102003 x102004)))) else (none)) else (some (0, 7))
def z13_.f (k : Nat) (a0_0 : Int) (a0_1 : Int) (a0_2 : Int) (a0_3 : Int) (l0_4 : List (S47)) (a1 : Int) : Option (Int × Int) := (z5_.f a0_0 a0_1 a0_2 a0_3 l0_4).bind fun t102 => (if t102 = 0 then ((z31_.f a1).bind fun t103 => (if t103 = true then (if (l0_4.length : Int) = 0 then (some (0, 7)) else (z13_.l0 k a1 0 a0_0 a0_1 a0_2 a0_3 l0_4)) else (some (0, 4)))) else (some (0, t102)))
def z13_.T11 : Bool × List (List Nat × List Nat) := (true, [([], []), ([0], [0]), ([], []), ([2], [2]), ([], []), ([4], [4]), ([5], [5]), ([], []), ([6, 7], [6, 7]), ([1, 3, 8], [1, 3, 8]), ([9, 8], [9]), ([10], [10]), ([], []), ([11, 12], [11, 12])])
def z13_.B11 : List Nat := [0, 1, 0, 4, 0, 16, 48, 0, 240, 511, 1023, 2047, 0, 8191]
theorem z13_.tab11 : rtab .any (opsOf Tryz.f7 11) = z13_.T11 := by kernel_rfl
theorem z13_.bits11 : waitsOk z13_.T11.2 z13_.B11 = true := by kernel_rfl
set_option maxHeartbeats 8000000 in
set_option maxRecDepth 100000 in
theorem z13_.calls (k : Nat) (a0_0 : Int) (a0_1 : Int) (a0_2 : Int) (a0_3 : Int) (A0_4 : Option Addr) (c0_4 : Nat) (l0_4 : List (S47)) (a1 : Int) (r1 : Int) (r2 : Int) (w : World) (hr0_4 : Kd.C k47 w A0_4 l0_4.length l0_4) (hc0_4 : l0_4.length ≤ c0_4) (h : z13_.f k a0_0 a0_1 a0_2 a0_3 l0_4 a1 = some (r1, r2)) :
  Calls Tryz.prog 7 #[.agg #[.int .i64 a0_0, .int .i64 a0_1, .int .i64 a0_2, .int .i64 a0_3, .slice A0_4 l0_4.length c0_4], .int .i64 a1] w fun e w' => e = .returned (.tuple #[.int .i64 r1, .int .i64 r2]) ∧ Below w.heap.size w w' := by
 have hu33 := Tryz.underlying33
 have hu30 := Tryz.underlying30
 have HR0_4 := Aside0.mk hr0_4
 have HC0_4 := Aside0.mk hc0_4
 clear hr0_4 hc0_4
 have HB := Aside0.mk (Below.refl w.heap.size w)
 have H : ((z5_.f a0_0 a0_1 a0_2 a0_3 l0_4).bind fun t102 => (if t102 = 0 then ((z31_.f a1).bind fun t103 => (if t103 = true then (if (l0_4.length : Int) = 0 then (some (0, 7)) else (z13_.l0 k a1 0 a0_0 a0_1 a0_2 a0_3 l0_4)) else (some (0, 4)))) else (some (0, t102)))) = some (r1, r2) := h
 clear h
 replace H := bindA H
 obtain ⟨t102, A3, H⟩ := H
 try dsimp only at H
 by_cases c4 : t102 = 0
 ·rw [if_pos c4] at H
  have c4b0 : (t102 == 0) = true := beq_iff_eq.mpr c4
  have c4b1 : (t102 != 0) = false := bne_eq_false_iff_eq.mpr c4
  clear c4
  replace H := bindA H
  obtain ⟨t103, A5, H⟩ := H
  try dsimp only at H
  by_cases c6 : t103 = true
  ·subst c6
   have H1 : (if (l0_4.length : Int) = 0 then (some (0, 7)) else (z13_.l0 k a1 0 a0_0 a0_1 a0_2 a0_3 l0_4)) = some (r1, r2) := by rw [if_pos rfl] at H; exact H
   clear H
   have H := H1
   clear H1
   by_cases c7 : (l0_4.length : Int) = 0
   ·rw [if_pos c7] at H
    have c7b0 : ((l0_4.length : Int) == 0) = true := beq_iff_eq.mpr c7
    have c7b1 : ((l0_4.length : Int) != 0) = false := bne_eq_false_iff_eq.mpr c7
    clear c7
    simp only [Option.some.injEq, Prod.mk.injEq] at H
    obtain ⟨rfl, rfl⟩ := H
    go_enter Tryz.func7, Tryz.ntmps7
    go_wp2_with (first | ((with_reducible refine gate_dst (N := 2) rfl ?_); refine boxA (N := 2) (cs := #[.int .i64 a0_0, .int .i64 a0_1, .int .i64 a0_2, .int .i64 a0_3, .slice A0_4 l0_4.length c0_4]) (t := 33) ?_; intro gb101 hg w8 hbox hb; have BK101 := Aside0.mk (hbox); have GE101 := bG HB hg; replace HB := bS HB hb; clear hb hbox hg; obtain ⟨hcz9_0, hcz9_1, hcz9_2, hcz9_3, hcz9_4, hfz9_0, hfz9_1, hfz9_2, hfz9_3, hfz9_4⟩ := cc5 BK101) | ((with_reducible refine gate_callee (f := 24) rfl ?_); refine goesA (some 9) Tryz.func24 #[.agg #[.int .i64 a0_0, .int .i64 a0_1, .int .i64 a0_2, .int .i64 a0_3, .slice A0_4 l0_4.length c0_4]] ?_; (with_reducible refine (z5_.calls a0_0 a0_1 a0_2 a0_3 _ _ l0_4 t102 _ ?side1 ?side2 A3.out).mono ?_); (case side1 => exact sX (Kd.C_below HR0_4.out HB.out)); (case side2 => exact HC0_4.out); rintro e w10 ⟨rfl, hb⟩; refine ⟨_, rfl, ?_⟩; replace BK101 := kB BK101 hb; replace HB := bS HB hb) | ((with_reducible refine gate_callee (f := 25) rfl ?_); refine goesA (some 16) Tryz.func25 #[.int .i64 a1] ?_; (with_reducible refine (z31_.calls a1 true _ A5.out).mono ?_); rintro e w11 ⟨rfl, hb⟩; refine ⟨_, rfl, ?_⟩; replace BK101 := kB BK101 hb; replace HB := bS HB hb; obtain ⟨hcz12_0, hcz12_1, hcz12_2, hcz12_3, hcz12_4, hfz12_0, hfz12_1, hfz12_2, hfz12_3, hfz12_4⟩ := cc5 BK101))
    go_ret2
    exact ⟨eqA, bX HB⟩
   ·rw [if_neg c7] at H
    have c7b0 : ((l0_4.length : Int) == 0) = false := beq_eq_false_iff_ne.mpr c7
    have c7b1 : ((l0_4.length : Int) != 0) = true := bne_iff_ne.mpr c7
    have c7b2 : ¬ (l0_4 = []) := fun h_ => c7 (by rw [h_]; rfl)
    have H' := Aside0.mk H
    clear H
    go_enter Tryz.func7, Tryz.ntmps7
    go_wp2_with (first | ((with_reducible refine gate_dst (N := 2) rfl ?_); refine boxA (N := 2) (cs := #[.int .i64 a0_0, .int .i64 a0_1, .int .i64 a0_2, .int .i64 a0_3, .slice A0_4 l0_4.length c0_4]) (t := 33) ?_; intro gb101 hg w13 hbox hb; have BK101 := Aside0.mk (hbox); have GE101 := bG HB hg; replace HB := bS HB hb; clear hb hbox hg; obtain ⟨hcz14_0, hcz14_1, hcz14_2, hcz14_3, hcz14_4, hfz14_0, hfz14_1, hfz14_2, hfz14_3, hfz14_4⟩ := cc5 BK101) | ((with_reducible refine gate_callee (f := 24) rfl ?_); refine goesA (some 9) Tryz.func24 #[.agg #[.int .i64 a0_0, .int .i64 a0_1, .int .i64 a0_2, .int .i64 a0_3, .slice A0_4 l0_4.length c0_4]] ?_; (with_reducible refine (z5_.calls a0_0 a0_1 a0_2 a0_3 _ _ l0_4 t102 _ ?side1 ?side2 A3.out).mono ?_); (case side1 => exact sX (Kd.C_below HR0_4.out HB.out)); (case side2 => exact HC0_4.out); rintro e w15 ⟨rfl, hb⟩; refine ⟨_, rfl, ?_⟩; replace BK101 := kB BK101 hb; replace HB := bS HB hb) | ((with_reducible refine gate_callee (f := 25) rfl ?_); refine goesA (some 16) Tryz.func25 #[.int .i64 a1] ?_; (with_reducible refine (z31_.calls a1 true _ A5.out).mono ?_); rintro e w16 ⟨rfl, hb⟩; refine ⟨_, rfl, ?_⟩; replace BK101 := kB BK101 hb; replace HB := bS HB hb; obtain ⟨hcz17_0, hcz17_1, hcz17_2, hcz17_3, hcz17_4, hfz17_0, hfz17_1, hfz17_2, hfz17_3, hfz17_4⟩ := cc5 BK101))
    go_loopg [23] k (fun kq v23 w' => ∃ (x23_1 : Int), v23 = .int .i64 x23_1 ∧ Aside0 (z13_.l0 kq a1 x23_1 a0_0 a0_1 a0_2 a0_3 l0_4 = some (r1, r2)) ∧ Aside0 (kq ≤ k) ∧ Aside0 (w'.heap[gb101]? = some (.cells #[.int .i64 a0_0, .int .i64 a0_1, .int .i64 a0_2, .int .i64 a0_3, (.slice A0_4 l0_4.length c0_4)] 33 (0, 0))) ∧ Aside0 (Below w.heap.size w w'))
    case atStart => exact ⟨(0), eR, H', ⟨Nat.le_refl _⟩, ⟨kX BK101.out⟩, ⟨bX HB⟩⟩
    case round =>
     clear H'
     try clear p2
     try clear c4b0
     try clear c4b1
     try clear c7b0
     try clear c7b1
     try clear c7b2
     try clear hcz12_0 hcz12_1 hcz12_2 hcz12_3 hcz12_4 hfz12_0 hfz12_1 hfz12_2 hfz12_3 hfz12_4
     try clear hcz14_0 hcz14_1 hcz14_2 hcz14_3 hcz14_4 hfz14_0 hfz14_1 hfz14_2 hfz14_3 hfz14_4
     try clear hcz17_0 hcz17_1 hcz17_2 hcz17_3 hcz17_4 hfz17_0 hfz17_1 hfz17_2 hfz17_3 hfz17_4
     try clear hcz9_0 hcz9_1 hcz9_2 hcz9_3 hcz9_4 hfz9_0 hfz9_1 hfz9_2 hfz9_3 hfz9_4
     obtain ⟨x23_1, rfl, HA, HK1, BK101, HB⟩ := hrel
     cases gk with
     | zero => exact absurd HA.out (by simp [z13_.l0])
     | succ k1 =>
      have H := HA.out
      clear HA
      simp only [z13_.l0] at H
      by_cases c18 : x23_1 < 41
      ·rw [if_pos c18] at H
       have c18b0 : decide (x23_1 < 41) = true := decide_eq_true c18
       clear c18
       by_cases c19 : 1 ≤ (l0_4.length : Int)
       ·rw [if_pos c19] at H
        have c19b0 := eq_true c19
        have c19b1 : decide (1 ≤ (l0_4.length : Int)) = true := decide_eq_true c19
        clear c19
        obtain ⟨y104, hy104⟩ : ∃ y_ : List (S47), y_ = (l0_4.take 1) := ⟨_, rfl⟩
        replace H : ((z22_.f y104 x23_1).bind fun t108 => ((z12_.f a0_0 a0_1 a0_2 a0_3 t108).bind fun bt111 => (if bt111.1 ≥ a1 then (some (wrap64 (x23_1 + 1), 0)) else (z13_.l0 k1 a1 (wrap64 (x23_1 + 1)) a0_0 a0_1 a0_2 a0_3 l0_4)))) = some (r1, r2) := by first | (rw [hy104]; with_reducible exact H) | (have H2_ := (Option.bind_some _ _).symm.trans H; rw [hy104]; with_reducible exact H2_) | (have H2_ := (Option.bind_some _ _).symm.trans H; with_reducible exact H2_) | with_reducible exact H | (rw [hy104]; exact H) | exact H
        have Ny104 := Aside0.mk hy104
        clear hy104
        replace H := bindA H
        obtain ⟨t108, A20, H⟩ := H
        try dsimp only at H
        replace H := bindA H
        obtain ⟨⟨t111, t112⟩, A21, H⟩ := H
        try dsimp only at H
        by_cases c22 : t111 ≥ a1
        ·rw [if_pos c22] at H
         have c22b0 : decide (a1 ≤ t111) = true := decide_eq_true c22
         clear c22
         simp only [Option.some.injEq, Prod.mk.injEq] at H
         obtain ⟨rfl, rfl⟩ := H
         try go_wp2
         replace BK101 := Aside0.mk (blk_drew BK101.out)
         replace HB := Aside0.mk (below_drew1 HB.out)
         have q24 : (1 : Int) ≤ ((l0_4.length : Int) : Int) := of_decide_eq_true (by first | (with_reducible assumption) | assumption)
         obtain ⟨i024, hi024, _, hsz24, _⟩ := info_parts info47
         have hroom24 : l0_4.length ≤ c0_4 := HC0_4.out
         have hC24 : Kd.C k47 _ A0_4 l0_4.length l0_4 := HR0_4.out
         have hcut24 := cut_to (P := Tryz.prog) 31 47 .i64 Tryz.underlying31 hi024 A0_4 l0_4.length c0_4 1 (by omega) q24 hroom24
         have hr24 := Kd.C_take (m := 1) hC24 (by omega)
         have hy24 : y104.length = (1 : Int).toNat := (by rw [Ny104.out, List.length_take]; omega)
         rw [← Ny104.out] at hr24
         rw [← hy24] at hcut24
         have HR107 := Aside0.mk hr24
         have HC107 := Aside0.mk (show y104.length ≤ c0_4 from by omega)
         clear hr24 hC24 hroom24 hi024 hsz24
         have KY24 := Aside0.mk hy24
         clear hy24
         replace q24 := eq_true q24
         refine start_ (n := 14) (S := fun w' => w'.cell? ⟨gb101, 0, none⟩ = some (.int .i64 a0_0) ∧ w'.cell? ⟨gb101, 1, none⟩ = some (.int .i64 a0_1) ∧ w'.cell? ⟨gb101, 2, none⟩ = some (.int .i64 a0_2) ∧ w'.cell? ⟨gb101, 3, none⟩ = some (.int .i64 a0_3) ∧ w'.cell? ⟨gb101, 4, none⟩ = some (.slice A0_4 l0_4.length c0_4)) (ds := []) #[false, false, false, false, false, false, false, false, false, false, false, false, false, false] (by kernel_rfl) rfl rfl ⟨bc BK101 0, bc BK101 1, bc BK101 2, bc BK101 3, bc BK101 4⟩ (fun hHeld => ?_); refine with_tabW z13_.tab11 z13_.bits11 (fun HT_ HW_ => ?_)
         generalize wr.drew = w23 at BK101 HB HR107 hHeld ⊢
         refine pA 0 26 HT_ ?_
         refine pA 2 28 HT_ ?_
         refine pA 4 30 HT_ ?_
         refine pA 7 33 HT_ ?_
         refine pA 12 38 HT_ ?_
         refine tA 1 27 HT_ HW_ hHeld ?_
         refine tA 3 29 HT_ HW_ hHeld ?_
         refine tA 5 31 HT_ HW_ hHeld ?_
         refine pA 6 32 HT_ ?_
         refine oneA (i := 8) (N := some 34) HT_ (fun K hK => ?_)
         refine goesB Tryz.func27 #[.slice A0_4 y104.length c0_4, .int .i64 x23_1] ?_
         with_reducible refine (z22_.calls _ _ y104 x23_1 t108 _ ?side1 ?side2 A20.out).mono ?_
         (case side1 => exact sX (Kd.C_below HR107.out HB.out))
         (case side2 => exact HC107.out)
         rintro e w25 ⟨v109, rfl, ho0, hb⟩
         refine ⟨_, rfl, ?_⟩
         have HO110 := Aside0.mk (Kd.R_lower ho0 (below_size (bX HB)))
         replace BK101 := kB BK101 hb
         replace HB := bS HB hb
         (try clear ho0)
         obtain ⟨Ao26, co26, eo26⟩ := Kd.R_slice HO110.out
         (first | subst eo26 | (injection eo26 with f1_ f2_ f3_; have f4_ := f1_.symm; have f5_ := f3_.symm; clear f1_ f2_ f3_; subst f4_; subst f5_))
         refine hK.out _ _ ⟨bc BK101 0, bc BK101 1, bc BK101 2, bc BK101 3, bc BK101 4⟩ (fun hHeld => ?_)
         clear hK K
         refine normA (N := some 34) ?_
         refine pA 9 35 HT_ ?_
         refine oneA (i := 10) (N := some 36) HT_ (fun K hK => ?_)
         refine goesB Tryz.func26 #[.agg #[.int .i64 a0_0, .int .i64 a0_1, .int .i64 a0_2, .int .i64 a0_3, .slice Ao26 t108.length co26]] ?_
         with_reducible refine (z12_.calls a0_0 a0_1 a0_2 a0_3 _ _ t108 t111 t112 _ ?side1 ?side2 A21.out).mono ?_
         (case side1 => exact sX (Kd.R_reads' HO110.out).2.2)
         (case side2 => exact (Kd.R_reads' HO110.out).2.1)
         rintro e w27 ⟨rfl, hb⟩
         refine ⟨_, rfl, ?_⟩
         replace HO110 := rB HO110 hb
         replace BK101 := kB BK101 hb
         replace HB := bS HB hb
         refine hK.out _ _ ⟨bc BK101 0, bc BK101 1, bc BK101 2, bc BK101 3, bc BK101 4⟩ (fun hHeld => ?_)
         clear hK K
         refine normA (N := some 36) ?_
         refine pA 11 37 HT_ ?_
         refine pA 13 39 HT_ ?_
         refine done_ (done_of HT_.out (by kernel_rfl)) ?_
         try go_wp2
         go_ret2
         exact ⟨eqA, bX HB⟩
        ·rw [if_neg c22] at H
         have c22b0 : decide (a1 ≤ t111) = false := decide_eq_false c22
         clear c22
         have H' := Aside0.mk H
         clear H
         try go_wp2
         replace BK101 := Aside0.mk (blk_drew BK101.out)
         replace HB := Aside0.mk (below_drew1 HB.out)
         have q29 : (1 : Int) ≤ ((l0_4.length : Int) : Int) := of_decide_eq_true (by first | (with_reducible assumption) | assumption)
         obtain ⟨i029, hi029, _, hsz29, _⟩ := info_parts info47
         have hroom29 : l0_4.length ≤ c0_4 := HC0_4.out
         have hC29 : Kd.C k47 _ A0_4 l0_4.length l0_4 := HR0_4.out
         have hcut29 := cut_to (P := Tryz.prog) 31 47 .i64 Tryz.underlying31 hi029 A0_4 l0_4.length c0_4 1 (by omega) q29 hroom29
         have hr29 := Kd.C_take (m := 1) hC29 (by omega)
         have hy29 : y104.length = (1 : Int).toNat := (by rw [Ny104.out, List.length_take]; omega)
         rw [← Ny104.out] at hr29
         rw [← hy29] at hcut29
         have HR107 := Aside0.mk hr29
         have HC107 := Aside0.mk (show y104.length ≤ c0_4 from by omega)
         clear hr29 hC29 hroom29 hi029 hsz29
         have KY29 := Aside0.mk hy29
         clear hy29
         replace q29 := eq_true q29
         refine start_ (n := 14) (S := fun w' => w'.cell? ⟨gb101, 0, none⟩ = some (.int .i64 a0_0) ∧ w'.cell? ⟨gb101, 1, none⟩ = some (.int .i64 a0_1) ∧ w'.cell? ⟨gb101, 2, none⟩ = some (.int .i64 a0_2) ∧ w'.cell? ⟨gb101, 3, none⟩ = some (.int .i64 a0_3) ∧ w'.cell? ⟨gb101, 4, none⟩ = some (.slice A0_4 l0_4.length c0_4)) (ds := []) #[false, false, false, false, false, false, false, false, false, false, false, false, false, false] (by kernel_rfl) rfl rfl ⟨bc BK101 0, bc BK101 1, bc BK101 2, bc BK101 3, bc BK101 4⟩ (fun hHeld => ?_); refine with_tabW z13_.tab11 z13_.bits11 (fun HT_ HW_ => ?_)
         generalize wr.drew = w28 at BK101 HB HR107 hHeld ⊢
         refine pA 0 26 HT_ ?_
         refine pA 2 28 HT_ ?_
         refine pA 4 30 HT_ ?_
         refine pA 7 33 HT_ ?_
         refine pA 12 38 HT_ ?_
         refine tA 1 27 HT_ HW_ hHeld ?_
         refine tA 3 29 HT_ HW_ hHeld ?_
         refine tA 5 31 HT_ HW_ hHeld ?_
         refine pA 6 32 HT_ ?_
         refine oneA (i := 8) (N := some 34) HT_ (fun K hK => ?_)
         refine goesB Tryz.func27 #[.slice A0_4 y104.length c0_4, .int .i64 x23_1] ?_
         with_reducible refine (z22_.calls _ _ y104 x23_1 t108 _ ?side1 ?side2 A20.out).mono ?_
         (case side1 => exact sX (Kd.C_below HR107.out HB.out))
         (case side2 => exact HC107.out)
         rintro e w30 ⟨v109, rfl, ho0, hb⟩
         refine ⟨_, rfl, ?_⟩
         have HO110 := Aside0.mk (Kd.R_lower ho0 (below_size (bX HB)))
         replace BK101 := kB BK101 hb
         replace HB := bS HB hb
         (try clear ho0)
         obtain ⟨Ao31, co31, eo31⟩ := Kd.R_slice HO110.out
         (first | subst eo31 | (injection eo31 with f1_ f2_ f3_; have f4_ := f1_.symm; have f5_ := f3_.symm; clear f1_ f2_ f3_; subst f4_; subst f5_))
         refine hK.out _ _ ⟨bc BK101 0, bc BK101 1, bc BK101 2, bc BK101 3, bc BK101 4⟩ (fun hHeld => ?_)
         clear hK K
         refine normA (N := some 34) ?_
         refine pA 9 35 HT_ ?_
         refine oneA (i := 10) (N := some 36) HT_ (fun K hK => ?_)
         refine goesB Tryz.func26 #[.agg #[.int .i64 a0_0, .int .i64 a0_1, .int .i64 a0_2, .int .i64 a0_3, .slice Ao31 t108.length co31]] ?_
         with_reducible refine (z12_.calls a0_0 a0_1 a0_2 a0_3 _ _ t108 t111 t112 _ ?side1 ?side2 A21.out).mono ?_
         (case side1 => exact sX (Kd.R_reads' HO110.out).2.2)
         (case side2 => exact (Kd.R_reads' HO110.out).2.1)
         rintro e w32 ⟨rfl, hb⟩
         refine ⟨_, rfl, ?_⟩
         replace HO110 := rB HO110 hb
         replace BK101 := kB BK101 hb
         replace HB := bS HB hb
         refine hK.out _ _ ⟨bc BK101 0, bc BK101 1, bc BK101 2, bc BK101 3, bc BK101 4⟩ (fun hHeld => ?_)
         clear hK K
         refine normA (N := some 36) ?_
         refine pA 11 37 HT_ ?_
         refine pA 13 39 HT_ ?_
         refine done_ (done_of HT_.out (by kernel_rfl)) ?_
         try go_wp2
         go_roundg k1
         case measure => have := HK1.out; omega
         case rel => exact ⟨(wrap64 (x23_1 + 1)), eR, H', ⟨by have := HK1.out; omega⟩, ⟨kX BK101.out⟩, ⟨bX HB⟩⟩
       ·rw [if_neg c19] at H
        exact absurd H (by simp)
      ·rw [if_neg c18] at H
       have c18b0 : decide (x23_1 < 41) = false := decide_eq_false c18
       clear c18
       simp only [Option.some.injEq, Prod.mk.injEq] at H
       obtain ⟨rfl, rfl⟩ := H
       go_wp2
       go_ret2
       exact ⟨eqA, bX HB⟩
  ·replace c6 := Bool.eq_false_iff.mpr c6
   subst c6
   have H1 : (some (0, 4)) = some (r1, r2) := by rw [if_neg (show ¬ (false = true) by decide)] at H; exact H
   clear H
   have H := H1
   clear H1
   simp only [Option.some.injEq, Prod.mk.injEq] at H
   obtain ⟨rfl, rfl⟩ := H
   go_enter Tryz.func7, Tryz.ntmps7
   go_wp2_with (first | ((with_reducible refine gate_dst (N := 2) rfl ?_); refine boxA (N := 2) (cs := #[.int .i64 a0_0, .int .i64 a0_1, .int .i64 a0_2, .int .i64 a0_3, .slice A0_4 l0_4.length c0_4]) (t := 33) ?_; intro gb101 hg w33 hbox hb; have BK101 := Aside0.mk (hbox); have GE101 := bG HB hg; replace HB := bS HB hb; clear hb hbox hg; obtain ⟨hcz34_0, hcz34_1, hcz34_2, hcz34_3, hcz34_4, hfz34_0, hfz34_1, hfz34_2, hfz34_3, hfz34_4⟩ := cc5 BK101) | ((with_reducible refine gate_callee (f := 24) rfl ?_); refine goesA (some 9) Tryz.func24 #[.agg #[.int .i64 a0_0, .int .i64 a0_1, .int .i64 a0_2, .int .i64 a0_3, .slice A0_4 l0_4.length c0_4]] ?_; (with_reducible refine (z5_.calls a0_0 a0_1 a0_2 a0_3 _ _ l0_4 t102 _ ?side1 ?side2 A3.out).mono ?_); (case side1 => exact sX (Kd.C_below HR0_4.out HB.out)); (case side2 => exact HC0_4.out); rintro e w35 ⟨rfl, hb⟩; refine ⟨_, rfl, ?_⟩; replace BK101 := kB BK101 hb; replace HB := bS HB hb) | ((with_reducible refine gate_callee (f := 25) rfl ?_); refine goesA (some 16) Tryz.func25 #[.int .i64 a1] ?_; (with_reducible refine (z31_.calls a1 false _ A5.out).mono ?_); rintro e w36 ⟨rfl, hb⟩; refine ⟨_, rfl, ?_⟩; replace BK101 := kB BK101 hb; replace HB := bS HB hb))
   go_ret2
   exact ⟨eqA, bX HB⟩
 ·rw [if_neg c4] at H
  have c4b0 : (t102 == 0) = false := beq_eq_false_iff_ne.mpr c4
  have c4b1 : (t102 != 0) = true := bne_iff_ne.mpr c4
  simp only [Option.some.injEq, Prod.mk.injEq] at H
  obtain ⟨rfl, rfl⟩ := H
  go_enter Tryz.func7, Tryz.ntmps7
  go_wp2_with (first | ((with_reducible refine gate_dst (N := 2) rfl ?_); refine boxA (N := 2) (cs := #[.int .i64 a0_0, .int .i64 a0_1, .int .i64 a0_2, .int .i64 a0_3, .slice A0_4 l0_4.length c0_4]) (t := 33) ?_; intro gb101 hg w37 hbox hb; have BK101 := Aside0.mk (hbox); have GE101 := bG HB hg; replace HB := bS HB hb; clear hb hbox hg; obtain ⟨hcz38_0, hcz38_1, hcz38_2, hcz38_3, hcz38_4, hfz38_0, hfz38_1, hfz38_2, hfz38_3, hfz38_4⟩ := cc5 BK101) | ((with_reducible refine gate_callee (f := 24) rfl ?_); refine goesA (some 9) Tryz.func24 #[.agg #[.int .i64 a0_0, .int .i64 a0_1, .int .i64 a0_2, .int .i64 a0_3, .slice A0_4 l0_4.length c0_4]] ?_; (with_reducible refine (z5_.calls a0_0 a0_1 a0_2 a0_3 _ _ l0_4 t102 _ ?side1 ?side2 A3.out).mono ?_); (case side1 => exact sX (Kd.C_below HR0_4.out HB.out)); (case side2 => exact HC0_4.out); rintro e w39 ⟨rfl, hb⟩; refine ⟨_, rfl, ?_⟩; replace BK101 := kB BK101 hb; replace HB := bS HB hb))
  go_ret2
  exact ⟨eqA, bX HB⟩
def z23_.f (a0_0 : Int) (a0_1 : Int) (a0_2 : Int) (a0_3 : Int) (l0_4 : List (S47)) : Option (Int × Int × Int) := (z5_.f a0_0 a0_1 a0_2 a0_3 l0_4).bind fun t115 => (if t115 = 0 then ((z12_.f a0_0 a0_1 a0_2 a0_3 l0_4).bind fun bt116 => (some (bt116.1, bt116.2, 0))) else (some (0, 0, t115)))
set_option maxHeartbeats 8000000 in
set_option maxRecDepth 100000 in
theorem z23_.calls (a0_0 : Int) (a0_1 : Int) (a0_2 : Int) (a0_3 : Int) (A0_4 : Option Addr) (c0_4 : Nat) (l0_4 : List (S47)) (r1 : Int) (r2 : Int) (r3 : Int) (w : World) (hr0_4 : Kd.C k47 w A0_4 l0_4.length l0_4) (hc0_4 : l0_4.length ≤ c0_4) (h : z23_.f a0_0 a0_1 a0_2 a0_3 l0_4 = some (r1, r2, r3)) :
  Calls Tryz.prog 13 #[.agg #[.int .i64 a0_0, .int .i64 a0_1, .int .i64 a0_2, .int .i64 a0_3, .slice A0_4 l0_4.length c0_4]] w fun e w' => e = .returned (.tuple #[.agg #[.int .i64 r1, .int .i64 r2], .int .i64 r3]) ∧ Below w.heap.size w w' := by
 have hu33 := Tryz.underlying33
 have hu30 := Tryz.underlying30
 have HR0_4 := Aside0.mk hr0_4
 have HC0_4 := Aside0.mk hc0_4
 clear hr0_4 hc0_4
 have HB := Aside0.mk (Below.refl w.heap.size w)
 have H : ((z5_.f a0_0 a0_1 a0_2 a0_3 l0_4).bind fun t115 => (if t115 = 0 then ((z12_.f a0_0 a0_1 a0_2 a0_3 l0_4).bind fun bt116 => (some (bt116.1, bt116.2, 0))) else (some (0, 0, t115)))) = some (r1, r2, r3) := h
 clear h
 replace H := bindA H
 obtain ⟨t115, A2, H⟩ := H
 try dsimp only at H
 by_cases c3 : t115 = 0
 ·rw [if_pos c3] at H
  have c3b0 : (t115 == 0) = true := beq_iff_eq.mpr c3
  have c3b1 : (t115 != 0) = false := bne_eq_false_iff_eq.mpr c3
  clear c3
  replace H := bindA H
  obtain ⟨⟨t116, t117⟩, A4, H⟩ := H
  try dsimp only at H
  simp only [Option.some.injEq, Prod.mk.injEq] at H
  obtain ⟨rfl, rfl, rfl⟩ := H
  go_enter Tryz.func13, Tryz.ntmps13
  go_wp2_with (first | ((with_reducible refine gate_dst (N := 1) rfl ?_); refine boxA (N := 1) (cs := #[.int .i64 a0_0, .int .i64 a0_1, .int .i64 a0_2, .int .i64 a0_3, .slice A0_4 l0_4.length c0_4]) (t := 33) ?_; intro gb113 hg w5 hbox hb; have BK113 := Aside0.mk (hbox); have GE113 := bG HB hg; replace HB := bS HB hb; clear hb hbox hg) | ((with_reducible refine gate_dst (N := 2) rfl ?_); refine boxA (N := 2) (cs := #[.int .i64 0, .int .i64 0]) (t := 30) ?_; intro gb114 hg w6 hbox hb; have BK114 := Aside0.mk (hbox); have GE114 := bG HB hg; have NB113_114 := kN BK113 hg; have NB114_113 := kM BK113 hg; replace BK113 := kB BK113 hb; replace HB := bS HB hb; clear hb hbox hg; obtain ⟨hnb7, hnc7⟩ := nn NB113_114; obtain ⟨hcz8_0, hcz8_1, hcz8_2, hcz8_3, hcz8_4, hfz8_0, hfz8_1, hfz8_2, hfz8_3, hfz8_4⟩ := cc5 BK113) | ((with_reducible refine gate_callee (f := 24) rfl ?_); refine goesA (some 6) Tryz.func24 #[.agg #[.int .i64 a0_0, .int .i64 a0_1, .int .i64 a0_2, .int .i64 a0_3, .slice A0_4 l0_4.length c0_4]] ?_; (with_reducible refine (z5_.calls a0_0 a0_1 a0_2 a0_3 _ _ l0_4 t115 _ ?side1 ?side2 A2.out).mono ?_); (case side1 => exact sX (Kd.C_below HR0_4.out HB.out)); (case side2 => exact HC0_4.out); rintro e w9 ⟨rfl, hb⟩; refine ⟨_, rfl, ?_⟩; replace BK113 := kB BK113 hb; replace BK114 := kB BK114 hb; replace HB := bS HB hb; obtain ⟨hcz10_0, hcz10_1, hcz10_2, hcz10_3, hcz10_4, hfz10_0, hfz10_1, hfz10_2, hfz10_3, hfz10_4⟩ := cc5 BK113) | ((with_reducible refine gate_callee (f := 26) rfl ?_); refine goesA (some 12) Tryz.func26 #[.agg #[.int .i64 a0_0, .int .i64 a0_1, .int .i64 a0_2, .int .i64 a0_3, .slice A0_4 l0_4.length c0_4]] ?_; (with_reducible refine (z12_.calls a0_0 a0_1 a0_2 a0_3 _ _ l0_4 t116 t117 _ ?side1 ?side2 A4.out).mono ?_); (case side1 => exact sX (Kd.C_below HR0_4.out HB.out)); (case side2 => exact HC0_4.out); rintro e w11 ⟨rfl, hb⟩; refine ⟨_, rfl, ?_⟩; replace BK113 := kB BK113 hb; replace BK114 := kB BK114 hb; replace HB := bS HB hb; obtain ⟨hcz12_0, hcz12_1, hfz12_0, hfz12_1⟩ := cc2 BK114))
  refine bodyPost_ret (results_ct rfl _ _ gb114 30 #[.int .i64 t116, .int .i64 t117] (0, 0) _ rfl (kP BK114) Tryz.underlying30 rfl (by kernel_rfl)) rfl ?_
  exact ⟨eqA, bX HB⟩
 ·rw [if_neg c3] at H
  have c3b0 : (t115 == 0) = false := beq_eq_false_iff_ne.mpr c3
  have c3b1 : (t115 != 0) = true := bne_iff_ne.mpr c3
  simp only [Option.some.injEq, Prod.mk.injEq] at H
  obtain ⟨rfl, rfl, rfl⟩ := H
  go_enter Tryz.func13, Tryz.ntmps13
  go_wp2_with (first | ((with_reducible refine gate_dst (N := 1) rfl ?_); refine boxA (N := 1) (cs := #[.int .i64 a0_0, .int .i64 a0_1, .int .i64 a0_2, .int .i64 a0_3, .slice A0_4 l0_4.length c0_4]) (t := 33) ?_; intro gb113 hg w13 hbox hb; have BK113 := Aside0.mk (hbox); have GE113 := bG HB hg; replace HB := bS HB hb; clear hb hbox hg) | ((with_reducible refine gate_dst (N := 2) rfl ?_); refine boxA (N := 2) (cs := #[.int .i64 0, .int .i64 0]) (t := 30) ?_; intro gb114 hg w14 hbox hb; have BK114 := Aside0.mk (hbox); have GE114 := bG HB hg; have NB113_114 := kN BK113 hg; have NB114_113 := kM BK113 hg; replace BK113 := kB BK113 hb; replace HB := bS HB hb; clear hb hbox hg; obtain ⟨hnb15, hnc15⟩ := nn NB113_114; obtain ⟨hcz16_0, hcz16_1, hcz16_2, hcz16_3, hcz16_4, hfz16_0, hfz16_1, hfz16_2, hfz16_3, hfz16_4⟩ := cc5 BK113) | ((with_reducible refine gate_callee (f := 24) rfl ?_); refine goesA (some 6) Tryz.func24 #[.agg #[.int .i64 a0_0, .int .i64 a0_1, .int .i64 a0_2, .int .i64 a0_3, .slice A0_4 l0_4.length c0_4]] ?_; (with_reducible refine (z5_.calls a0_0 a0_1 a0_2 a0_3 _ _ l0_4 t115 _ ?side1 ?side2 A2.out).mono ?_); (case side1 => exact sX (Kd.C_below HR0_4.out HB.out)); (case side2 => exact HC0_4.out); rintro e w17 ⟨rfl, hb⟩; refine ⟨_, rfl, ?_⟩; replace BK113 := kB BK113 hb; replace BK114 := kB BK114 hb; replace HB := bS HB hb; obtain ⟨hcz18_0, hcz18_1, hfz18_0, hfz18_1⟩ := cc2 BK114))
  refine bodyPost_ret (results_ct rfl _ _ gb114 30 #[.int .i64 0, .int .i64 0] (0, 0) _ rfl (kP BK114) Tryz.underlying30 rfl (by kernel_rfl)) rfl ?_
  exact ⟨eqA, bX HB⟩
end PRst
end Go.Proofs.YtgdkmadcegleiaaGreatDoor
namespace Go.Proofs.YtgdkmadcegleiaaGreatDoor
namespace PRst
open X Yr
attribute [local go_sem] max2_int min2_int max_two min_two max_three min_three max_four min_four   -- for this text's walks alone
end PRst
end Go.Proofs.YtgdkmadcegleiaaGreatDoor
namespace Go.Proofs.YtgdkmadcegleiaaGreatDoor
namespace PRpt
open X Y
attribute [local go_sem] max2_int min2_int max_two min_two max_three min_three max_four min_four   -- for this text's walks alone
def errW : Option Int → Value
  | none => .nilIface
  | some c => .iface 0 (.int .i64 c)
theorem errW_none : errW none = .nilIface := rfl
theorem errW_some (c : Int) : errW (some c) = .iface 0 (.int .i64 c) := rfl
end PRpt
end Go.Proofs.YtgdkmadcegleiaaGreatDoor
namespace Go.Proofs.YtgdkmadcegleiaaGreatDoor
namespace PRpt
open Sq X Y
attribute [local go_sem] span_f0 span_f1 max2_int min2_int max_two min_two max_three min_three max_four min_four   -- for this text's walks alone
def rivet_Pleat_1.l0 : Nat → Int → Int → Int → Int → Int → Int → Int → Int → List (S47) → Option (Bool)
 | 0, _, _, _, _, _, _, _, _, _ => none
 | k + 1, x0, x14, x15, x103000, x104000, x104001, x104002, x104003, x104004 => if x15 < x14 then (if 0 ≤ x15 then (if x15 < (x104004.length : Int) then (rivet_Pleat_1.l0 k x0 x14 (wrap64 (x15 + 1)) x103000 x104000 x104001 x104002 x104003 (x104004.set (x15 : Int).toNat (⟨(⟨x0, x0⟩ : S30), (⟨(rd_T47 x104004 x15).f1.f0, (rd_T47 x104004 x15).f1.f1⟩ : S30)⟩ : S47))) else (none)) else (none)) else ((z12_.f x104000 x104001 x104002 x104003 x104004).bind fun bt108 => (some (decide (bt108.1 ≥ x103000))))
def rivet_Pleat_1.f (k : Nat) (a0 : Int) (a1_0 : Int) (a1_1 : Int) (a1_2 : Int) (a1_3 : Int) (l1_4 : List (S47)) (a2 : Int) : Option (Bool) := (z22_.f l1_4).bind fun t104 => (rivet_Pleat_1.l0 k a0 (t104.length : Int) 0 a2 a1_0 a1_1 a1_2 a1_3 t104)
def z65_.l0 : Nat → Int → Int → Int → Int → Int → Int → Int → List (S47) → Option (Int × Int)
 | 0, _, _, _, _, _, _, _, _ => none
 | k + 1, x1, x8, x9, x111000, x111001, x111002, x111003, x111004 => if x8 < x9 then (if (wrap64 (Int.tdiv (wrap64 (x8 + x9)) 2)) > 1000 then (z65_.l0 k x1 x8 (wrap64 (Int.tdiv (wrap64 (x8 + x9)) 2)) x111000 x111001 x111002 x111003 x111004) else ((rivet_Pleat_1.f k (wrap64 (Int.tdiv (wrap64 (x8 + x9)) 2)) x111000 x111001 x111002 x111003 x111004 x1).bind fun t114 => (if t114 = true then (z65_.l0 k x1 x8 (wrap64 (Int.tdiv (wrap64 (x8 + x9)) 2)) x111000 x111001 x111002 x111003 x111004) else (z65_.l0 k x1 (wrap64 ((wrap64 (Int.tdiv (wrap64 (x8 + x9)) 2)) + 1)) x9 x111000 x111001 x111002 x111003 x111004)))) else (if x8 > 1000 then (some (0, 7)) else (some (x8, 0)))
def z65_.f (k : Nat) (a0_0 : Int) (a0_1 : Int) (a0_2 : Int) (a0_3 : Int) (l0_4 : List (S47)) (a1 : Int) : Option (Int × Int) := (z5_.f a0_0 a0_1 a0_2 a0_3 l0_4).bind fun t112 => (if t112 = 0 then ((z31_.f a1).bind fun t113 => (if t113 = true then (z65_.l0 k a1 0 1001 a0_0 a0_1 a0_2 a0_3 l0_4) else (some (0, 4)))) else (some (0, t112)))
end PRpt
end Go.Proofs.YtgdkmadcegleiaaGreatDoor
namespace Go.Proofs.YtgdkmadcegleiaaGreatDoor
namespace PRpt
open X Y
attribute [local go_sem] max2_int min2_int max_two min_two max_three min_three max_four min_four   -- for this text's walks alone
end PRpt
end Go.Proofs.YtgdkmadcegleiaaGreatDoor
