/- Part 4 of this claim's texts, put together by a program of its author: TooQ, PSurx0, PSurx1, PSurx, TooR, PConx0, PConx1, PConx, TooS, LatA, LatB, LatShelf, LatC, LatD, PLatx0, PLatx1, PLatx, LatE. -/
import Derived.Test.YteoifcmafkbklaaDoorMc
import Derived.Test.YteoifcmafkbklaaDoorProg
import Derived.Below
import Derived.Deep.Draws
import Derived.Deep.AppendLies
import Derived.Maps.AppendAt
import Derived.OwnWalk
import Derived.Laws.BytesArg
import Derived.Laws.MakeOwn
import Derived.Laws.OwnMore
import Derived.Deep.OwnRows
import Derived.Tactics
import Derived.Lib.ConvBytes
import Derived.Laws.Slices
import Derived.WalkKit
import Derived.KernelRfl
import Derived.RowKit3
import Derived.Deep.LoopGhost
import Derived.Deep.QuietTactic
import Derived.BigQuiet
import Derived.WideLaws
import Derived.Deep.DeepCutAuto
import Derived.Deep.CutBlock
import Derived.Deep.RegionHeld3
import Derived.Laws.Rows
import Derived.Lib.AppendStr
import Derived.ArgAppend
import Derived.Laws.IdiomCopy
import Derived.OrdersHeld
import Derived.Laws.BitsLemmas
import Derived.RowKit
import Derived.Test.YteoifcmafkbklaaDoorMa
import Derived.Deep.RegionWith
import Derived.StillTailTactics
import Derived.Test.YteoifcmafkbklaaDoorMb
import Derived.Lib.OthersKept
import Derived.Lib.Strings
import Derived.Shelf.Small.Utf8
import Derived.Shelf.Unicode.Decode
import Derived.Shelf.Unicode.DecodeSlow
import Derived.Shelf.Unicode.DecodeAny
import Derived.Shelf.Unicode.DecodeLast
import Derived.Shelf.Slices.Turned
section
/- Package tooth: open, where there is no error. -/
namespace Go.Proofs.YteoifcmafkbklaaDoor.X
open Go.RowKit Go.Proofs.YteoifcmafkbklaaDoorW.PrintWords Go.Proofs.YteoifcmafkbklaaDoorW.PrintLast Go.Proofs.YteoifcmafkbklaaDoorW.PrintMore Go.Proofs.YteoifcmafkbklaaDoor.PToo Go.Proofs.YteoifcmafkbklaaDoor.PBen

theorem tooth_within_lit2 (a0 a1 x y : Int) (q : Bool) (W : World) (e : TypeId) {g : Nat} (h : tooth_within.f a0 a1 [x, y] = some q) (hg : g = W.heap.size) :
    Calls Tryd.prog 28 #[.int .i64 a0, .int .i64 a1, .slice (some ⟨g, 0, none⟩) 2 2] (W.alloc (.cells #[.int .i64 x, .int .i64 y] e)) fun e w' => e = .returned (.bool q) ∧ Below W.heap.size W w' := by
  refine (tooth_within.calls a0 a1 _ 2 [x, y] q _ (C_lit2 W .i64 e x y hg) (Nat.le_refl 2) h).mono ?_
  rintro e w' ⟨rfl, hb⟩
  exact ⟨rfl, below_then (below_alloc (Below.refl _ _) _) (by simp) hb⟩

/-- Three blocks that a call makes first. -/
def threeW (w : World) (t1 t2 t3 : TypeId) (v1 v2 v3 : Array Value) : World := ((w.alloc (.cells v1 t1 (0, 0))).alloc (.cells v2 t2 (0, 0))).alloc (.cells v3 t3 (0, 0))
theorem threeW_facts {w w1 : World} {t1 t2 t3 : TypeId} {v1 v2 v3 : Array Value} (hb : Below (threeW w t1 t2 t3 v1 v2 v3).heap.size (threeW w t1 t2 t3 v1 v2 v3) w1) :
    w1.heap[w.heap.size]? = some (.cells v1 t1 (0, 0)) ∧ w1.heap[w.heap.size + 1]? = some (.cells v2 t2 (0, 0)) ∧ w1.heap[w.heap.size + 1 + 1]? = some (.cells v3 t3 (0, 0)) ∧ Below w.heap.size w w1 ∧ w.heap.size + 3 ≤ w1.heap.size := by
  refine ⟨blk_below (blk_alloc (blk_alloc (blk_new _ _) _) _) hb, blk_below (blk_alloc (one_blk _ _ (by simp)) _) hb, blk_below (one_blk _ _ (by simp)) hb, below_then (below_alloc (below_alloc (below_alloc (Below.refl _ _) _) _) _) (by show _ ≤ (((w.alloc _).alloc _).alloc _).heap.size; simp; omega) hb, ?_⟩
  have h : (((w.alloc (.cells v1 t1 (0, 0))).alloc (.cells v2 t2 (0, 0))).alloc (.cells v3 t3 (0, 0))).heap.size ≤ w1.heap.size := hb.size
  simp at h
  omega
theorem after_alloc {w w1 : World} {o : Obj} (h : Below (w.alloc o).heap.size (w.alloc o) w1) : w1.heap[w.heap.size]? = some o ∧ Below w.heap.size w w1 :=
  ⟨blk_below (blk_new _ _) h, below_then (below_alloc (Below.refl _ _) _) (by simp) h⟩

theorem R_new3 {α : Type} {d : Kd α} {e base b : Nat} {w : World} {v : Value} {xs : List α} (h : d.R e w b (fun _ => True) v xs) (hb : base + 3 ≤ b) : d.R e w base (fun k => base + 3 ≤ k) v xs :=
  Kd.R_lower (Kd.R_mono (Kd.R_bound h) fun k hk => Nat.le_trans hb hk.2.1) (by omega)
theorem threeW_out {w : World} {t1 t2 t3 : TypeId} {v1 v2 v3 : Array Value} : w.heap.size + 3 ≤ (threeW w t1 t2 t3 v1 v2 v3).heap.size := by
  show _ ≤ (((w.alloc _).alloc _).alloc _).heap.size
  simp
theorem openW_facts {w w1 W : World} {t1 t2 t3 : TypeId} {v1 v2 v3 : Array Value} {o : Obj} (hb : Below (threeW w t1 t2 t3 v1 v2 v3).heap.size (threeW w t1 t2 t3 v1 v2 v3) w1) (h : Below (w1.alloc o).heap.size (w1.alloc o) W) :
    W.heap[w.heap.size + 1]? = some (.cells v2 t2 (0, 0)) ∧ W.heap[w.heap.size + 1 + 1]? = some (.cells v3 t3 (0, 0)) ∧ W.heap[w1.heap.size]? = some o ∧ Below w.heap.size w W ∧ Below w1.heap.size w1 W := by
  obtain ⟨_, b2, b3, hbw, _⟩ := threeW_facts hb
  obtain ⟨b6, h1⟩ := after_alloc h
  exact ⟨blk_below b2 h1, blk_below b3 h1, b6, later_below hbw h1, h1⟩
set_option maxHeartbeats 4000000 in
set_option maxRecDepth 8000 in
theorem open_calls {A0 A1 A3 : Option Addr} {c0 c1 c3 k : Nat} {bot top : List S32} {bend : Int} {cr : List S35} {rb rt : List S32} {long wide kerf across : Int} {w : World}
    (hr0 : Kd.C k32 w A0 bot.length bot) (hc0 : bot.length ≤ c0) (hr1 : Kd.C k32 w A1 top.length top) (hc1 : top.length ≤ c1) (hr3 : Kd.C k35 w A3 cr.length cr) (hc3 : cr.length ≤ c3)
    (hf : tooth_form.f bot top bend cr = some 0) (hb : tooth_bent.f k bot bend = some (rb, true)) (ht : tooth_bent.f k top bend = some (rt, true))
    (h1 : tooth_within.f 1 30 [long] = some true) (h2 : tooth_within.f 1 300 [wide] = some true) (h3 : tooth_within.f 0 50 [kerf, across] = some true) :
    Calls Tryd.prog 14 #[.agg (bladeV A0 A1 A3 bot.length c0 top.length c1 cr.length c3 bend), .agg #[.int .i64 long, .int .i64 wide, .int .i64 kerf, .int .i64 across]] w fun e w' =>
      ∃ vb vt : Value, e = .returned (.tuple #[.agg #[.slice A0 bot.length c0, .slice A1 top.length c1, .int .i64 bend, .slice A3 cr.length c3, vb, vt], .int .i64 0]) ∧ Kd.R k32 32 w' w.heap.size (fun _ => True) vb rb ∧ Kd.R k32 32 w' w.heap.size (fun _ => True) vt rt ∧ Below w.heap.size w w' := by
  have HF : Aside0 (∀ {w1 : World}, Below (threeW w 29 38 57 (bladeV A0 A1 A3 bot.length c0 top.length c1 cr.length c3 bend) #[.int .i64 long, .int .i64 wide, .int .i64 kerf, .int .i64 across] noBlade).heap.size (threeW w 29 38 57 (bladeV A0 A1 A3 bot.length c0 top.length c1 cr.length c3 bend) #[.int .i64 long, .int .i64 wide, .int .i64 kerf, .int .i64 across] noBlade) w1 → _) := ⟨fun hb => threeW_facts hb⟩
  have CN : Aside0 (∀ W, Below w.heap.size w W → Calls Tryd.prog 27 #[.agg (bladeV A0 A1 A3 bot.length c0 top.length c1 cr.length c3 bend)] W _) := ⟨fun W h => newBlade_calls (Kd.C_below hr0 h) hc0 (Kd.C_below hr1 h) hc1 (Kd.C_below hr3 h) hc3 hf hb ht⟩
  have HS : Aside0 (Below w.heap.size w (threeW w 29 38 57 (bladeV A0 A1 A3 bot.length c0 top.length c1 cr.length c3 bend) #[.int .i64 long, .int .i64 wide, .int .i64 kerf, .int .i64 across] noBlade)) := ⟨below_alloc (below_alloc (below_alloc (Below.refl _ _) _) _) _⟩
  have W1 := Aside0.mk h1
  have W2 := Aside0.mk h2
  have W3 := Aside0.mk h3
  clear hr0 hr1 hr3 hc0 hc1 hc3 hf hb ht h1 h2 h3
  go_enter Tryd.func14, Tryd.ntmps14
  go_upto_region 2 with (first
    | (go_at_call 27; refine (CN.out _ HS.out).mono ?_; rintro e w1 ⟨vb, vt, rfl, hvb, hvt, hb1⟩; obtain ⟨Ab, cb, rfl⟩ := Kd.R_slice hvb; obtain ⟨At, ct, rfl⟩ := Kd.R_slice hvt; obtain ⟨b1, b2, b3, hb, hsz⟩ := HF.out hb1; have HB1 := Aside0.mk hb1; have HVB := Aside0.mk (R_new3 hvb threeW_out); have HVT := Aside0.mk (R_new3 hvt threeW_out); have y0 := (blk_cell b2 0).trans rfl; have y1 := (blk_cell b2 1).trans rfl; have y2 := (blk_cell b2 2).trans rfl; have y3 := (blk_cell b2 3).trans rfl; clear hvb hvt hb1 hb b1 b2 b3))
  have HG : Aside0 (∀ {W : World}, Below (w1.alloc (.cells #[.slice A0 bot.length c0, .slice A1 top.length c1, .int .i64 bend, .slice A3 cr.length c3, .slice Ab rb.length cb, .slice At rt.length ct] 57 (0, 0))).heap.size (w1.alloc (.cells #[.slice A0 bot.length c0, .slice A1 top.length c1, .int .i64 bend, .slice A3 cr.length c3, .slice Ab rb.length cb, .slice At rt.length ct] 57 (0, 0))) W → _) := ⟨fun h => openW_facts HB1.out h⟩
  have H0 := Aside0.mk (Below.refl (w1.alloc (.cells #[.slice A0 bot.length c0, .slice A1 top.length c1, .int .i64 bend, .slice A3 cr.length c3, .slice Ab rb.length cb, .slice At rt.length ct] 57 (0, 0))).heap.size (w1.alloc (.cells #[.slice A0 bot.length c0, .slice A1 top.length c1, .int .i64 bend, .slice A3 cr.length c3, .slice Ab rb.length cb, .slice At rt.length ct] 57 (0, 0))))
  clear y0 y1 y2 y3 HF HS CN
  generalize w1.alloc (.cells #[.slice A0 bot.length c0, .slice A1 top.length c1, .int .i64 bend, .slice A3 cr.length c3, .slice Ab rb.length cb, .slice At rt.length ct] 57 (0, 0)) = wz at HG H0 ⊢
  obtain ⟨b2, b3, b6, hbw, hb11⟩ := HG.out H0.out
  have y0 := (blk_cell b2 0).trans rfl
  have y1 := (blk_cell b2 1).trans rfl
  have y2 := (blk_cell b2 2).trans rfl
  have y3 := (blk_cell b2 3).trans rfl
  clear b2 b3 b6 hbw hb11
  go_wp2_with (first
    | (go_at_call 28; with_reducible refine (tooth_within_lit _ _ _ true _ _ W1.out ?side).mono ?_; (case side => simp); rintro e wa ⟨rfl, hb1⟩; have HA := Aside0.mk (below_then H0.out (Nat.le_refl _) hb1); clear y0 y1 y2 y3; obtain ⟨b2, b3, b6, hbw, hb11⟩ := HG.out HA.out; have y0 := (blk_cell b2 0).trans rfl; have y1 := (blk_cell b2 1).trans rfl; have y2 := (blk_cell b2 2).trans rfl; have y3 := (blk_cell b2 3).trans rfl; clear hb1 b2 b3 b6 hbw hb11)
    | (go_at_call 28; with_reducible refine (tooth_within_lit _ _ _ true _ _ W2.out ?side).mono ?_; (case side => simp); rintro e wb ⟨rfl, hb1⟩; have HBx := Aside0.mk (below_then HA.out HA.out.size hb1); clear y0 y1 y2 y3; obtain ⟨b2, b3, b6, hbw, hb11⟩ := HG.out HBx.out; have y0 := (blk_cell b2 0).trans rfl; have y1 := (blk_cell b2 1).trans rfl; have y2 := (blk_cell b2 2).trans rfl; have y3 := (blk_cell b2 3).trans rfl; clear hb1 b2 b3 b6 hbw hb11)
    | (go_at_call 28; with_reducible refine (tooth_within_lit2 _ _ _ _ true _ _ W3.out ?side).mono ?_; (case side => simp); rintro e wc ⟨rfl, hb1⟩; have HC := Aside0.mk (below_then HBx.out HBx.out.size hb1); clear y0 y1 y2 y3; obtain ⟨b2, b3, b6, hbw, hb11⟩ := HG.out HC.out; have y0 := (blk_cell b2 0).trans rfl; have y1 := (blk_cell b2 1).trans rfl; have y2 := (blk_cell b2 2).trans rfl; have y3 := (blk_cell b2 3).trans rfl; have HBW := Aside0.mk hbw; have HB11 := Aside0.mk hb11; have x0 := (blk_cell b6 0).trans rfl; have x1 := (blk_cell b6 1).trans rfl; have x2 := (blk_cell b6 2).trans rfl; have x3 := (blk_cell b6 3).trans rfl; have x4 := (blk_cell b6 4).trans rfl; have x5 := (blk_cell b6 5).trans rfl; have z0 := (blk_cell b3 0).trans rfl; have z1 := (blk_cell b3 1).trans rfl; have z2 := (blk_cell b3 2).trans rfl; have z3 := (blk_cell b3 3).trans rfl; have z4 := (blk_cell b3 4).trans rfl; have z5 := (blk_cell b3 5).trans rfl; have f0 := blk_frozen b3 0; have f1 := blk_frozen b3 1; have f2 := blk_frozen b3 2; have f3 := blk_frozen b3 3; have f4 := blk_frozen b3 4; have f5 := blk_frozen b3 5; have B4 := Aside0.mk b3; clear hb1 b2 b3 b6 hbw hb11))
  refine bodyPost_ret (results_ct rfl _ _ _ 57 #[.slice A0 bot.length c0, .slice A1 top.length c1, .int .i64 bend, .slice A3 cr.length c3, .slice Ab rb.length cb, .slice At rt.length ct] (0, 0) _ rfl (blk_put (blk_put (blk_put (blk_put (blk_put (blk_put B4.out 0 _ rfl) 1 _ rfl) 2 _ rfl) 3 _ rfl) 4 _ rfl) 5 _ rfl) Tryd.underlying57 rfl (by kernel_rfl)) rfl ?_
  have ge : w.heap.size ≤ w.heap.size + 1 + 1 := by omega
  have hf : ∀ k, w.heap.size + 3 ≤ k → k ≠ w.heap.size + 1 + 1 := fun k h => by omega
  exact ⟨_, _, rfl, Kd.R_mono (Kd.R_far (Kd.R_far (Kd.R_far (Kd.R_far (Kd.R_far (Kd.R_far (Kd.R_below HVB.out HB11.out) hf _) hf _) hf _) hf _) hf _) hf _) (fun _ _ => trivial), Kd.R_mono (Kd.R_far (Kd.R_far (Kd.R_far (Kd.R_far (Kd.R_far (Kd.R_far (Kd.R_below HVT.out HB11.out) hf _) hf _) hf _) hf _) hf _) hf _) (fun _ _ => trivial), below_set (below_set (below_set (below_set (below_set (below_set HBW.out ge) ge) ge) ge) ge) ge⟩
end Go.Proofs.YteoifcmafkbklaaDoor.X
end
section
-- Written by a program of this claim's author out of the translation (the kit's print, with some functions taken as given). Not trusted: Lean checks it.
namespace Go.Proofs.YteoifcmafkbklaaDoor.PSur
open Go.RowKit Go.Proofs.YteoifcmafkbklaaDoorW.PrintWords Go.Proofs.YteoifcmafkbklaaDoorW.PrintLast Go.Proofs.YteoifcmafkbklaaDoorW.PrintMore Go.Proofs.YteoifcmafkbklaaDoor.X
attribute [local go_sem] max2_int min2_int max_two min_two max_three min_three max_four min_four   -- for this text's walks alone
set_option linter.unusedVariables false
set_option linter.unusedSimpArgs false



def errW : Option Int → Value
  | none => .nilIface
  | some c => .iface 0 (.int .i64 c)
theorem errW_none : errW none = .nilIface := rfl
theorem errW_some (c : Int) : errW (some c) = .iface 0 (.int .i64 c) := rfl

theorem info67 : (Tryd.prog.info? 67).map (fun i => (i.zero, i.size, i.bytes)) = some (some (.agg #[(.int .i64 0), (.int .i64 0), (.int .i64 0), (.int .i64 0)]), 4, 32) := by kernel_rfl
-- the values' own types

end Go.Proofs.YteoifcmafkbklaaDoor.PSur
end
section
-- Written by a program of this claim's author out of the translation (the kit's print, with some functions taken as given). Not trusted: Lean checks it.
namespace Go.Proofs.YteoifcmafkbklaaDoor.PSur
open Go.RowKit Go.Proofs.YteoifcmafkbklaaDoorW.PrintWords Go.Proofs.YteoifcmafkbklaaDoorW.PrintLast Go.Proofs.YteoifcmafkbklaaDoorW.PrintMore Go.Proofs.YteoifcmafkbklaaDoor.X
attribute [local go_sem] max2_int min2_int max_two min_two max_three min_three max_four min_four   -- for this text's walks alone
set_option linter.unusedVariables false
set_option linter.unusedSimpArgs false

-- NOT PRINTED: function 29 (tooth_edges)

/-! ### tooth_blade_sure: function 15 -/
def tooth_blade_sure.l0 : Nat → List (S35) → Int → Int → List Int → List Int → List (S67) → Option (List Int × List Int × (List (S67)))
  | 0, _, _, _, _, _, _ => none
  | k + 1, x15, x16, x17, x110000, x110001, x110002 => if x17 < x16 then (if 0 ≤ x17 then (if x17 < (x15.length : Int) then (if x110002.length < 4398046511104 then (tooth_blade_sure.l0 k x15 x16 (wrap64 (x17 + 1)) x110000 x110001 (x110002 ++ [(⟨(⟨(rd_T35 x15 x17).f0.f0, (rd_T35 x15 x17).f0.f1⟩ : S32), (⟨(rd_T35 x15 x17).f1.f0, (rd_T35 x15 x17).f2.f1⟩ : S32)⟩ : S67)])) else (none)) else (none)) else (none)) else (some (x110000, x110001, x110002))
def tooth_blade_sure.f (k : Nat) (l0_0 : List (S32)) (l0_1 : List (S32)) (a0_2 : Int) (l0_3 : List (S35)) (l0_4 : List (S32)) (l0_5 : List (S32)) : Option (List Int × List Int × (List (S67))) := (tooth_high.f l0_4).bind fun t103 => ((tooth_low.f l0_5).bind fun t106 => (tooth_blade_sure.l0 k l0_3 (l0_3.length : Int) 0 t103 t106 ([] : List (S67))))
theorem tooth_blade_sure.mono_l : ∀ k, (∀ y0 y1 y2 y3 y4 y5, LeO (tooth_blade_sure.l0 k y0 y1 y2 y3 y4 y5) (tooth_blade_sure.l0 (k + 1) y0 y1 y2 y3 y4 y5))
  | 0 => fun _ _ _ _ _ _ r h => by simp [tooth_blade_sure.l0] at h
  | k + 1 => by
    have ih0 := tooth_blade_sure.mono_l k
    · intro y0 y1 y2 y3 y4 y5
      unfold tooth_blade_sure.l0
      repeat' first
      | (with_reducible exact ih0 _ _ _ _ _ _)
      | (with_reducible exact LeO.refl _)
      | (with_reducible exact LeO.none _)
      | (with_reducible refine LeO.ite ?_ ?_)
      | (with_reducible refine LeO.bind ?_ (fun _ => ?_))
      | exact ih0 _ _ _ _ _ _
      | exact LeO.none _
      | refine LeO.ite ?_ ?_
      | refine LeO.bind ?_ (fun _ => ?_)
theorem tooth_blade_sure.mono : ∀ a0 a1 a2 a3 a4 a5 k, LeO (tooth_blade_sure.f k a0 a1 a2 a3 a4 a5) (tooth_blade_sure.f (k + 1) a0 a1 a2 a3 a4 a5) := by
  intro a0 a1 a2 a3 a4 a5 k
  have ih0 := tooth_blade_sure.mono_l k
  unfold tooth_blade_sure.f
  repeat' first
      | (with_reducible exact ih0 _ _ _ _ _ _)
      | (with_reducible exact LeO.refl _)
      | (with_reducible exact LeO.none _)
      | (with_reducible refine LeO.ite ?_ ?_)
      | (with_reducible refine LeO.bind ?_ (fun _ => ?_))
      | exact ih0 _ _ _ _ _ _
      | exact LeO.none _
      | refine LeO.ite ?_ ?_
      | refine LeO.bind ?_ (fun _ => ?_)
def tooth_blade_sure.T1 : Bool × List (List Nat × List Nat) := (true, [([], []), ([0], [0]), ([1], [1]), ([], []), ([3], [3]), ([4, 2], [4]), ([2, 5], [2, 5]), ([], []), ([7, 6, 5, 0, 1, 2, 3, 4, 5, 6, 7], [6, 7])])
def tooth_blade_sure.B1 : List Nat := [0, 1, 3, 0, 8, 31, 63, 0, 255]
theorem tooth_blade_sure.tab1 : rtab .any (opsOf Tryd.f15 1) = tooth_blade_sure.T1 := by kernel_rfl
theorem tooth_blade_sure.bits1 : waitsOk tooth_blade_sure.T1.2 tooth_blade_sure.B1 = true := by kernel_rfl
set_option maxHeartbeats 8000000 in
set_option maxRecDepth 100000 in
theorem tooth_blade_sure.calls (k : Nat) (A0_0 : Option Addr) (c0_0 : Nat) (l0_0 : List (S32)) (A0_1 : Option Addr) (c0_1 : Nat) (l0_1 : List (S32)) (a0_2 : Int) (A0_3 : Option Addr) (c0_3 : Nat) (l0_3 : List (S35)) (A0_4 : Option Addr) (c0_4 : Nat) (l0_4 : List (S32)) (A0_5 : Option Addr) (c0_5 : Nat) (l0_5 : List (S32)) (r1 : List Int) (r2 : List Int) (r3 : List (S67)) (w : World) (hr0_0 : Kd.C k32 w A0_0 l0_0.length l0_0) (hc0_0 : l0_0.length ≤ c0_0) (hr0_1 : Kd.C k32 w A0_1 l0_1.length l0_1) (hc0_1 : l0_1.length ≤ c0_1) (hr0_3 : Kd.C k35 w A0_3 l0_3.length l0_3) (hc0_3 : l0_3.length ≤ c0_3) (hr0_4 : Kd.C k32 w A0_4 l0_4.length l0_4) (hc0_4 : l0_4.length ≤ c0_4) (hr0_5 : Kd.C k32 w A0_5 l0_5.length l0_5) (hc0_5 : l0_5.length ≤ c0_5) (h : tooth_blade_sure.f k l0_0 l0_1 a0_2 l0_3 l0_4 l0_5 = some (r1, r2, r3)) :
    Calls Tryd.prog 15 #[.agg #[.slice A0_0 l0_0.length c0_0, .slice A0_1 l0_1.length c0_1, .int .i64 a0_2, .slice A0_3 l0_3.length c0_3, .slice A0_4 l0_4.length c0_4, .slice A0_5 l0_5.length c0_5]] w fun e w' => ∃ v0_ v1_ v2_ : Value, e = .returned (.agg #[v0_, v1_, v2_]) ∧ Kd.R (Kd.int .i64) 3 w' w.heap.size (fun k_ => some k_ ≠ (v1_ : Value).ownBlock) v0_ r1 ∧ Kd.R (Kd.int .i64) 3 w' w.heap.size (fun k_ => some k_ ≠ (v0_ : Value).ownBlock) v1_ r2 ∧ Kd.R k67 67 w' w.heap.size (fun _ => True) v2_ r3 ∧ Below w.heap.size w w' := by
  have hu57 := Tryd.underlying57
  have hu62 := Tryd.underlying62
  have hu35 := Tryd.underlying35
  have hu32 := Tryd.underlying32
  have hu67 := Tryd.underlying67
  have HR0_0 := Aside0.mk hr0_0
  have HC0_0 := Aside0.mk hc0_0
  clear hr0_0 hc0_0
  have HR0_1 := Aside0.mk hr0_1
  have HC0_1 := Aside0.mk hc0_1
  clear hr0_1 hc0_1
  have HR0_3 := Aside0.mk hr0_3
  have HC0_3 := Aside0.mk hc0_3
  clear hr0_3 hc0_3
  have HR0_4 := Aside0.mk hr0_4
  have HC0_4 := Aside0.mk hc0_4
  clear hr0_4 hc0_4
  have HR0_5 := Aside0.mk hr0_5
  have HC0_5 := Aside0.mk hc0_5
  clear hr0_5 hc0_5
  have HB := Aside0.mk (Below.refl w.heap.size w)
  have H : ((tooth_high.f l0_4).bind fun t103 => ((tooth_low.f l0_5).bind fun t106 => (tooth_blade_sure.l0 k l0_3 (l0_3.length : Int) 0 t103 t106 ([] : List (S67))))) = some (r1, r2, r3) := h
  clear h
  replace H := Option.bind_eq_some_iff.mp H
  obtain ⟨t103, A20, H⟩ := H
  replace H : ((tooth_low.f l0_5).bind fun t106 => (tooth_blade_sure.l0 k l0_3 (l0_3.length : Int) 0 t103 t106 ([] : List (S67)))) = some (r1, r2, r3) := H
  have A2 := Aside0.mk A20
  clear A20
  replace H := Option.bind_eq_some_iff.mp H
  obtain ⟨t106, A30, H⟩ := H
  replace H : (tooth_blade_sure.l0 k l0_3 (l0_3.length : Int) 0 t103 t106 ([] : List (S67))) = some (r1, r2, r3) := H
  have A3 := Aside0.mk A30
  clear A30
  have H' := Aside0.mk H
  clear H
  go_enter Tryd.func15, Tryd.ntmps15
  try go_wp2_with (first | ((with_reducible refine gate_dst (N := 1) rfl ?_); refine box_event ?hg (N := 1) ?hd (cs := #[.slice A0_0 l0_0.length c0_0, .slice A0_1 l0_1.length c0_1, .int .i64 a0_2, .slice A0_3 l0_3.length c0_3, .slice A0_4 l0_4.length c0_4, .slice A0_5 l0_5.length c0_5]) (t := 57) ?hr ?_; (case hd => rfl); (case hg => rfl); (case hr => first | (go_simp; done) | (go_simp; rfl)); intro gb101 hg w4 hbox hb; have n0_ := Aside0.mk (below_step (by repeat (first | (with_reducible first | exact HB.out | apply below_alloc | apply pw_below_drewN | apply below_drew1) | exact HB.out)) hb); have n1_ := Aside0.mk (hbox); have n2_ := Aside0.mk ((by rw [hg]; exact (below_size (by repeat (first | (with_reducible first | exact HB.out | apply below_alloc | apply pw_below_drewN | apply below_drew1) | exact HB.out))) : w.heap.size ≤ gb101)); have n3_ := Aside0.mk ((by rw [hg]; exact (below_size (by repeat (first | (with_reducible first | exact HB.out | apply below_alloc | apply pw_below_drewN | apply below_drew1) | exact HB.out))) : w.heap.size ≤ gb101)); clear HB; have HB := n0_; have BK101 := n1_; have GW101 := n2_; have GE101 := n3_; clear n0_ n1_ n2_ n3_; clear hb hbox hg) | ((with_reducible refine gate_dst (N := 2) rfl ?_); refine box_event ?hg (N := 2) ?hd (cs := #[.slice none 0 0, .slice none 0 0, .slice none 0 0]) (t := 62) ?hr ?_; (case hd => rfl); (case hg => rfl); (case hr => first | (go_simp; done) | (go_simp; rfl)); intro gb102 hg w5 hbox hb; have n0_ := Aside0.mk (blk_below (g := gb101) (o := .cells #[.slice A0_0 l0_0.length c0_0, .slice A0_1 l0_1.length c0_1, .int .i64 a0_2, .slice A0_3 l0_3.length c0_3, .slice A0_4 l0_4.length c0_4, .slice A0_5 l0_5.length c0_5] 57 (0, 0)) (by (with_reducible repeat (first | refine blk_drewN ?_ _ | refine blk_drew ?_ | refine blk_alloc ?_ _)); exact BK101.out) hb); have n1_ := Aside0.mk (below_step (by repeat (first | (with_reducible first | exact HB.out | apply below_alloc | apply pw_below_drewN | apply below_drew1 | refine below_set ?_ GE101.out) | exact HB.out)) hb); have n2_ := Aside0.mk (hbox); have n3_ := Aside0.mk ((by rw [hg]; exact (below_size (by repeat (first | (with_reducible first | exact HB.out | apply below_alloc | apply pw_below_drewN | apply below_drew1 | refine below_set ?_ GE101.out) | exact HB.out))) : w.heap.size ≤ gb102)); have n4_ := Aside0.mk ((by rw [hg]; exact (below_size (by repeat (first | (with_reducible first | exact HB.out | apply below_alloc | apply pw_below_drewN | apply below_drew1 | refine below_set ?_ GE101.out) | exact HB.out))) : w.heap.size ≤ gb102)); have n5_ := Aside0.mk ((by rw [hg]; exact Nat.ne_of_lt (blk_lt (g := gb101) (o := .cells #[.slice A0_0 l0_0.length c0_0, .slice A0_1 l0_1.length c0_1, .int .i64 a0_2, .slice A0_3 l0_3.length c0_3, .slice A0_4 l0_4.length c0_4, .slice A0_5 l0_5.length c0_5] 57 (0, 0)) (by (with_reducible repeat (first | refine blk_drewN ?_ _ | refine blk_drew ?_ | refine blk_alloc ?_ _)); exact BK101.out)) : gb101 ≠ gb102)); have n6_ := Aside0.mk ((by rw [hg]; exact Nat.ne_of_gt (blk_lt (g := gb101) (o := .cells #[.slice A0_0 l0_0.length c0_0, .slice A0_1 l0_1.length c0_1, .int .i64 a0_2, .slice A0_3 l0_3.length c0_3, .slice A0_4 l0_4.length c0_4, .slice A0_5 l0_5.length c0_5] 57 (0, 0)) (by (with_reducible repeat (first | refine blk_drewN ?_ _ | refine blk_drew ?_ | refine blk_alloc ?_ _)); exact BK101.out)) : gb102 ≠ gb101)); clear BK101; clear HB; have BK101 := n0_; have HB := n1_; have BK102 := n2_; have GW102 := n3_; have GE102 := n4_; have NB101_102 := n5_; have NB102_101 := n6_; clear n0_ n1_ n2_ n3_ n4_ n5_ n6_; clear hb hbox hg))
  have n0_ := Aside0.mk (blk_drew BK101.out)
  have n1_ := Aside0.mk (blk_drew BK102.out)
  have n2_ := Aside0.mk (below_drew1 HB.out)
  clear BK101
  clear BK102
  clear HB
  have BK101 := n0_
  have BK102 := n1_
  have HB := n2_
  clear n0_ n1_ n2_
  refine start_ (n := 9) (S := fun w' => w'.cell? ⟨gb101, 0, none⟩ = some (.slice A0_0 l0_0.length c0_0) ∧ w'.cell? ⟨gb101, 1, none⟩ = some (.slice A0_1 l0_1.length c0_1) ∧ w'.cell? ⟨gb101, 2, none⟩ = some (.int .i64 a0_2) ∧ w'.cell? ⟨gb101, 3, none⟩ = some (.slice A0_3 l0_3.length c0_3) ∧ w'.cell? ⟨gb101, 4, none⟩ = some (.slice A0_4 l0_4.length c0_4) ∧ w'.cell? ⟨gb101, 5, none⟩ = some (.slice A0_5 l0_5.length c0_5)) (ds := []) #[false, false, false, false, false, false, false, false, false] (by kernel_rfl) rfl rfl ⟨(blk_cell BK101.out 0).trans rfl, (blk_cell BK101.out 1).trans rfl, (blk_cell BK101.out 2).trans rfl, (blk_cell BK101.out 3).trans rfl, (blk_cell BK101.out 4).trans rfl, (blk_cell BK101.out 5).trans rfl⟩ (fun hHeld => ?_); refine with_tabW tooth_blade_sure.tab1 tooth_blade_sure.bits1 (fun HT_ HW_ => ?_)
  generalize w5.drew = w6 at BK101 BK102 HB hHeld ⊢
  refine pure_ (i := 0) (N := some 6) (v := ?_) (a' := ?_) #[true, false, false, false, false, false, false, false, false] rfl rfl (any_of HT_.out (by kernel_rfl)) (fun _ _ _ h => h) (Or.inl ⟨by rfl, ?_⟩) ?_ ?_
  rotate_left
  · intro w'
    go_simp
    with_reducible rfl
  rotate_left
  · simp only [Act.put, List.setIfInBounds_toArray, List.set_cons_zero, List.set_cons_succ, i64_w, i32_w]
    rfl
  refine pure_ (i := 3) (N := some 9) (v := ?_) (a' := ?_) #[true, false, false, true, false, false, false, false, false] rfl rfl (any_of HT_.out (by kernel_rfl)) (fun _ _ _ h => h) (Or.inl ⟨by rfl, ?_⟩) ?_ ?_
  rotate_left
  · intro w'
    go_simp
    with_reducible rfl
  rotate_left
  · simp only [Act.put, List.setIfInBounds_toArray, List.set_cons_zero, List.set_cons_succ, i64_w, i32_w]
    rfl
  refine take_ (i := 1) (N := some 7) (v := ?_) (a' := ?_) #[true, true, false, true, false, false, false, false, false] rfl rfl (take_ofW HT_.out HW_.out (by kernel_rfl)) (fun _ _ _ h => h) (Or.inl ⟨by rfl, ?_⟩) hHeld ?_ ?_
  rotate_left
  · rintro w' ⟨s0, s1, s2, s3, s4, s5⟩
    go_simp
    with_reducible rfl
  rotate_left
  · simp only [Act.put, List.setIfInBounds_toArray, List.set_cons_zero, List.set_cons_succ, i64_w, i32_w]
    rfl
  refine take_ (i := 4) (N := some 10) (v := ?_) (a' := ?_) #[true, true, false, true, true, false, false, false, false] rfl rfl (take_ofW HT_.out HW_.out (by kernel_rfl)) (fun _ _ _ h => h) (Or.inl ⟨by rfl, ?_⟩) hHeld ?_ ?_
  rotate_left
  · rintro w' ⟨s0, s1, s2, s3, s4, s5⟩
    go_simp
    with_reducible rfl
  rotate_left
  · simp only [Act.put, List.setIfInBounds_toArray, List.set_cons_zero, List.set_cons_succ, i64_w, i32_w]
    rfl
  refine join_ (σ := Value × Value × Nat) 1 #[true, true, true, true, true, true, true, true, false] (fun s_ => [(8, s_.1), (11, s_.2.1), (3, .pointer (some ⟨s_.2.2, 0, none⟩)), (12, .agg #[s_.1, s_.2.1, .slice none 0 0])]) (fun s_ w' => (w'.cell? ⟨gb101, 0, none⟩ = some (.slice A0_0 l0_0.length c0_0) ∧ w'.cell? ⟨gb101, 1, none⟩ = some (.slice A0_1 l0_1.length c0_1) ∧ w'.cell? ⟨gb101, 2, none⟩ = some (.int .i64 a0_2) ∧ w'.cell? ⟨gb101, 3, none⟩ = some (.slice A0_3 l0_3.length c0_3) ∧ w'.cell? ⟨gb101, 4, none⟩ = some (.slice A0_4 l0_4.length c0_4) ∧ w'.cell? ⟨gb101, 5, none⟩ = some (.slice A0_5 l0_5.length c0_5)) ∧ (Kd.R (Kd.int .i64) 3 w' w.heap.size (fun k_ => some k_ ≠ (s_.2.1 : Value).ownBlock) s_.1 t103) ∧ (Kd.R (Kd.int .i64) 3 w' w.heap.size (fun k_ => some k_ ≠ (s_.1 : Value).ownBlock) s_.2.1 t106) ∧ (w'.heap[gb101]? = some (.cells #[.slice A0_0 l0_0.length c0_0, .slice A0_1 l0_1.length c0_1, .int .i64 a0_2, .slice A0_3 l0_3.length c0_3, .slice A0_4 l0_4.length c0_4, .slice A0_5 l0_5.length c0_5] 57 (0, 0))) ∧ (w'.heap[gb102]? = some (.cells #[.slice none 0 0, .slice none 0 0, .slice none 0 0] 62 (0, 0))) ∧ (w'.heap[s_.2.2]? = some (.cells #[.slice none 0 0, .slice none 0 0, .slice none 0 0] 62 (0, 0))) ∧ (w.heap.size ≤ s_.2.2) ∧ (w.heap.size ≤ s_.2.2) ∧ (gb101 ≠ s_.2.2) ∧ (s_.2.2 ≠ gb101) ∧ (gb102 ≠ s_.2.2) ∧ (s_.2.2 ≠ gb102) ∧ (Below w.heap.size w w')) ?_ ?_
  rotate_left
  · intro hCont
    refine two_ (i := 2) (j := 7) (Ni := some 8) (Nj := some 3) #[true, true, true, true, true, false, false, false, false] #[true, true, false, true, true, false, false, true, false] rfl rfl rfl rfl (two_of HT_.out (by kernel_rfl)) (by decide) (by decide) (fun K hK => ?_) (fun K hK => ?_)
    · skip
      refine goes_ Tryd.func29 (by kernel_rfl) rfl #[.slice A0_4 l0_4.length c0_4, .func (.func 30) #[] #[]] (by rfl) rfl rfl (by (try simp only [List.map_toArray, List.map_cons, List.map_nil]); first | done | rfl | (simp only [List.length_drop, List.length_take]; rfl)) ?_
      with_reducible refine (tooth_high.calls _ _ l0_4 t103 _ ?side1 ?side2 A2.out).mono ?_
      (case side1 => repeat (first | exact (Kd.C_below HR0_4.out HB.out) | (with_reducible refine Kd.C_alloc ?_ _) | (with_reducible refine Kd.C_drewN ?_ _) | (with_reducible refine Kd.C_drew ?_)))
      (case side2 => exact HC0_4.out)
      rintro e w7 ⟨v104, rfl, ho0, hb⟩
      refine ⟨_, rfl, ?_⟩
      have n0_ := Aside0.mk (Kd.R_lower ho0 (below_size (by repeat (first | (with_reducible first | exact HB.out | apply below_alloc | apply pw_below_drewN | apply below_drew1 | refine below_set ?_ GE101.out | refine below_set ?_ GE102.out) | exact HB.out))))
      have n1_ := Aside0.mk (blk_below (g := gb101) (o := .cells #[.slice A0_0 l0_0.length c0_0, .slice A0_1 l0_1.length c0_1, .int .i64 a0_2, .slice A0_3 l0_3.length c0_3, .slice A0_4 l0_4.length c0_4, .slice A0_5 l0_5.length c0_5] 57 (0, 0)) (by (with_reducible repeat (first | refine blk_drewN ?_ _ | refine blk_drew ?_ | refine blk_alloc ?_ _)); exact BK101.out) hb)
      have n2_ := Aside0.mk (blk_below (g := gb102) (o := .cells #[.slice none 0 0, .slice none 0 0, .slice none 0 0] 62 (0, 0)) (by (with_reducible repeat (first | refine blk_drewN ?_ _ | refine blk_drew ?_ | refine blk_alloc ?_ _)); exact BK102.out) hb)
      have n3_ := Aside0.mk (below_step (by repeat (first | (with_reducible first | exact HB.out | apply below_alloc | apply pw_below_drewN | apply below_drew1 | refine below_set ?_ GE101.out | refine below_set ?_ GE102.out) | exact HB.out)) hb)
      clear BK101
      clear BK102
      clear HB
      have HO105 := n0_
      have BK101 := n1_
      have BK102 := n2_
      have HB := n3_
      clear n0_ n1_ n2_ n3_
      (try clear hb)
      (try clear hb2)
      (try clear hk)
      (try clear hi)
      (try clear ho0)
      refine hK.out _ _ ⟨(blk_cell BK101.out 0).trans rfl, (blk_cell BK101.out 1).trans rfl, (blk_cell BK101.out 2).trans rfl, (blk_cell BK101.out 3).trans rfl, (blk_cell BK101.out 4).trans rfl, (blk_cell BK101.out 5).trans rfl⟩ (fun hHeld => ?_)
      clear hK K
      refine norm_ (a' := ?_) ?_ ?_
      rotate_left
      · show Act.put _ (some 8) _ = _
        simp only [Act.put, List.setIfInBounds_toArray, List.set_cons_zero, List.set_cons_succ, i64_w, i32_w]
        rfl
      refine two_ (i := 5) (j := 7) (Ni := some 11) (Nj := some 3) #[true, true, true, true, true, true, false, false, false] #[true, true, true, true, true, false, false, true, false] rfl rfl rfl rfl (two_of HT_.out (by kernel_rfl)) (by decide) (by decide) (fun K hK => ?_) (fun K hK => ?_)
      · skip
        refine goes_ Tryd.func29 (by kernel_rfl) rfl #[.slice A0_5 l0_5.length c0_5, .func (.func 31) #[] #[]] (by rfl) rfl rfl (by (try simp only [List.map_toArray, List.map_cons, List.map_nil]); first | done | rfl | (simp only [List.length_drop, List.length_take]; rfl)) ?_
        with_reducible refine (tooth_low.calls _ _ l0_5 t106 _ ?side1 ?side2 A3.out).mono ?_
        (case side1 => repeat (first | exact (Kd.C_below HR0_5.out HB.out) | (with_reducible refine Kd.C_alloc ?_ _) | (with_reducible refine Kd.C_drewN ?_ _) | (with_reducible refine Kd.C_drew ?_)))
        (case side2 => exact HC0_5.out)
        rintro e w8 ⟨v107, rfl, ho0, hb⟩
        refine ⟨_, rfl, ?_⟩
        have n0_ := Aside0.mk (Kd.R_elder' (by (with_reducible repeat (first | apply Kd.R_alloc | apply Kd.R_drewN | apply Kd.R_drew)); exact HO105.out) (Kd.R_base ho0) hb)
        have n1_ := Aside0.mk (Kd.R_lower (Kd.R_new' ho0 (Kd.R_lt (by (with_reducible repeat (first | apply Kd.R_alloc | apply Kd.R_drewN | apply Kd.R_drew)); exact HO105.out))) (below_size (by repeat (first | (with_reducible first | exact HB.out | apply below_alloc | apply pw_below_drewN | apply below_drew1 | refine below_set ?_ GE101.out | refine below_set ?_ GE102.out) | exact HB.out))))
        have n2_ := Aside0.mk (blk_below (g := gb101) (o := .cells #[.slice A0_0 l0_0.length c0_0, .slice A0_1 l0_1.length c0_1, .int .i64 a0_2, .slice A0_3 l0_3.length c0_3, .slice A0_4 l0_4.length c0_4, .slice A0_5 l0_5.length c0_5] 57 (0, 0)) (by (with_reducible repeat (first | refine blk_drewN ?_ _ | refine blk_drew ?_ | refine blk_alloc ?_ _)); exact BK101.out) hb)
        have n3_ := Aside0.mk (blk_below (g := gb102) (o := .cells #[.slice none 0 0, .slice none 0 0, .slice none 0 0] 62 (0, 0)) (by (with_reducible repeat (first | refine blk_drewN ?_ _ | refine blk_drew ?_ | refine blk_alloc ?_ _)); exact BK102.out) hb)
        have n4_ := Aside0.mk (below_step (by repeat (first | (with_reducible first | exact HB.out | apply below_alloc | apply pw_below_drewN | apply below_drew1 | refine below_set ?_ GE101.out | refine below_set ?_ GE102.out) | exact HB.out)) hb)
        clear HO105
        clear BK101
        clear BK102
        clear HB
        have HO105 := n0_
        have HO108 := n1_
        have BK101 := n2_
        have BK102 := n3_
        have HB := n4_
        clear n0_ n1_ n2_ n3_ n4_
        (try clear hb)
        (try clear hb2)
        (try clear hk)
        (try clear hi)
        (try clear ho0)
        obtain ⟨Ao9, co9, eo9⟩ := Kd.R_slice HO108.out
        (first | subst eo9 | (injection eo9 with f1_ f2_ f3_; have f4_ := f1_.symm; have f5_ := f3_.symm; clear f1_ f2_ f3_; subst f4_; subst f5_))
        obtain ⟨Ao10, co10, eo10⟩ := Kd.R_slice HO105.out
        (first | subst eo10 | (injection eo10 with f1_ f2_ f3_; have f4_ := f1_.symm; have f5_ := f3_.symm; clear f1_ f2_ f3_; subst f4_; subst f5_))
        refine hK.out _ _ ⟨(blk_cell BK101.out 0).trans rfl, (blk_cell BK101.out 1).trans rfl, (blk_cell BK101.out 2).trans rfl, (blk_cell BK101.out 3).trans rfl, (blk_cell BK101.out 4).trans rfl, (blk_cell BK101.out 5).trans rfl⟩ (fun hHeld => ?_)
        clear hK K
        refine norm_ (a' := ?_) ?_ ?_
        rotate_left
        · show Act.put _ (some 11) _ = _
          simp only [Act.put, List.setIfInBounds_toArray, List.set_cons_zero, List.set_cons_succ, i64_w, i32_w]
          rfl
        refine pure_ (i := 6) (N := some 12) (v := ?_) (a' := ?_) #[true, true, true, true, true, true, true, false, false] rfl rfl (any_of HT_.out (by kernel_rfl)) (fun _ _ _ h => h) (Or.inl ⟨by rfl, ?_⟩) ?_ ?_
        rotate_left
        · intro w'
          go_simp
          with_reducible rfl
        rotate_left
        · simp only [Act.put, List.setIfInBounds_toArray, List.set_cons_zero, List.set_cons_succ, i64_w, i32_w]
          rfl
        refine one_ (i := 7) (N := some 3) #[true, true, true, true, true, true, true, true, false] rfl rfl (one_of HT_.out (by kernel_rfl)) (by decide) (fun K hK => ?_)
        refine box_step ?hg (N := 3) ?hd (cs := #[.slice none 0 0, .slice none 0 0, .slice none 0 0]) (t := 62) ?hr ?_; (case hd => rfl); (case hg => rfl); (case hr => first | (go_simp; done) | (go_simp; rfl))
        intro gb109 hg w11 hbox hb
        have n0_ := Aside0.mk (Kd.R_below (by (with_reducible repeat (first | apply Kd.R_alloc | apply Kd.R_drewN | apply Kd.R_drew)); exact HO105.out) hb)
        have n1_ := Aside0.mk (Kd.R_below (by (with_reducible repeat (first | apply Kd.R_alloc | apply Kd.R_drewN | apply Kd.R_drew)); exact HO108.out) hb)
        have n2_ := Aside0.mk (blk_below (g := gb101) (o := .cells #[.slice A0_0 l0_0.length c0_0, .slice A0_1 l0_1.length c0_1, .int .i64 a0_2, .slice A0_3 l0_3.length c0_3, .slice A0_4 l0_4.length c0_4, .slice A0_5 l0_5.length c0_5] 57 (0, 0)) (by (with_reducible repeat (first | refine blk_drewN ?_ _ | refine blk_drew ?_ | refine blk_alloc ?_ _)); exact BK101.out) hb)
        have n3_ := Aside0.mk (blk_below (g := gb102) (o := .cells #[.slice none 0 0, .slice none 0 0, .slice none 0 0] 62 (0, 0)) (by (with_reducible repeat (first | refine blk_drewN ?_ _ | refine blk_drew ?_ | refine blk_alloc ?_ _)); exact BK102.out) hb)
        have n4_ := Aside0.mk (below_step (by repeat (first | (with_reducible first | exact HB.out | apply below_alloc | apply pw_below_drewN | apply below_drew1 | refine below_set ?_ GE101.out | refine below_set ?_ GE102.out) | exact HB.out)) hb)
        have n5_ := Aside0.mk (hbox)
        have n6_ := Aside0.mk ((by rw [hg]; exact (below_size (by repeat (first | (with_reducible first | exact HB.out | apply below_alloc | apply pw_below_drewN | apply below_drew1 | refine below_set ?_ GE101.out | refine below_set ?_ GE102.out) | exact HB.out))) : w.heap.size ≤ gb109))
        have n7_ := Aside0.mk ((by rw [hg]; exact (below_size (by repeat (first | (with_reducible first | exact HB.out | apply below_alloc | apply pw_below_drewN | apply below_drew1 | refine below_set ?_ GE101.out | refine below_set ?_ GE102.out) | exact HB.out))) : w.heap.size ≤ gb109))
        have n8_ := Aside0.mk ((by rw [hg]; exact Nat.ne_of_lt (blk_lt (g := gb101) (o := .cells #[.slice A0_0 l0_0.length c0_0, .slice A0_1 l0_1.length c0_1, .int .i64 a0_2, .slice A0_3 l0_3.length c0_3, .slice A0_4 l0_4.length c0_4, .slice A0_5 l0_5.length c0_5] 57 (0, 0)) (by (with_reducible repeat (first | refine blk_drewN ?_ _ | refine blk_drew ?_ | refine blk_alloc ?_ _)); exact BK101.out)) : gb101 ≠ gb109))
        have n9_ := Aside0.mk ((by rw [hg]; exact Nat.ne_of_gt (blk_lt (g := gb101) (o := .cells #[.slice A0_0 l0_0.length c0_0, .slice A0_1 l0_1.length c0_1, .int .i64 a0_2, .slice A0_3 l0_3.length c0_3, .slice A0_4 l0_4.length c0_4, .slice A0_5 l0_5.length c0_5] 57 (0, 0)) (by (with_reducible repeat (first | refine blk_drewN ?_ _ | refine blk_drew ?_ | refine blk_alloc ?_ _)); exact BK101.out)) : gb109 ≠ gb101))
        have n10_ := Aside0.mk ((by rw [hg]; exact Nat.ne_of_lt (blk_lt (g := gb102) (o := .cells #[.slice none 0 0, .slice none 0 0, .slice none 0 0] 62 (0, 0)) (by (with_reducible repeat (first | refine blk_drewN ?_ _ | refine blk_drew ?_ | refine blk_alloc ?_ _)); exact BK102.out)) : gb102 ≠ gb109))
        have n11_ := Aside0.mk ((by rw [hg]; exact Nat.ne_of_gt (blk_lt (g := gb102) (o := .cells #[.slice none 0 0, .slice none 0 0, .slice none 0 0] 62 (0, 0)) (by (with_reducible repeat (first | refine blk_drewN ?_ _ | refine blk_drew ?_ | refine blk_alloc ?_ _)); exact BK102.out)) : gb109 ≠ gb102))
        clear HO105
        clear HO108
        clear BK101
        clear BK102
        clear HB
        have HO105 := n0_
        have HO108 := n1_
        have BK101 := n2_
        have BK102 := n3_
        have HB := n4_
        have BK109 := n5_
        have GW109 := n6_
        have GE109 := n7_
        have NB101_109 := n8_
        have NB109_101 := n9_
        have NB102_109 := n10_
        have NB109_102 := n11_
        clear n0_ n1_ n2_ n3_ n4_ n5_ n6_ n7_ n8_ n9_ n10_ n11_
        clear hb hbox hg
        refine hK.out _ _ ⟨(blk_cell BK101.out 0).trans rfl, (blk_cell BK101.out 1).trans rfl, (blk_cell BK101.out 2).trans rfl, (blk_cell BK101.out 3).trans rfl, (blk_cell BK101.out 4).trans rfl, (blk_cell BK101.out 5).trans rfl⟩ (fun hHeld => ?_)
        clear hK K
        refine norm_ (a' := ?_) ?_ ?_
        rotate_left
        · show Act.put _ (some 3) _ = _
          simp only [Act.put, List.setIfInBounds_toArray, List.set_cons_zero, List.set_cons_succ, i64_w, i32_w]
          rfl
        exact norm_ (by simp only [putAll, Act.put, List.setIfInBounds_toArray, List.set_cons_zero, List.set_cons_succ]) (hCont (.slice Ao10 t103.length co10, .slice Ao9 t106.length co9, gb109) _ ⟨hHeld, (by (with_reducible repeat (first | apply Kd.R_alloc | apply Kd.R_drewN | apply Kd.R_drew)); exact Kd.R_mono HO105.out (fun _ hk => hk.2)), (by (with_reducible repeat (first | apply Kd.R_alloc | apply Kd.R_drewN | apply Kd.R_drew)); exact Kd.R_mono HO108.out (fun _ hk => hk.2)), (by (with_reducible repeat (first | refine blk_drewN ?_ _ | refine blk_drew ?_ | refine blk_alloc ?_ _)); exact BK101.out), (by (with_reducible repeat (first | refine blk_drewN ?_ _ | refine blk_drew ?_ | refine blk_alloc ?_ _)); exact BK102.out), (by (with_reducible repeat (first | refine blk_drewN ?_ _ | refine blk_drew ?_ | refine blk_alloc ?_ _)); exact BK109.out), GW109.out, GE109.out, NB101_109.out, NB109_101.out, NB102_109.out, NB109_102.out, (by repeat (first | (with_reducible first | exact HB.out | apply below_alloc | apply pw_below_drewN | apply below_drew1 | refine below_set ?_ GE101.out | refine below_set ?_ GE102.out | refine below_set ?_ GE109.out) | exact HB.out))⟩)
      · skip
        refine box_step ?hg (N := 3) ?hd (cs := #[.slice none 0 0, .slice none 0 0, .slice none 0 0]) (t := 62) ?hr ?_; (case hd => rfl); (case hg => rfl); (case hr => first | (go_simp; done) | (go_simp; rfl))
        intro gb109 hg w8 hbox hb
        have n0_ := Aside0.mk (Kd.R_below (by (with_reducible repeat (first | apply Kd.R_alloc | apply Kd.R_drewN | apply Kd.R_drew)); exact HO105.out) hb)
        have n1_ := Aside0.mk (blk_below (g := gb101) (o := .cells #[.slice A0_0 l0_0.length c0_0, .slice A0_1 l0_1.length c0_1, .int .i64 a0_2, .slice A0_3 l0_3.length c0_3, .slice A0_4 l0_4.length c0_4, .slice A0_5 l0_5.length c0_5] 57 (0, 0)) (by (with_reducible repeat (first | refine blk_drewN ?_ _ | refine blk_drew ?_ | refine blk_alloc ?_ _)); exact BK101.out) hb)
        have n2_ := Aside0.mk (blk_below (g := gb102) (o := .cells #[.slice none 0 0, .slice none 0 0, .slice none 0 0] 62 (0, 0)) (by (with_reducible repeat (first | refine blk_drewN ?_ _ | refine blk_drew ?_ | refine blk_alloc ?_ _)); exact BK102.out) hb)
        have n3_ := Aside0.mk (below_step (by repeat (first | (with_reducible first | exact HB.out | apply below_alloc | apply pw_below_drewN | apply below_drew1 | refine below_set ?_ GE101.out | refine below_set ?_ GE102.out) | exact HB.out)) hb)
        have n4_ := Aside0.mk (hbox)
        have n5_ := Aside0.mk ((by rw [hg]; exact (below_size (by repeat (first | (with_reducible first | exact HB.out | apply below_alloc | apply pw_below_drewN | apply below_drew1 | refine below_set ?_ GE101.out | refine below_set ?_ GE102.out) | exact HB.out))) : w.heap.size ≤ gb109))
        have n6_ := Aside0.mk ((by rw [hg]; exact (below_size (by repeat (first | (with_reducible first | exact HB.out | apply below_alloc | apply pw_below_drewN | apply below_drew1 | refine below_set ?_ GE101.out | refine below_set ?_ GE102.out) | exact HB.out))) : w.heap.size ≤ gb109))
        have n7_ := Aside0.mk ((by rw [hg]; exact Nat.ne_of_lt (blk_lt (g := gb101) (o := .cells #[.slice A0_0 l0_0.length c0_0, .slice A0_1 l0_1.length c0_1, .int .i64 a0_2, .slice A0_3 l0_3.length c0_3, .slice A0_4 l0_4.length c0_4, .slice A0_5 l0_5.length c0_5] 57 (0, 0)) (by (with_reducible repeat (first | refine blk_drewN ?_ _ | refine blk_drew ?_ | refine blk_alloc ?_ _)); exact BK101.out)) : gb101 ≠ gb109))
        have n8_ := Aside0.mk ((by rw [hg]; exact Nat.ne_of_gt (blk_lt (g := gb101) (o := .cells #[.slice A0_0 l0_0.length c0_0, .slice A0_1 l0_1.length c0_1, .int .i64 a0_2, .slice A0_3 l0_3.length c0_3, .slice A0_4 l0_4.length c0_4, .slice A0_5 l0_5.length c0_5] 57 (0, 0)) (by (with_reducible repeat (first | refine blk_drewN ?_ _ | refine blk_drew ?_ | refine blk_alloc ?_ _)); exact BK101.out)) : gb109 ≠ gb101))
        have n9_ := Aside0.mk ((by rw [hg]; exact Nat.ne_of_lt (blk_lt (g := gb102) (o := .cells #[.slice none 0 0, .slice none 0 0, .slice none 0 0] 62 (0, 0)) (by (with_reducible repeat (first | refine blk_drewN ?_ _ | refine blk_drew ?_ | refine blk_alloc ?_ _)); exact BK102.out)) : gb102 ≠ gb109))
        have n10_ := Aside0.mk ((by rw [hg]; exact Nat.ne_of_gt (blk_lt (g := gb102) (o := .cells #[.slice none 0 0, .slice none 0 0, .slice none 0 0] 62 (0, 0)) (by (with_reducible repeat (first | refine blk_drewN ?_ _ | refine blk_drew ?_ | refine blk_alloc ?_ _)); exact BK102.out)) : gb109 ≠ gb102))
        clear HO105
        clear BK101
        clear BK102
        clear HB
        have HO105 := n0_
        have BK101 := n1_
        have BK102 := n2_
        have HB := n3_
        have BK109 := n4_
        have GW109 := n5_
        have GE109 := n6_
        have NB101_109 := n7_
        have NB109_101 := n8_
        have NB102_109 := n9_
        have NB109_102 := n10_
        clear n0_ n1_ n2_ n3_ n4_ n5_ n6_ n7_ n8_ n9_ n10_
        clear hb hbox hg
        refine hK.out _ _ ⟨(blk_cell BK101.out 0).trans rfl, (blk_cell BK101.out 1).trans rfl, (blk_cell BK101.out 2).trans rfl, (blk_cell BK101.out 3).trans rfl, (blk_cell BK101.out 4).trans rfl, (blk_cell BK101.out 5).trans rfl⟩ (fun hHeld => ?_)
        clear hK K
        refine norm_ (a' := ?_) ?_ ?_
        rotate_left
        · show Act.put _ (some 3) _ = _
          simp only [Act.put, List.setIfInBounds_toArray, List.set_cons_zero, List.set_cons_succ, i64_w, i32_w]
          rfl
        refine one_ (i := 5) (N := some 11) #[true, true, true, true, true, true, false, true, false] rfl rfl (one_of HT_.out (by kernel_rfl)) (by decide) (fun K hK => ?_)
        refine goes_ Tryd.func29 (by kernel_rfl) rfl #[.slice A0_5 l0_5.length c0_5, .func (.func 31) #[] #[]] (by rfl) rfl rfl (by (try simp only [List.map_toArray, List.map_cons, List.map_nil]); first | done | rfl | (simp only [List.length_drop, List.length_take]; rfl)) ?_
        with_reducible refine (tooth_low.calls _ _ l0_5 t106 _ ?side1 ?side2 A3.out).mono ?_
        (case side1 => repeat (first | exact (Kd.C_below HR0_5.out HB.out) | (with_reducible refine Kd.C_alloc ?_ _) | (with_reducible refine Kd.C_drewN ?_ _) | (with_reducible refine Kd.C_drew ?_)))
        (case side2 => exact HC0_5.out)
        rintro e w9 ⟨v107, rfl, ho0, hb⟩
        refine ⟨_, rfl, ?_⟩
        have n0_ := Aside0.mk (Kd.R_elder' (by (with_reducible repeat (first | apply Kd.R_alloc | apply Kd.R_drewN | apply Kd.R_drew)); exact HO105.out) (Kd.R_base ho0) hb)
        have n1_ := Aside0.mk (Kd.R_lower (Kd.R_new' ho0 (Kd.R_lt (by (with_reducible repeat (first | apply Kd.R_alloc | apply Kd.R_drewN | apply Kd.R_drew)); exact HO105.out))) (below_size (by repeat (first | (with_reducible first | exact HB.out | apply below_alloc | apply pw_below_drewN | apply below_drew1 | refine below_set ?_ GE101.out | refine below_set ?_ GE102.out | refine below_set ?_ GE109.out) | exact HB.out))))
        have n2_ := Aside0.mk (blk_below (g := gb101) (o := .cells #[.slice A0_0 l0_0.length c0_0, .slice A0_1 l0_1.length c0_1, .int .i64 a0_2, .slice A0_3 l0_3.length c0_3, .slice A0_4 l0_4.length c0_4, .slice A0_5 l0_5.length c0_5] 57 (0, 0)) (by (with_reducible repeat (first | refine blk_drewN ?_ _ | refine blk_drew ?_ | refine blk_alloc ?_ _)); exact BK101.out) hb)
        have n3_ := Aside0.mk (blk_below (g := gb102) (o := .cells #[.slice none 0 0, .slice none 0 0, .slice none 0 0] 62 (0, 0)) (by (with_reducible repeat (first | refine blk_drewN ?_ _ | refine blk_drew ?_ | refine blk_alloc ?_ _)); exact BK102.out) hb)
        have n4_ := Aside0.mk (blk_below (g := gb109) (o := .cells #[.slice none 0 0, .slice none 0 0, .slice none 0 0] 62 (0, 0)) (by (with_reducible repeat (first | refine blk_drewN ?_ _ | refine blk_drew ?_ | refine blk_alloc ?_ _)); exact BK109.out) hb)
        have n5_ := Aside0.mk (below_step (by repeat (first | (with_reducible first | exact HB.out | apply below_alloc | apply pw_below_drewN | apply below_drew1 | refine below_set ?_ GE101.out | refine below_set ?_ GE102.out | refine below_set ?_ GE109.out) | exact HB.out)) hb)
        clear HO105
        clear BK101
        clear BK102
        clear BK109
        clear HB
        have HO105 := n0_
        have HO108 := n1_
        have BK101 := n2_
        have BK102 := n3_
        have BK109 := n4_
        have HB := n5_
        clear n0_ n1_ n2_ n3_ n4_ n5_
        (try clear hb)
        (try clear hb2)
        (try clear hk)
        (try clear hi)
        (try clear ho0)
        obtain ⟨Ao10, co10, eo10⟩ := Kd.R_slice HO108.out
        (first | subst eo10 | (injection eo10 with f1_ f2_ f3_; have f4_ := f1_.symm; have f5_ := f3_.symm; clear f1_ f2_ f3_; subst f4_; subst f5_))
        obtain ⟨Ao11, co11, eo11⟩ := Kd.R_slice HO105.out
        (first | subst eo11 | (injection eo11 with f1_ f2_ f3_; have f4_ := f1_.symm; have f5_ := f3_.symm; clear f1_ f2_ f3_; subst f4_; subst f5_))
        refine hK.out _ _ ⟨(blk_cell BK101.out 0).trans rfl, (blk_cell BK101.out 1).trans rfl, (blk_cell BK101.out 2).trans rfl, (blk_cell BK101.out 3).trans rfl, (blk_cell BK101.out 4).trans rfl, (blk_cell BK101.out 5).trans rfl⟩ (fun hHeld => ?_)
        clear hK K
        refine norm_ (a' := ?_) ?_ ?_
        rotate_left
        · show Act.put _ (some 11) _ = _
          simp only [Act.put, List.setIfInBounds_toArray, List.set_cons_zero, List.set_cons_succ, i64_w, i32_w]
          rfl
        refine pure_ (i := 6) (N := some 12) (v := ?_) (a' := ?_) #[true, true, true, true, true, true, true, true, false] rfl rfl (any_of HT_.out (by kernel_rfl)) (fun _ _ _ h => h) (Or.inl ⟨by rfl, ?_⟩) ?_ ?_
        rotate_left
        · intro w'
          go_simp
          with_reducible rfl
        rotate_left
        · simp only [Act.put, List.setIfInBounds_toArray, List.set_cons_zero, List.set_cons_succ, i64_w, i32_w]
          rfl
        exact norm_ (by simp only [putAll, Act.put, List.setIfInBounds_toArray, List.set_cons_zero, List.set_cons_succ]) (hCont (.slice Ao11 t103.length co11, .slice Ao10 t106.length co10, gb109) _ ⟨hHeld, (by (with_reducible repeat (first | apply Kd.R_alloc | apply Kd.R_drewN | apply Kd.R_drew)); exact Kd.R_mono HO105.out (fun _ hk => hk.2)), (by (with_reducible repeat (first | apply Kd.R_alloc | apply Kd.R_drewN | apply Kd.R_drew)); exact Kd.R_mono HO108.out (fun _ hk => hk.2)), (by (with_reducible repeat (first | refine blk_drewN ?_ _ | refine blk_drew ?_ | refine blk_alloc ?_ _)); exact BK101.out), (by (with_reducible repeat (first | refine blk_drewN ?_ _ | refine blk_drew ?_ | refine blk_alloc ?_ _)); exact BK102.out), (by (with_reducible repeat (first | refine blk_drewN ?_ _ | refine blk_drew ?_ | refine blk_alloc ?_ _)); exact BK109.out), GW109.out, GE109.out, NB101_109.out, NB109_101.out, NB102_109.out, NB109_102.out, (by repeat (first | (with_reducible first | exact HB.out | apply below_alloc | apply pw_below_drewN | apply below_drew1 | refine below_set ?_ GE101.out | refine below_set ?_ GE102.out | refine below_set ?_ GE109.out) | exact HB.out))⟩)
    · skip
      refine box_step ?hg (N := 3) ?hd (cs := #[.slice none 0 0, .slice none 0 0, .slice none 0 0]) (t := 62) ?hr ?_; (case hd => rfl); (case hg => rfl); (case hr => first | (go_simp; done) | (go_simp; rfl))
      intro gb109 hg w7 hbox hb
      have n0_ := Aside0.mk (blk_below (g := gb101) (o := .cells #[.slice A0_0 l0_0.length c0_0, .slice A0_1 l0_1.length c0_1, .int .i64 a0_2, .slice A0_3 l0_3.length c0_3, .slice A0_4 l0_4.length c0_4, .slice A0_5 l0_5.length c0_5] 57 (0, 0)) (by (with_reducible repeat (first | refine blk_drewN ?_ _ | refine blk_drew ?_ | refine blk_alloc ?_ _)); exact BK101.out) hb)
      have n1_ := Aside0.mk (blk_below (g := gb102) (o := .cells #[.slice none 0 0, .slice none 0 0, .slice none 0 0] 62 (0, 0)) (by (with_reducible repeat (first | refine blk_drewN ?_ _ | refine blk_drew ?_ | refine blk_alloc ?_ _)); exact BK102.out) hb)
      have n2_ := Aside0.mk (below_step (by repeat (first | (with_reducible first | exact HB.out | apply below_alloc | apply pw_below_drewN | apply below_drew1 | refine below_set ?_ GE101.out | refine below_set ?_ GE102.out) | exact HB.out)) hb)
      have n3_ := Aside0.mk (hbox)
      have n4_ := Aside0.mk ((by rw [hg]; exact (below_size (by repeat (first | (with_reducible first | exact HB.out | apply below_alloc | apply pw_below_drewN | apply below_drew1 | refine below_set ?_ GE101.out | refine below_set ?_ GE102.out) | exact HB.out))) : w.heap.size ≤ gb109))
      have n5_ := Aside0.mk ((by rw [hg]; exact (below_size (by repeat (first | (with_reducible first | exact HB.out | apply below_alloc | apply pw_below_drewN | apply below_drew1 | refine below_set ?_ GE101.out | refine below_set ?_ GE102.out) | exact HB.out))) : w.heap.size ≤ gb109))
      have n6_ := Aside0.mk ((by rw [hg]; exact Nat.ne_of_lt (blk_lt (g := gb101) (o := .cells #[.slice A0_0 l0_0.length c0_0, .slice A0_1 l0_1.length c0_1, .int .i64 a0_2, .slice A0_3 l0_3.length c0_3, .slice A0_4 l0_4.length c0_4, .slice A0_5 l0_5.length c0_5] 57 (0, 0)) (by (with_reducible repeat (first | refine blk_drewN ?_ _ | refine blk_drew ?_ | refine blk_alloc ?_ _)); exact BK101.out)) : gb101 ≠ gb109))
      have n7_ := Aside0.mk ((by rw [hg]; exact Nat.ne_of_gt (blk_lt (g := gb101) (o := .cells #[.slice A0_0 l0_0.length c0_0, .slice A0_1 l0_1.length c0_1, .int .i64 a0_2, .slice A0_3 l0_3.length c0_3, .slice A0_4 l0_4.length c0_4, .slice A0_5 l0_5.length c0_5] 57 (0, 0)) (by (with_reducible repeat (first | refine blk_drewN ?_ _ | refine blk_drew ?_ | refine blk_alloc ?_ _)); exact BK101.out)) : gb109 ≠ gb101))
      have n8_ := Aside0.mk ((by rw [hg]; exact Nat.ne_of_lt (blk_lt (g := gb102) (o := .cells #[.slice none 0 0, .slice none 0 0, .slice none 0 0] 62 (0, 0)) (by (with_reducible repeat (first | refine blk_drewN ?_ _ | refine blk_drew ?_ | refine blk_alloc ?_ _)); exact BK102.out)) : gb102 ≠ gb109))
      have n9_ := Aside0.mk ((by rw [hg]; exact Nat.ne_of_gt (blk_lt (g := gb102) (o := .cells #[.slice none 0 0, .slice none 0 0, .slice none 0 0] 62 (0, 0)) (by (with_reducible repeat (first | refine blk_drewN ?_ _ | refine blk_drew ?_ | refine blk_alloc ?_ _)); exact BK102.out)) : gb109 ≠ gb102))
      clear BK101
      clear BK102
      clear HB
      have BK101 := n0_
      have BK102 := n1_
      have HB := n2_
      have BK109 := n3_
      have GW109 := n4_
      have GE109 := n5_
      have NB101_109 := n6_
      have NB109_101 := n7_
      have NB102_109 := n8_
      have NB109_102 := n9_
      clear n0_ n1_ n2_ n3_ n4_ n5_ n6_ n7_ n8_ n9_
      clear hb hbox hg
      refine hK.out _ _ ⟨(blk_cell BK101.out 0).trans rfl, (blk_cell BK101.out 1).trans rfl, (blk_cell BK101.out 2).trans rfl, (blk_cell BK101.out 3).trans rfl, (blk_cell BK101.out 4).trans rfl, (blk_cell BK101.out 5).trans rfl⟩ (fun hHeld => ?_)
      clear hK K
      refine norm_ (a' := ?_) ?_ ?_
      rotate_left
      · show Act.put _ (some 3) _ = _
        simp only [Act.put, List.setIfInBounds_toArray, List.set_cons_zero, List.set_cons_succ, i64_w, i32_w]
        rfl
      refine one_ (i := 2) (N := some 8) #[true, true, true, true, true, false, false, true, false] rfl rfl (one_of HT_.out (by kernel_rfl)) (by decide) (fun K hK => ?_)
      refine goes_ Tryd.func29 (by kernel_rfl) rfl #[.slice A0_4 l0_4.length c0_4, .func (.func 30) #[] #[]] (by rfl) rfl rfl (by (try simp only [List.map_toArray, List.map_cons, List.map_nil]); first | done | rfl | (simp only [List.length_drop, List.length_take]; rfl)) ?_
      with_reducible refine (tooth_high.calls _ _ l0_4 t103 _ ?side1 ?side2 A2.out).mono ?_
      (case side1 => repeat (first | exact (Kd.C_below HR0_4.out HB.out) | (with_reducible refine Kd.C_alloc ?_ _) | (with_reducible refine Kd.C_drewN ?_ _) | (with_reducible refine Kd.C_drew ?_)))
      (case side2 => exact HC0_4.out)
      rintro e w8 ⟨v104, rfl, ho0, hb⟩
      refine ⟨_, rfl, ?_⟩
      have n0_ := Aside0.mk (Kd.R_lower ho0 (below_size (by repeat (first | (with_reducible first | exact HB.out | apply below_alloc | apply pw_below_drewN | apply below_drew1 | refine below_set ?_ GE101.out | refine below_set ?_ GE102.out | refine below_set ?_ GE109.out) | exact HB.out))))
      have n1_ := Aside0.mk (blk_below (g := gb101) (o := .cells #[.slice A0_0 l0_0.length c0_0, .slice A0_1 l0_1.length c0_1, .int .i64 a0_2, .slice A0_3 l0_3.length c0_3, .slice A0_4 l0_4.length c0_4, .slice A0_5 l0_5.length c0_5] 57 (0, 0)) (by (with_reducible repeat (first | refine blk_drewN ?_ _ | refine blk_drew ?_ | refine blk_alloc ?_ _)); exact BK101.out) hb)
      have n2_ := Aside0.mk (blk_below (g := gb102) (o := .cells #[.slice none 0 0, .slice none 0 0, .slice none 0 0] 62 (0, 0)) (by (with_reducible repeat (first | refine blk_drewN ?_ _ | refine blk_drew ?_ | refine blk_alloc ?_ _)); exact BK102.out) hb)
      have n3_ := Aside0.mk (blk_below (g := gb109) (o := .cells #[.slice none 0 0, .slice none 0 0, .slice none 0 0] 62 (0, 0)) (by (with_reducible repeat (first | refine blk_drewN ?_ _ | refine blk_drew ?_ | refine blk_alloc ?_ _)); exact BK109.out) hb)
      have n4_ := Aside0.mk (below_step (by repeat (first | (with_reducible first | exact HB.out | apply below_alloc | apply pw_below_drewN | apply below_drew1 | refine below_set ?_ GE101.out | refine below_set ?_ GE102.out | refine below_set ?_ GE109.out) | exact HB.out)) hb)
      clear BK101
      clear BK102
      clear BK109
      clear HB
      have HO105 := n0_
      have BK101 := n1_
      have BK102 := n2_
      have BK109 := n3_
      have HB := n4_
      clear n0_ n1_ n2_ n3_ n4_
      (try clear hb)
      (try clear hb2)
      (try clear hk)
      (try clear hi)
      (try clear ho0)
      refine hK.out _ _ ⟨(blk_cell BK101.out 0).trans rfl, (blk_cell BK101.out 1).trans rfl, (blk_cell BK101.out 2).trans rfl, (blk_cell BK101.out 3).trans rfl, (blk_cell BK101.out 4).trans rfl, (blk_cell BK101.out 5).trans rfl⟩ (fun hHeld => ?_)
      clear hK K
      refine norm_ (a' := ?_) ?_ ?_
      rotate_left
      · show Act.put _ (some 8) _ = _
        simp only [Act.put, List.setIfInBounds_toArray, List.set_cons_zero, List.set_cons_succ, i64_w, i32_w]
        rfl
      refine one_ (i := 5) (N := some 11) #[true, true, true, true, true, true, false, true, false] rfl rfl (one_of HT_.out (by kernel_rfl)) (by decide) (fun K hK => ?_)
      refine goes_ Tryd.func29 (by kernel_rfl) rfl #[.slice A0_5 l0_5.length c0_5, .func (.func 31) #[] #[]] (by rfl) rfl rfl (by (try simp only [List.map_toArray, List.map_cons, List.map_nil]); first | done | rfl | (simp only [List.length_drop, List.length_take]; rfl)) ?_
      with_reducible refine (tooth_low.calls _ _ l0_5 t106 _ ?side1 ?side2 A3.out).mono ?_
      (case side1 => repeat (first | exact (Kd.C_below HR0_5.out HB.out) | (with_reducible refine Kd.C_alloc ?_ _) | (with_reducible refine Kd.C_drewN ?_ _) | (with_reducible refine Kd.C_drew ?_)))
      (case side2 => exact HC0_5.out)
      rintro e w9 ⟨v107, rfl, ho0, hb⟩
      refine ⟨_, rfl, ?_⟩
      have n0_ := Aside0.mk (Kd.R_elder' (by (with_reducible repeat (first | apply Kd.R_alloc | apply Kd.R_drewN | apply Kd.R_drew)); exact HO105.out) (Kd.R_base ho0) hb)
      have n1_ := Aside0.mk (Kd.R_lower (Kd.R_new' ho0 (Kd.R_lt (by (with_reducible repeat (first | apply Kd.R_alloc | apply Kd.R_drewN | apply Kd.R_drew)); exact HO105.out))) (below_size (by repeat (first | (with_reducible first | exact HB.out | apply below_alloc | apply pw_below_drewN | apply below_drew1 | refine below_set ?_ GE101.out | refine below_set ?_ GE102.out | refine below_set ?_ GE109.out) | exact HB.out))))
      have n2_ := Aside0.mk (blk_below (g := gb101) (o := .cells #[.slice A0_0 l0_0.length c0_0, .slice A0_1 l0_1.length c0_1, .int .i64 a0_2, .slice A0_3 l0_3.length c0_3, .slice A0_4 l0_4.length c0_4, .slice A0_5 l0_5.length c0_5] 57 (0, 0)) (by (with_reducible repeat (first | refine blk_drewN ?_ _ | refine blk_drew ?_ | refine blk_alloc ?_ _)); exact BK101.out) hb)
      have n3_ := Aside0.mk (blk_below (g := gb102) (o := .cells #[.slice none 0 0, .slice none 0 0, .slice none 0 0] 62 (0, 0)) (by (with_reducible repeat (first | refine blk_drewN ?_ _ | refine blk_drew ?_ | refine blk_alloc ?_ _)); exact BK102.out) hb)
      have n4_ := Aside0.mk (blk_below (g := gb109) (o := .cells #[.slice none 0 0, .slice none 0 0, .slice none 0 0] 62 (0, 0)) (by (with_reducible repeat (first | refine blk_drewN ?_ _ | refine blk_drew ?_ | refine blk_alloc ?_ _)); exact BK109.out) hb)
      have n5_ := Aside0.mk (below_step (by repeat (first | (with_reducible first | exact HB.out | apply below_alloc | apply pw_below_drewN | apply below_drew1 | refine below_set ?_ GE101.out | refine below_set ?_ GE102.out | refine below_set ?_ GE109.out) | exact HB.out)) hb)
      clear HO105
      clear BK101
      clear BK102
      clear BK109
      clear HB
      have HO105 := n0_
      have HO108 := n1_
      have BK101 := n2_
      have BK102 := n3_
      have BK109 := n4_
      have HB := n5_
      clear n0_ n1_ n2_ n3_ n4_ n5_
      (try clear hb)
      (try clear hb2)
      (try clear hk)
      (try clear hi)
      (try clear ho0)
      obtain ⟨Ao10, co10, eo10⟩ := Kd.R_slice HO108.out
      (first | subst eo10 | (injection eo10 with f1_ f2_ f3_; have f4_ := f1_.symm; have f5_ := f3_.symm; clear f1_ f2_ f3_; subst f4_; subst f5_))
      obtain ⟨Ao11, co11, eo11⟩ := Kd.R_slice HO105.out
      (first | subst eo11 | (injection eo11 with f1_ f2_ f3_; have f4_ := f1_.symm; have f5_ := f3_.symm; clear f1_ f2_ f3_; subst f4_; subst f5_))
      refine hK.out _ _ ⟨(blk_cell BK101.out 0).trans rfl, (blk_cell BK101.out 1).trans rfl, (blk_cell BK101.out 2).trans rfl, (blk_cell BK101.out 3).trans rfl, (blk_cell BK101.out 4).trans rfl, (blk_cell BK101.out 5).trans rfl⟩ (fun hHeld => ?_)
      clear hK K
      refine norm_ (a' := ?_) ?_ ?_
      rotate_left
      · show Act.put _ (some 11) _ = _
        simp only [Act.put, List.setIfInBounds_toArray, List.set_cons_zero, List.set_cons_succ, i64_w, i32_w]
        rfl
      refine pure_ (i := 6) (N := some 12) (v := ?_) (a' := ?_) #[true, true, true, true, true, true, true, true, false] rfl rfl (any_of HT_.out (by kernel_rfl)) (fun _ _ _ h => h) (Or.inl ⟨by rfl, ?_⟩) ?_ ?_
      rotate_left
      · intro w'
        go_simp
        with_reducible rfl
      rotate_left
      · simp only [Act.put, List.setIfInBounds_toArray, List.set_cons_zero, List.set_cons_succ, i64_w, i32_w]
        rfl
      exact norm_ (by simp only [putAll, Act.put, List.setIfInBounds_toArray, List.set_cons_zero, List.set_cons_succ]) (hCont (.slice Ao11 t103.length co11, .slice Ao10 t106.length co10, gb109) _ ⟨hHeld, (by (with_reducible repeat (first | apply Kd.R_alloc | apply Kd.R_drewN | apply Kd.R_drew)); exact Kd.R_mono HO105.out (fun _ hk => hk.2)), (by (with_reducible repeat (first | apply Kd.R_alloc | apply Kd.R_drewN | apply Kd.R_drew)); exact Kd.R_mono HO108.out (fun _ hk => hk.2)), (by (with_reducible repeat (first | refine blk_drewN ?_ _ | refine blk_drew ?_ | refine blk_alloc ?_ _)); exact BK101.out), (by (with_reducible repeat (first | refine blk_drewN ?_ _ | refine blk_drew ?_ | refine blk_alloc ?_ _)); exact BK102.out), (by (with_reducible repeat (first | refine blk_drewN ?_ _ | refine blk_drew ?_ | refine blk_alloc ?_ _)); exact BK109.out), GW109.out, GE109.out, NB101_109.out, NB109_101.out, NB102_109.out, NB109_102.out, (by repeat (first | (with_reducible first | exact HB.out | apply below_alloc | apply pw_below_drewN | apply below_drew1 | refine below_set ?_ GE101.out | refine below_set ?_ GE102.out | refine below_set ?_ GE109.out) | exact HB.out))⟩)
  rintro ⟨v104, v107, gb109⟩ w12 ⟨hS_, h0_, h1_, h2_, h3_, h4_, h5_, h6_, h7_, h8_, h9_, h10_, h11_⟩
  have n0_ : Aside0 (Kd.R (Kd.int .i64) 3 w12 w.heap.size (fun k_ => some k_ ≠ (v107 : Value).ownBlock) v104 t103) := ⟨h0_⟩
  have n1_ : Aside0 (Kd.R (Kd.int .i64) 3 w12 w.heap.size (fun k_ => some k_ ≠ (v104 : Value).ownBlock) v107 t106) := ⟨h1_⟩
  have n2_ : Aside0 (w12.heap[gb101]? = some (.cells #[.slice A0_0 l0_0.length c0_0, .slice A0_1 l0_1.length c0_1, .int .i64 a0_2, .slice A0_3 l0_3.length c0_3, .slice A0_4 l0_4.length c0_4, .slice A0_5 l0_5.length c0_5] 57 (0, 0))) := ⟨h2_⟩
  have n3_ : Aside0 (w12.heap[gb102]? = some (.cells #[.slice none 0 0, .slice none 0 0, .slice none 0 0] 62 (0, 0))) := ⟨h3_⟩
  have n4_ : Aside0 (w12.heap[gb109]? = some (.cells #[.slice none 0 0, .slice none 0 0, .slice none 0 0] 62 (0, 0))) := ⟨h4_⟩
  have n5_ : Aside0 (w.heap.size ≤ gb109) := ⟨h5_⟩
  have n6_ : Aside0 (w.heap.size ≤ gb109) := ⟨h6_⟩
  have n7_ : Aside0 (gb101 ≠ gb109) := ⟨h7_⟩
  have n8_ : Aside0 (gb109 ≠ gb101) := ⟨h8_⟩
  have n9_ : Aside0 (gb102 ≠ gb109) := ⟨h9_⟩
  have n10_ : Aside0 (gb109 ≠ gb102) := ⟨h10_⟩
  have n11_ : Aside0 (Below w.heap.size w w12) := ⟨h11_⟩
  clear BK101
  clear BK102
  clear HB
  clear h0_ h1_ h2_ h3_ h4_ h5_ h6_ h7_ h8_ h9_ h10_ h11_
  have HO105 := n0_
  have HO108 := n1_
  have BK101 := n2_
  have BK102 := n3_
  have BK109 := n4_
  have GW109 := n5_
  have GE109 := n6_
  have NB101_109 := n7_
  have NB109_101 := n8_
  have NB102_109 := n9_
  have NB109_102 := n10_
  have HB := n11_
  clear n0_ n1_ n2_ n3_ n4_ n5_ n6_ n7_ n8_ n9_ n10_ n11_
  have hHeld : w12.cell? ⟨gb101, 0, none⟩ = some (.slice A0_0 l0_0.length c0_0) ∧ w12.cell? ⟨gb101, 1, none⟩ = some (.slice A0_1 l0_1.length c0_1) ∧ w12.cell? ⟨gb101, 2, none⟩ = some (.int .i64 a0_2) ∧ w12.cell? ⟨gb101, 3, none⟩ = some (.slice A0_3 l0_3.length c0_3) ∧ w12.cell? ⟨gb101, 4, none⟩ = some (.slice A0_4 l0_4.length c0_4) ∧ w12.cell? ⟨gb101, 5, none⟩ = some (.slice A0_5 l0_5.length c0_5) := hS_
  obtain ⟨Ao13, co13, eo13⟩ := Kd.R_slice HO108.out
  (first | subst eo13 | (injection eo13 with f1_ f2_ f3_; have f4_ := f1_.symm; have f5_ := f3_.symm; clear f1_ f2_ f3_; subst f4_; subst f5_))
  obtain ⟨Ao14, co14, eo14⟩ := Kd.R_slice HO105.out
  (first | subst eo14 | (injection eo14 with f1_ f2_ f3_; have f4_ := f1_.symm; have f5_ := f3_.symm; clear f1_ f2_ f3_; subst f4_; subst f5_))
  refine norm_ (a' := ?_) ?_ ?_
  rotate_left
  · simp only [putAll, Act.put, List.setIfInBounds_toArray, List.set_cons_zero, List.set_cons_succ]
    rfl
  refine one_ (i := 8) (N := none) #[true, true, true, true, true, true, true, true, true] rfl rfl (one_of HT_.out (by kernel_rfl)) (by decide) (fun K hK => ?_)
  have hs15 : w12.cell? ⟨gb109, 0, none⟩ = some (.slice none 0 0) := (blk_cell BK109.out 0).trans rfl
  have hfs15 := blk_frozen BK109.out 0
  have hns15_0 := NB101_109.out
  have hns15_1 := NB102_109.out
  have hms15_0 := NB109_101.out
  have hms15_1 := NB109_102.out
  have hs16 : w12.cell? ⟨gb109, 1, none⟩ = some (.slice none 0 0) := (blk_cell BK109.out 1).trans rfl
  have hfs16 := blk_frozen BK109.out 1
  have hns16_0 := NB101_109.out
  have hns16_1 := NB102_109.out
  have hms16_0 := NB109_101.out
  have hms16_1 := NB109_102.out
  have hs17 : w12.cell? ⟨gb109, 2, none⟩ = some (.slice none 0 0) := (blk_cell BK109.out 2).trans rfl
  have hfs17 := blk_frozen BK109.out 2
  have hns17_0 := NB101_109.out
  have hns17_1 := NB102_109.out
  have hms17_0 := NB109_101.out
  have hms17_1 := NB109_102.out
  refine skip_ (w1 := ?_) (by rfl) rfl ?_ ?_
  rotate_left
  · go_simp
    rfl
  refine hK.out _ _ ⟨((cell_far (p := ⟨gb109, _, none⟩) NB101_109.out _).trans (((cell_far (p := ⟨gb109, _, none⟩) NB101_109.out _).trans (((cell_far (p := ⟨gb109, _, none⟩) NB101_109.out _).trans (hHeld.1)))))), ((cell_far (p := ⟨gb109, _, none⟩) NB101_109.out _).trans (((cell_far (p := ⟨gb109, _, none⟩) NB101_109.out _).trans (((cell_far (p := ⟨gb109, _, none⟩) NB101_109.out _).trans (hHeld.2.1)))))), ((cell_far (p := ⟨gb109, _, none⟩) NB101_109.out _).trans (((cell_far (p := ⟨gb109, _, none⟩) NB101_109.out _).trans (((cell_far (p := ⟨gb109, _, none⟩) NB101_109.out _).trans (hHeld.2.2.1)))))), ((cell_far (p := ⟨gb109, _, none⟩) NB101_109.out _).trans (((cell_far (p := ⟨gb109, _, none⟩) NB101_109.out _).trans (((cell_far (p := ⟨gb109, _, none⟩) NB101_109.out _).trans (hHeld.2.2.2.1)))))), ((cell_far (p := ⟨gb109, _, none⟩) NB101_109.out _).trans (((cell_far (p := ⟨gb109, _, none⟩) NB101_109.out _).trans (((cell_far (p := ⟨gb109, _, none⟩) NB101_109.out _).trans (hHeld.2.2.2.2.1)))))), ((cell_far (p := ⟨gb109, _, none⟩) NB101_109.out _).trans (((cell_far (p := ⟨gb109, _, none⟩) NB101_109.out _).trans (((cell_far (p := ⟨gb109, _, none⟩) NB101_109.out _).trans (hHeld.2.2.2.2.2))))))⟩ (fun hHeld => ?_)
  clear hK K
  refine done_ (done_of HT_.out (by kernel_rfl)) ?_
  have hnb18 := NB101_102.out
  have hnc18 := NB102_101.out
  have hnb19 := NB101_109.out
  have hnc19 := NB109_101.out
  have hcz20_0 : w12.cell? ⟨gb101, 0, none⟩ = some (.slice A0_0 l0_0.length c0_0) := (blk_cell BK101.out 0).trans rfl
  have hcz20_1 : w12.cell? ⟨gb101, 1, none⟩ = some (.slice A0_1 l0_1.length c0_1) := (blk_cell BK101.out 1).trans rfl
  have hcz20_2 : w12.cell? ⟨gb101, 2, none⟩ = some (.int .i64 a0_2) := (blk_cell BK101.out 2).trans rfl
  have hcz20_3 : w12.cell? ⟨gb101, 3, none⟩ = some (.slice A0_3 l0_3.length c0_3) := (blk_cell BK101.out 3).trans rfl
  have hcz20_4 : w12.cell? ⟨gb101, 4, none⟩ = some (.slice A0_4 l0_4.length c0_4) := (blk_cell BK101.out 4).trans rfl
  have hcz20_5 : w12.cell? ⟨gb101, 5, none⟩ = some (.slice A0_5 l0_5.length c0_5) := (blk_cell BK101.out 5).trans rfl
  have hfz20_0 := blk_frozen BK101.out 0
  have hfz20_1 := blk_frozen BK101.out 1
  have hfz20_2 := blk_frozen BK101.out 2
  have hfz20_3 := blk_frozen BK101.out 3
  have hfz20_4 := blk_frozen BK101.out 4
  have hfz20_5 := blk_frozen BK101.out 5
  try go_wp2
  go_loopg [17] k (fun kq v17 w' => ∃ (x17_1 : Int) (x110002_1 : List (S67)) (u110002 : Value), v17 = .int .i64 x17_1 ∧ Aside0 (tooth_blade_sure.l0 kq l0_3 (l0_3.length : Int) x17_1 t103 t106 x110002_1 = some (r1, r2, r3)) ∧ Aside0 (kq ≤ k) ∧ Aside0 (Kd.R (Kd.int .i64) 3 w' w.heap.size (fun k_ => some k_ ≠ ((.slice Ao13 t106.length co13) : Value).ownBlock) (.slice Ao14 t103.length co14) t103) ∧ Aside0 (Kd.R (Kd.int .i64) 3 w' w.heap.size (fun k_ => some k_ ≠ ((.slice Ao14 t103.length co14) : Value).ownBlock) (.slice Ao13 t106.length co13) t106) ∧ Aside0 (Kd.R k67 67 w' w.heap.size (fun _ => True) u110002 x110002_1) ∧ Aside0 (w'.heap[gb101]? = some (.cells #[(.slice A0_0 l0_0.length c0_0), (.slice A0_1 l0_1.length c0_1), .int .i64 a0_2, (.slice A0_3 l0_3.length c0_3), (.slice A0_4 l0_4.length c0_4), (.slice A0_5 l0_5.length c0_5)] 57 (0, 0))) ∧ Aside0 (w'.heap[gb102]? = some (.cells #[(.slice none 0 0), (.slice none 0 0), (.slice none 0 0)] 62 (0, 0))) ∧ Aside0 (w'.heap[gb109]? = some (.cells #[(.slice Ao14 t103.length co14), (.slice Ao13 t106.length co13), u110002] 62 (0, 0))) ∧ Aside0 (Below w.heap.size w w'))
  case atStart => exact ⟨(0), (([] : List (S67))), (.slice none 0 0), (by first | rfl | (simp; done) | (simp [*]; done)), H', ⟨Nat.le_refl _⟩, ⟨by (with_reducible repeat (first | apply Kd.R_alloc | apply Kd.R_drewN | apply Kd.R_drew)); exact Kd.R_mono (Kd.R_far (p := ⟨gb109, 2, none⟩) (Kd.R_far (p := ⟨gb109, 1, none⟩) (Kd.R_far (p := ⟨gb109, 0, none⟩) (Kd.R_types HO105.out BK109.out (by decide)) (fun _ hk => hk.2) (.slice Ao14 t103.length co14)) (fun _ hk => hk.2) (.slice Ao13 t106.length co13)) (fun _ hk => hk.2) (.slice none 0 0)) (fun _ hk => hk.1)⟩, ⟨by (with_reducible repeat (first | apply Kd.R_alloc | apply Kd.R_drewN | apply Kd.R_drew)); exact Kd.R_mono (Kd.R_far (p := ⟨gb109, 2, none⟩) (Kd.R_far (p := ⟨gb109, 1, none⟩) (Kd.R_far (p := ⟨gb109, 0, none⟩) (Kd.R_types HO108.out BK109.out (by decide)) (fun _ hk => hk.2) (.slice Ao14 t103.length co14)) (fun _ hk => hk.2) (.slice Ao13 t106.length co13)) (fun _ hk => hk.2) (.slice none 0 0)) (fun _ hk => hk.1)⟩, ⟨by first | exact Kd.R_nil _ _ _ _ _ | exact Kd.N_nil _ _ _ _ _ | exact Kd.V_nil _ _ _ _ _ | exact Kd.Q_nil _ _ _ _ _ | exact Kd.S_nil _ _ _ _ _⟩, ⟨by (with_reducible repeat (first | refine blk_drewN ?_ _ | refine blk_drew ?_ | refine blk_alloc ?_ _)); refine blk_far ?_ NB101_109.out _; (with_reducible repeat (first | refine blk_drewN ?_ _ | refine blk_drew ?_ | refine blk_alloc ?_ _)); refine blk_far ?_ NB101_109.out _; (with_reducible repeat (first | refine blk_drewN ?_ _ | refine blk_drew ?_ | refine blk_alloc ?_ _)); refine blk_far ?_ NB101_109.out _; (with_reducible repeat (first | refine blk_drewN ?_ _ | refine blk_drew ?_ | refine blk_alloc ?_ _)); exact BK101.out⟩, ⟨by (with_reducible repeat (first | refine blk_drewN ?_ _ | refine blk_drew ?_ | refine blk_alloc ?_ _)); refine blk_far ?_ NB102_109.out _; (with_reducible repeat (first | refine blk_drewN ?_ _ | refine blk_drew ?_ | refine blk_alloc ?_ _)); refine blk_far ?_ NB102_109.out _; (with_reducible repeat (first | refine blk_drewN ?_ _ | refine blk_drew ?_ | refine blk_alloc ?_ _)); refine blk_far ?_ NB102_109.out _; (with_reducible repeat (first | refine blk_drewN ?_ _ | refine blk_drew ?_ | refine blk_alloc ?_ _)); exact BK102.out⟩, ⟨by (with_reducible repeat (first | refine blk_drewN ?_ _ | refine blk_drew ?_ | refine blk_alloc ?_ _)); refine blk_put (cs := #[.slice Ao14 t103.length co14, .slice Ao13 t106.length co13, .slice none 0 0]) ?_ 2 _ rfl; (with_reducible repeat (first | refine blk_drewN ?_ _ | refine blk_drew ?_ | refine blk_alloc ?_ _)); refine blk_put (cs := #[.slice Ao14 t103.length co14, .slice none 0 0, .slice none 0 0]) ?_ 1 _ rfl; (with_reducible repeat (first | refine blk_drewN ?_ _ | refine blk_drew ?_ | refine blk_alloc ?_ _)); refine blk_put (cs := #[.slice none 0 0, .slice none 0 0, .slice none 0 0]) ?_ 0 _ rfl; (with_reducible repeat (first | refine blk_drewN ?_ _ | refine blk_drew ?_ | refine blk_alloc ?_ _)); exact BK109.out⟩, ⟨by repeat (first | (with_reducible first | exact HB.out | apply below_alloc | apply pw_below_drewN | apply below_drew1 | refine below_set ?_ GE101.out | refine below_set ?_ GE102.out | refine below_set ?_ GE109.out) | exact HB.out)⟩⟩
  case round =>
    clear H'
    try clear c1
    try clear p2
    try clear c3
    try clear c15
    try clear c18
    try clear c19
    try clear hcz20_0
    try clear hcz20_1
    try clear hcz20_2
    try clear hcz20_3
    try clear hcz20_4
    try clear hcz20_5
    try clear hfz20_0
    try clear hfz20_1
    try clear hfz20_2
    try clear hfz20_3
    try clear hfz20_4
    try clear hfz20_5
    obtain ⟨x17_1, x110002_1, u110002, rfl, HA, HK1, HO_110000, HO_110001, HO_110002, BK101, BK102, BK109, HB⟩ := hrel
    cases gk with
    | zero => exact absurd HA.out (by simp [tooth_blade_sure.l0])
    | succ k1 =>
      have H := HA.out
      clear HA
      simp only [tooth_blade_sure.l0] at H
      by_cases c21 : x17_1 < (l0_3.length : Int)
      · rw [if_pos c21] at H
        have c21b0 : decide (x17_1 < (l0_3.length : Int)) = true := decide_eq_true c21
        clear c21
        by_cases c22 : 0 ≤ x17_1
        · rw [if_pos c22] at H
          have c22b0 : decide (0 ≤ x17_1) = true := decide_eq_true c22
          clear c22
          by_cases c23 : x17_1 < (l0_3.length : Int)
          · rw [if_pos c23] at H
            have c23b0 : decide (x17_1 < (l0_3.length : Int)) = true := decide_eq_true c23
            clear c23
            by_cases c24 : x110002_1.length < 4398046511104
            · rw [if_pos c24] at H
              have LMc24 := Aside0.mk c24
              clear c24
              obtain ⟨y112, hy112⟩ : ∃ y_ : List (S67), y_ = (x110002_1 ++ [(⟨(⟨(rd_T35 l0_3 x17_1).f0.f0, (rd_T35 l0_3 x17_1).f0.f1⟩ : S32), (⟨(rd_T35 l0_3 x17_1).f1.f0, (rd_T35 l0_3 x17_1).f2.f1⟩ : S32)⟩ : S67)]) := ⟨_, rfl⟩
              replace H : (tooth_blade_sure.l0 k1 l0_3 (l0_3.length : Int) (wrap64 (x17_1 + 1)) t103 t106 y112) = some (r1, r2, r3) := by first | (rw [hy112]; with_reducible exact H) | (have H2_ := (Option.bind_some _ _).symm.trans H; rw [hy112]; with_reducible exact H2_) | (have H2_ := (Option.bind_some _ _).symm.trans H; with_reducible exact H2_) | with_reducible exact H | (rw [hy112]; exact H) | exact H
              have Ny112 := Aside0.mk hy112
              clear hy112
              have H' := Aside0.mk H
              clear H
              have p110 : 0 ≤ (x17_1 : Int) := of_decide_eq_true (by first | (with_reducible assumption) | assumption)
              have q110 : x17_1 < (l0_3.length : Int) := of_decide_eq_true (by first | (with_reducible assumption) | assumption)
              obtain ⟨ad110, e110, hx110_0, hx110_1, hx110_2, hx110_3, hx110_4, hx110_5⟩ := at_T35 HR0_3.out x17_1 p110 q110
              cases e110
              replace hx110_0 := (HB.out.cell (World.block_lt_of_cell? w _ hx110_0)).trans hx110_0
              replace hx110_1 := (HB.out.cell (World.block_lt_of_cell? w _ hx110_1)).trans hx110_1
              replace hx110_2 := (HB.out.cell (World.block_lt_of_cell? w _ hx110_2)).trans hx110_2
              replace hx110_3 := (HB.out.cell (World.block_lt_of_cell? w _ hx110_3)).trans hx110_3
              replace hx110_4 := (HB.out.cell (World.block_lt_of_cell? w _ hx110_4)).trans hx110_4
              replace hx110_5 := (HB.out.cell (World.block_lt_of_cell? w _ hx110_5)).trans hx110_5
              replace p110 := eq_true p110
              replace q110 := eq_true q110
              go_wp2_with (first | ((with_reducible refine gate_dst (N := 5) rfl ?_); refine box_event ?hg (N := 5) ?hd (cs := #[.int .i64 0, .int .i64 0, .int .i64 0, .int .i64 0, .int .i64 0, .int .i64 0]) (t := 35) ?hr ?_; (case hd => rfl); (case hg => rfl); (case hr => first | (go_simp; done) | (go_simp; rfl)); intro gb111 hg w25 hbox hb; have n0_ := Aside0.mk (Kd.R_below (by (with_reducible repeat (first | apply Kd.R_alloc | apply Kd.R_drewN | apply Kd.R_drew)); exact HO_110000.out) hb); have n1_ := Aside0.mk (Kd.R_below (by (with_reducible repeat (first | apply Kd.R_alloc | apply Kd.R_drewN | apply Kd.R_drew)); exact HO_110001.out) hb); have n2_ := Aside0.mk (Kd.R_below (by (with_reducible repeat (first | apply Kd.R_alloc | apply Kd.R_drewN | apply Kd.R_drew)); exact HO_110002.out) hb); have n3_ := Aside0.mk (blk_below (g := gb101) (o := .cells #[.slice A0_0 l0_0.length c0_0, .slice A0_1 l0_1.length c0_1, .int .i64 a0_2, .slice (some ad110) l0_3.length c0_3, .slice A0_4 l0_4.length c0_4, .slice A0_5 l0_5.length c0_5] 57 (0, 0)) (by (with_reducible repeat (first | refine blk_drewN ?_ _ | refine blk_drew ?_ | refine blk_alloc ?_ _)); exact BK101.out) hb); have n4_ := Aside0.mk (blk_below (g := gb102) (o := .cells #[.slice none 0 0, .slice none 0 0, .slice none 0 0] 62 (0, 0)) (by (with_reducible repeat (first | refine blk_drewN ?_ _ | refine blk_drew ?_ | refine blk_alloc ?_ _)); exact BK102.out) hb); have n5_ := Aside0.mk (blk_below (g := gb109) (o := .cells #[.slice Ao14 t103.length co14, .slice Ao13 t106.length co13, u110002] 62 (0, 0)) (by (with_reducible repeat (first | refine blk_drewN ?_ _ | refine blk_drew ?_ | refine blk_alloc ?_ _)); exact BK109.out) hb); have n6_ := Aside0.mk (below_step (by repeat (first | (with_reducible first | exact HB.out | apply below_alloc | apply pw_below_drewN | apply below_drew1 | refine below_set ?_ GE101.out | refine below_set ?_ GE102.out | refine below_set ?_ GE109.out) | exact HB.out)) hb); have n7_ := Aside0.mk (hbox); have n8_ := Aside0.mk ((by rw [hg]; exact (below_size (by repeat (first | (with_reducible first | exact HB.out | apply below_alloc | apply pw_below_drewN | apply below_drew1 | refine below_set ?_ GE101.out | refine below_set ?_ GE102.out | refine below_set ?_ GE109.out) | exact HB.out))) : w.heap.size ≤ gb111)); have n9_ := Aside0.mk ((by rw [hg]; exact (below_size (by repeat (first | (with_reducible first | exact HB.out | apply below_alloc | apply pw_below_drewN | apply below_drew1 | refine below_set ?_ GE101.out | refine below_set ?_ GE102.out | refine below_set ?_ GE109.out) | exact HB.out))) : w.heap.size ≤ gb111)); have n10_ := Aside0.mk ((by rw [hg]; exact Nat.ne_of_lt (blk_lt (g := gb101) (o := .cells #[.slice A0_0 l0_0.length c0_0, .slice A0_1 l0_1.length c0_1, .int .i64 a0_2, .slice (some ad110) l0_3.length c0_3, .slice A0_4 l0_4.length c0_4, .slice A0_5 l0_5.length c0_5] 57 (0, 0)) (by (with_reducible repeat (first | refine blk_drewN ?_ _ | refine blk_drew ?_ | refine blk_alloc ?_ _)); exact BK101.out)) : gb101 ≠ gb111)); have n11_ := Aside0.mk ((by rw [hg]; exact Nat.ne_of_gt (blk_lt (g := gb101) (o := .cells #[.slice A0_0 l0_0.length c0_0, .slice A0_1 l0_1.length c0_1, .int .i64 a0_2, .slice (some ad110) l0_3.length c0_3, .slice A0_4 l0_4.length c0_4, .slice A0_5 l0_5.length c0_5] 57 (0, 0)) (by (with_reducible repeat (first | refine blk_drewN ?_ _ | refine blk_drew ?_ | refine blk_alloc ?_ _)); exact BK101.out)) : gb111 ≠ gb101)); have n12_ := Aside0.mk ((by rw [hg]; exact Nat.ne_of_lt (blk_lt (g := gb102) (o := .cells #[.slice none 0 0, .slice none 0 0, .slice none 0 0] 62 (0, 0)) (by (with_reducible repeat (first | refine blk_drewN ?_ _ | refine blk_drew ?_ | refine blk_alloc ?_ _)); exact BK102.out)) : gb102 ≠ gb111)); have n13_ := Aside0.mk ((by rw [hg]; exact Nat.ne_of_gt (blk_lt (g := gb102) (o := .cells #[.slice none 0 0, .slice none 0 0, .slice none 0 0] 62 (0, 0)) (by (with_reducible repeat (first | refine blk_drewN ?_ _ | refine blk_drew ?_ | refine blk_alloc ?_ _)); exact BK102.out)) : gb111 ≠ gb102)); have n14_ := Aside0.mk ((by rw [hg]; exact Nat.ne_of_lt (blk_lt (g := gb109) (o := .cells #[.slice Ao14 t103.length co14, .slice Ao13 t106.length co13, u110002] 62 (0, 0)) (by (with_reducible repeat (first | refine blk_drewN ?_ _ | refine blk_drew ?_ | refine blk_alloc ?_ _)); exact BK109.out)) : gb109 ≠ gb111)); have n15_ := Aside0.mk ((by rw [hg]; exact Nat.ne_of_gt (blk_lt (g := gb109) (o := .cells #[.slice Ao14 t103.length co14, .slice Ao13 t106.length co13, u110002] 62 (0, 0)) (by (with_reducible repeat (first | refine blk_drewN ?_ _ | refine blk_drew ?_ | refine blk_alloc ?_ _)); exact BK109.out)) : gb111 ≠ gb109)); clear HO_110000; clear HO_110001; clear HO_110002; clear BK101; clear BK102; clear BK109; clear HB; have HO_110000 := n0_; have HO_110001 := n1_; have HO_110002 := n2_; have BK101 := n3_; have BK102 := n4_; have BK109 := n5_; have HB := n6_; have BK111 := n7_; have GW111 := n8_; have GE111 := n9_; have NB101_111 := n10_; have NB111_101 := n11_; have NB102_111 := n12_; have NB111_102 := n13_; have NB109_111 := n14_; have NB111_109 := n15_; clear n0_ n1_ n2_ n3_ n4_ n5_ n6_ n7_ n8_ n9_ n10_ n11_ n12_ n13_ n14_ n15_; clear hb hbox hg; have hnb26 := NB111_101.out; have hnc26 := NB101_111.out; have hnb27 := NB111_102.out; have hnc27 := NB102_111.out; have hnb28 := NB111_109.out; have hnc28 := NB109_111.out; have hcz29_0 : w25.cell? ⟨gb111, 0, none⟩ = some (.int .i64 0) := (blk_cell BK111.out 0).trans rfl; have hcz29_1 : w25.cell? ⟨gb111, 1, none⟩ = some (.int .i64 0) := (blk_cell BK111.out 1).trans rfl; have hcz29_2 : w25.cell? ⟨gb111, 2, none⟩ = some (.int .i64 0) := (blk_cell BK111.out 2).trans rfl; have hcz29_3 : w25.cell? ⟨gb111, 3, none⟩ = some (.int .i64 0) := (blk_cell BK111.out 3).trans rfl; have hcz29_4 : w25.cell? ⟨gb111, 4, none⟩ = some (.int .i64 0) := (blk_cell BK111.out 4).trans rfl; have hcz29_5 : w25.cell? ⟨gb111, 5, none⟩ = some (.int .i64 0) := (blk_cell BK111.out 5).trans rfl; have hfz29_0 := blk_frozen BK111.out 0; have hfz29_1 := blk_frozen BK111.out 1; have hfz29_2 := blk_frozen BK111.out 2; have hfz29_3 := blk_frozen BK111.out 3; have hfz29_4 := blk_frozen BK111.out 4; have hfz29_5 := blk_frozen BK111.out 5; have hnb30 := NB109_101.out; have hnc30 := NB101_109.out; have hnb31 := NB109_102.out; have hnc31 := NB102_109.out; have hcz32_0 : w25.cell? ⟨gb109, 0, none⟩ = some (.slice Ao14 t103.length co14) := (blk_cell BK109.out 0).trans rfl; have hcz32_1 : w25.cell? ⟨gb109, 1, none⟩ = some (.slice Ao13 t106.length co13) := (blk_cell BK109.out 1).trans rfl; have hcz32_2 : w25.cell? ⟨gb109, 2, none⟩ = some (u110002) := (blk_cell BK109.out 2).trans rfl; have hfz32_0 := blk_frozen BK109.out 0; have hfz32_1 := blk_frozen BK109.out 1; have hfz32_2 := blk_frozen BK109.out 2) | ((with_reducible refine gate_builtin (b := .append) (xs := #[.tmp 22, .tmp 33]) rfl ?_); at_builtin; refine Kd.R_append k67 (w0 := w) w.heap.size rfl (.tmp 22) (.tmp 33) 60 67 (.agg #[(.int .i64 0), (.int .i64 0), (.int .i64 0), (.int .i64 0)]) 32 rfl Tryd.underlying60 info67 rfl (by decide) (by omega) u110002 x110002_1 (⟨(⟨(rd_T35 l0_3 x17_1).f0.f0, (rd_T35 l0_3 x17_1).f0.f1⟩ : S32), (⟨(rd_T35 l0_3 x17_1).f1.f0, (rd_T35 l0_3 x17_1).f2.f1⟩ : S32)⟩ : S67) [.int .i64 ((rd_T35 l0_3 x17_1).f0.f0), .int .i64 ((rd_T35 l0_3 x17_1).f0.f1), .int .i64 ((rd_T35 l0_3 x17_1).f1.f0), .int .i64 ((rd_T35 l0_3 x17_1).f2.f1)] (fun _ => True) (fun _ => False) rfl (by first | (go_simp; done) | (go_simp; rfl)) ?aP (fun _ hk => hk.elim) ?aF ?aO ?aB ?aS ?aL ?_; (case aP => exact k67_mkM _ _ _ (⟨(⟨(rd_T35 l0_3 x17_1).f0.f0, (rd_T35 l0_3 x17_1).f0.f1⟩ : S32), (⟨(rd_T35 l0_3 x17_1).f1.f0, (rd_T35 l0_3 x17_1).f2.f1⟩ : S32)⟩ : S67)); (case aB => exact (by repeat (first | (with_reducible first | exact HB.out | apply below_alloc | apply pw_below_drewN | apply below_drew1 | refine below_set ?_ GE101.out | refine below_set ?_ GE102.out | refine below_set ?_ GE109.out | refine below_set ?_ GE111.out) | exact HB.out))); (case aF => exact (fun _ _ => trivial)); (case aO => exact (by (with_reducible repeat (first | apply Kd.R_alloc | apply Kd.R_drewN | apply Kd.R_drew)); exact Kd.R_mono (Kd.R_far (p := ⟨gb111, 5, none⟩) (Kd.R_far (p := ⟨gb111, 4, none⟩) (Kd.R_far (p := ⟨gb111, 3, none⟩) (Kd.R_far (p := ⟨gb111, 2, none⟩) (Kd.R_far (p := ⟨gb111, 1, none⟩) (Kd.R_far (p := ⟨gb111, 0, none⟩) (Kd.R_types HO_110002.out BK111.out (by decide)) (fun _ hk => hk.2) (.int .i64 ((rd_T35 l0_3 x17_1).f0.f0))) (fun _ hk => hk.2) (.int .i64 ((rd_T35 l0_3 x17_1).f0.f1))) (fun _ hk => hk.2) (.int .i64 ((rd_T35 l0_3 x17_1).f1.f0))) (fun _ hk => hk.2) (.int .i64 ((rd_T35 l0_3 x17_1).f1.f1))) (fun _ hk => hk.2) (.int .i64 ((rd_T35 l0_3 x17_1).f2.f0))) (fun _ hk => hk.2) (.int .i64 ((rd_T35 l0_3 x17_1).f2.f1))) (fun _ hk => trivial))); (case aS => exact (below_size (by repeat (first | (with_reducible first | exact HB.out | apply below_alloc | apply pw_below_drewN | apply below_drew1 | refine below_set ?_ GE101.out | refine below_set ?_ GE102.out | refine below_set ?_ GE109.out | refine below_set ?_ GE111.out) | exact HB.out)))); (case aL => have := LMc24.out; omega); intro v113 w33 ho hb hg hat; rw [← Ny112.out] at ho; have n0_ := Aside0.mk (Kd.R_over' (by (with_reducible repeat (first | apply Kd.R_alloc | apply Kd.R_drewN | apply Kd.R_drew)); exact (Kd.R_mono (Kd.R_far (p := ⟨gb111, 5, none⟩) (Kd.R_far (p := ⟨gb111, 4, none⟩) (Kd.R_far (p := ⟨gb111, 3, none⟩) (Kd.R_far (p := ⟨gb111, 2, none⟩) (Kd.R_far (p := ⟨gb111, 1, none⟩) (Kd.R_far (p := ⟨gb111, 0, none⟩) (Kd.R_types HO_110000.out BK111.out (by decide)) (fun _ hk => hk.2) (.int .i64 ((rd_T35 l0_3 x17_1).f0.f0))) (fun _ hk => hk.2) (.int .i64 ((rd_T35 l0_3 x17_1).f0.f1))) (fun _ hk => hk.2) (.int .i64 ((rd_T35 l0_3 x17_1).f1.f0))) (fun _ hk => hk.2) (.int .i64 ((rd_T35 l0_3 x17_1).f1.f1))) (fun _ hk => hk.2) (.int .i64 ((rd_T35 l0_3 x17_1).f2.f0))) (fun _ hk => hk.2) (.int .i64 ((rd_T35 l0_3 x17_1).f2.f1))) (fun _ h_ => h_.1))) (Kd.R_typed (by (with_reducible repeat (first | apply Kd.R_alloc | apply Kd.R_drewN | apply Kd.R_drew)); exact (Kd.R_mono (Kd.R_far (p := ⟨gb111, 5, none⟩) (Kd.R_far (p := ⟨gb111, 4, none⟩) (Kd.R_far (p := ⟨gb111, 3, none⟩) (Kd.R_far (p := ⟨gb111, 2, none⟩) (Kd.R_far (p := ⟨gb111, 1, none⟩) (Kd.R_far (p := ⟨gb111, 0, none⟩) (Kd.R_types HO_110002.out BK111.out (by decide)) (fun _ hk => hk.2) (.int .i64 ((rd_T35 l0_3 x17_1).f0.f0))) (fun _ hk => hk.2) (.int .i64 ((rd_T35 l0_3 x17_1).f0.f1))) (fun _ hk => hk.2) (.int .i64 ((rd_T35 l0_3 x17_1).f1.f0))) (fun _ hk => hk.2) (.int .i64 ((rd_T35 l0_3 x17_1).f1.f1))) (fun _ hk => hk.2) (.int .i64 ((rd_T35 l0_3 x17_1).f2.f0))) (fun _ hk => hk.2) (.int .i64 ((rd_T35 l0_3 x17_1).f2.f1))) (fun _ h_ => h_.1)))) (by decide) hg); have n1_ := Aside0.mk (Kd.R_over' (by (with_reducible repeat (first | apply Kd.R_alloc | apply Kd.R_drewN | apply Kd.R_drew)); exact (Kd.R_mono (Kd.R_far (p := ⟨gb111, 5, none⟩) (Kd.R_far (p := ⟨gb111, 4, none⟩) (Kd.R_far (p := ⟨gb111, 3, none⟩) (Kd.R_far (p := ⟨gb111, 2, none⟩) (Kd.R_far (p := ⟨gb111, 1, none⟩) (Kd.R_far (p := ⟨gb111, 0, none⟩) (Kd.R_types HO_110001.out BK111.out (by decide)) (fun _ hk => hk.2) (.int .i64 ((rd_T35 l0_3 x17_1).f0.f0))) (fun _ hk => hk.2) (.int .i64 ((rd_T35 l0_3 x17_1).f0.f1))) (fun _ hk => hk.2) (.int .i64 ((rd_T35 l0_3 x17_1).f1.f0))) (fun _ hk => hk.2) (.int .i64 ((rd_T35 l0_3 x17_1).f1.f1))) (fun _ hk => hk.2) (.int .i64 ((rd_T35 l0_3 x17_1).f2.f0))) (fun _ hk => hk.2) (.int .i64 ((rd_T35 l0_3 x17_1).f2.f1))) (fun _ h_ => h_.1))) (Kd.R_typed (by (with_reducible repeat (first | apply Kd.R_alloc | apply Kd.R_drewN | apply Kd.R_drew)); exact (Kd.R_mono (Kd.R_far (p := ⟨gb111, 5, none⟩) (Kd.R_far (p := ⟨gb111, 4, none⟩) (Kd.R_far (p := ⟨gb111, 3, none⟩) (Kd.R_far (p := ⟨gb111, 2, none⟩) (Kd.R_far (p := ⟨gb111, 1, none⟩) (Kd.R_far (p := ⟨gb111, 0, none⟩) (Kd.R_types HO_110002.out BK111.out (by decide)) (fun _ hk => hk.2) (.int .i64 ((rd_T35 l0_3 x17_1).f0.f0))) (fun _ hk => hk.2) (.int .i64 ((rd_T35 l0_3 x17_1).f0.f1))) (fun _ hk => hk.2) (.int .i64 ((rd_T35 l0_3 x17_1).f1.f0))) (fun _ hk => hk.2) (.int .i64 ((rd_T35 l0_3 x17_1).f1.f1))) (fun _ hk => hk.2) (.int .i64 ((rd_T35 l0_3 x17_1).f2.f0))) (fun _ hk => hk.2) (.int .i64 ((rd_T35 l0_3 x17_1).f2.f1))) (fun _ h_ => h_.1)))) (by decide) hg); have n2_ := Aside0.mk (blk_grown (g := gb101) (o := .cells #[.slice A0_0 l0_0.length c0_0, .slice A0_1 l0_1.length c0_1, .int .i64 a0_2, .slice (some ad110) l0_3.length c0_3, .slice A0_4 l0_4.length c0_4, .slice A0_5 l0_5.length c0_5] 57 (0, 0)) (by (with_reducible repeat (first | refine blk_drewN ?_ _ | refine blk_drew ?_ | refine blk_alloc ?_ _)); refine blk_far ?_ NB101_111.out _; (with_reducible repeat (first | refine blk_drewN ?_ _ | refine blk_drew ?_ | refine blk_alloc ?_ _)); refine blk_far ?_ NB101_111.out _; (with_reducible repeat (first | refine blk_drewN ?_ _ | refine blk_drew ?_ | refine blk_alloc ?_ _)); refine blk_far ?_ NB101_111.out _; (with_reducible repeat (first | refine blk_drewN ?_ _ | refine blk_drew ?_ | refine blk_alloc ?_ _)); refine blk_far ?_ NB101_111.out _; (with_reducible repeat (first | refine blk_drewN ?_ _ | refine blk_drew ?_ | refine blk_alloc ?_ _)); refine blk_far ?_ NB101_111.out _; (with_reducible repeat (first | refine blk_drewN ?_ _ | refine blk_drew ?_ | refine blk_alloc ?_ _)); refine blk_far ?_ NB101_111.out _; (with_reducible repeat (first | refine blk_drewN ?_ _ | refine blk_drew ?_ | refine blk_alloc ?_ _)); exact BK101.out) hg (Kd.R_ne HO_110002.out BK101.out (by decide))); have n3_ := Aside0.mk (blk_grown (g := gb102) (o := .cells #[.slice none 0 0, .slice none 0 0, .slice none 0 0] 62 (0, 0)) (by (with_reducible repeat (first | refine blk_drewN ?_ _ | refine blk_drew ?_ | refine blk_alloc ?_ _)); refine blk_far ?_ NB102_111.out _; (with_reducible repeat (first | refine blk_drewN ?_ _ | refine blk_drew ?_ | refine blk_alloc ?_ _)); refine blk_far ?_ NB102_111.out _; (with_reducible repeat (first | refine blk_drewN ?_ _ | refine blk_drew ?_ | refine blk_alloc ?_ _)); refine blk_far ?_ NB102_111.out _; (with_reducible repeat (first | refine blk_drewN ?_ _ | refine blk_drew ?_ | refine blk_alloc ?_ _)); refine blk_far ?_ NB102_111.out _; (with_reducible repeat (first | refine blk_drewN ?_ _ | refine blk_drew ?_ | refine blk_alloc ?_ _)); refine blk_far ?_ NB102_111.out _; (with_reducible repeat (first | refine blk_drewN ?_ _ | refine blk_drew ?_ | refine blk_alloc ?_ _)); refine blk_far ?_ NB102_111.out _; (with_reducible repeat (first | refine blk_drewN ?_ _ | refine blk_drew ?_ | refine blk_alloc ?_ _)); exact BK102.out) hg (Kd.R_ne HO_110002.out BK102.out (by decide))); have n4_ := Aside0.mk (blk_grown (g := gb109) (o := .cells #[.slice Ao14 t103.length co14, .slice Ao13 t106.length co13, u110002] 62 (0, 0)) (by (with_reducible repeat (first | refine blk_drewN ?_ _ | refine blk_drew ?_ | refine blk_alloc ?_ _)); refine blk_far ?_ NB109_111.out _; (with_reducible repeat (first | refine blk_drewN ?_ _ | refine blk_drew ?_ | refine blk_alloc ?_ _)); refine blk_far ?_ NB109_111.out _; (with_reducible repeat (first | refine blk_drewN ?_ _ | refine blk_drew ?_ | refine blk_alloc ?_ _)); refine blk_far ?_ NB109_111.out _; (with_reducible repeat (first | refine blk_drewN ?_ _ | refine blk_drew ?_ | refine blk_alloc ?_ _)); refine blk_far ?_ NB109_111.out _; (with_reducible repeat (first | refine blk_drewN ?_ _ | refine blk_drew ?_ | refine blk_alloc ?_ _)); refine blk_far ?_ NB109_111.out _; (with_reducible repeat (first | refine blk_drewN ?_ _ | refine blk_drew ?_ | refine blk_alloc ?_ _)); refine blk_far ?_ NB109_111.out _; (with_reducible repeat (first | refine blk_drewN ?_ _ | refine blk_drew ?_ | refine blk_alloc ?_ _)); exact BK109.out) hg (Kd.R_ne HO_110002.out BK109.out (by decide))); have n5_ := Aside0.mk (blk_grown (g := gb111) (o := .cells #[.int .i64 ((rd_T35 l0_3 x17_1).f0.f0), .int .i64 ((rd_T35 l0_3 x17_1).f0.f1), .int .i64 ((rd_T35 l0_3 x17_1).f1.f0), .int .i64 ((rd_T35 l0_3 x17_1).f1.f1), .int .i64 ((rd_T35 l0_3 x17_1).f2.f0), .int .i64 ((rd_T35 l0_3 x17_1).f2.f1)] 35 (0, 0)) (by (with_reducible repeat (first | refine blk_drewN ?_ _ | refine blk_drew ?_ | refine blk_alloc ?_ _)); refine blk_put (cs := #[.int .i64 ((rd_T35 l0_3 x17_1).f0.f0), .int .i64 ((rd_T35 l0_3 x17_1).f0.f1), .int .i64 ((rd_T35 l0_3 x17_1).f1.f0), .int .i64 ((rd_T35 l0_3 x17_1).f1.f1), .int .i64 ((rd_T35 l0_3 x17_1).f2.f0), .int .i64 0]) ?_ 5 _ rfl; (with_reducible repeat (first | refine blk_drewN ?_ _ | refine blk_drew ?_ | refine blk_alloc ?_ _)); refine blk_put (cs := #[.int .i64 ((rd_T35 l0_3 x17_1).f0.f0), .int .i64 ((rd_T35 l0_3 x17_1).f0.f1), .int .i64 ((rd_T35 l0_3 x17_1).f1.f0), .int .i64 ((rd_T35 l0_3 x17_1).f1.f1), .int .i64 0, .int .i64 0]) ?_ 4 _ rfl; (with_reducible repeat (first | refine blk_drewN ?_ _ | refine blk_drew ?_ | refine blk_alloc ?_ _)); refine blk_put (cs := #[.int .i64 ((rd_T35 l0_3 x17_1).f0.f0), .int .i64 ((rd_T35 l0_3 x17_1).f0.f1), .int .i64 ((rd_T35 l0_3 x17_1).f1.f0), .int .i64 0, .int .i64 0, .int .i64 0]) ?_ 3 _ rfl; (with_reducible repeat (first | refine blk_drewN ?_ _ | refine blk_drew ?_ | refine blk_alloc ?_ _)); refine blk_put (cs := #[.int .i64 ((rd_T35 l0_3 x17_1).f0.f0), .int .i64 ((rd_T35 l0_3 x17_1).f0.f1), .int .i64 0, .int .i64 0, .int .i64 0, .int .i64 0]) ?_ 2 _ rfl; (with_reducible repeat (first | refine blk_drewN ?_ _ | refine blk_drew ?_ | refine blk_alloc ?_ _)); refine blk_put (cs := #[.int .i64 ((rd_T35 l0_3 x17_1).f0.f0), .int .i64 0, .int .i64 0, .int .i64 0, .int .i64 0, .int .i64 0]) ?_ 1 _ rfl; (with_reducible repeat (first | refine blk_drewN ?_ _ | refine blk_drew ?_ | refine blk_alloc ?_ _)); refine blk_put (cs := #[.int .i64 0, .int .i64 0, .int .i64 0, .int .i64 0, .int .i64 0, .int .i64 0]) ?_ 0 _ rfl; (with_reducible repeat (first | refine blk_drewN ?_ _ | refine blk_drew ?_ | refine blk_alloc ?_ _)); exact BK111.out) hg (Kd.R_ne HO_110002.out BK111.out (by decide))); have n6_ := Aside0.mk (hb); have n7_ := Aside0.mk (ho); clear HO_110000; clear HO_110001; clear BK101; clear BK102; clear BK109; clear BK111; clear HB; clear HO_110002; have HO_110000 := n0_; have HO_110001 := n1_; have BK101 := n2_; have BK102 := n3_; have BK109 := n4_; have BK111 := n5_; have HB := n6_; have HO114 := n7_; clear n0_ n1_ n2_ n3_ n4_ n5_ n6_ n7_; clear ho hb hg hat; obtain ⟨Ao34, co34, eo34⟩ := Kd.R_slice HO114.out; subst eo34; have hcz35_0 : w33.cell? ⟨gb109, 0, none⟩ = some (.slice Ao14 t103.length co14) := (blk_cell BK109.out 0).trans rfl; have hcz35_1 : w33.cell? ⟨gb109, 1, none⟩ = some (.slice Ao13 t106.length co13) := (blk_cell BK109.out 1).trans rfl; have hcz35_2 : w33.cell? ⟨gb109, 2, none⟩ = some (u110002) := (blk_cell BK109.out 2).trans rfl; have hfz35_0 := blk_frozen BK109.out 0; have hfz35_1 := blk_frozen BK109.out 1; have hfz35_2 := blk_frozen BK109.out 2))
              go_roundg k1
              case measure => have := HK1.out; omega
              case rel => exact ⟨(wrap64 (x17_1 + 1)), (y112), (.slice Ao34 y112.length co34), (by first | rfl | (simp; done) | (simp [*]; done)), H', ⟨by have := HK1.out; omega⟩, ⟨by (with_reducible repeat (first | apply Kd.R_alloc | apply Kd.R_drewN | apply Kd.R_drew)); exact Kd.R_mono (Kd.R_far (p := ⟨gb109, 2, none⟩) (Kd.R_types HO_110000.out BK109.out (by decide)) (fun _ hk => hk.2) (.slice Ao34 y112.length co34)) (fun _ hk => hk.1)⟩, ⟨by (with_reducible repeat (first | apply Kd.R_alloc | apply Kd.R_drewN | apply Kd.R_drew)); exact Kd.R_mono (Kd.R_far (p := ⟨gb109, 2, none⟩) (Kd.R_types HO_110001.out BK109.out (by decide)) (fun _ hk => hk.2) (.slice Ao34 y112.length co34)) (fun _ hk => hk.1)⟩, ⟨by (with_reducible repeat (first | apply Kd.R_alloc | apply Kd.R_drewN | apply Kd.R_drew)); exact Kd.R_mono (Kd.R_far (p := ⟨gb109, 2, none⟩) (Kd.R_types HO114.out BK109.out (by decide)) (fun _ hk => hk.2) (.slice Ao34 y112.length co34)) (fun _ hk => trivial)⟩, ⟨by (with_reducible repeat (first | refine blk_drewN ?_ _ | refine blk_drew ?_ | refine blk_alloc ?_ _)); refine blk_far ?_ NB101_109.out _; (with_reducible repeat (first | refine blk_drewN ?_ _ | refine blk_drew ?_ | refine blk_alloc ?_ _)); exact BK101.out⟩, ⟨by (with_reducible repeat (first | refine blk_drewN ?_ _ | refine blk_drew ?_ | refine blk_alloc ?_ _)); refine blk_far ?_ NB102_109.out _; (with_reducible repeat (first | refine blk_drewN ?_ _ | refine blk_drew ?_ | refine blk_alloc ?_ _)); exact BK102.out⟩, ⟨by (with_reducible repeat (first | refine blk_drewN ?_ _ | refine blk_drew ?_ | refine blk_alloc ?_ _)); refine blk_put (cs := #[.slice Ao14 t103.length co14, .slice Ao13 t106.length co13, u110002]) ?_ 2 _ rfl; (with_reducible repeat (first | refine blk_drewN ?_ _ | refine blk_drew ?_ | refine blk_alloc ?_ _)); exact BK109.out⟩, ⟨by repeat (first | (with_reducible first | exact HB.out | apply below_alloc | apply pw_below_drewN | apply below_drew1 | refine below_set ?_ GE101.out | refine below_set ?_ GE102.out | refine below_set ?_ GE109.out | refine below_set ?_ GE111.out) | exact HB.out)⟩⟩
            · rw [if_neg c24] at H
              exact absurd H (by simp)
          · rw [if_neg c23] at H
            exact absurd H (by simp)
        · rw [if_neg c22] at H
          exact absurd H (by simp)
      · rw [if_neg c21] at H
        have c21b0 : decide (x17_1 < (l0_3.length : Int)) = false := decide_eq_false c21
        clear c21
        simp only [Option.some.injEq, Prod.mk.injEq] at H
        obtain ⟨rfl, rfl, rfl⟩ := H
        have hnb36 := NB109_101.out
        have hnc36 := NB101_109.out
        have hnb37 := NB109_102.out
        have hnc37 := NB102_109.out
        have hcz38_0 : wr.cell? ⟨gb109, 0, none⟩ = some (.slice Ao14 t103.length co14) := (blk_cell BK109.out 0).trans rfl
        have hcz38_1 : wr.cell? ⟨gb109, 1, none⟩ = some (.slice Ao13 t106.length co13) := (blk_cell BK109.out 1).trans rfl
        have hcz38_2 : wr.cell? ⟨gb109, 2, none⟩ = some (u110002) := (blk_cell BK109.out 2).trans rfl
        have hfz38_0 := blk_frozen BK109.out 0
        have hfz38_1 := blk_frozen BK109.out 1
        have hfz38_2 := blk_frozen BK109.out 2
        have hnb39 := NB102_101.out
        have hnc39 := NB101_102.out
        have hcz40_0 : wr.cell? ⟨gb102, 0, none⟩ = some (.slice none 0 0) := (blk_cell BK102.out 0).trans rfl
        have hcz40_1 : wr.cell? ⟨gb102, 1, none⟩ = some (.slice none 0 0) := (blk_cell BK102.out 1).trans rfl
        have hcz40_2 : wr.cell? ⟨gb102, 2, none⟩ = some (.slice none 0 0) := (blk_cell BK102.out 2).trans rfl
        have hfz40_0 := blk_frozen BK102.out 0
        have hfz40_1 := blk_frozen BK102.out 1
        have hfz40_2 := blk_frozen BK102.out 2
        obtain ⟨Ao41, co41, eo41⟩ := Kd.R_slice HO_110002.out
        subst eo41
        go_wp2
        refine bodyPost_ret (results_cell_row rfl _ _ gb102 62 #[.slice Ao14 t103.length co14, .slice Ao13 t106.length co13, .slice Ao41 x110002_1.length co41] (0, 0) _ rfl (by (with_reducible repeat (first | refine blk_drewN ?_ _ | refine blk_drew ?_ | refine blk_alloc ?_ _)); refine blk_put (cs := #[.slice Ao14 t103.length co14, .slice Ao13 t106.length co13, .slice none 0 0]) ?_ 2 _ rfl; (with_reducible repeat (first | refine blk_drewN ?_ _ | refine blk_drew ?_ | refine blk_alloc ?_ _)); refine blk_put (cs := #[.slice Ao14 t103.length co14, .slice none 0 0, .slice none 0 0]) ?_ 1 _ rfl; (with_reducible repeat (first | refine blk_drewN ?_ _ | refine blk_drew ?_ | refine blk_alloc ?_ _)); refine blk_put (cs := #[.slice none 0 0, .slice none 0 0, .slice none 0 0]) ?_ 0 _ rfl; (with_reducible repeat (first | refine blk_drewN ?_ _ | refine blk_drew ?_ | refine blk_alloc ?_ _)); exact BK102.out) Tryd.underlying62 rfl (by kernel_rfl)) rfl ?_
        exact ⟨_, _, _, by first | rfl | (simp [errW_none, errW_some] <;> rfl) | (simp [*, errW_none, errW_some] <;> rfl), by (with_reducible repeat (first | apply Kd.R_alloc | apply Kd.R_drewN | apply Kd.R_drew)); exact Kd.R_mono (Kd.R_far (p := ⟨gb102, 2, none⟩) (Kd.R_far (p := ⟨gb102, 1, none⟩) (Kd.R_far (p := ⟨gb102, 0, none⟩) (Kd.R_types HO_110000.out BK102.out (by decide)) (fun _ hk => hk.2) (.slice Ao14 t103.length co14)) (fun _ hk => hk.2) (.slice Ao13 t106.length co13)) (fun _ hk => hk.2) (.slice Ao41 x110002_1.length co41)) (fun _ hk => hk.1), by (with_reducible repeat (first | apply Kd.R_alloc | apply Kd.R_drewN | apply Kd.R_drew)); exact Kd.R_mono (Kd.R_far (p := ⟨gb102, 2, none⟩) (Kd.R_far (p := ⟨gb102, 1, none⟩) (Kd.R_far (p := ⟨gb102, 0, none⟩) (Kd.R_types HO_110001.out BK102.out (by decide)) (fun _ hk => hk.2) (.slice Ao14 t103.length co14)) (fun _ hk => hk.2) (.slice Ao13 t106.length co13)) (fun _ hk => hk.2) (.slice Ao41 x110002_1.length co41)) (fun _ hk => hk.1), by (with_reducible repeat (first | apply Kd.R_alloc | apply Kd.R_drewN | apply Kd.R_drew)); exact Kd.R_mono (Kd.R_far (p := ⟨gb102, 2, none⟩) (Kd.R_far (p := ⟨gb102, 1, none⟩) (Kd.R_far (p := ⟨gb102, 0, none⟩) (Kd.R_types HO_110002.out BK102.out (by decide)) (fun _ hk => hk.2) (.slice Ao14 t103.length co14)) (fun _ hk => hk.2) (.slice Ao13 t106.length co13)) (fun _ hk => hk.2) (.slice Ao41 x110002_1.length co41)) (fun _ hk => trivial), by repeat (first | (with_reducible first | exact HB.out | apply below_alloc | apply pw_below_drewN | apply below_drew1 | refine below_set ?_ GE101.out | refine below_set ?_ GE102.out | refine below_set ?_ GE109.out) | exact HB.out)⟩

end Go.Proofs.YteoifcmafkbklaaDoor.PSur
end
section
-- Written by a program of this claim's author out of the translation (the kit's print, with some functions taken as given). Not trusted: Lean checks it.
namespace Go.Proofs.YteoifcmafkbklaaDoor.PSur
open Go.RowKit Go.Proofs.YteoifcmafkbklaaDoorW.PrintWords Go.Proofs.YteoifcmafkbklaaDoorW.PrintLast Go.Proofs.YteoifcmafkbklaaDoorW.PrintMore Go.Proofs.YteoifcmafkbklaaDoor.X
attribute [local go_sem] max2_int min2_int max_two min_two max_three min_three max_four min_four   -- for this text's walks alone
set_option linter.unusedVariables false
set_option linter.unusedSimpArgs false

end Go.Proofs.YteoifcmafkbklaaDoor.PSur
end
section
/- Package tooth: Most, where there is no error. -/
namespace Go.Proofs.YteoifcmafkbklaaDoor.X
open Go.RowKit Go.Proofs.YteoifcmafkbklaaDoorW.PrintWords Go.Proofs.YteoifcmafkbklaaDoorW.PrintLast Go.Proofs.YteoifcmafkbklaaDoorW.PrintMore Go.Proofs.YteoifcmafkbklaaDoor.PToo Go.Proofs.YteoifcmafkbklaaDoor.PBen Go.Proofs.YteoifcmafkbklaaDoor.PTob Go.Proofs.YteoifcmafkbklaaDoor.PSur

theorem mostW_facts {w w1 W : World} {t1 t2 : TypeId} {v1 v2 : Array Value} {o : Obj} (hb : Below (twoW w t1 t2 v1 v2).heap.size (twoW w t1 t2 v1 v2) w1) (h : Below (w1.alloc o).heap.size (w1.alloc o) W) :
    W.heap[w.heap.size + 1]? = some (.cells v2 t2 (0, 0)) ∧ W.heap[w1.heap.size]? = some o ∧ Below w.heap.size w W ∧ Below w1.heap.size w1 W := by
  obtain ⟨_, b2, hbw⟩ := twoW_facts hb
  obtain ⟨b6, h1⟩ := after_alloc h
  exact ⟨blk_below b2 h1, b6, later_below hbw h1, h1⟩

set_option maxHeartbeats 4000000 in
set_option maxRecDepth 8000 in
theorem Most_calls {A0 A1 A3 : Option Addr} {c0 c1 c3 k ks kb : Nat} {bot top : List S32} {bend : Int} {cr : List S35} {rb rt : List S32} {wide kerf : Int} {s1 s2 : List Int} {s3 : List S67} {bl : Nat → List Int} {w : World}
    (hr0 : Kd.C k32 w A0 bot.length bot) (hc0 : bot.length ≤ c0) (hr1 : Kd.C k32 w A1 top.length top) (hc1 : top.length ≤ c1) (hr3 : Kd.C k35 w A3 cr.length cr) (hc3 : cr.length ≤ c3)
    (hf : tooth_form.f bot top bend cr = some 0) (hb : tooth_bent.f k bot bend = some (rb, true)) (ht : tooth_bent.f k top bend = some (rt, true))
    (h1 : tooth_within.f 1 30 [1] = some true) (h2 : tooth_within.f 1 300 [wide] = some true) (h3 : tooth_within.f 0 50 [kerf, 0] = some true)
    (hs : tooth_blade_sure.f ks bot top bend cr rb rt = some (s1, s2, s3)) (hn : s1.length ≤ 1000) (hbl : ∀ x, x < s1.length → tooth_view_block.f kb s1 s2 s3 1 wide kerf 0 (x : Int) = some (bl x)) (hlen : ∀ x, (bl x).length ≤ 1000) :
    Calls Tryd.prog 9 #[.agg (bladeV A0 A1 A3 bot.length c0 top.length c1 cr.length c3 bend), .agg #[.int .i64 1, .int .i64 wide, .int .i64 kerf, .int .i64 0]] w fun e w' =>
      ∃ v : Value, e = .returned (.tuple #[v, .int .i64 0]) ∧ Kd.R k48 48 w' w.heap.size (fun _ => True) v (sticksUp bl s1.length) ∧ Below w.heap.size w w' := by
  have HF : Aside0 (∀ {w1 W : World} {o : Obj}, Below (twoW w 29 38 (bladeV A0 A1 A3 bot.length c0 top.length c1 cr.length c3 bend) #[.int .i64 1, .int .i64 wide, .int .i64 kerf, .int .i64 0]).heap.size (twoW w 29 38 (bladeV A0 A1 A3 bot.length c0 top.length c1 cr.length c3 bend) #[.int .i64 1, .int .i64 wide, .int .i64 kerf, .int .i64 0]) w1 → Below (w1.alloc o).heap.size (w1.alloc o) W → _) := ⟨fun hb h => mostW_facts hb h⟩
  have CN : Aside0 (∀ W, Below w.heap.size w W → Calls Tryd.prog 14 #[.agg (bladeV A0 A1 A3 bot.length c0 top.length c1 cr.length c3 bend), .agg #[.int .i64 1, .int .i64 wide, .int .i64 kerf, .int .i64 0]] W _) := ⟨fun W h => open_calls (Kd.C_below hr0 h) hc0 (Kd.C_below hr1 h) hc1 (Kd.C_below hr3 h) hc3 hf hb ht h1 h2 h3⟩
  have CS : Aside0 (∀ (W : World) (Ab At : Option Addr) (cb ct : Nat), Below w.heap.size w W → Kd.C k32 W Ab rb.length rb → rb.length ≤ cb → Kd.C k32 W At rt.length rt → rt.length ≤ ct → Calls Tryd.prog 15 #[.agg #[.slice A0 bot.length c0, .slice A1 top.length c1, .int .i64 bend, .slice A3 cr.length c3, .slice Ab rb.length cb, .slice At rt.length ct]] W _) := ⟨fun W Ab At cb ct h e1 e2 e3 e4 => tooth_blade_sure.calls ks A0 c0 bot A1 c1 top bend A3 c3 cr Ab cb rb At ct rt s1 s2 s3 W (Kd.C_below hr0 h) hc0 (Kd.C_below hr1 h) hc1 (Kd.C_below hr3 h) hc3 e1 e2 e3 e4 hs⟩
  have HS : Aside0 (Below w.heap.size w (twoW w 29 38 (bladeV A0 A1 A3 bot.length c0 top.length c1 cr.length c3 bend) #[.int .i64 1, .int .i64 wide, .int .i64 kerf, .int .i64 0])) := ⟨below_alloc (below_alloc (Below.refl _ _) _) _⟩
  have HN := Aside0.mk hn
  have HBL := Aside0.mk hbl
  have HLEN := Aside0.mk hlen
  clear hr0 hr1 hr3 hc0 hc1 hc3 hf hb ht h1 h2 h3 hs hn hbl hlen
  go_enter Tryd.func9, Tryd.ntmps9
  go_upto_region 4 with (first
    | (go_at_call 14; refine (CN.out _ HS.out).mono ?_; rintro e w1 ⟨vb, vt, rfl, hvb, hvt, hb1⟩; obtain ⟨Ab, cb, rfl, hlb, hCb⟩ := Kd.R_reads hvb; obtain ⟨At, ct, rfl, hlt, hCt⟩ := Kd.R_reads hvt; have HB1 := Aside0.mk hb1; have HCB := Aside0.mk hCb; have HCT := Aside0.mk hCt; have HLB := Aside0.mk hlb; have HLT := Aside0.mk hlt; clear hvb hvt hb1 hCb hCt hlb hlt))
  have HG : Aside0 (∀ {W : World}, Below (w1.alloc (.cells #[.slice A0 bot.length c0, .slice A1 top.length c1, .int .i64 bend, .slice A3 cr.length c3, .slice Ab rb.length cb, .slice At rt.length ct] 57 (0, 0))).heap.size (w1.alloc (.cells #[.slice A0 bot.length c0, .slice A1 top.length c1, .int .i64 bend, .slice A3 cr.length c3, .slice Ab rb.length cb, .slice At rt.length ct] 57 (0, 0))) W → _) := ⟨fun h => HF.out HB1.out h⟩
  have H0 := Aside0.mk (Below.refl (w1.alloc (.cells #[.slice A0 bot.length c0, .slice A1 top.length c1, .int .i64 bend, .slice A3 cr.length c3, .slice Ab rb.length cb, .slice At rt.length ct] 57 (0, 0))).heap.size (w1.alloc (.cells #[.slice A0 bot.length c0, .slice A1 top.length c1, .int .i64 bend, .slice A3 cr.length c3, .slice Ab rb.length cb, .slice At rt.length ct] 57 (0, 0))))
  clear HS CN HF
  generalize w1.alloc (.cells #[.slice A0 bot.length c0, .slice A1 top.length c1, .int .i64 bend, .slice A3 cr.length c3, .slice Ab rb.length cb, .slice At rt.length ct] 57 (0, 0)) = wz at HG H0 ⊢
  obtain ⟨b2, b6, hbw, hb11⟩ := HG.out H0.out
  have y0 := (blk_cell b2 0).trans rfl
  have y1 := (blk_cell b2 1).trans rfl
  have y2 := (blk_cell b2 2).trans rfl
  have y3 := (blk_cell b2 3).trans rfl
  have x0 := (blk_cell b6 0).trans rfl
  have x1 := (blk_cell b6 1).trans rfl
  have x2 := (blk_cell b6 2).trans rfl
  have x3 := (blk_cell b6 3).trans rfl
  have x4 := (blk_cell b6 4).trans rfl
  have x5 := (blk_cell b6 5).trans rfl
  have HCB2 := Aside0.mk (Kd.C_below HCB.out hb11)
  have HCT2 := Aside0.mk (Kd.C_below HCT.out hb11)
  have HBW := Aside0.mk hbw
  clear b2 b6 hbw hb11
  go_region_with (first
    | (go_at_call 15; refine (CS.out wz.drew Ab At cb ct (below_drew HBW.out) (Kd.C_drew HCB2.out) HLB.out (Kd.C_drew HCT2.out) HLT.out).mono ?_; rintro e w2 ⟨va, vc, vd, rfl, hva, hvc, hvd, hb2⟩; obtain ⟨Aa, ca, rfl, hla, hCa⟩ := Kd.R_reads hva; obtain ⟨Ac, cc, rfl, hlc, hCc⟩ := Kd.R_reads hvc; obtain ⟨Ad, cd, rfl, hld, hCd⟩ := Kd.R_reads hvd; have hb3 := below_then (below_drew (Below.refl wz.heap.size wz)) (Nat.le_refl _) hb2; obtain ⟨b2, b6, hbw, hb11⟩ := HG.out hb3; clear y0 y1 y2 y3; have y0 := (blk_cell b2 0).trans rfl; have y1 := (blk_cell b2 1).trans rfl; have y2 := (blk_cell b2 2).trans rfl; have y3 := (blk_cell b2 3).trans rfl; have HBW2 := Aside0.mk hbw; have HCA := Aside0.mk hCa; have HCC := Aside0.mk hCc; have HCD := Aside0.mk hCd; have HLA := Aside0.mk hla; have HLC := Aside0.mk hlc; have HLD := Aside0.mk hld; clear hva hvc hvd hb2 hb3 b2 b6 hbw hb11 hCa hCc hCd hla hlc hld)
    | (go_at_call 16; refine (most_calls (k := kb) (bl := bl) HCA.out HLA.out HCC.out HLC.out HCD.out HLD.out HN.out HBL.out HLEN.out).mono ?_; rintro e w3 ⟨v, rfl, hv, hb3⟩; have HV := Aside0.mk hv; have HB3 := Aside0.mk hb3; clear hv hb3))
  all_goals (go_wp2; go_ret2; exact ⟨_, rfl, Kd.R_lower HV.out (below_size HBW2.out), later_below HBW2.out HB3.out⟩)
end Go.Proofs.YteoifcmafkbklaaDoor.X
end
section
-- Written by a program of this claim's author out of the translation (the kit's print, with some functions taken as given). Not trusted: Lean checks it.
namespace Go.Proofs.YteoifcmafkbklaaDoor.PCon
open Go.RowKit Go.Proofs.YteoifcmafkbklaaDoorW.PrintWords Go.Proofs.YteoifcmafkbklaaDoorW.PrintLast Go.Proofs.YteoifcmafkbklaaDoorW.PrintMore Go.Proofs.YteoifcmafkbklaaDoor.X
attribute [local go_sem] max2_int min2_int max_two min_two max_three min_three max_four min_four   -- for this text's walks alone
set_option linter.unusedVariables false
set_option linter.unusedSimpArgs false



def errW : Option Int → Value
  | none => .nilIface
  | some c => .iface 0 (.int .i64 c)
theorem errW_none : errW none = .nilIface := rfl
theorem errW_some (c : Int) : errW (some c) = .iface 0 (.int .i64 c) := rfl

theorem info67 : (Tryd.prog.info? 67).map (fun i => (i.zero, i.size, i.bytes)) = some (some (.agg #[(.int .i64 0), (.int .i64 0), (.int .i64 0), (.int .i64 0)]), 4, 32) := by kernel_rfl
-- the values' own types

end Go.Proofs.YteoifcmafkbklaaDoor.PCon
end
section
-- Written by a program of this claim's author out of the translation (the kit's print, with some functions taken as given). Not trusted: Lean checks it.
namespace Go.Proofs.YteoifcmafkbklaaDoor.PCon
open Go.RowKit Go.Proofs.YteoifcmafkbklaaDoorW.PrintWords Go.Proofs.YteoifcmafkbklaaDoorW.PrintLast Go.Proofs.YteoifcmafkbklaaDoorW.PrintMore Go.Proofs.YteoifcmafkbklaaDoor.X
attribute [local go_sem] max2_int min2_int max_two min_two max_three min_three max_four min_four   -- for this text's walks alone
set_option linter.unusedVariables false
set_option linter.unusedSimpArgs false

/-! ### tooth_spoil_17: function 17 -/
mutual
def tooth_spoil_17.l0 : Nat → List (List (S67)) → Int → List (List (S67)) → Int → Int → Option ((List (S67)))
  | 0, _, _, _, _, _ => none
  | k + 1, x0, x3, x9, x10, x11 => if x11 < x10 then (if 0 ≤ x11 then (if x11 < (x9.length : Int) then (if (wrap64 (x3 + ((rd_L16 x9 x11).length : Int))) < 0 then (if (wrap64 ((wrap64 (x3 + ((rd_L16 x9 x11).length : Int))) - (wrap64 (x3 + ((rd_L16 x9 x11).length : Int))))) = 0 then (none) else (tooth_spoil_17.l0 k x0 (wrap64 (x3 + ((rd_L16 x9 x11).length : Int))) x9 x10 (wrap64 (x11 + 1)))) else (tooth_spoil_17.l0 k x0 (wrap64 (x3 + ((rd_L16 x9 x11).length : Int))) x9 x10 (wrap64 (x11 + 1)))) else (none)) else (none)) else ((tooth_spoil_33.f x3).bind fun t102 => (tooth_spoil_17.l1 k t102 x0 (x0.length : Int) 0))
def tooth_spoil_17.l1 : Nat → List (S67) → List (List (S67)) → Int → Int → Option ((List (S67)))
  | 0, _, _, _, _ => none
  | k + 1, x6, x25, x26, x27 => if x27 < x26 then (if 0 ≤ x27 then (if x27 < (x25.length : Int) then (if x6.length + (rd_L16 x25 x27).length < 4398046511104 then (tooth_spoil_17.l1 k (x6 ++ (rd_L16 x25 x27)) x25 x26 (wrap64 (x27 + 1))) else (none)) else (none)) else (none)) else (some x6)
end
def tooth_spoil_17.f (k : Nat) (l0 : List (List (S67))) : Option ((List (S67))) := tooth_spoil_17.l0 k l0 0 l0 (l0.length : Int) 0
theorem tooth_spoil_17.mono_l : ∀ k, (∀ y0 y1 y2 y3 y4, LeO (tooth_spoil_17.l0 k y0 y1 y2 y3 y4) (tooth_spoil_17.l0 (k + 1) y0 y1 y2 y3 y4)) ∧ (∀ y0 y1 y2 y3, LeO (tooth_spoil_17.l1 k y0 y1 y2 y3) (tooth_spoil_17.l1 (k + 1) y0 y1 y2 y3))
  | 0 => ⟨fun _ _ _ _ _ r h => by simp [tooth_spoil_17.l0] at h, fun _ _ _ _ r h => by simp [tooth_spoil_17.l1] at h⟩
  | k + 1 => by
    obtain ⟨ih0, ih1⟩ := tooth_spoil_17.mono_l k
    refine ⟨?_, ?_⟩
    · intro y0 y1 y2 y3 y4
      unfold tooth_spoil_17.l0
      repeat' first
      | (with_reducible exact ih0 _ _ _ _ _)
      | (with_reducible exact ih1 _ _ _ _)
      | (with_reducible exact LeO.refl _)
      | (with_reducible exact LeO.none _)
      | (with_reducible refine LeO.ite ?_ ?_)
      | (with_reducible refine LeO.bind ?_ (fun _ => ?_))
      | exact ih0 _ _ _ _ _
      | exact ih1 _ _ _ _
      | exact LeO.none _
      | refine LeO.ite ?_ ?_
      | refine LeO.bind ?_ (fun _ => ?_)
    · intro y0 y1 y2 y3
      unfold tooth_spoil_17.l1
      repeat' first
      | (with_reducible exact ih0 _ _ _ _ _)
      | (with_reducible exact ih1 _ _ _ _)
      | (with_reducible exact LeO.refl _)
      | (with_reducible exact LeO.none _)
      | (with_reducible refine LeO.ite ?_ ?_)
      | (with_reducible refine LeO.bind ?_ (fun _ => ?_))
      | exact ih0 _ _ _ _ _
      | exact ih1 _ _ _ _
      | exact LeO.none _
      | refine LeO.ite ?_ ?_
      | refine LeO.bind ?_ (fun _ => ?_)
theorem tooth_spoil_17.mono : ∀ a0 k, LeO (tooth_spoil_17.f k a0) (tooth_spoil_17.f (k + 1) a0) := by
  intro a0 k
  obtain ⟨ih0, ih1⟩ := tooth_spoil_17.mono_l k
  unfold tooth_spoil_17.f
  repeat' first
      | (with_reducible exact ih0 _ _ _ _ _)
      | (with_reducible exact ih1 _ _ _ _)
      | (with_reducible exact LeO.refl _)
      | (with_reducible exact LeO.none _)
      | (with_reducible refine LeO.ite ?_ ?_)
      | (with_reducible refine LeO.bind ?_ (fun _ => ?_))
      | exact ih0 _ _ _ _ _
      | exact ih1 _ _ _ _
      | exact LeO.none _
      | refine LeO.ite ?_ ?_
      | refine LeO.bind ?_ (fun _ => ?_)
set_option maxHeartbeats 8000000 in
set_option maxRecDepth 100000 in
theorem tooth_spoil_17.calls (k : Nat) (A0 : Option Addr) (c0 : Nat) (l0 : List (List (S67))) (r : List (S67)) (w : World) (hr0 : Kd.C (Kd.slice 67 k67) w A0 l0.length l0) (hc0 : l0.length ≤ c0) (h : tooth_spoil_17.f k l0 = some r) :
    Calls Tryd.prog 17 #[.slice A0 l0.length c0] w fun e w' => ∃ v0_ : Value, e = .returned (v0_) ∧ Kd.R k67 67 w' w.heap.size (fun _ => True) v0_ r ∧ Below w.heap.size w w' := by
  have HR0 := Aside0.mk hr0
  have HC0 := Aside0.mk hc0
  clear hr0 hc0
  have HB := Aside0.mk (Below.refl w.heap.size w)
  have H : (tooth_spoil_17.l0 k l0 0 l0 (l0.length : Int) 0) = some r := h
  clear h
  have H' := Aside0.mk H
  clear H
  go_enter Tryd.func17, Tryd.ntmps17
  go_wp2
  go_loopg [3, 11] k (fun kq v3 v11 w' => ∃ (x3_1 : Int) (x11_1 : Int), v3 = .int .i64 x3_1 ∧ v11 = .int .i64 x11_1 ∧ Aside0 (tooth_spoil_17.l0 kq l0 x3_1 l0 (l0.length : Int) x11_1 = some r) ∧ Aside0 (kq ≤ k) ∧ Aside0 (Below w.heap.size w w'))
  case atStart => exact ⟨(0), (0), (by first | rfl | (simp; done) | (simp [*]; done)), (by first | rfl | (simp; done) | (simp [*]; done)), H', ⟨Nat.le_refl _⟩, ⟨by repeat (first | (with_reducible first | exact HB.out | apply below_alloc | apply pw_below_drewN | apply below_drew1) | exact HB.out)⟩⟩
  case round =>
    clear H'
    try clear c1
    obtain ⟨x3_1, x11_1, rfl, rfl, HA, HK1, HB⟩ := hrel
    cases gk with
    | zero => exact absurd HA.out (by simp [tooth_spoil_17.l0])
    | succ k1 =>
      have H := HA.out
      clear HA
      simp only [tooth_spoil_17.l0] at H
      by_cases c2 : x11_1 < (l0.length : Int)
      · rw [if_pos c2] at H
        have c2b0 : decide (x11_1 < (l0.length : Int)) = true := decide_eq_true c2
        clear c2
        by_cases c3 : 0 ≤ x11_1
        · rw [if_pos c3] at H
          have c3b0 : decide (0 ≤ x11_1) = true := decide_eq_true c3
          clear c3
          by_cases c4 : x11_1 < (l0.length : Int)
          · rw [if_pos c4] at H
            have c4b0 : decide (x11_1 < (l0.length : Int)) = true := decide_eq_true c4
            clear c4
            by_cases c5 : (wrap64 (x3_1 + ((rd_L16 l0 x11_1).length : Int))) < 0
            · rw [if_pos c5] at H
              have c5b0 : decide ((wrap64 (x3_1 + ((rd_L16 l0 x11_1).length : Int))) < 0) = true := decide_eq_true c5
              clear c5
              by_cases c6 : (wrap64 ((wrap64 (x3_1 + ((rd_L16 l0 x11_1).length : Int))) - (wrap64 (x3_1 + ((rd_L16 l0 x11_1).length : Int))))) = 0
              · rw [if_pos c6] at H
                exact absurd H (by simp)
              · exact absurd (by simp [wrap64]) c6
            · rw [if_neg c5] at H
              have c5b0 : decide ((wrap64 (x3_1 + ((rd_L16 l0 x11_1).length : Int))) < 0) = false := decide_eq_false c5
              clear c5
              have H' := Aside0.mk H
              clear H
              have p101 : 0 ≤ (x11_1 : Int) := of_decide_eq_true (by first | (with_reducible assumption) | assumption)
              have q101 : x11_1 < (l0.length : Int) := of_decide_eq_true (by first | (with_reducible assumption) | assumption)
              obtain ⟨ad101, A101_0, c101_0, e101, hx101_0, hl101_0, hi101_0⟩ := at_L16 HR0.out x11_1 p101 q101
              cases e101
              replace hx101_0 := (HB.out.cell (World.block_lt_of_cell? w _ hx101_0)).trans hx101_0
              have HR101_0 := Aside0.mk hi101_0
              have HC101_0 := Aside0.mk hl101_0
              clear hi101_0 hl101_0
              replace p101 := eq_true p101
              replace q101 := eq_true q101
              go_wp2
              go_roundg k1
              case measure => have := HK1.out; omega
              case rel => exact ⟨(wrap64 (x3_1 + ((rd_L16 l0 x11_1).length : Int))), (wrap64 (x11_1 + 1)), (by first | rfl | (simp; done) | (simp [*]; done)), (by first | rfl | (simp; done) | (simp [*]; done)), H', ⟨by have := HK1.out; omega⟩, ⟨by repeat (first | (with_reducible first | exact HB.out | apply below_alloc | apply pw_below_drewN | apply below_drew1) | exact HB.out)⟩⟩
          · rw [if_neg c4] at H
            exact absurd H (by simp)
        · rw [if_neg c3] at H
          exact absurd H (by simp)
      · rw [if_neg c2] at H
        have c2b0 : decide (x11_1 < (l0.length : Int)) = false := decide_eq_false c2
        clear c2
        replace H := Option.bind_eq_some_iff.mp H
        obtain ⟨t102, A70, H⟩ := H
        replace H : (tooth_spoil_17.l1 k1 t102 l0 (l0.length : Int) 0) = some r := H
        have A7 := Aside0.mk A70
        clear A70
        have H' := Aside0.mk H
        clear H
        go_wp2_with (first | ((with_reducible refine gate_callee (f := 33) rfl ?_); refine goesL_ (some 24) rfl rfl Tryd.func33 (by kernel_rfl) rfl #[.slice none 0 0, .int .i64 x3_1] rfl (by (try simp only [List.map_toArray, List.map_cons, List.map_nil]); first | done | rfl | (simp only [List.length_drop, List.length_take]; rfl)) ?_; (with_reducible refine (tooth_spoil_33.calls x3_1 t102 _ A7.out).mono ?_); rintro e w8 ⟨v103, rfl, ho0, hb⟩; refine ⟨_, rfl, ?_⟩; have n0_ := Aside0.mk (Kd.R_lower ho0 (below_size (by repeat (first | (with_reducible first | exact HB.out | apply below_alloc | apply pw_below_drewN | apply below_drew1) | exact HB.out)))); have n1_ := Aside0.mk (below_step (by repeat (first | (with_reducible first | exact HB.out | apply below_alloc | apply pw_below_drewN | apply below_drew1) | exact HB.out)) hb); clear HB; have HO104 := n0_; have HB := n1_; clear n0_ n1_; (try clear hb); (try clear hb2); (try clear hk); (try clear hi); (try clear ho0)))
        go_loopg [6, 27] k1 (fun kq v6 v27 w' => ∃ (x6_2 : List (S67)) (x27_2 : Int), v27 = .int .i64 x27_2 ∧ Aside0 (tooth_spoil_17.l1 kq x6_2 l0 (l0.length : Int) x27_2 = some r) ∧ Aside0 (kq ≤ k1) ∧ Aside0 (Kd.R k67 67 w' w.heap.size (fun _ => True) v6 x6_2) ∧ Aside0 (Below w.heap.size w w'))
        case atStart => exact ⟨(t102), (0), (by first | rfl | (simp; done) | (simp [*]; done)), H', ⟨Nat.le_refl _⟩, ⟨by (with_reducible repeat (first | apply Kd.R_alloc | apply Kd.R_drewN | apply Kd.R_drew)); exact HO104.out⟩, ⟨by repeat (first | (with_reducible first | exact HB.out | apply below_alloc | apply pw_below_drewN | apply below_drew1) | exact HB.out)⟩⟩
        case round =>
          clear H'
          try clear c1
          try clear p1
          try clear q1
          try clear hx1
          try clear c2
          try clear c2b0
          try clear p2
          try clear c3
          try clear c3b0
          try clear c4
          try clear c4b0
          try clear c5
          try clear c5b0
          try clear c6
          try clear c6b0
          try clear c6b1
          try clear p6
          try clear hx101_0
          try clear p101
          try clear q101
          obtain ⟨x6_2, x27_2, rfl, HA, HK2, HO_6, HB⟩ := hrel
          cases gk with
          | zero => exact absurd HA.out (by simp [tooth_spoil_17.l1])
          | succ k2 =>
            have H := HA.out
            clear HA
            simp only [tooth_spoil_17.l1] at H
            by_cases c9 : x27_2 < (l0.length : Int)
            · rw [if_pos c9] at H
              have c9b0 : decide (x27_2 < (l0.length : Int)) = true := decide_eq_true c9
              clear c9
              by_cases c10 : 0 ≤ x27_2
              · rw [if_pos c10] at H
                have c10b0 : decide (0 ≤ x27_2) = true := decide_eq_true c10
                clear c10
                by_cases c11 : x27_2 < (l0.length : Int)
                · rw [if_pos c11] at H
                  have c11b0 : decide (x27_2 < (l0.length : Int)) = true := decide_eq_true c11
                  clear c11
                  by_cases c12 : x6_2.length + (rd_L16 l0 x27_2).length < 4398046511104
                  · rw [if_pos c12] at H
                    have LMc12 := Aside0.mk c12
                    clear c12
                    obtain ⟨y106, hy106⟩ : ∃ y_ : List (S67), y_ = (x6_2 ++ (rd_L16 l0 x27_2)) := ⟨_, rfl⟩
                    replace H : (tooth_spoil_17.l1 k2 y106 l0 (l0.length : Int) (wrap64 (x27_2 + 1))) = some r := by first | (rw [hy106]; with_reducible exact H) | (have H2_ := (Option.bind_some _ _).symm.trans H; rw [hy106]; with_reducible exact H2_) | (have H2_ := (Option.bind_some _ _).symm.trans H; with_reducible exact H2_) | with_reducible exact H | (rw [hy106]; exact H) | exact H
                    have Ny106 := Aside0.mk hy106
                    clear hy106
                    have H' := Aside0.mk H
                    clear H
                    have p105 : 0 ≤ (x27_2 : Int) := of_decide_eq_true (by first | (with_reducible assumption) | assumption)
                    have q105 : x27_2 < (l0.length : Int) := of_decide_eq_true (by first | (with_reducible assumption) | assumption)
                    obtain ⟨ad105, A105_0, c105_0, e105, hx105_0, hl105_0, hi105_0⟩ := at_L16 HR0.out x27_2 p105 q105
                    cases e105
                    replace hx105_0 := (HB.out.cell (World.block_lt_of_cell? w _ hx105_0)).trans hx105_0
                    have HR105_0 := Aside0.mk hi105_0
                    have HC105_0 := Aside0.mk hl105_0
                    clear hi105_0 hl105_0
                    replace p105 := eq_true p105
                    replace q105 := eq_true q105
                    go_wp2_with (first | ((with_reducible refine gate_builtin (b := .append) (xs := #[.tmp 31, .tmp 32]) rfl ?_); at_builtin; refine Kd.R_append_rows k67 (w0 := w) w.heap.size rfl (.tmp 31) (.tmp 32) 60 67 (.agg #[(.int .i64 0), (.int .i64 0), (.int .i64 0), (.int .i64 0)]) 32 rfl Tryd.underlying60 info67 rfl (by decide) (by omega) u6 x6_2 (rd_L16 l0 x27_2) _ _ _ (fun _ => True) (fun _ => False) rfl rfl ?aO ?aR (fun _ _ h => h) (fun _ h => h.elim) ?aF ?aB ?aS ?aL ?_; (case aR => repeat (first | exact (Kd.C_below HR105_0.out HB.out) | (with_reducible refine Kd.C_alloc ?_ _) | (with_reducible refine Kd.C_drewN ?_ _) | (with_reducible refine Kd.C_drew ?_))); (case aB => exact (by repeat (first | (with_reducible first | exact HB.out | apply below_alloc | apply pw_below_drewN | apply below_drew1) | exact HB.out))); (case aF => exact (fun _ _ => trivial)); (case aO => exact (by (with_reducible repeat (first | apply Kd.R_alloc | apply Kd.R_drewN | apply Kd.R_drew)); exact HO_6.out)); (case aS => exact (below_size (by repeat (first | (with_reducible first | exact HB.out | apply below_alloc | apply pw_below_drewN | apply below_drew1) | exact HB.out)))); (case aL => have := LMc12.out; omega); intro v107 w13 ho hb hg hat; rw [← Ny106.out] at ho; have n0_ := Aside0.mk (hb); have n1_ := Aside0.mk (ho); clear HB; clear HO_6; have HB := n0_; have HO108 := n1_; clear n0_ n1_; clear ho hb hg hat))
                    go_roundg k2
                    case measure => have := HK1.out; have := HK2.out; omega
                    case rel => exact ⟨(y106), (wrap64 (x27_2 + 1)), (by first | rfl | (simp; done) | (simp [*]; done)), H', ⟨by have := HK1.out; have := HK2.out; omega⟩, ⟨by (with_reducible repeat (first | apply Kd.R_alloc | apply Kd.R_drewN | apply Kd.R_drew)); exact HO108.out⟩, ⟨by repeat (first | (with_reducible first | exact HB.out | apply below_alloc | apply pw_below_drewN | apply below_drew1) | exact HB.out)⟩⟩
                  · rw [if_neg c12] at H
                    exact absurd H (by simp)
                · rw [if_neg c11] at H
                  exact absurd H (by simp)
              · rw [if_neg c10] at H
                exact absurd H (by simp)
            · rw [if_neg c9] at H
              have c9b0 : decide (x27_2 < (l0.length : Int)) = false := decide_eq_false c9
              clear c9
              obtain rfl := Option.some.inj H
              go_wp2
              go_ret
              exact ⟨_, by first | rfl | (simp [errW_none, errW_some] <;> rfl) | (simp [*, errW_none, errW_some] <;> rfl), by (with_reducible repeat (first | apply Kd.R_alloc | apply Kd.R_drewN | apply Kd.R_drew)); exact HO_6.out, by repeat (first | (with_reducible first | exact HB.out | apply below_alloc | apply pw_below_drewN | apply below_drew1) | exact HB.out)⟩

end Go.Proofs.YteoifcmafkbklaaDoor.PCon
end
section
-- Written by a program of this claim's author out of the translation (the kit's print, with some functions taken as given). Not trusted: Lean checks it.
namespace Go.Proofs.YteoifcmafkbklaaDoor.PCon
open Go.RowKit Go.Proofs.YteoifcmafkbklaaDoorW.PrintWords Go.Proofs.YteoifcmafkbklaaDoorW.PrintLast Go.Proofs.YteoifcmafkbklaaDoorW.PrintMore Go.Proofs.YteoifcmafkbklaaDoor.X
attribute [local go_sem] max2_int min2_int max_two min_two max_three min_three max_four min_four   -- for this text's walks alone
set_option linter.unusedVariables false
set_option linter.unusedSimpArgs false

end Go.Proofs.YteoifcmafkbklaaDoor.PCon
end
section
/- Package tooth: Costs, where there is no error. -/
namespace Go.Proofs.YteoifcmafkbklaaDoor.X
open Go.RowKit Go.Proofs.YteoifcmafkbklaaDoorW.PrintWords Go.Proofs.YteoifcmafkbklaaDoorW.PrintLast Go.Proofs.YteoifcmafkbklaaDoorW.PrintMore Go.Proofs.YteoifcmafkbklaaDoor.PToo Go.Proofs.YteoifcmafkbklaaDoor.PBen Go.Proofs.YteoifcmafkbklaaDoor.PTob Go.Proofs.YteoifcmafkbklaaDoor.PSur Go.Proofs.YteoifcmafkbklaaDoor.PCon

theorem C_pair {α : Type} {d : Kd α} {e0 t : TypeId} {W : World} {A B : Option Addr} {c c' : Nat} {xs ys : List α} (hx : d.C W A xs.length xs) (hc : xs.length ≤ c) (hy : d.C W B ys.length ys) (hc' : ys.length ≤ c') {g : Nat} (hg : g = W.heap.size) :
    (Kd.slice e0 d).C (W.alloc (.cells #[.slice A xs.length c, .slice B ys.length c'] t)) (some ⟨g, 0, none⟩) [xs, ys].length [xs, ys] := by
  subst hg
  refine ⟨rfl, by show 2 ≤ 9223372036854775807; decide, fun _ => ⟨_, rfl, fun j p hj => ?_⟩⟩
  match j with
  | 0 =>
    obtain rfl : xs = p := by simpa using hj
    refine ⟨[.slice A xs.length c], rfl, ⟨A, c, rfl, hc, Kd.C_alloc hx _⟩, fun i u hu => ?_⟩
    match i with
    | 0 =>
      obtain rfl : Value.slice A xs.length c = u := by simpa using hu
      exact (blk_cell (blk_new W _) 0).trans rfl
    | i + 1 => exact absurd hu (by simp)
  | 1 =>
    obtain rfl : ys = p := by simpa using hj
    refine ⟨[.slice B ys.length c'], rfl, ⟨B, c', rfl, hc', Kd.C_alloc hy _⟩, fun i u hu => ?_⟩
    match i with
    | 0 =>
      obtain rfl : Value.slice B ys.length c' = u := by simpa using hu
      exact (blk_cell (blk_new W _) 1).trans rfl
    | i + 1 => exact absurd hu (by simp)
  | j + 2 => exact absurd hj (by simp)

theorem R_C {α : Type} {d : Kd α} {e base c : Nat} {ok : Nat → Prop} {w : World} {A : Option Addr} {xs : List α} (h : d.R e w base ok (.slice A xs.length c) xs) : d.C w A xs.length xs := by
  obtain ⟨A', c', he, _, hC⟩ := Kd.R_reads h
  injection he with e1
  rw [e1]
  exact hC
set_option maxHeartbeats 4000000 in
set_option maxRecDepth 8000 in
theorem Costs_calls {A0 A1 A3 : Option Addr} {c0 c1 c3 k ks kb kc : Nat} {bot top : List S32} {bend : Int} {cr : List S35} {rb rt : List S32} {wide kerf : Int} {s1 s2 : List Int} {s3 : List S67} {bl : Nat → List Int} {sp : Nat → List S67} {blc : Nat → Nat → List Int} {w : World}
    (hr0 : Kd.C k32 w A0 bot.length bot) (hc0 : bot.length ≤ c0) (hr1 : Kd.C k32 w A1 top.length top) (hc1 : top.length ≤ c1) (hr3 : Kd.C k35 w A3 cr.length cr) (hc3 : cr.length ≤ c3)
    (hf : tooth_form.f bot top bend cr = some 0) (hb : tooth_bent.f k bot bend = some (rb, true)) (ht : tooth_bent.f k top bend = some (rt, true))
    (h1 : tooth_within.f 1 30 [1] = some true) (h2 : tooth_within.f 1 300 [wide] = some true) (h3 : tooth_within.f 0 50 [kerf, 0] = some true)
    (hs : tooth_blade_sure.f ks bot top bend cr rb rt = some (s1, s2, s3)) (hn : s1.length ≤ 1000) (hbl : ∀ x, x < s1.length → tooth_view_block.f kb s1 s2 s3 1 wide kerf 0 (x : Int) = some (bl x)) (hlen : ∀ x, (bl x).length ≤ 1000)
    (hm : s3.length ≤ 1000) (hsp : ∀ i, i < s3.length → tooth_spoil_17.f kc [s3.take i, s3.drop (i + 1)] = some (sp i)) (hblc : ∀ i, i < s3.length → ∀ x, x < s1.length → tooth_view_block.f kb s1 s2 (sp i) 1 wide kerf 0 (x : Int) = some (blc i x)) (hlenc : ∀ i x, (blc i x).length ≤ 1000) :
    Calls Tryd.prog 11 #[.agg (bladeV A0 A1 A3 bot.length c0 top.length c1 cr.length c3 bend), .agg #[.int .i64 1, .int .i64 wide, .int .i64 kerf, .int .i64 0]] w fun e w' =>
      ∃ v : Value, e = .returned (.tuple #[v, .int .i64 0]) ∧ Kd.R (Kd.int .i64) 3 w' w.heap.size (fun _ => True) v ((List.range s3.length).map fun i => ((sticksUp (blc i) s1.length).length : Int) - ((sticksUp bl s1.length).length : Int)) ∧ Below w.heap.size w w' := by
  have HF : Aside0 (∀ {w1 W : World} {o : Obj}, Below (twoW w 29 38 (bladeV A0 A1 A3 bot.length c0 top.length c1 cr.length c3 bend) #[.int .i64 1, .int .i64 wide, .int .i64 kerf, .int .i64 0]).heap.size (twoW w 29 38 (bladeV A0 A1 A3 bot.length c0 top.length c1 cr.length c3 bend) #[.int .i64 1, .int .i64 wide, .int .i64 kerf, .int .i64 0]) w1 → Below (w1.alloc o).heap.size (w1.alloc o) W → _) := ⟨fun hb h => mostW_facts hb h⟩
  have CN : Aside0 (∀ W, Below w.heap.size w W → Calls Tryd.prog 14 #[.agg (bladeV A0 A1 A3 bot.length c0 top.length c1 cr.length c3 bend), .agg #[.int .i64 1, .int .i64 wide, .int .i64 kerf, .int .i64 0]] W _) := ⟨fun W h => open_calls (Kd.C_below hr0 h) hc0 (Kd.C_below hr1 h) hc1 (Kd.C_below hr3 h) hc3 hf hb ht h1 h2 h3⟩
  have CS : Aside0 (∀ (W : World) (Ab At : Option Addr) (cb ct : Nat), Below w.heap.size w W → Kd.C k32 W Ab rb.length rb → rb.length ≤ cb → Kd.C k32 W At rt.length rt → rt.length ≤ ct → Calls Tryd.prog 15 #[.agg #[.slice A0 bot.length c0, .slice A1 top.length c1, .int .i64 bend, .slice A3 cr.length c3, .slice Ab rb.length cb, .slice At rt.length ct]] W _) := ⟨fun W Ab At cb ct h e1 e2 e3 e4 => tooth_blade_sure.calls ks A0 c0 bot A1 c1 top bend A3 c3 cr Ab cb rb At ct rt s1 s2 s3 W (Kd.C_below hr0 h) hc0 (Kd.C_below hr1 h) hc1 (Kd.C_below hr3 h) hc3 e1 e2 e3 e4 hs⟩
  have HS : Aside0 (Below w.heap.size w (twoW w 29 38 (bladeV A0 A1 A3 bot.length c0 top.length c1 cr.length c3 bend) #[.int .i64 1, .int .i64 wide, .int .i64 kerf, .int .i64 0])) := ⟨below_alloc (below_alloc (Below.refl _ _) _) _⟩
  have HN := Aside0.mk hn
  have HBL := Aside0.mk hbl
  have HLEN := Aside0.mk hlen
  have HM := Aside0.mk hm
  have HSP := Aside0.mk hsp
  have HBC := Aside0.mk hblc
  have HLC' := Aside0.mk hlenc
  clear hr0 hr1 hr3 hc0 hc1 hc3 hf hb ht h1 h2 h3 hs hn hbl hlen hm hsp hblc hlenc
  go_enter Tryd.func11, Tryd.ntmps11
  go_upto_region 4 with (first
    | (go_at_call 14; refine (CN.out _ HS.out).mono ?_; rintro e w1 ⟨vb, vt, rfl, hvb, hvt, hb1⟩; obtain ⟨Ab, cb, rfl, hlb, hCb⟩ := Kd.R_reads hvb; obtain ⟨At, ct, rfl, hlt, hCt⟩ := Kd.R_reads hvt; have HB1 := Aside0.mk hb1; have HCB := Aside0.mk hCb; have HCT := Aside0.mk hCt; have HLB := Aside0.mk hlb; have HLT := Aside0.mk hlt; clear hvb hvt hb1 hCb hCt hlb hlt))
  have HG : Aside0 (∀ {W : World}, Below (w1.alloc (.cells #[.slice A0 bot.length c0, .slice A1 top.length c1, .int .i64 bend, .slice A3 cr.length c3, .slice Ab rb.length cb, .slice At rt.length ct] 57 (0, 0))).heap.size (w1.alloc (.cells #[.slice A0 bot.length c0, .slice A1 top.length c1, .int .i64 bend, .slice A3 cr.length c3, .slice Ab rb.length cb, .slice At rt.length ct] 57 (0, 0))) W → _) := ⟨fun h => HF.out HB1.out h⟩
  have H0 := Aside0.mk (Below.refl (w1.alloc (.cells #[.slice A0 bot.length c0, .slice A1 top.length c1, .int .i64 bend, .slice A3 cr.length c3, .slice Ab rb.length cb, .slice At rt.length ct] 57 (0, 0))).heap.size (w1.alloc (.cells #[.slice A0 bot.length c0, .slice A1 top.length c1, .int .i64 bend, .slice A3 cr.length c3, .slice Ab rb.length cb, .slice At rt.length ct] 57 (0, 0))))
  clear HS CN HF
  generalize w1.alloc (.cells #[.slice A0 bot.length c0, .slice A1 top.length c1, .int .i64 bend, .slice A3 cr.length c3, .slice Ab rb.length cb, .slice At rt.length ct] 57 (0, 0)) = wz at HG H0 ⊢
  obtain ⟨b2, b6, hbw, hb11⟩ := HG.out H0.out
  have x0 := (blk_cell b6 0).trans rfl
  have x1 := (blk_cell b6 1).trans rfl
  have x2 := (blk_cell b6 2).trans rfl
  have x3 := (blk_cell b6 3).trans rfl
  have x4 := (blk_cell b6 4).trans rfl
  have x5 := (blk_cell b6 5).trans rfl
  have HCB2 := Aside0.mk (Kd.C_below HCB.out hb11)
  have HCT2 := Aside0.mk (Kd.C_below HCT.out hb11)
  have HBW := Aside0.mk hbw
  have B2 := Aside0.mk b2
  clear b2 b6 hbw hb11 HCB HCT H0 HG HB1
  go_upto_region 5 with (first
    | (go_at_call 15; refine (CS.out wz Ab At cb ct HBW.out HCB2.out HLB.out HCT2.out HLT.out).mono ?_; rintro e w2 ⟨va, vc, vd, rfl, hva, hvc, hvd, hb2⟩; obtain ⟨Aa, ca, rfl, hla, hCa⟩ := Kd.R_reads hva; obtain ⟨Ac, cc, rfl, hlc, hCc⟩ := Kd.R_reads hvc; obtain ⟨Ad, cd, rfl, hld, hCd⟩ := Kd.R_reads hvd; have B22 := Aside0.mk (blk_below B2.out hb2); have HBW2 := Aside0.mk (later_below HBW.out hb2); have HCA := Aside0.mk hCa; have HCC := Aside0.mk hCc; have HCD := Aside0.mk hCd; have HLA := Aside0.mk hla; have HLC := Aside0.mk hlc; have HLD := Aside0.mk hld; clear hva hvc hvd hb2 hCa hCc hCd hla hlc hld))
  have HALL : Aside0 (∀ W : World, Below (w2.alloc (.cells #[.slice Aa s1.length ca, .slice Ac s2.length cc, .slice Ad s3.length cd] 62 (0, 0))).heap.size (w2.alloc (.cells #[.slice Aa s1.length ca, .slice Ac s2.length cc, .slice Ad s3.length cd] 62 (0, 0))) W → W.heap[w.heap.size + 1]? = some (.cells #[.int .i64 1, .int .i64 wide, .int .i64 kerf, .int .i64 0] 38 (0, 0)) ∧ W.heap[w2.heap.size]? = some (.cells #[.slice Aa s1.length ca, .slice Ac s2.length cc, .slice Ad s3.length cd] 62 (0, 0)) ∧ (Kd.int .i64).C W Aa s1.length s1 ∧ (Kd.int .i64).C W Ac s2.length s2 ∧ k67.C W Ad s3.length s3 ∧ Below w.heap.size w W) :=
    ⟨fun W h => ⟨blk_below (blk_alloc B22.out _) h, blk_below (blk_new _ _) h, Kd.C_below (Kd.C_alloc HCA.out _) h, Kd.C_below (Kd.C_alloc HCC.out _) h, Kd.C_below (Kd.C_alloc HCD.out _) h, later_below (below_alloc HBW2.out _) h⟩⟩
  have hsz2 : w.heap.size + 2 ≤ w2.heap.size := by have := blk_lt B22.out; omega
  clear HCA HCC HCD B22 x0 x1 x2 x3 x4 x5 HCB2 HCT2 HBW B2 CS
  have H0 := Aside0.mk (Below.refl (w2.alloc (.cells #[.slice Aa s1.length ca, .slice Ac s2.length cc, .slice Ad s3.length cd] 62 (0, 0))).heap.size (w2.alloc (.cells #[.slice Aa s1.length ca, .slice Ac s2.length cc, .slice Ad s3.length cd] 62 (0, 0))))
  generalize w2.alloc (.cells #[.slice Aa s1.length ca, .slice Ac s2.length cc, .slice Ad s3.length cd] 62 (0, 0)) = wy at HALL H0 ⊢
  obtain ⟨b2, b7, hC1, hC2, hC3, hbw⟩ := HALL.out _ H0.out
  have y0 := (blk_cell b2 0).trans rfl
  have y1 := (blk_cell b2 1).trans rfl
  have y2 := (blk_cell b2 2).trans rfl
  have y3 := (blk_cell b2 3).trans rfl
  have z0 := (blk_cell b7 0).trans rfl
  have z1 := (blk_cell b7 1).trans rfl
  have z2 := (blk_cell b7 2).trans rfl
  have HC1 := Aside0.mk hC1
  have HC2 := Aside0.mk hC2
  have HC3 := Aside0.mk hC3
  clear b2 b7 hC1 hC2 hC3 hbw H0
  go_upto_region 6 with (first
    | (go_at_call 16; refine (most_calls (k := kb) (bl := bl) HC1.out HLA.out HC2.out HLC.out HC3.out HLD.out HN.out HBL.out HLEN.out).mono ?_; rintro e w3 ⟨v, rfl, hv, hb3⟩; obtain ⟨Av, cv, rfl⟩ := Kd.R_slice hv; have HB3 := Aside0.mk hb3; clear hv hb3 y0 y1 y2 y3 z0 z1 z2))
  obtain ⟨now, hnow⟩ : ∃ m, (sticksUp bl s1.length).length = m := ⟨_, rfl⟩
  have hnow1 : now ≤ 1000000 := by
    have h := sticksUp_length HLEN.out s1.length
    have := HN.out
    omega
  rw [hnow]
  have hnw : (IntKind.i64).wrap (now : Int) = (now : Int) := by rw [IntKind.wrap_i64]; omega
  obtain ⟨n, hn⟩ : ∃ m, s3.length = m := ⟨_, rfl⟩
  have hnm : n ≤ 1000 := by rw [← hn]; exact HM.out
  obtain ⟨b2, b7, hC1, hC2, hC3, hbw⟩ := HALL.out _ HB3.out
  have z0 := (blk_cell b7 0).trans rfl
  have z1 := (blk_cell b7 1).trans rfl
  have z2 := (blk_cell b7 2).trans rfl
  clear b2 b7 hC1 hC2 hC3 hbw HC1 HC2 HC3
  rw [hn] at z2 ⊢
  go_wp2
  have HALL3 : Aside0 (∀ W : World, Below w3.heap.size w3 W → _) := ⟨fun W h => HALL.out W (later_below HB3.out h)⟩
  have HBW3 := Aside0.mk (HALL.out _ HB3.out).2.2.2.2.2
  have hsz3 : w.heap.size + 2 ≤ w3.heap.size := by have := blk_lt (HALL.out _ HB3.out).2.1; omega
  clear HALL z0 z1 z2
  go_loopg [4, 29] n (fun gg v4 v29 wr => ∃ i : Nat, i ≤ n ∧ n - i ≤ gg ∧ v29 = .int .i64 (i : Int) ∧ Aside0 (Below w3.heap.size w3 wr) ∧ Aside0 (Kd.R (Kd.int .i64) 3 wr w3.heap.size (fun _ => True) v4 ((List.range i).map fun i => ((sticksUp (blc i) s1.length).length : Int) - (now : Int))))
  case atStart => exact ⟨0, Nat.zero_le _, Nat.le_refl _, rfl, ⟨Below.refl _ _⟩, ⟨Kd.R_nil _ _ _ _ _⟩⟩
  case round =>
    obtain ⟨i, hi, hg, rfl, HB, HO⟩ := hrel
    by_cases hlt : i < n
    · have hltz : (i : Int) < (n : Int) := by omega
      obtain ⟨b2, b7, hC1, hC2, hC3, hbw⟩ := HALL3.out _ HB.out
      have z0 := (blk_cell b7 0).trans rfl
      have z1 := (blk_cell b7 1).trans rfl
      have z2 := (blk_cell b7 2).trans rfl
      rw [hn] at z2
      have B2 := Aside0.mk b2
      have B7 := Aside0.mk b7
      have HC1 := Aside0.mk hC1
      have HC2 := Aside0.mk hC2
      have HC3 := Aside0.mk hC3
      clear b2 b7 hC1 hC2 hC3 hbw
      go_upto_region 10 with fail
      have b10 := blk_new wr (.cells #[.slice Aa s1.length ca, .slice Ac s2.length cc, .slice Ad n cd] 62 (0, 0))
      have hbq : Below wr.heap.size wr (wr.alloc (.cells #[.slice Aa s1.length ca, .slice Ac s2.length cc, .slice Ad n cd] 62 (0, 0))) := below_alloc (Below.refl _ _) _
      generalize wr.alloc (.cells #[.slice Aa s1.length ca, .slice Ac s2.length cc, .slice Ad n cd] 62 (0, 0)) = wq at b10 hbq ⊢
      have HOq := Aside0.mk (Kd.R_below HO.out hbq)
      have HBq := Aside0.mk (later_below HB.out hbq)
      have B10 := Aside0.mk b10
      clear b10 hbq z0 z1 z2 B2 B7 HC1 HC2 HC3
      obtain ⟨b2, b7, hC1, hC2, hC3, hbw⟩ := HALL3.out _ HBq.out
      have z2 := (blk_cell b7 2).trans rfl
      rw [hn] at z2
      have HC3 := Aside0.mk hC3
      clear b2 b7 hC1 hC2 hC3 hbw
      have hcd : n ≤ cd := by rw [← hn]; exact HLD.out
      have hcdz : (n : Int) ≤ (cd : Int) := by omega
      have hi0 : (0 : Int) ≤ (i : Int) := by omega
      have hin : (i : Int) ≤ (n : Int) := by omega
      have hi1 : (0 : Int) ≤ (i : Int) + 1 := by omega
      have hi1n : (i : Int) + 1 ≤ (n : Int) := by omega
      have hicd : (i : Int) ≤ (cd : Int) := by omega
      have w1' : IntKind.i64.wrap ((i : Int) + 1) = (i : Int) + 1 := by rw [IntKind.wrap_i64]; omega
      go_still_tail 9, (by kernel_rfl)
      generalize hAq : (if cd = i + 1 then Ad else Option.map (fun x => x.add ((i + 1) * 4)) Ad) = Aq
      have HAQ := Aside0.mk hAq
      clear hAq
      change wpList _ _ _ _ _ wq.drew
      have HOd := Aside0.mk (Kd.R_drew HOq.out)
      have HBd := Aside0.mk (below_drew HBq.out)
      have B10d := Aside0.mk (blk_drew B10.out)
      have HC3d := Aside0.mk (Kd.C_drew HC3.out)
      clear HOq HBq B10 HC3 z2
      generalize wq.drew = wd at HOd HBd B10d HC3d ⊢
      have CC : Aside0 (∀ (W : World) (g : Nat), g = W.heap.size → Kd.C k67 W Ad s3.length s3 → Calls Tryd.prog 17 #[.slice (some ⟨g, 0, none⟩) 2 2] (W.alloc (.cells #[.slice Ad i cd, .slice Aq (n - (i + 1)) (cd - (i + 1))] 60 (0, 0))) fun e w' => ∃ v0_ : Value, e = .returned v0_ ∧ Kd.R k67 67 w' W.heap.size (fun _ => True) v0_ (sp i) ∧ Below W.heap.size W w') := ⟨fun W g hgW hC => by
        have ha := Kd.C_take (m := i) hC (by omega)
        have hb : k67.C W Aq (s3.drop (i + 1)).length (s3.drop (i + 1)) := by rw [← HAQ.out]; exact Kd.C_drop (m := i + 1) (c := cd) hC (by omega) HLD.out
        have la : (s3.take i).length = i := by rw [List.length_take]; omega
        have lb : (s3.drop (i + 1)).length = n - (i + 1) := by rw [List.length_drop, hn]
        have hp := C_pair (e0 := 67) (t := 60) (c := cd) (c' := cd - (i + 1)) ha (by omega) hb (by omega) hgW
        rw [la, lb] at hp
        refine (tooth_spoil_17.calls kc _ 2 _ (sp i) _ hp (Nat.le_refl 2) (HSP.out i (by omega))).mono ?_
        rintro e w' ⟨v, rfl, hv, hb⟩
        exact ⟨v, rfl, Kd.R_lower hv (by simp), below_then (below_alloc (Below.refl _ _) _) (by simp) hb⟩⟩
      go_upto_region 11 with (first
        | (go_at_call 17; refine (CC.out wd _ rfl HC3d.out).mono ?_; rintro e w5 ⟨vs, rfl, hvs, hb5⟩; obtain ⟨As, cs, rfl, hls, hCs⟩ := Kd.R_reads hvs; have B5 := Aside0.mk (blk_below B10d.out hb5); have HO5 := Aside0.mk (Kd.R_below HOd.out hb5); have HB5 := Aside0.mk (later_below HBd.out hb5); have HCS := Aside0.mk (Kd.R_mono (ok' := fun k => wr.heap.size + 1 ≤ k) (Kd.R_bound hvs) (fun k hk => by have := blk_lt B10d.out; have := hk.2.1; omega)); have x0 := (blk_cell B5.out 2).trans rfl; have f0 := blk_frozen B5.out 2; clear hvs hb5 hCs))
      have BV := Aside0.mk (blk_put B5.out 2 (.slice As (sp i).length cs) rfl)
      have HOV := Aside0.mk (Kd.R_set HO5.out B5.out (fun q hq => by
        rcases List.mem_cons.1 hq with e | e
        · subst e; decide
        · exact nomatch e) 2 (.slice As (sp i).length cs))
      have HBV := Aside0.mk (below_set (j := 2) (v := .slice As (sp i).length cs) HB5.out HB.out.size)
      have HCSV := Aside0.mk (R_C (Kd.R_far HCS.out (p := ⟨wr.heap.size, 2, none⟩) (fun k hk => by show k ≠ wr.heap.size; omega) (.slice As (sp i).length cs)))
      clear B5 HO5 HB5 HCS x0 f0 CC HOd HBd B10d HC3d
      generalize w5.setCell ⟨wr.heap.size, 2, none⟩ (.slice As (sp i).length cs) = wv at BV HOV HBV HCSV ⊢
      obtain ⟨b2, b7, hC1, hC2, hC3, hbw⟩ := HALL3.out _ HBV.out
      have HC1 := Aside0.mk hC1
      have HC2 := Aside0.mk hC2
      have HLS := Aside0.mk hls
      have y0 := (blk_cell b2 0).trans rfl
      have y1 := (blk_cell b2 1).trans rfl
      have y2 := (blk_cell b2 2).trans rfl
      have y3 := (blk_cell b2 3).trans rfl
      have x0 := (blk_cell BV.out 0).trans rfl
      have x1 := (blk_cell BV.out 1).trans rfl
      have x2 := (blk_cell BV.out 2).trans rfl
      clear b2 b7 hC1 hC2 hC3 hbw hls
      have HBI := Aside0.mk (HBC.out i (by omega))
      have HLI := Aside0.mk (HLC'.out i)
      obtain ⟨L, hL⟩ : ∃ L, (sticksUp (blc i) s1.length).length = L := ⟨_, rfl⟩
      have hL1 : L ≤ 1000000 := by
        have h := sticksUp_length HLI.out s1.length
        have := HN.out
        omega
      have hwL : IntKind.i64.wrap ((L : Int) - (now : Int)) = (L : Int) - (now : Int) := by rw [IntKind.wrap_i64]; omega
      have HLL := Aside0.mk hL
      clear hL
      go_wp2_with (first
        | (go_at_call 16; refine (most_calls (k := kb) (bl := blc i) HC1.out HLA.out HC2.out HLC.out HCSV.out HLS.out HN.out HBI.out HLI.out).mono ?_; rintro e w6 ⟨v6, rfl, hv6, hb6⟩; obtain ⟨A6, c6, e6⟩ := Kd.R_slice hv6; rw [HLL.out] at e6; subst e6; have HO6 := Aside0.mk (Kd.R_below HOV.out hb6); have HB6 := Aside0.mk (later_below HBV.out hb6); clear hv6 hb6)
        | (at_builtin; refine Kd.R_append (Kd.int .i64) (w0 := w3) w3.heap.size rfl (.tmp 45) (.tmp 52) 30 3 (.int .i64 0) 8 rfl Tryd.underlying30 info_int rfl (by decide) (by omega) _ _ ((L : Int) - (now : Int)) [.int .i64 ((L : Int) - (now : Int))] (fun _ => True) (fun _ => False) rfl rfl rfl (fun _ hk => hk.elim) (fun _ _ => trivial) HO6.out HB6.out (below_size HB6.out) (by rw [List.length_map, List.length_range]; omega) ?_; intro v7 w7 ho hb hg5 hat; have HO7 := Aside0.mk ho; have HB7 := Aside0.mk hb; clear ho hb hg5 hat))
      go_roundg (n - (i + 1))
      case measure => omega
      case rel =>
        refine ⟨i + 1, hlt, Nat.le_refl _, by go_num, ⟨HB7.out⟩, ⟨?_⟩⟩
        rw [List.range_succ, List.map_append, List.map_cons, List.map_nil, HLL.out]
        exact HO7.out
    · have hltz : ¬ (i : Int) < (n : Int) := by omega
      obtain rfl : i = n := by omega
      go_wp2
      go_ret2
      refine ⟨_, rfl, ?_, later_below HBW3.out HB.out⟩
      exact Kd.R_lower HO.out (by omega)
end Go.Proofs.YteoifcmafkbklaaDoor.X
end
section
/- Package lattice: within, cutLeft, cutRight, checked, and what follows from them: Check, Bars, checkSeen, isShift, isRoom, isSize. -/
namespace Go.Proofs.YteoifcmafkbklaaDoor.X
open Go.RowKit Go.Proofs.YteoifcmafkbklaaDoorW.PrintWords Go.Proofs.YteoifcmafkbklaaDoorW.PrintLast Go.Proofs.YteoifcmafkbklaaDoorW.PrintMore

theorem enters_within1 : ∀ args w, (callFunc 48 args).run Tryd.prog w = .ok (.enter 48 args) w := enters_of Tryd.func48 (by kernel_rfl) rfl

def outside (least most n : Int) : Bool := decide (n < least) || decide (most < n)

theorem within1_pred {g1 g2 : Nat} {least most : Int} {xs : List Int} {w : World} (h1 : w.cell? ⟨g1, 0, none⟩ = some (.int .i64 least)) (h2 : w.cell? ⟨g2, 0, none⟩ = some (.int .i64 most)) :
    PredK 48 #[.pointer (some ⟨g1, 0, none⟩), .pointer (some ⟨g2, 0, none⟩)] (Kd.int .i64) cell1 xs (outside least most) w := by
  intro x _ W cs hb hK
  have e : cs = [.int .i64 x] := hK
  subst e
  have k1 : W.cell? ⟨g1, 0, none⟩ = some (.int .i64 least) := pw_cell_below hb h1
  have k2 : W.cell? ⟨g2, 0, none⟩ = some (.int .i64 most) := pw_cell_below hb h2
  simp only [cell1, List.getD_cons_zero]
  show Calls Tryd.prog 48 #[.int .i64 x, .pointer (some ⟨g1, 0, none⟩), .pointer (some ⟨g2, 0, none⟩)] W _
  clear hb h1 h2 hK
  by_cases c1 : x < least
  · have d1 : decide (x < least) = true := decide_eq_true c1
    have e1 : outside least most x = true := by simp [outside, d1]
    rw [e1]
    clear c1 e1
    go_enter Tryd.func48, Tryd.ntmps48
    go_wp2
    go_ret
    exact ⟨rfl, by first | exact Below.refl _ _ | exact pw_below_drewN (Below.refl _ _) _⟩
  · have d1 : decide (x < least) = false := decide_eq_false c1
    clear c1
    by_cases c2 : most < x
    · have d2 : decide (most < x) = true := decide_eq_true c2
      have e1 : outside least most x = true := by simp [outside, d2]
      rw [e1]
      clear c2 e1
      go_enter Tryd.func48, Tryd.ntmps48
      go_wp2
      go_ret
      exact ⟨rfl, by first | exact Below.refl _ _ | exact pw_below_drewN (Below.refl _ _) _⟩
    · have d2 : decide (most < x) = false := decide_eq_false c2
      have e1 : outside least most x = false := by simp [outside, d1, d2]
      rw [e1]
      clear c2 e1
      go_enter Tryd.func48, Tryd.ntmps48
      go_wp2
      go_ret
      exact ⟨rfl, by first | exact Below.refl _ _ | exact pw_below_drewN (Below.refl _ _) _⟩

/-- within: all integers lie between two others. -/
def lattice_within.f (a0 a1 : Int) (l2 : List Int) : Option Bool := some (l2.all fun n => decide (a0 ≤ n) && decide (n ≤ a1))
theorem any_outside (a0 a1 : Int) (l : List Int) : (!(l.any (outside a0 a1))) = l.all fun n => decide (a0 ≤ n) && decide (n ≤ a1) := by
  induction l with
  | nil => rfl
  | cons x l ih =>
    simp only [List.any_cons, List.all_cons, Bool.not_or, ih]
    congr 1
    simp only [outside, Bool.not_or]
    by_cases h1 : a0 ≤ x <;> by_cases h2 : x ≤ a1 <;> simp [h1, h2] <;> omega
set_option maxHeartbeats 1000000 in
theorem lattice_within.calls (a0 : Int) (a1 : Int) (A2 : Option Addr) (c2 : Nat) (l2 : List Int) (r : Bool) (w : World) (hr2 : Kd.C (Kd.int .i64) w A2 l2.length l2) (_hc2 : l2.length ≤ c2) (h : lattice_within.f a0 a1 l2 = some r) :
    Calls Tryd.prog 35 #[.int .i64 a0, .int .i64 a1, .slice A2 l2.length c2] w fun e w' => e = .returned (.bool r) ∧ Below w.heap.size w w' := by
  obtain rfl := Option.some.inj h
  rw [← any_outside]
  have HR := Aside0.mk hr2
  clear hr2 h
  go_enter Tryd.func35, Tryd.ntmps35
  go_wp2_with fail
  refine (contains_int (p := outside a0 a1) enters_within1 (Kd.C_alloc (Kd.C_alloc HR.out _) _) (within1_pred (by simp) (by simp))).mono ?_
  rintro e w' ⟨rfl, hb⟩
  have HB := Aside0.mk (below_then (below_alloc (below_alloc (Below.refl _ _) _) _) (by simp; omega) hb)
  clear hb
  go_wp2
  go_ret
  exact ⟨rfl, HB.out⟩
/-- within of one integer. -/
theorem lattice_within_lit (a0 a1 x : Int) (q : Bool) (W : World) (e : TypeId) {g : Nat} (h : lattice_within.f a0 a1 [x] = some q) (hg : g = W.heap.size) :
    Calls Tryd.prog 35 #[.int .i64 a0, .int .i64 a1, .slice (some ⟨g, 0, none⟩) 1 1] (W.alloc (.cells #[.int .i64 x] e)) fun e w' => e = .returned (.bool q) ∧ Below W.heap.size W w' := by
  refine (lattice_within.calls a0 a1 _ 1 [x] q _ (C_lit1 W .i64 e x hg) (Nat.le_refl 1) h).mono ?_
  rintro e w' ⟨rfl, hb⟩
  exact ⟨rfl, below_then (below_alloc (Below.refl _ _) _) (by simp) hb⟩
end Go.Proofs.YteoifcmafkbklaaDoor.X
end
section
/- Package lattice: cutLeft and cutRight at a set of ASCII bytes. -/
namespace Go.Proofs.YteoifcmafkbklaaDoor.X
open Go.RowKit Go.Proofs.YteoifcmafkbklaaDoorW.PrintWords Go.Proofs.YteoifcmafkbklaaDoorW.PrintLast Go.Proofs.YteoifcmafkbklaaDoorW.PrintMore
open Go.Lib (run_next_any_at run_next_ascii_at run_next_end_at iterAt_heap iterAt_size below_iterAt)

/-- Is a number (a byte, or a rune) among the bytes of a text? -/
def inSet (set : ByteArray) (c : Nat) : Bool := set.data.toList.any fun d => d.toNat == c
def ascii (set : ByteArray) : Prop := ∀ d ∈ set.data.toList, d.toNat < 128
def inTake (set : ByteArray) (c m : Nat) : Bool := (set.data.toList.take m).any fun d => d.toNat == c
theorem inTake_zero (set : ByteArray) (c : Nat) : inTake set c 0 = false := rfl
theorem inTake_all (set : ByteArray) (c : Nat) : inTake set c set.size = inSet set c := by
  unfold inTake inSet
  rw [List.take_of_length_le (by rw [Array.length_toList]; exact Nat.le_refl _)]
theorem inTake_succ (set : ByteArray) (c m : Nat) (h : m < set.size) : inTake set c (m + 1) = (inTake set c m || ((set[m]'h).toNat == c)) := by
  unfold inTake
  have h' : m < set.data.toList.length := by rw [Array.length_toList]; exact h
  rw [List.take_succ_eq_append_getElem h', List.any_append]
  simp
  rfl
theorem ascii_at {set : ByteArray} (h : ascii set) (m : Nat) (hm : m < set.size) : (set[m]'hm).toNat < 128 := by
  refine h _ ?_
  rw [show (set[m]'hm) = set.data.toList[m]'(by rw [Array.length_toList]; exact hm) from by simp; rfl]
  exact List.getElem_mem _

/-- A text without the bytes of a set at its begin. -/
def cutL (set s : ByteArray) : ByteArray := ⟨(s.data.toList.dropWhile fun b => inSet set b.toNat).toArray⟩
theorem dropWhile_drop {α : Type} (p : α → Bool) (l : List α) (k : Nat) (hk : k ≤ l.length) (h : ∀ j, ∀ hj : j < l.length, j < k → p l[j] = true) (he : ∀ hk : k < l.length, p l[k] = false) : l.dropWhile p = l.drop k := by
  induction l generalizing k with
  | nil => simp
  | cons x l ih =>
    cases k with
    | zero =>
      have := he (by simp)
      simp only [List.getElem_cons_zero] at this
      simp [this]
    | succ k =>
      have hx := h 0 (by simp) (by omega)
      simp only [List.getElem_cons_zero] at hx
      rw [List.dropWhile_cons, if_pos hx, List.drop_succ_cons]
      exact ih k (by simpa using hk) (fun j hj hjk => by have := h (j + 1) (by simpa using hj) (by omega); simpa using this) (fun hk2 => by have := he (by simpa using hk2); simpa using this)
theorem cutL_at (set s : ByteArray) (k : Nat) (hk : k < s.size) (h : ∀ j, ∀ hj : j < s.size, j < k → inSet set (s[j]'hj).toNat = true) (he : inSet set (s[k]'hk).toNat = false) : cutL set s = s.extract k s.size := by
  have hl : s.data.toList.length = s.size := by rw [Array.length_toList]; rfl
  have e := dropWhile_drop (fun b => inSet set b.toNat) s.data.toList k (by omega) (fun j hj hjk => h j (by omega) hjk) (fun _ => he)
  unfold cutL
  rw [e, Lib.extract_eq, List.take_of_length_le (by simp [hl])]
theorem cutL_none (set s : ByteArray) (h : ∀ j, ∀ hj : j < s.size, inSet set (s[j]'hj).toNat = true) : cutL set s = ⟨#[]⟩ := by
  have hl : s.data.toList.length = s.size := by rw [Array.length_toList]; rfl
  have e := dropWhile_drop (fun b => inSet set b.toNat) s.data.toList s.size (by omega) (fun j hj _ => h j (by omega)) (fun hk => by omega)
  unfold cutL
  rw [e, List.drop_of_length_le (by omega)]

theorem high_not_in {set : ByteArray} (h : ascii set) {c : Nat} (hc : 128 ≤ c) : inSet set c = false := by
  unfold inSet
  rw [List.any_eq_false]
  intro d hd
  have := h d hd
  simp only [beq_iff_eq]
  omega

set_option maxHeartbeats 2000000 in
theorem cutLeft_calls (s set : ByteArray) (hset : ascii set) (w : World) (hs : s.size ≤ 9223372036854775807) :
    Calls Tryd.prog 46 #[.string s, .string set] w fun e w' => e = .returned (.string (cutL set s)) ∧ Below w.heap.size w w' := by
  have HS := Aside0.mk hset
  clear hset
  go_enter Tryd.func46, Tryd.ntmps46
  go_wp2
  go_loopg [7] s.size (fun gg _ wr => ∃ kk : Nat, kk ≤ s.size ∧ s.size - kk ≤ gg ∧ Aside0 (wr.heap[w.heap.size]? = some (.stringIter s kk)) ∧ Aside0 (Below w.heap.size w wr) ∧ Aside0 (∀ j, ∀ hj : j < s.size, j < kk → inSet set (s[j]'hj).toNat = true))
  case atStart => exact ⟨0, Nat.zero_le _, by omega, ⟨World.iter_heap w s 0⟩, ⟨below_alloc (Below.refl _ _) _⟩, ⟨fun j hj h0 => absurd h0 (Nat.not_lt_zero _)⟩⟩
  case round =>
    obtain ⟨kk, hkk, hg, HI, HB, HA⟩ := hrel
    by_cases hp : kk < s.size
    · obtain ⟨c, hc⟩ : ∃ c, (Utf8.decode s kk).1 = c := ⟨_, rfl⟩
      obtain ⟨wd, hwd⟩ : ∃ d, (Utf8.decode s kk).2 = d := ⟨_, rfl⟩
      have hnx : ∀ ty, (Instr.next (.pointer (some ⟨w.heap.size, 0, none⟩)) true ty).run Tryd.prog wr = _ := fun ty => run_next_any_at wr w.heap.size s kk ty HI.out hp
      rw [hc, hwd] at hnx
      obtain ⟨W1, hW1⟩ : ∃ W1, wr.iterAt w.heap.size s (kk + wd) = W1 := ⟨_, rfl⟩
      rw [hW1] at hnx
      have HI1 : Aside0 (W1.heap[w.heap.size]? = some (.stringIter s (kk + wd))) := ⟨by rw [← hW1]; exact iterAt_heap _ _ _ _ _ HI.out⟩
      have HB1 : Aside0 (Below w.heap.size w W1) := ⟨by rw [← hW1]; exact below_iterAt HB.out (Nat.le_refl _) _ _⟩
      have HQ : Aside0 (inSet set c = inSet set (s[kk]'hp).toNat ∧ (inSet set c = true → wd = 1)) := by
        refine ⟨?_⟩
        by_cases ha : (s[kk]'hp).toNat < 128
        · rw [decode_ascii s kk hp ha] at hc hwd
          exact ⟨by rw [← hc], fun _ => hwd.symm⟩
        · have hh := (decode_high s kk hp (by omega)).1
          rw [hc] at hh
          have e1 := high_not_in HS.out hh
          exact ⟨by rw [e1, high_not_in HS.out (by omega)], fun h => by rw [e1] at h; cases h⟩
      clear HI HB hW1 hc hwd
      go_wp2
      go_loopg [7] set.size (fun gg v7 wr2 => ∃ m : Nat, m ≤ set.size ∧ set.size - m ≤ gg ∧ v7 = .bool (inTake set c m) ∧ wr2 = W1.iter set m)
      case atStart => exact ⟨0, Nat.zero_le _, by omega, rfl, rfl⟩
      case round =>
        obtain ⟨m, hm, hg2, rfl, rfl⟩ := hrel
        by_cases hm2 : m < set.size
        · have hnx2 : ∀ ty, (Instr.next (.pointer (some ⟨W1.heap.size, 0, none⟩)) true ty).run Tryd.prog (W1.iter set m) = _ := fun ty => run_next_ascii W1 set m ty hm2 (ascii_at HS.out m hm2)
          have HSU := Aside0.mk (inTake_succ set c m hm2)
          obtain ⟨d, hd⟩ : ∃ d, (set[m]'hm2).toNat = d := ⟨_, rfl⟩
          rw [hd] at hnx2 HSU
          clear hd
          obtain ⟨q, hq⟩ : ∃ q, inTake set c m = q := ⟨_, rfl⟩
          rw [hq] at HSU ⊢
          clear hq
          cases q with
          | true =>
            go_wp2
            go_roundg (set.size - (m + 1))
            case measure => omega
            case rel => exact ⟨m + 1, by omega, by omega, by rw [HSU.out]; rfl, rfl⟩
          | false =>
            by_cases hcd : c = d
            · have h1 : (c == d) = true := beq_iff_eq.2 hcd
              have h2 : ((c : Int) == (d : Int)) = true := beq_iff_eq.2 (by omega)
              have hsu : inTake set c (m + 1) = true := by rw [HSU.out, hcd]; simp
              have HSV := Aside0.mk hsu
              clear hcd hsu
              go_wp2
              go_roundg (set.size - (m + 1))
              case measure => omega
              case rel => exact ⟨m + 1, by omega, by omega, by rw [HSV.out], rfl⟩
            · have h1 : (c == d) = false := beq_eq_false_iff_ne.2 hcd
              have h2 : ((c : Int) == (d : Int)) = false := beq_eq_false_iff_ne.2 (by omega)
              have hsu : inTake set c (m + 1) = false := by rw [HSU.out, Bool.false_or]; exact beq_eq_false_iff_ne.2 (fun h => hcd h.symm)
              have HSV := Aside0.mk hsu
              clear hcd hsu
              go_wp2
              go_roundg (set.size - (m + 1))
              case measure => omega
              case rel => exact ⟨m + 1, by omega, by omega, by rw [HSV.out], rfl⟩
        · have hnx2 : ∀ ty, (Instr.next (.pointer (some ⟨W1.heap.size, 0, none⟩)) true ty).run Tryd.prog (W1.iter set m) = _ := fun ty => run_next_end W1 set m ty hm2
          obtain rfl : m = set.size := by omega
          rw [inTake_all]
          have HE := Aside0.mk (rfl : inSet set c = inSet set c)
          obtain ⟨q, hq⟩ : ∃ q, inSet set c = q := ⟨_, rfl⟩
          rw [hq]
          have HV := Aside0.mk hq
          clear hq HE
          cases q with
          | true =>
            go_wp2
            go_roundg (s.size - (kk + 1))
            case measure => omega
            case rel =>
              have hw := HQ.out.2 HV.out
              refine ⟨kk + 1, by omega, by omega, ⟨by have := HI1.out; rw [hw] at this; exact Below.heap_alloc _ _ _ (by have := (Array.getElem?_eq_some_iff.1 HI1.out).1; exact this) |>.trans this⟩, ⟨below_alloc HB1.out _⟩, ⟨fun j hj h1 => ?_⟩⟩
              by_cases e : j = kk
              · subst e; rw [← HQ.out.1]; exact HV.out
              · exact HA.out j hj (by omega)
          | false =>
            go_wp2
            go_ret
            refine ⟨?_, below_alloc HB1.out _⟩
            rw [cutL_at set s kk hp HA.out (by rw [← HQ.out.1]; exact HV.out)]
            rfl
    · have hnx : ∀ ty, (Instr.next (.pointer (some ⟨w.heap.size, 0, none⟩)) true ty).run Tryd.prog wr = _ := fun ty => run_next_end_at wr w.heap.size s kk ty HI.out hp
      have HE : Aside0 (cutL set s = ⟨#[]⟩) := ⟨cutL_none set s (fun j hj => HA.out j hj (by omega))⟩
      go_wp2
      go_ret
      refine ⟨?_, HB.out⟩
      rw [HE.out]
      rfl
end Go.Proofs.YteoifcmafkbklaaDoor.X
end
section
/-
  DERIVED: THE SHELF's CONTRACTS AT THIS DUMP, IN PLAIN WORDS (tools/lay-plain.mjs out of 'TrydShelf.lean', which tools/lay-shelf.mjs wrote): THE SAME DECLARATIONS UNDER THE SAME NAMES: 'import', 'namespace', 'open', 'def', 'theorem' AND NOTHING ELSE: no command of the shelf's: FOR A HAND-IN. Each laying: the table of numbers ('.._ren') and one theorem, a field a fact of the dump's own or the kernel's comparison; each contract: ONE APPLICATION.
-/
namespace Go.Proofs
open Go.Shelf
def Tryd.lays120_ren : Go.Shelf.Ren := ⟨fun | 120 => 64 | n => n, fun | 5 => 5 | 4 => 4 | n => n, fun | n => n⟩
theorem Tryd.lays120 : Go.Proofs.Lays.n120 Tryd.prog Tryd.lays120_ren := {
  mixed := by kernel_rfl
  f120 := Tryd.func64.trans (congrArg some (by kernel_rfl))
  t4 := Tryd.underlying4
  a4 := Tryd.isAgg4
  z4 := Tryd.sizeOf4
  v4 := Tryd.zeroValue4
  t5 := Tryd.underlying5
  a5 := Tryd.isAgg5
  z5 := Tryd.sizeOf5
  v5 := Tryd.zeroValue5 }
/-- utf8.RuneStart: "RuneStart reports whether the byte could be the first byte of an encoded, possibly invalid rune. Second and subsequent bytes always have the top two bits set to 10.": IT RETURNS 'Lib.runeStart b'; the world is as it was. ('h0', 'h1': b is a byte: a caller has it of every byte that it was handed.) (LAID: no walk: one application.) -/
theorem Tryd.utf8_RuneStart (b : Int) (w : World) (h0 : 0 ≤ b) (h1 : b < 256) :
    Calls Tryd.prog 64 #[.int .u8 b] w fun e w' => e = .returned (.bool (Lib.runeStart b)) ∧ w' = w := Any.utf8_RuneStart Tryd.lays120 b w h0 h1
def Tryd.lays197_ren : Go.Shelf.Ren := ⟨fun | 197 => 65 | 260 => 66 | n => n, fun | 9 => 9 | 21 => 21 | 3 => 3 | 4 => 4 | 5 => 5 | 105 => 105 | 119 => 112 | 0 => 0 | 46 => 51 | 139 => 115 | 138 => 114 | n => n, fun | 3 => 0 | 4 => 1 | n => n⟩
theorem Tryd.lays197 : Go.Proofs.Lays.n197 Tryd.prog Tryd.lays197_ren := {
  mixed := by kernel_rfl
  f197 := Tryd.func65.trans (congrArg some (by kernel_rfl))
  f260 := Tryd.func66.trans (congrArg some (by kernel_rfl))
  t0 := Tryd.underlying0
  a0 := Tryd.isAgg0
  z0 := Tryd.sizeOf0
  v0 := Tryd.zeroValue0
  t3 := Tryd.underlying3
  a3 := Tryd.isAgg3
  z3 := Tryd.sizeOf3
  v3 := Tryd.zeroValue3
  t4 := Tryd.underlying4
  a4 := Tryd.isAgg4
  z4 := Tryd.sizeOf4
  v4 := Tryd.zeroValue4
  t5 := Tryd.underlying5
  a5 := Tryd.isAgg5
  z5 := Tryd.sizeOf5
  v5 := Tryd.zeroValue5
  t9 := Tryd.underlying9
  a9 := Tryd.isAgg9
  z9 := Tryd.sizeOf9
  v9 := Tryd.zeroValue9
  t21 := Tryd.underlying21
  a21 := Tryd.isAgg21
  z21 := Tryd.sizeOf21
  v21 := Tryd.zeroValue21
  t46 := Tryd.underlying51
  a46 := Tryd.isAgg51
  z46 := Tryd.sizeOf51
  v46 := Tryd.zeroValue51
  t105 := Tryd.underlying105
  a105 := Tryd.isAgg105
  z105 := Tryd.sizeOf105
  v105 := Tryd.zeroValue105
  t119 := Tryd.underlying112
  a119 := Tryd.isAgg112
  z119 := Tryd.sizeOf112
  t138 := Tryd.underlying114
  a138 := Tryd.isAgg114
  z138 := Tryd.sizeOf114
  v138 := Tryd.zeroValue114
  t139 := Tryd.underlying115
  a139 := Tryd.isAgg115
  z139 := Tryd.sizeOf115
  v139 := Tryd.zeroValue115
  g3 := by kernel_rfl
  g4 := by kernel_rfl }
open Go.RowKit Go.Lib in
/-- unicode/utf8.DecodeRuneInString: "DecodeRuneInString is like DecodeRune but its input is a string.": ("DecodeRune unpacks the first UTF-8 encoding in p and returns the rune and its width in bytes."): WHERE s BEGINS WITH AN ASCII BYTE x: (x, 1). (LAID: no walk: one application.) -/
theorem Tryd.utf8_DecodeRuneInString_ascii (s : ByteArray) (x : UInt8) (w : World) (h0 : s.data.toList[0]? = some x) (hx : x.toNat < 128) :
    Calls Tryd.prog 65 #[.string s] w fun e w' => e = .returned (.tuple #[.int .i32 x.toNat, .int .i64 1]) ∧ w' = w := Any.utf8_DecodeRuneInString_ascii Tryd.lays197 s x w h0 hx
def Tryd.lays260_ren : Go.Shelf.Ren := ⟨fun | 260 => 66 | n => n, fun | 9 => 9 | 21 => 21 | 3 => 3 | 4 => 4 | 5 => 5 | 119 => 112 | 0 => 0 | 46 => 51 | 139 => 115 | 138 => 114 | n => n, fun | 3 => 0 | 4 => 1 | n => n⟩
theorem Tryd.lays260 : Go.Proofs.Lays.n260 Tryd.prog Tryd.lays260_ren := {
  mixed := by kernel_rfl
  f260 := Tryd.func66.trans (congrArg some (by kernel_rfl))
  t0 := Tryd.underlying0
  a0 := Tryd.isAgg0
  z0 := Tryd.sizeOf0
  v0 := Tryd.zeroValue0
  t3 := Tryd.underlying3
  a3 := Tryd.isAgg3
  z3 := Tryd.sizeOf3
  v3 := Tryd.zeroValue3
  t4 := Tryd.underlying4
  a4 := Tryd.isAgg4
  z4 := Tryd.sizeOf4
  v4 := Tryd.zeroValue4
  t5 := Tryd.underlying5
  a5 := Tryd.isAgg5
  z5 := Tryd.sizeOf5
  v5 := Tryd.zeroValue5
  t9 := Tryd.underlying9
  a9 := Tryd.isAgg9
  z9 := Tryd.sizeOf9
  v9 := Tryd.zeroValue9
  t21 := Tryd.underlying21
  a21 := Tryd.isAgg21
  z21 := Tryd.sizeOf21
  v21 := Tryd.zeroValue21
  t46 := Tryd.underlying51
  a46 := Tryd.isAgg51
  z46 := Tryd.sizeOf51
  v46 := Tryd.zeroValue51
  t119 := Tryd.underlying112
  a119 := Tryd.isAgg112
  z119 := Tryd.sizeOf112
  t138 := Tryd.underlying114
  a138 := Tryd.isAgg114
  z138 := Tryd.sizeOf114
  v138 := Tryd.zeroValue114
  t139 := Tryd.underlying115
  a139 := Tryd.isAgg115
  z139 := Tryd.sizeOf115
  v139 := Tryd.zeroValue115
  g3 := by kernel_rfl
  g4 := by kernel_rfl }
open Go.RowKit Go.Lib in
theorem Tryd.utf8_decodeRuneInStringSlow (s : ByteArray) (w : World) (hT : Lib.Utf8Tabs 0 1 w) :
    Calls Tryd.prog 66 #[.string s] w fun e w' => e = .returned (.tuple #[.int .i32 (Lib.decodeGo s).1, .int .i64 (Lib.decodeGo s).2]) ∧ Below w.heap.size w w' := Any.utf8_decodeRuneInStringSlow Tryd.lays260 s w hT
open Go.RowKit Go.Lib in
/-- **unicode/utf8.DecodeRuneInString AT EVERY STRING.** (LAID: no walk: one application.) -/
theorem Tryd.utf8_DecodeRuneInString (s : ByteArray) (w : World) (hT : Lib.Utf8Tabs 0 1 w) :
    Calls Tryd.prog 65 #[.string s] w fun e w' => e = .returned (.tuple #[.int .i32 (Lib.decodeGo s).1, .int .i64 (Lib.decodeGo s).2]) ∧ Below w.heap.size w w' := Any.utf8_DecodeRuneInString Tryd.lays197 s w hT
def Tryd.lays271_ren : Go.Shelf.Ren := ⟨fun | 271 => 59 | 120 => 64 | 197 => 65 | 260 => 66 | n => n, fun | 9 => 9 | 21 => 21 | 3 => 3 | 4 => 4 | 5 => 5 | 105 => 105 | 119 => 112 | 0 => 0 | 46 => 51 | 139 => 115 | 138 => 114 | n => n, fun | 3 => 0 | 4 => 1 | n => n⟩
theorem Tryd.lays271 : Go.Proofs.Lays.n271 Tryd.prog Tryd.lays271_ren := {
  mixed := by kernel_rfl
  f120 := Tryd.func64.trans (congrArg some (by kernel_rfl))
  f197 := Tryd.func65.trans (congrArg some (by kernel_rfl))
  f260 := Tryd.func66.trans (congrArg some (by kernel_rfl))
  f271 := Tryd.func59.trans (congrArg some (by kernel_rfl))
  t0 := Tryd.underlying0
  a0 := Tryd.isAgg0
  z0 := Tryd.sizeOf0
  v0 := Tryd.zeroValue0
  t3 := Tryd.underlying3
  a3 := Tryd.isAgg3
  z3 := Tryd.sizeOf3
  v3 := Tryd.zeroValue3
  t4 := Tryd.underlying4
  a4 := Tryd.isAgg4
  z4 := Tryd.sizeOf4
  v4 := Tryd.zeroValue4
  t5 := Tryd.underlying5
  a5 := Tryd.isAgg5
  z5 := Tryd.sizeOf5
  v5 := Tryd.zeroValue5
  t9 := Tryd.underlying9
  a9 := Tryd.isAgg9
  z9 := Tryd.sizeOf9
  v9 := Tryd.zeroValue9
  t21 := Tryd.underlying21
  a21 := Tryd.isAgg21
  z21 := Tryd.sizeOf21
  v21 := Tryd.zeroValue21
  t46 := Tryd.underlying51
  a46 := Tryd.isAgg51
  z46 := Tryd.sizeOf51
  v46 := Tryd.zeroValue51
  t105 := Tryd.underlying105
  a105 := Tryd.isAgg105
  z105 := Tryd.sizeOf105
  v105 := Tryd.zeroValue105
  t119 := Tryd.underlying112
  a119 := Tryd.isAgg112
  z119 := Tryd.sizeOf112
  t138 := Tryd.underlying114
  a138 := Tryd.isAgg114
  z138 := Tryd.sizeOf114
  v138 := Tryd.zeroValue114
  t139 := Tryd.underlying115
  a139 := Tryd.isAgg115
  z139 := Tryd.sizeOf115
  v139 := Tryd.zeroValue115
  g3 := by kernel_rfl
  g4 := by kernel_rfl }
open Go.RowKit Go.Lib in
/-- **unicode/utf8.DecodeLastRuneInString AT EVERY STRING.** (LAID: no walk: one application.) -/
theorem Tryd.utf8_DecodeLastRuneInString (s : ByteArray) (w : World) (hs : s.size ≤ 9223372036854775807) (hT : Lib.Utf8Tabs 0 1 w) :
    Calls Tryd.prog 59 #[.string s] w fun e w' => e = .returned (.tuple #[.int .i32 (Lib.decodeLastL s.data.toList).1, .int .i64 (Lib.decodeLastL s.data.toList).2]) ∧ Below w.heap.size w w' := Any.utf8_DecodeLastRuneInString Tryd.lays271 s w hs hT
def Tryd.lays113_ren : Go.Shelf.Ren := ⟨fun | 113 => 57 | n => n, fun | 28 => 30 | 3 => 3 | 4 => 4 | 9 => 9 | 20 => 20 | 0 => 0 | n => n, fun | n => n⟩
theorem Tryd.lays113 : Go.Proofs.Lays.n113 Tryd.prog Tryd.lays113_ren := {
  mixed := by kernel_rfl
  f113 := Tryd.func57.trans (congrArg some (by kernel_rfl))
  t0 := Tryd.underlying0
  a0 := Tryd.isAgg0
  z0 := Tryd.sizeOf0
  v0 := Tryd.zeroValue0
  t3 := Tryd.underlying3
  a3 := Tryd.isAgg3
  z3 := Tryd.sizeOf3
  v3 := Tryd.zeroValue3
  t4 := Tryd.underlying4
  a4 := Tryd.isAgg4
  z4 := Tryd.sizeOf4
  v4 := Tryd.zeroValue4
  t9 := Tryd.underlying9
  a9 := Tryd.isAgg9
  z9 := Tryd.sizeOf9
  v9 := Tryd.zeroValue9
  t20 := Tryd.underlying20
  a20 := Tryd.isAgg20
  z20 := Tryd.sizeOf20
  v20 := Tryd.zeroValue20
  t28 := Tryd.underlying30
  a28 := Tryd.isAgg30
  z28 := Tryd.sizeOf30
  v28 := Tryd.zeroValue30 }
open Go.Lib in
/-- slices.Max at []int: "Max returns the maximal value in x. It panics if x is empty.": OF A SLICE THAT IS NOT EMPTY IT RETURNS 'Lib.maxOf (the elements)'; the world is as it was. (Of an empty one it panics: no contract here.) (LAID: no walk: one application.) -/
theorem Tryd.slices_Max_int (b off n c : Nat) (zs : List Int) (w : World) (hn : 0 < n) (hz : n ≤ zs.length) (hbig : n ≤ 9223372036854775807) (hc : ∀ j, j < zs.length → w.cell? ⟨b, off + j, none⟩ = some (.int .i64 (zs.getD j 0))) :
    Calls Tryd.prog 57 #[.slice (some ⟨b, off, none⟩) n c] w fun e w' => e = .returned (.int .i64 (Lib.maxOf (zs.take n))) ∧ w' = w := Any.slices_Max_int Tryd.lays113 b off n c zs w hn hz hbig hc
def Tryd.lays114_ren : Go.Shelf.Ren := ⟨fun | 114 => 58 | n => n, fun | 28 => 30 | 3 => 3 | 4 => 4 | 9 => 9 | 20 => 20 | 0 => 0 | n => n, fun | n => n⟩
theorem Tryd.lays114 : Go.Proofs.Lays.n114 Tryd.prog Tryd.lays114_ren := {
  mixed := by kernel_rfl
  f114 := Tryd.func58.trans (congrArg some (by kernel_rfl))
  t0 := Tryd.underlying0
  a0 := Tryd.isAgg0
  z0 := Tryd.sizeOf0
  v0 := Tryd.zeroValue0
  t3 := Tryd.underlying3
  a3 := Tryd.isAgg3
  z3 := Tryd.sizeOf3
  v3 := Tryd.zeroValue3
  t4 := Tryd.underlying4
  a4 := Tryd.isAgg4
  z4 := Tryd.sizeOf4
  v4 := Tryd.zeroValue4
  t9 := Tryd.underlying9
  a9 := Tryd.isAgg9
  z9 := Tryd.sizeOf9
  v9 := Tryd.zeroValue9
  t20 := Tryd.underlying20
  a20 := Tryd.isAgg20
  z20 := Tryd.sizeOf20
  v20 := Tryd.zeroValue20
  t28 := Tryd.underlying30
  a28 := Tryd.isAgg30
  z28 := Tryd.sizeOf30
  v28 := Tryd.zeroValue30 }
open Go.Lib in
/-- slices.Min at []int: "Min returns the minimal value in x. It panics if x is empty.": OF A SLICE THAT IS NOT EMPTY IT RETURNS 'Lib.minOf (the elements)'; the world is as it was. (Of an empty one it panics: no contract here.) (LAID: no walk: one application.) -/
theorem Tryd.slices_Min_int (b off n c : Nat) (zs : List Int) (w : World) (hn : 0 < n) (hz : n ≤ zs.length) (hbig : n ≤ 9223372036854775807) (hc : ∀ j, j < zs.length → w.cell? ⟨b, off + j, none⟩ = some (.int .i64 (zs.getD j 0))) :
    Calls Tryd.prog 58 #[.slice (some ⟨b, off, none⟩) n c] w fun e w' => e = .returned (.int .i64 (Lib.minOf (zs.take n))) ∧ w' = w := Any.slices_Min_int Tryd.lays114 b off n c zs w hn hz hbig hc
end Go.Proofs
end
section
/- Package lattice: cutRight at a set of ASCII bytes; what checked's second test asks. -/
namespace Go.Proofs.YteoifcmafkbklaaDoor.X
open Go.RowKit Go.Proofs.YteoifcmafkbklaaDoorW.PrintWords Go.Proofs.YteoifcmafkbklaaDoorW.PrintLast Go.Proofs.YteoifcmafkbklaaDoorW.PrintMore
open Go.Lib (run_next_any_at run_next_ascii_at run_next_end_at iterAt_heap iterAt_size below_iterAt)

/-- The tables of package unicode/utf8 are as its text lays them. -/
def Tabs (w : World) : Prop := Lib.Utf8Tabs 0 1 w
theorem Tabs.below {w w1 : World} (h : Tabs w) (hb : Below w.heap.size w w1) : Tabs w1 :=
  ⟨fun c hc => pw_cell_below hb (h.1 c hc), fun i hi => ⟨pw_cell_below hb (h.2 i hi).1, pw_cell_below hb (h.2 i hi).2⟩⟩

theorem lastRune_low (l : List UInt8) (h : l ≠ []) (ha : (l.getLast h).toNat < 128) : Lib.decodeLastL l = ((l.getLast h).toNat, 1) := by
  have e : l.getD (l.length - 1) 0 = l.getLast h := by
    rw [List.getLast_eq_getElem, List.getD_eq_getElem?_getD, List.getElem?_eq_getElem (by have := List.length_pos_iff.2 h; omega)]
    rfl
  unfold Lib.decodeLastL
  rw [if_neg h, e, if_pos ha]
theorem lastRune_high (l : List UInt8) (h : l ≠ []) (ha : ¬ (l.getLast h).toNat < 128) : 128 ≤ (Lib.decodeLastL l).1 := by
  have hpos := List.length_pos_iff.2 h
  have e : l.getD (l.length - 1) 0 = l.getLast h := by
    rw [List.getLast_eq_getElem, List.getD_eq_getElem?_getD, List.getElem?_eq_getElem (by omega)]
    rfl
  have hlt := Lib.lastStart_lt l h
  generalize hst : Lib.lastStart l = st at hlt
  unfold Lib.decodeLastL
  rw [if_neg h, e, if_neg ha, hst]
  simp only
  split
  · rename_i hd
    have hsz : 0 < (⟨(l.drop st).toArray⟩ : ByteArray).size := by
      show 0 < (l.drop st).toArray.size
      rw [List.size_toArray, List.length_drop]; omega
    have hget : ((⟨(l.drop st).toArray⟩ : ByteArray)[0]'hsz) = l[st]'hlt := by
      show (l.drop st).toArray[0]'(by rw [List.size_toArray, List.length_drop]; omega) = _
      simp
    by_cases hb : (l[st]'hlt).toNat < 128
    · exfalso
      have hdec : Lib.decodeL (l.drop st) = ((l[st]'hlt).toNat, 1) := by
        unfold Lib.decodeL
        rw [decode_ascii _ 0 hsz (by rw [hget]; exact hb), hget]
      rw [hdec] at hd
      simp only at hd
      apply ha
      rw [List.getLast_eq_getElem]
      have : l.length - 1 = st := by omega
      simp only [this]
      exact hb
    · unfold Lib.decodeL
      exact (decode_high _ 0 hsz (by rw [hget]; omega)).1
  · decide

/-- A text without the bytes of a set at its end. -/
def cutR (set s : ByteArray) : ByteArray := ⟨((s.data.toList.reverse.dropWhile fun b => inSet set b.toNat).reverse).toArray⟩
theorem cutR_empty (set s : ByteArray) (h : ¬ 0 < s.size) : cutR set s = s := by
  have hl : s.data.toList = [] := by
    apply List.eq_nil_of_length_eq_zero
    rw [Array.length_toList]
    show s.size = 0
    omega
  unfold cutR
  rw [hl]
  cases s with
  | mk d =>
    have : d = #[] := by apply Array.ext'; simpa using hl
    subst this
    rfl
theorem toList_ne {s : ByteArray} (h : 0 < s.size) : s.data.toList ≠ [] := by
  intro e
  have : s.data.toList.length = s.size := by rw [Array.length_toList]; rfl
  rw [e] at this
  simp at this
  omega
theorem cutR_stop (set s : ByteArray) (h : 0 < s.size) (hl : inSet set (s.data.toList.getLast (toList_ne h)).toNat = false) : cutR set s = s := by
  have hne := toList_ne h
  have e : s.data.toList.reverse = s.data.toList.getLast hne :: s.data.toList.dropLast.reverse := by
    conv => lhs; rw [← List.dropLast_concat_getLast hne]
    rw [List.reverse_append]
    rfl
  unfold cutR
  rw [e, List.dropWhile_cons, if_neg (by rw [hl]; decide), ← e, List.reverse_reverse]
theorem cutR_step (set s : ByteArray) (h : 0 < s.size) (hl : inSet set (s.data.toList.getLast (toList_ne h)).toNat = true) : cutR set (s.extract 0 (s.size - 1)) = cutR set s := by
  have hne := toList_ne h
  have e : s.data.toList.reverse = s.data.toList.getLast hne :: s.data.toList.dropLast.reverse := by
    conv => lhs; rw [← List.dropLast_concat_getLast hne]
    rw [List.reverse_append]
    rfl
  have e2 : (s.extract 0 (s.size - 1)).data.toList = s.data.toList.dropLast := by
    rw [Lib.extract_data, List.drop_zero, List.dropLast_eq_take, Array.length_toList]
    rfl
  unfold cutR
  rw [e, e2, List.dropWhile_cons, if_pos hl]
/-- A rune at the end: in the set just if the last byte is; then it is one byte. -/
theorem lastRune_in {set s : ByteArray} (hset : ascii set) (h : 0 < s.size) :
    inSet set (Lib.decodeLastL s.data.toList).1 = inSet set (s.data.toList.getLast (toList_ne h)).toNat ∧ (inSet set (Lib.decodeLastL s.data.toList).1 = true → (Lib.decodeLastL s.data.toList).2 = 1) := by
  by_cases ha : (s.data.toList.getLast (toList_ne h)).toNat < 128
  · rw [lastRune_low _ (toList_ne h) ha]
    exact ⟨rfl, fun _ => rfl⟩
  · have hh := lastRune_high _ (toList_ne h) ha
    have e := high_not_in hset hh
    exact ⟨by rw [e, high_not_in hset (by omega)], fun h => by rw [e] at h; cases h⟩

set_option maxHeartbeats 2000000 in
theorem cutRight_calls (s set : ByteArray) (hset : ascii set) (w : World) (hs : s.size ≤ 9223372036854775807) (hT : Tabs w) :
    Calls Tryd.prog 45 #[.string s, .string set] w fun e w' => e = .returned (.string (cutR set s)) ∧ Below w.heap.size w w' := by
  have HS := Aside0.mk hset
  have HT := Aside0.mk hT
  clear hset hT
  go_enter Tryd.func45, Tryd.ntmps45
  go_wp2
  go_loopg [0, 7] s.size (fun gg v0 _ wr => ∃ cur : ByteArray, v0 = .string cur ∧ cur.size ≤ gg ∧ cur.size ≤ 9223372036854775807 ∧ Aside0 (cutR set cur = cutR set s) ∧ Aside0 (Below w.heap.size w wr))
  case atStart => exact ⟨s, rfl, Nat.le_refl _, hs, ⟨rfl⟩, ⟨Below.refl _ _⟩⟩
  case round =>
    obtain ⟨cur, rfl, hg, hsz, HR, HB⟩ := hrel
    by_cases hp : 0 < cur.size
    · have hpi : (0 : Int) < (cur.size : Int) := by omega
      have HL := Aside0.mk (lastRune_in HS.out hp)
      have hcall := Tryd.utf8_DecodeLastRuneInString cur wr hsz (HT.out.below HB.out)
      obtain ⟨c, hc⟩ : ∃ c, (Lib.decodeLastL cur.data.toList).1 = c := ⟨_, rfl⟩
      obtain ⟨wd, hwd⟩ : ∃ c, (Lib.decodeLastL cur.data.toList).2 = c := ⟨_, rfl⟩
      rw [hc, hwd] at hcall HL
      clear hc hwd
      have HC := Aside0.mk hcall
      clear hcall
      go_wp2_with (go_at_call 59; refine HC.out.mono ?_; rintro e w1 ⟨rfl, hb1⟩; have HB1 := Aside0.mk (later_below HB.out hb1); clear hb1 HC)
      go_loopg [7] set.size (fun gg v7 wr2 => ∃ m : Nat, m ≤ set.size ∧ set.size - m ≤ gg ∧ v7 = .bool (inTake set c m) ∧ wr2 = w1.iter set m)
      case atStart => exact ⟨0, Nat.zero_le _, by omega, rfl, rfl⟩
      case round =>
        obtain ⟨m, hm, hg2, rfl, rfl⟩ := hrel
        by_cases hm2 : m < set.size
        · have hnx2 : ∀ ty, (Instr.next (.pointer (some ⟨w1.heap.size, 0, none⟩)) true ty).run Tryd.prog (w1.iter set m) = _ := fun ty => run_next_ascii w1 set m ty hm2 (ascii_at HS.out m hm2)
          have HSU := Aside0.mk (inTake_succ set c m hm2)
          obtain ⟨d, hd⟩ : ∃ d, (set[m]'hm2).toNat = d := ⟨_, rfl⟩
          rw [hd] at hnx2 HSU
          clear hd
          obtain ⟨q, hq⟩ : ∃ q, inTake set c m = q := ⟨_, rfl⟩
          rw [hq] at HSU ⊢
          clear hq
          cases q with
          | true =>
            go_wp2
            go_roundg (set.size - (m + 1))
            case measure => omega
            case rel => exact ⟨m + 1, by omega, by omega, by rw [HSU.out]; rfl, rfl⟩
          | false =>
            by_cases hcd : c = d
            · have h1 : (c == d) = true := beq_iff_eq.2 hcd
              have h2 : ((c : Int) == (d : Int)) = true := beq_iff_eq.2 (by omega)
              have hsu : inTake set c (m + 1) = true := by rw [HSU.out, hcd]; simp
              have HSV := Aside0.mk hsu
              clear hcd hsu
              go_wp2
              go_roundg (set.size - (m + 1))
              case measure => omega
              case rel => exact ⟨m + 1, by omega, by omega, by rw [HSV.out], rfl⟩
            · have h1 : (c == d) = false := beq_eq_false_iff_ne.2 hcd
              have h2 : ((c : Int) == (d : Int)) = false := beq_eq_false_iff_ne.2 (by omega)
              have hsu : inTake set c (m + 1) = false := by rw [HSU.out, Bool.false_or]; exact beq_eq_false_iff_ne.2 (fun h => hcd h.symm)
              have HSV := Aside0.mk hsu
              clear hcd hsu
              go_wp2
              go_roundg (set.size - (m + 1))
              case measure => omega
              case rel => exact ⟨m + 1, by omega, by omega, by rw [HSV.out], rfl⟩
        · have hnx2 : ∀ ty, (Instr.next (.pointer (some ⟨w1.heap.size, 0, none⟩)) true ty).run Tryd.prog (w1.iter set m) = _ := fun ty => run_next_end w1 set m ty hm2
          obtain rfl : m = set.size := by omega
          rw [inTake_all]
          obtain ⟨q, hq⟩ : ∃ q, inSet set c = q := ⟨_, rfl⟩
          rw [hq]
          have HV := Aside0.mk hq
          clear hq
          cases q with
          | true =>
            have hw1 := HL.out.2 HV.out
            subst hw1
            have HX := Aside0.mk (cutR_step set cur hp (by rw [← HL.out.1]; exact HV.out))
            go_wp2
            go_roundg (cur.size - 1)
            case measure => omega
            case rel => exact ⟨_, rfl, by simp, by simp; omega, ⟨HX.out.trans HR.out⟩, ⟨below_alloc HB1.out _⟩⟩
          | false =>
            have HX := Aside0.mk (cutR_stop set cur hp (by rw [← HL.out.1]; exact HV.out))
            go_wp2
            go_ret
            refine ⟨?_, below_alloc HB1.out _⟩
            rw [← HR.out, HX.out]
            rfl
    · have hpi : ¬ (0 : Int) < (cur.size : Int) := by omega
      have hz : cur.size = 0 := by omega
      have HX := Aside0.mk (cutR_empty set cur hp)
      have hpi2 : decide ((0 : Int) < (cur.size : Int)) = false := decide_eq_false hpi
      have hpi3 : decide (0 < cur.size) = false := decide_eq_false hp
      clear hz
      go_wp2
      go_ret
      refine ⟨?_, HB.out⟩
      rw [← HR.out, HX.out]
      rfl
end Go.Proofs.YteoifcmafkbklaaDoor.X
end
section
/- Package lattice: checked; Check, Bars, checkSeen. -/
namespace Go.Proofs.YteoifcmafkbklaaDoor.X
open Go.RowKit Go.Proofs.YteoifcmafkbklaaDoorW.PrintWords Go.Proofs.YteoifcmafkbklaaDoorW.PrintLast Go.Proofs.YteoifcmafkbklaaDoorW.PrintMore

/-- A row that has not its form. -/
def isShort (wide : Int) (n0 : Nat) (row : ByteArray) : Bool := !(decide (1 ≤ (row.size : Int)) && decide ((row.size : Int) ≤ wide)) || !(row.size == n0)

theorem enters_checked1 : ∀ args w, (callFunc 43 args).run Tryd.prog w = .ok (.enter 43 args) w := enters_of Tryd.func43 (by kernel_rfl) rfl
theorem enters_checked2 : ∀ args w, (callFunc 44 args).run Tryd.prog w = .ok (.enter 44 args) w := enters_of Tryd.func44 (by kernel_rfl) rfl

set_option maxHeartbeats 1000000 in
theorem checked1_pred {g1 g2 : Nat} {wide : Int} {A : Option Addr} {c : Nat} {rows : List ByteArray} {w : World} (h1 : w.cell? ⟨g1, 0, none⟩ = some (.int .i64 wide)) (h2 : w.cell? ⟨g2, 0, none⟩ = some (.slice A rows.length c)) (hr : Kd.C Kd.string w A rows.length rows) :
    PredK 43 #[.pointer (some ⟨g1, 0, none⟩), .pointer (some ⟨g2, 0, none⟩)] Kd.string cell1 rows (isShort wide (rows.getD 0 ByteArray.empty).size) w := by
  intro x hx W cs hb hK
  have e : cs = [.string x] := hK
  subst e
  have hn : 0 < rows.length := List.length_pos_of_mem hx
  have HR := Aside0.mk (Kd.C_below hr hb)
  have k1 : W.cell? ⟨g1, 0, none⟩ = some (.int .i64 wide) := pw_cell_below hb h1
  have k2 : W.cell? ⟨g2, 0, none⟩ = some (.slice A rows.length c) := pw_cell_below hb h2
  simp only [cell1, List.getD_cons_zero]
  show Calls Tryd.prog 43 #[.string x, .pointer (some ⟨g1, 0, none⟩), .pointer (some ⟨g2, 0, none⟩)] W _
  obtain ⟨n, hn2⟩ : ∃ n, rows.length = n := ⟨_, rfl⟩
  rw [hn2] at k2 hn HR
  have HN := Aside0.mk hn
  clear hb h1 h2 hK hr hx hn2
  obtain ⟨ad, rfl, hcell⟩ := Kd.at_string HR.out 0 (Int.le_refl 0) (by omega)
  have hc0 : W.cell? ad = some (.string (rdOf ByteArray.empty rows 0)) := by rw [← hcell]; simp [Addr.add]
  have e0 : rdOf ByteArray.empty rows 0 = rows.getD 0 ByteArray.empty := rfl
  rw [e0] at hc0
  generalize hr0 : rows.getD 0 ByteArray.empty = r0 at hc0
  clear hcell e0 hr0
  have hni : (0 : Int) < (n : Int) := by omega
  cases hq : (decide (1 ≤ (x.size : Int)) && decide ((x.size : Int) ≤ wide)) with
  | false =>
    have hs : isShort wide r0.size x = true := by unfold isShort; rw [hq]; rfl
    rw [hs]
    have HQ := Aside0.mk hq
    clear hq hs
    go_enter Tryd.func43, Tryd.ntmps43
    go_wp2_with (go_at_call 35; refine (lattice_within.calls 1 wide _ 1 [(x.size : Int)] false _ (C_lit1 _ _ _ _ (by simp)) (Nat.le_refl 1) (by unfold lattice_within.f; rw [List.all_cons, HQ.out]; rfl)).mono ?_; rintro e w' ⟨rfl, hb1⟩; have HB1 := Aside0.mk (below_then (below_alloc (Below.refl _ _) _) (by simp) hb1); clear hb1)
    go_ret
    exact ⟨rfl, HB1.out⟩
  | true =>
    have HQ := Aside0.mk hq
    clear hq
    by_cases hxe : x.size = r0.size
    · have hs : isShort wide r0.size x = false := by unfold isShort; rw [HQ.out, hxe]; simp
      rw [hs]
      have hb1 : (x.size == r0.size) = true := beq_iff_eq.2 hxe
      have hb2 : ((x.size : Int) == (r0.size : Int)) = true := beq_iff_eq.2 (by omega)
      have hb3 : ((x.size : Int) != (r0.size : Int)) = false := bne_eq_false_iff_eq.2 (by omega)
      clear hs hxe
      go_enter Tryd.func43, Tryd.ntmps43
      go_wp2_with (go_at_call 35; refine (lattice_within.calls 1 wide _ 1 [(x.size : Int)] true _ (C_lit1 _ _ _ _ (by simp)) (Nat.le_refl 1) (by unfold lattice_within.f; rw [List.all_cons, HQ.out]; rfl)).mono ?_; rintro e w' ⟨rfl, hb1⟩; have HB1 := Aside0.mk (below_then (below_alloc (Below.refl _ _) _) (by simp) hb1); clear hb1; have k2' := pw_cell_below HB1.out k2; have hc0' := pw_cell_below HB1.out hc0)
      go_ret
      exact ⟨rfl, HB1.out⟩
    · have hs : isShort wide r0.size x = true := by unfold isShort; rw [beq_eq_false_iff_ne.2 hxe]; simp
      rw [hs]
      have hb1 : (x.size == r0.size) = false := beq_eq_false_iff_ne.2 hxe
      have hb2 : ((x.size : Int) == (r0.size : Int)) = false := beq_eq_false_iff_ne.2 (by omega)
      have hb3 : ((x.size : Int) != (r0.size : Int)) = true := bne_iff_ne.2 (by omega)
      clear hs hxe
      go_enter Tryd.func43, Tryd.ntmps43
      go_wp2_with (go_at_call 35; refine (lattice_within.calls 1 wide _ 1 [(x.size : Int)] true _ (C_lit1 _ _ _ _ (by simp)) (Nat.le_refl 1) (by unfold lattice_within.f; rw [List.all_cons, HQ.out]; rfl)).mono ?_; rintro e w' ⟨rfl, hb1⟩; have HB1 := Aside0.mk (below_then (below_alloc (Below.refl _ _) _) (by simp) hb1); clear hb1; have k2' := pw_cell_below HB1.out k2; have hc0' := pw_cell_below HB1.out hc0)
      go_ret
      exact ⟨rfl, HB1.out⟩

/-- Is a byte of the row not among some? -/
def isOther (among row : ByteArray) : Bool := !(row.data.toList.all fun b => inSet among b.toNat)

theorem cut_other (among row : ByteArray) : ((cutR among (cutL among row)).data.toList = []) ↔ isOther among row = false := by
  unfold cutR cutL isOther
  simp only [Bool.not_eq_false', List.reverse_eq_nil_iff]
  generalize row.data.toList = l
  constructor
  · intro h
    rw [List.all_eq_true]
    intro b hb
    induction l with
    | nil => cases hb
    | cons x l ih =>
      rw [List.dropWhile_cons] at h
      split at h
      · rename_i hx
        rcases List.mem_cons.1 hb with rfl | hb
        · exact hx
        · exact ih h hb
      · rename_i hx
        exfalso
        have hz : ∀ z ∈ (x :: l).reverse, inSet among z.toNat = true := by
          generalize (x :: l).reverse = m at h
          intro z hz
          induction m with
          | nil => cases hz
          | cons y m ih2 =>
            rw [List.dropWhile_cons] at h
            split at h
            · rename_i hy
              rcases List.mem_cons.1 hz with rfl | hz
              · exact hy
              · exact ih2 h hz
            · cases h
        exact hx (hz x (by simp))
  · intro h
    rw [List.all_eq_true] at h
    have : l.dropWhile (fun b => inSet among b.toNat) = [] := by
      induction l with
      | nil => rfl
      | cons x l ih =>
        rw [List.dropWhile_cons, if_pos (h x (by simp))]
        exact ih (fun y hy => h y (by simp [hy]))
    rw [this]
    rfl

theorem cutL_size (among row : ByteArray) : (cutL among row).size ≤ row.size := by
  unfold cutL
  show (List.toArray _).size ≤ _
  rw [List.size_toArray]
  refine Nat.le_trans (List.dropWhile_sublist _).length_le ?_
  rw [Array.length_toList]
  exact Nat.le_refl _

set_option maxHeartbeats 1000000 in
theorem checked2_pred {g1 : Nat} {among : ByteArray} (ha : ascii among) {rows : List ByteArray} {w : World} (h1 : w.cell? ⟨g1, 0, none⟩ = some (.string among)) (hT : Tabs w) (hsz : ∀ r ∈ rows, r.size ≤ 9223372036854775807) :
    PredK 44 #[.pointer (some ⟨g1, 0, none⟩)] Kd.string cell1 rows (isOther among) w := by
  intro x hx W cs hb hK
  have e : cs = [.string x] := hK
  subst e
  have HS := Aside0.mk (hsz x hx)
  have HT := Aside0.mk (hT.below hb)
  have HA := Aside0.mk ha
  have k1 : W.cell? ⟨g1, 0, none⟩ = some (.string among) := pw_cell_below hb h1
  simp only [cell1, List.getD_cons_zero]
  show Calls Tryd.prog 44 #[.string x, .pointer (some ⟨g1, 0, none⟩)] W _
  clear hb h1 hK hx hsz hT ha
  have HO := Aside0.mk (cut_other among x)
  have hbb : (cutR among (cutL among x)).toList.isEmpty = !(isOther among x) := by
    rw [Lib.toList_data]
    cases hq : isOther among x with
    | false => rw [HO.out.2 hq]; rfl
    | true =>
      have : (cutR among (cutL among x)).data.toList ≠ [] := fun e => by rw [HO.out.1 e] at hq; cases hq
      simpa using this
  go_enter Tryd.func44, Tryd.ntmps44
  go_wp2
  go_region_held3 (fun w' => w'.cell? ⟨g1, 0, none⟩ = some (.string among) ∧ Aside0 (Below W.heap.size W w'))
    (first | exact ⟨k1, ⟨below_drew (Below.refl _ _)⟩⟩ | (go_split_ands; exact ⟨pw_cell_below hb1 (by assumption), ⟨later_below (Aside0.out ‹_›) hb1⟩⟩))
    ((first
      | (go_at_call 46; refine (cutLeft_calls x among HA.out _ HS.out).mono ?_; rintro e w1 ⟨rfl, hb1⟩)
      | (go_at_call 45; refine (cutRight_calls (cutL among x) among HA.out _ (Nat.le_trans (cutL_size _ _) HS.out) (HT.out.below ((‹_ ∧ Aside0 (Below W.heap.size W _)› : _ ∧ _).2.out))).mono ?_; rintro e w1 ⟨rfl, hb1⟩)))
  rename_i hh
  obtain ⟨hh1, hh2⟩ := hh
  clear hb1
  go_wp2
  go_ret
  exact ⟨by simp, hh2.out⟩

/-- The error of rows. -/
def checkedF (rows : List ByteArray) (high wide : Int) (among : ByteArray) : Int :=
  if (decide (1 ≤ (rows.length : Int)) && decide ((rows.length : Int) ≤ high)) = false then 4
  else if rows.any (isShort wide (rows.getD 0 ByteArray.empty).size) = true then 4
  else if rows.any (isOther among) = true then 2 else 0

set_option maxHeartbeats 1000000 in
set_option maxRecDepth 100000 in
theorem checked_calls (A : Option Addr) (c : Nat) (rows : List ByteArray) (high wide : Int) (among : ByteArray) (ha : ascii among) (hw : wide ≤ 9223372036854775807) (w : World) (hr : Kd.C Kd.string w A rows.length rows) (hT : Tabs w) :
    Calls Tryd.prog 34 #[.slice A rows.length c, .int .i64 high, .int .i64 wide, .string among] w fun e w' => e = .returned (.int .i64 (checkedF rows high wide among)) ∧ Below w.heap.size w w' := by
  have HR := Aside0.mk hr
  have HT := Aside0.mk hT
  have HA := Aside0.mk ha
  have HW := Aside0.mk hw
  obtain ⟨r, hres⟩ : ∃ r, checkedF rows high wide among = r := ⟨_, rfl⟩
  rw [hres]
  have HRES := Aside0.mk hres
  clear hr hT ha hw hres
  cases hq : (decide (1 ≤ (rows.length : Int)) && decide ((rows.length : Int) ≤ high)) with
  | false =>
    have HQ := Aside0.mk hq
    obtain rfl : r = 4 := by rw [← HRES.out]; unfold checkedF; rw [if_pos hq]
    clear hq
    go_enter Tryd.func34, Tryd.ntmps34
    go_wp2_with (go_at_call 35; refine (lattice_within.calls 1 high _ 1 [(rows.length : Int)] false _ (C_lit1 _ _ _ _ (by simp)) (Nat.le_refl 1) (by unfold lattice_within.f; rw [List.all_cons, HQ.out]; rfl)).mono ?_; rintro e w' ⟨rfl, hb1⟩; have HB1 := Aside0.mk (below_then (below_alloc (below_alloc (below_alloc (below_alloc (Below.refl _ _) _) _) _) _) (by simp; omega) hb1); clear hb1)
    go_ret
    exact ⟨rfl, HB1.out⟩
  | true =>
    have HQ := Aside0.mk hq
    clear hq
    cases hs : rows.any (isShort wide (rows.getD 0 ByteArray.empty).size) with
    | true =>
      have HS := Aside0.mk hs
      obtain rfl : r = 4 := by rw [← HRES.out]; unfold checkedF; rw [if_neg (by rw [HQ.out]; decide), if_pos hs]
      clear hs
      go_enter Tryd.func34, Tryd.ntmps34
      go_wp2_with fail
      refine (lattice_within.calls 1 high _ 1 [(rows.length : Int)] true _ (C_lit1 _ _ _ _ (by simp)) (Nat.le_refl 1) (by unfold lattice_within.f; rw [List.all_cons, HQ.out]; rfl)).mono ?_
      rintro e w1 ⟨rfl, hb1⟩
      have k1 : w1.cell? ⟨w.heap.size, 0, none⟩ = some (.slice A rows.length c) := pw_cell_below hb1 (keep_cell _ (keep_cell _ (keep_cell _ (box_cell _ _ _ rfl))))
      have k2 : w1.cell? ⟨w.heap.size + 1, 0, none⟩ = some (.int .i64 wide) := pw_cell_below hb1 (keep_cell _ (keep_cell _ (box_cell _ _ _ (by simp))))
      have k3 : w1.cell? ⟨w.heap.size + 1 + 1, 0, none⟩ = some (.string among) := pw_cell_below hb1 (keep_cell _ (box_cell _ _ _ (by simp)))
      have HB1 := Aside0.mk (below_then (below_alloc (below_alloc (below_alloc (below_alloc (Below.refl _ _) _) _) _) _) (by simp; omega) hb1)
      clear hb1
      go_wp2_with fail
      refine (contains_str enters_checked1 (Kd.C_below HR.out HB1.out) (checked1_pred k2 k1 (Kd.C_below HR.out HB1.out))).mono ?_
      rintro e w2 ⟨rfl, hb2⟩
      rw [HS.out]
      have HB2 := Aside0.mk (later_below HB1.out hb2)
      clear hb2
      go_wp2
      go_ret
      exact ⟨rfl, HB2.out⟩
    | false =>
      have HS := Aside0.mk hs
      have HZ : Aside0 (∀ x ∈ rows, x.size ≤ 9223372036854775807) := ⟨fun x hx => by
        rw [List.any_eq_false] at hs
        have h1 := hs x hx
        unfold isShort at h1
        simp at h1
        have := HW.out
        omega⟩
      clear hs
      have hr3 : r = if rows.any (isOther among) = true then 2 else 0 := by rw [← HRES.out]; unfold checkedF; rw [if_neg (by rw [HQ.out]; decide), if_neg (by rw [HS.out]; decide)]
      cases ho : rows.any (isOther among) with
      | true =>
        have HO := Aside0.mk ho
        obtain rfl : r = 2 := by rw [hr3, if_pos ho]
        clear ho hr3
        go_enter Tryd.func34, Tryd.ntmps34
        go_wp2_with fail
        refine (lattice_within.calls 1 high _ 1 [(rows.length : Int)] true _ (C_lit1 _ _ _ _ (by simp)) (Nat.le_refl 1) (by unfold lattice_within.f; rw [List.all_cons, HQ.out]; rfl)).mono ?_
        rintro e w1 ⟨rfl, hb1⟩
        have k1 : w1.cell? ⟨w.heap.size, 0, none⟩ = some (.slice A rows.length c) := pw_cell_below hb1 (keep_cell _ (keep_cell _ (keep_cell _ (box_cell _ _ _ rfl))))
        have k2 : w1.cell? ⟨w.heap.size + 1, 0, none⟩ = some (.int .i64 wide) := pw_cell_below hb1 (keep_cell _ (keep_cell _ (box_cell _ _ _ (by simp))))
        have k3 : w1.cell? ⟨w.heap.size + 1 + 1, 0, none⟩ = some (.string among) := pw_cell_below hb1 (keep_cell _ (box_cell _ _ _ (by simp)))
        have HB1 := Aside0.mk (below_then (below_alloc (below_alloc (below_alloc (below_alloc (Below.refl _ _) _) _) _) _) (by simp; omega) hb1)
        clear hb1
        go_wp2_with fail
        refine (contains_str enters_checked1 (Kd.C_below HR.out HB1.out) (checked1_pred k2 k1 (Kd.C_below HR.out HB1.out))).mono ?_
        rintro e w2 ⟨rfl, hb2⟩
        rw [HS.out]
        have HB2 := Aside0.mk (later_below HB1.out hb2)
        have k1' := pw_cell_below hb2 k1
        have k3' := pw_cell_below hb2 k3
        clear hb2 k1 k2 k3
        go_wp2_with fail
        refine (contains_str enters_checked2 (Kd.C_below HR.out HB2.out) (checked2_pred HA.out k3' (HT.out.below HB2.out) HZ.out)).mono ?_
        rintro e w3 ⟨rfl, hb3⟩
        rw [HO.out]
        have HB3 := Aside0.mk (later_below HB2.out hb3)
        clear hb3
        go_wp2
        go_ret
        exact ⟨rfl, HB3.out⟩
      | false =>
        have HO := Aside0.mk ho
        obtain rfl : r = 0 := by rw [hr3, if_neg (by rw [ho]; decide)]
        clear ho hr3
        go_enter Tryd.func34, Tryd.ntmps34
        go_wp2_with fail
        refine (lattice_within.calls 1 high _ 1 [(rows.length : Int)] true _ (C_lit1 _ _ _ _ (by simp)) (Nat.le_refl 1) (by unfold lattice_within.f; rw [List.all_cons, HQ.out]; rfl)).mono ?_
        rintro e w1 ⟨rfl, hb1⟩
        have k1 : w1.cell? ⟨w.heap.size, 0, none⟩ = some (.slice A rows.length c) := pw_cell_below hb1 (keep_cell _ (keep_cell _ (keep_cell _ (box_cell _ _ _ rfl))))
        have k2 : w1.cell? ⟨w.heap.size + 1, 0, none⟩ = some (.int .i64 wide) := pw_cell_below hb1 (keep_cell _ (keep_cell _ (box_cell _ _ _ (by simp))))
        have k3 : w1.cell? ⟨w.heap.size + 1 + 1, 0, none⟩ = some (.string among) := pw_cell_below hb1 (keep_cell _ (box_cell _ _ _ (by simp)))
        have HB1 := Aside0.mk (below_then (below_alloc (below_alloc (below_alloc (below_alloc (Below.refl _ _) _) _) _) _) (by simp; omega) hb1)
        clear hb1
        go_wp2_with fail
        refine (contains_str enters_checked1 (Kd.C_below HR.out HB1.out) (checked1_pred k2 k1 (Kd.C_below HR.out HB1.out))).mono ?_
        rintro e w2 ⟨rfl, hb2⟩
        rw [HS.out]
        have HB2 := Aside0.mk (later_below HB1.out hb2)
        have k1' := pw_cell_below hb2 k1
        have k3' := pw_cell_below hb2 k3
        clear hb2 k1 k2 k3
        go_wp2_with fail
        refine (contains_str enters_checked2 (Kd.C_below HR.out HB2.out) (checked2_pred HA.out k3' (HT.out.below HB2.out) HZ.out)).mono ?_
        rintro e w3 ⟨rfl, hb3⟩
        rw [HO.out]
        have HB3 := Aside0.mk (later_below HB2.out hb3)
        clear hb3
        go_wp2
        go_ret
        exact ⟨rfl, HB3.out⟩

theorem ascii_colours : ascii ⟨#[48, 49, 50, 51]⟩ := by intro d hd; simp at hd; rcases hd with rfl | rfl | rfl | rfl <;> decide
theorem ascii_signs : ascii ⟨#[46, 35]⟩ := by intro d hd; simp at hd; rcases hd with rfl | rfl <;> decide
theorem ascii_seen : ascii ⟨#[48, 49, 50, 51, 63]⟩ := by intro d hd; simp at hd; rcases hd with rfl | rfl | rfl | rfl | rfl <;> decide

/-- Check. -/
def lattice_Check.f (l0 : List ByteArray) : Option Int := some (checkedF l0 8 8 ⟨#[48, 49, 50, 51]⟩)
theorem lattice_Check.calls (A0 : Option Addr) (c0 : Nat) (l0 : List ByteArray) (r : Int) (w : World) (hr0 : Kd.C Kd.string w A0 l0.length l0) (_hc0 : l0.length ≤ c0) (h : lattice_Check.f l0 = some r) (hT : Tabs w) :
    Calls Tryd.prog 20 #[.slice A0 l0.length c0] w fun e w' => e = .returned (.int .i64 r) ∧ Below w.heap.size w w' := by
  obtain rfl := Option.some.inj h
  have HR := Aside0.mk hr0
  have HT := Aside0.mk hT
  clear hr0 hT h
  go_enter Tryd.func20, Tryd.ntmps20
  go_wp2_with (go_at_call 34; refine (checked_calls A0 c0 l0 8 8 _ ascii_colours (by decide) _ HR.out HT.out).mono ?_; rintro e w' ⟨rfl, hb⟩)
  go_ret
  exact ⟨rfl, hb⟩
/-- Bars. -/
def lattice_Bars.f (l0 : List ByteArray) : Option Int := some (checkedF l0 4 4 ⟨#[46, 35]⟩)
theorem lattice_Bars.calls (A0 : Option Addr) (c0 : Nat) (l0 : List ByteArray) (r : Int) (w : World) (hr0 : Kd.C Kd.string w A0 l0.length l0) (_hc0 : l0.length ≤ c0) (h : lattice_Bars.f l0 = some r) (hT : Tabs w) :
    Calls Tryd.prog 22 #[.slice A0 l0.length c0] w fun e w' => e = .returned (.int .i64 r) ∧ Below w.heap.size w w' := by
  obtain rfl := Option.some.inj h
  have HR := Aside0.mk hr0
  have HT := Aside0.mk hT
  clear hr0 hT h
  go_enter Tryd.func22, Tryd.ntmps22
  go_wp2_with (go_at_call 34; refine (checked_calls A0 c0 l0 4 4 _ ascii_signs (by decide) _ HR.out HT.out).mono ?_; rintro e w' ⟨rfl, hb⟩)
  go_ret
  exact ⟨rfl, hb⟩
end Go.Proofs.YteoifcmafkbklaaDoor.X
end
section
-- Written by a program of this claim's author out of the translation (the kit's print, with some functions taken as given). Not trusted: Lean checks it.
namespace Go.Proofs.YteoifcmafkbklaaDoor.PLat
open Go.RowKit Go.Proofs.YteoifcmafkbklaaDoorW.PrintWords Go.Proofs.YteoifcmafkbklaaDoorW.PrintLast Go.Proofs.YteoifcmafkbklaaDoorW.PrintMore Go.Proofs.YteoifcmafkbklaaDoor.X
attribute [local go_sem] max2_int min2_int max_two min_two max_three min_three max_four min_four   -- for this text's walks alone
set_option linter.unusedVariables false
set_option linter.unusedSimpArgs false



def errW : Option Int → Value
  | none => .nilIface
  | some c => .iface 0 (.int .i64 c)
theorem errW_none : errW none = .nilIface := rfl
theorem errW_some (c : Int) : errW (some c) = .iface 0 (.int .i64 c) := rfl

theorem info3 : (Tryd.prog.info? 3).map (fun i => (i.zero, i.size, i.bytes)) = some (some (.int .i64 0), 1, 8) := by kernel_rfl
-- the values' own types

end Go.Proofs.YteoifcmafkbklaaDoor.PLat
end
section
-- Written by a program of this claim's author out of the translation (the kit's print, with some functions taken as given). Not trusted: Lean checks it.
namespace Go.Proofs.YteoifcmafkbklaaDoor.PLat
open Go.RowKit Go.Proofs.YteoifcmafkbklaaDoorW.PrintWords Go.Proofs.YteoifcmafkbklaaDoorW.PrintLast Go.Proofs.YteoifcmafkbklaaDoorW.PrintMore Go.Proofs.YteoifcmafkbklaaDoor.X
attribute [local go_sem] max2_int min2_int max_two min_two max_three min_three max_four min_four   -- for this text's walks alone
set_option linter.unusedVariables false
set_option linter.unusedSimpArgs false

/-! ### lattice_grid_isShift: function 25 -/
def lattice_grid_isShift.f (l0 : List ByteArray) (a1_0 : Int) (a1_1 : Int) : Option (Bool) := if 0 < (l0.length : Int) then ((lattice_within.f 0 (wrap64 (((rdOf ByteArray.empty l0 0).size : Int) - 1)) (([a1_0] : List Int))).bind fun t106 => (if t106 = true then ((lattice_within.f 0 (wrap64 ((l0.length : Int) - 1)) (([a1_1] : List Int))).bind fun t110 => (some t110)) else (some false))) else (none)
def lattice_grid_isShift.T1 : Bool × List (List Nat × List Nat) := (true, [([], []), ([0], [0]), ([1], [1]), ([2], [2]), ([3], [3]), ([], []), ([5], [5]), ([6], [6]), ([4, 7], [4, 7]), ([8, 8], [8]), ([9], [9]), ([10, 9], [9, 10]), ([11, 9], [9, 11]), ([9], [9]), ([13, 9], [9, 13]), ([14, 9], [9, 14]), ([12, 15, 9, 9], [9, 12, 15]), ([9, 16], [9, 16]), ([17, 16, 0, 1, 2, 3, 4, 5, 6, 7, 8, 9, 10, 11, 12, 13, 14, 15, 16, 17], [17])])
def lattice_grid_isShift.B1 : List Nat := [0, 1, 3, 7, 15, 0, 32, 96, 255, 511, 1023, 2047, 4095, 1023, 9215, 25599, 65535, 131071, 262143]
theorem lattice_grid_isShift.tab1 : rtab .any (opsOf Tryd.f25 1) = lattice_grid_isShift.T1 := by kernel_rfl
theorem lattice_grid_isShift.bits1 : waitsOk lattice_grid_isShift.T1.2 lattice_grid_isShift.B1 = true := by kernel_rfl
set_option maxHeartbeats 8000000 in
set_option maxRecDepth 100000 in
theorem lattice_grid_isShift.calls (A0 : Option Addr) (c0 : Nat) (l0 : List ByteArray) (a1_0 : Int) (a1_1 : Int) (r : Bool) (w : World) (hr0 : Kd.C Kd.string w A0 l0.length l0) (hc0 : l0.length ≤ c0) (h : lattice_grid_isShift.f l0 a1_0 a1_1 = some r) :
    Calls Tryd.prog 25 #[.slice A0 l0.length c0, .agg #[.int .i64 a1_0, .int .i64 a1_1]] w fun e w' => e = .returned (.bool r) ∧ Below w.heap.size w w' := by
  have hu55 := Tryd.underlying55
  have HR0 := Aside0.mk hr0
  have HC0 := Aside0.mk hc0
  clear hr0 hc0
  have HB := Aside0.mk (Below.refl w.heap.size w)
  have H : (if 0 < (l0.length : Int) then ((lattice_within.f 0 (wrap64 (((rdOf ByteArray.empty l0 0).size : Int) - 1)) (([a1_0] : List Int))).bind fun t106 => (if t106 = true then ((lattice_within.f 0 (wrap64 ((l0.length : Int) - 1)) (([a1_1] : List Int))).bind fun t110 => (some t110)) else (some false))) else (none)) = some r := h
  clear h
  by_cases c3 : 0 < (l0.length : Int)
  · rw [if_pos c3] at H
    have c3b0 : decide (0 < (l0.length : Int)) = true := decide_eq_true c3
    have c3b1 : decide (0 < l0.length) = true := decide_eq_true (by omega)
    clear c3
    obtain ⟨y103, hy103⟩ : ∃ y_ : List Int, y_ = (([a1_0] : List Int)) := ⟨_, rfl⟩
    replace H : ((lattice_within.f 0 (wrap64 (((rdOf ByteArray.empty l0 0).size : Int) - 1)) y103).bind fun t106 => (if t106 = true then ((lattice_within.f 0 (wrap64 ((l0.length : Int) - 1)) (([a1_1] : List Int))).bind fun t110 => (some t110)) else (some false))) = some r := by first | (rw [hy103]; with_reducible exact H) | (have H2_ := (Option.bind_some _ _).symm.trans H; rw [hy103]; with_reducible exact H2_) | (have H2_ := (Option.bind_some _ _).symm.trans H; with_reducible exact H2_) | with_reducible exact H | (rw [hy103]; exact H) | exact H
    have Ny103 := Aside0.mk hy103
    clear hy103
    replace H := Option.bind_eq_some_iff.mp H
    obtain ⟨t106, A40, H⟩ := H
    replace H : (if t106 = true then ((lattice_within.f 0 (wrap64 ((l0.length : Int) - 1)) (([a1_1] : List Int))).bind fun t110 => (some t110)) else (some false)) = some r := H
    have A4 := Aside0.mk A40
    clear A40
    by_cases c5 : t106 = true
    · subst c5
      have H1 : ((lattice_within.f 0 (wrap64 ((l0.length : Int) - 1)) (([a1_1] : List Int))).bind fun t110 => (some t110)) = some r := by rw [if_pos rfl] at H; exact H
      clear H
      have H := H1
      clear H1
      obtain ⟨y107, hy107⟩ : ∃ y_ : List Int, y_ = (([a1_1] : List Int)) := ⟨_, rfl⟩
      replace H : ((lattice_within.f 0 (wrap64 ((l0.length : Int) - 1)) y107).bind fun t110 => (some t110)) = some r := by first | (rw [hy107]; with_reducible exact H) | (have H2_ := (Option.bind_some _ _).symm.trans H; rw [hy107]; with_reducible exact H2_) | (have H2_ := (Option.bind_some _ _).symm.trans H; with_reducible exact H2_) | with_reducible exact H | (rw [hy107]; exact H) | exact H
      have Ny107 := Aside0.mk hy107
      clear hy107
      replace H := Option.bind_eq_some_iff.mp H
      obtain ⟨t110, A60, H⟩ := H
      replace H : (some t110) = some r := H
      have A6 := Aside0.mk A60
      clear A60
      obtain rfl := Option.some.inj H
      go_enter Tryd.func25, Tryd.ntmps25
      try go_wp2_with (first | ((with_reducible refine gate_dst (N := 3) rfl ?_); (try (refine gate_guard (by rfl) ?_; dsimp only)); refine box_event ?hg (N := 3) ?hd (cs := #[.int .i64 a1_0, .int .i64 a1_1]) (t := 55) ?hr ?_; (case hd => rfl); (case hg => rfl); (case hr => first | (go_simp; done) | (go_simp; rfl)); intro gb101 hg w7 hbox hb; have n0_ := Aside0.mk (below_step (by repeat (first | (with_reducible first | exact HB.out | apply below_alloc | apply pw_below_drewN | apply below_drew1) | exact HB.out)) hb); have n1_ := Aside0.mk (hbox); have n2_ := Aside0.mk ((by rw [hg]; exact (below_size (by repeat (first | (with_reducible first | exact HB.out | apply below_alloc | apply pw_below_drewN | apply below_drew1) | exact HB.out))) : w.heap.size ≤ gb101)); have n3_ := Aside0.mk ((by rw [hg]; exact (below_size (by repeat (first | (with_reducible first | exact HB.out | apply below_alloc | apply pw_below_drewN | apply below_drew1) | exact HB.out))) : w.heap.size ≤ gb101)); clear HB; have HB := n0_; have BK101 := n1_; have GW101 := n2_; have GE101 := n3_; clear n0_ n1_ n2_ n3_; clear hb hbox hg))
      have n0_ := Aside0.mk (blk_drew BK101.out)
      have n1_ := Aside0.mk (below_drew1 HB.out)
      clear BK101
      clear HB
      have BK101 := n0_
      have HB := n1_
      clear n0_ n1_
      have p102 : 0 ≤ (0 : Int) := (by omega)
      have q102 : 0 < (l0.length : Int) := of_decide_eq_true (by first | (with_reducible assumption) | assumption)
      obtain ⟨ad102, e102, hx102_0⟩ := Kd.at_string HR0.out 0 p102 q102
      have hw102_0 := hx102_0
      (try rw [show ((0 : Int)).toNat = 0 from rfl] at hw102_0)
      (try rw [show 0 * 1 = 0 from rfl] at hw102_0)
      (try rw [Addr.add_zero'] at hw102_0)
      cases e102
      have qi102 : (0 < l0.length) = True := eq_true (by omega)
      (try rw [show ((0 : Int)).toNat = 0 from rfl] at hx102_0)
      (try rw [Addr.add_zero'] at hx102_0)
      replace hx102_0 := (HB.out.cell (World.block_lt_of_cell? w _ hx102_0)).trans hx102_0
      replace p102 := eq_true p102
      replace q102 := eq_true q102
      refine start_ (n := 19) (S := fun w' => w'.cell? ⟨gb101, 0, none⟩ = some (.int .i64 a1_0) ∧ w'.cell? ⟨gb101, 1, none⟩ = some (.int .i64 a1_1) ∧ w'.cell? ad102 = some (.string (rdOf ByteArray.empty l0 0))) (ds := []) #[false, false, false, false, false, false, false, false, false, false, false, false, false, false, false, false, false, false, false] (by kernel_rfl) rfl rfl ⟨(blk_cell BK101.out 0).trans rfl, (blk_cell BK101.out 1).trans rfl, ((HB.out.cell (World.block_lt_of_cell? w _ hw102_0)).trans hw102_0)⟩ (fun hHeld => ?_); refine with_tabW lattice_grid_isShift.tab1 lattice_grid_isShift.bits1 (fun HT_ HW_ => ?_)
      generalize w7.drew = w8 at BK101 HB hx102_0 hHeld ⊢
      refine pure_ (i := 0) (N := some 5) (v := ?_) (a' := ?_) #[true, false, false, false, false, false, false, false, false, false, false, false, false, false, false, false, false, false, false] rfl rfl (any_of HT_.out (by kernel_rfl)) (fun _ _ _ h => h) (Or.inl ⟨by rfl, ?_⟩) ?_ ?_
      rotate_left
      · intro w'
        go_simp
        with_reducible rfl
      rotate_left
      · simp only [Act.put, List.setIfInBounds_toArray, List.set_cons_zero, List.set_cons_succ, i64_w, i32_w]
        rfl
      refine pure_ (i := 1) (N := some 6) (v := ?_) (a' := ?_) #[true, true, false, false, false, false, false, false, false, false, false, false, false, false, false, false, false, false, false] rfl rfl (any_of HT_.out (by kernel_rfl)) (fun _ _ _ h => h) (Or.inl ⟨by rfl, ?_⟩) ?_ ?_
      rotate_left
      · intro w'
        go_simp
        with_reducible rfl
      rotate_left
      · simp only [Act.put, List.setIfInBounds_toArray, List.set_cons_zero, List.set_cons_succ, i64_w, i32_w]
        rfl
      refine pure_ (i := 5) (N := some 10) (v := ?_) (a' := ?_) #[true, true, false, false, false, true, false, false, false, false, false, false, false, false, false, false, false, false, false] rfl rfl (any_of HT_.out (by kernel_rfl)) (fun _ _ _ h => h) (Or.inl ⟨by rfl, ?_⟩) ?_ ?_
      rotate_left
      · intro w'
        go_simp
        with_reducible rfl
      rotate_left
      · simp only [Act.put, List.setIfInBounds_toArray, List.set_cons_zero, List.set_cons_succ, i64_w, i32_w]
        rfl
      refine take_ (i := 2) (N := some 7) (v := ?_) (a' := ?_) #[true, true, true, false, false, true, false, false, false, false, false, false, false, false, false, false, false, false, false] rfl rfl (take_ofW HT_.out HW_.out (by kernel_rfl)) (fun _ _ _ h => h) (Or.inl ⟨by rfl, ?_⟩) hHeld ?_ ?_
      rotate_left
      · rintro w' ⟨s0, s1, s2⟩
        go_simp
        with_reducible rfl
      rotate_left
      · simp only [Act.put, List.setIfInBounds_toArray, List.set_cons_zero, List.set_cons_succ, i64_w, i32_w]
        rfl
      refine pure_ (i := 3) (N := some 8) (v := ?_) (a' := ?_) #[true, true, true, true, false, true, false, false, false, false, false, false, false, false, false, false, false, false, false] rfl rfl (any_of HT_.out (by kernel_rfl)) (fun _ _ _ h => h) (Or.inl ⟨by rfl, ?_⟩) ?_ ?_
      rotate_left
      · intro w'
        go_simp
        with_reducible rfl
      rotate_left
      · simp only [Act.put, List.setIfInBounds_toArray, List.set_cons_zero, List.set_cons_succ, i64_w, i32_w]
        rfl
      refine pure_ (i := 4) (N := some 9) (v := ?_) (a' := ?_) #[true, true, true, true, true, true, false, false, false, false, false, false, false, false, false, false, false, false, false] rfl rfl (any_of HT_.out (by kernel_rfl)) (fun _ _ _ h => h) (Or.inl ⟨by rfl, ?_⟩) ?_ ?_
      rotate_left
      · intro w'
        go_simp
        with_reducible rfl
      rotate_left
      · simp only [Act.put, List.setIfInBounds_toArray, List.set_cons_zero, List.set_cons_succ, i64_w, i32_w]
        rfl
      refine take_ (i := 6) (N := some 11) (v := ?_) (a' := ?_) #[true, true, true, true, true, true, true, false, false, false, false, false, false, false, false, false, false, false, false] rfl rfl (take_ofW HT_.out HW_.out (by kernel_rfl)) (fun _ _ _ h => h) (Or.inl ⟨by rfl, ?_⟩) hHeld ?_ ?_
      rotate_left
      · rintro w' ⟨s0, s1, s2⟩
        go_simp
        with_reducible rfl
      rotate_left
      · simp only [Act.put, List.setIfInBounds_toArray, List.set_cons_zero, List.set_cons_succ, i64_w, i32_w]
        rfl
      refine one_ (i := 7) (N := some 12) #[true, true, true, true, true, true, true, true, false, false, false, false, false, false, false, false, false, false, false] rfl rfl (one_of HT_.out (by kernel_rfl)) (by decide) (fun K hK => ?_)
      refine Kd.R_lit_step (Kd.int .i64) _ 3 ?hg (N := 12) ?hd (xs := ([a1_0] : List Int)) (inner := [.int .i64 a1_0]) (ok := fun _ => True) (okp := fun _ => True) ?hr ?hp (fun _ hk => hk) trivial (Below.refl _ _) (Nat.le_refl _) (by simp) ?_; (case hd => rfl); (case hg => rfl); (case hr => first | (go_simp; done) | (go_simp; rfl)); (case hp => exact (Reps.one (show Kd.M (Kd.int .i64) _ _ _ a1_0 [.int .i64 a1_0] from rfl) (Reps.none _ _)))
      intro v104 w9 ho10 hb hg_ hnew_
      clear hg_ hnew_
      (first | rw [← Ny103.out] at ho10 | (simp only [Int.reduceToNat] at ho10; rw [← Ny103.out] at ho10))
      have n0_ := Aside0.mk (Kd.R_lower ho10 (below_size (by repeat (first | (with_reducible first | exact HB.out | apply below_alloc | apply pw_below_drewN | apply below_drew1 | refine below_set ?_ GE101.out) | exact HB.out))))
      have n1_ := Aside0.mk (blk_below (g := gb101) (o := .cells #[.int .i64 a1_0, .int .i64 a1_1] 55 (0, 0)) (by (with_reducible repeat (first | refine blk_drewN ?_ _ | refine blk_drew ?_ | refine blk_alloc ?_ _)); exact BK101.out) hb)
      have n2_ := Aside0.mk (below_step (by repeat (first | (with_reducible first | exact HB.out | apply below_alloc | apply pw_below_drewN | apply below_drew1 | refine below_set ?_ GE101.out) | exact HB.out)) hb)
      clear BK101
      clear HB
      have HO105 := n0_
      have BK101 := n1_
      have HB := n2_
      clear n0_ n1_ n2_
      clear hb ho10
      obtain ⟨Ao11, co11, eo11⟩ := Kd.R_slice HO105.out
      (first | subst eo11 | (injection eo11 with f1_ f2_ f3_; have f4_ := f1_.symm; have f5_ := f3_.symm; clear f1_ f2_ f3_; subst f4_; subst f5_))
      refine hK.out _ _ ⟨(blk_cell BK101.out 0).trans rfl, (blk_cell BK101.out 1).trans rfl, ((HB.out.cell (World.block_lt_of_cell? w _ hw102_0)).trans hw102_0)⟩ (fun hHeld => ?_)
      clear hK K
      refine norm_ (a' := ?_) ?_ ?_
      rotate_left
      · show Act.put _ (some 12) _ = _
        simp only [Act.put, List.setIfInBounds_toArray, List.set_cons_zero, List.set_cons_succ, i64_w, i32_w]
        rfl
      refine one_ (i := 8) (N := some 13) #[true, true, true, true, true, true, true, true, true, false, false, false, false, false, false, false, false, false, false] rfl rfl (one_of HT_.out (by kernel_rfl)) (by decide) (fun K hK => ?_)
      refine goes_ Tryd.func35 (by kernel_rfl) rfl #[.int .i64 0, .int .i64 (wrap64 (((rdOf ByteArray.empty l0 0).size : Int) - 1)), .slice Ao11 y103.length co11] (by rfl) rfl rfl (by (try simp only [List.map_toArray, List.map_cons, List.map_nil]); first | done | rfl | (simp only [List.length_drop, List.length_take]; rfl)) ?_
      with_reducible refine (lattice_within.calls 0 (wrap64 (((rdOf ByteArray.empty l0 0).size : Int) - 1)) _ _ y103 true _ ?side1 ?side2 A4.out).mono ?_
      (case side1 => repeat (first | exact (Kd.R_reads' HO105.out).2.2 | (with_reducible refine Kd.C_alloc ?_ _) | (with_reducible refine Kd.C_drewN ?_ _) | (with_reducible refine Kd.C_drew ?_)))
      (case side2 => exact (Kd.R_reads' HO105.out).2.1)
      rintro e w12 ⟨rfl, hb⟩
      refine ⟨_, rfl, ?_⟩
      have n0_ := Aside0.mk (Kd.R_below (by (with_reducible repeat (first | apply Kd.R_alloc | apply Kd.R_drewN | apply Kd.R_drew)); exact HO105.out) hb)
      have n1_ := Aside0.mk (blk_below (g := gb101) (o := .cells #[.int .i64 a1_0, .int .i64 a1_1] 55 (0, 0)) (by (with_reducible repeat (first | refine blk_drewN ?_ _ | refine blk_drew ?_ | refine blk_alloc ?_ _)); exact BK101.out) hb)
      have n2_ := Aside0.mk (below_step (by repeat (first | (with_reducible first | exact HB.out | apply below_alloc | apply pw_below_drewN | apply below_drew1 | refine below_set ?_ GE101.out) | exact HB.out)) hb)
      clear HO105
      clear BK101
      clear HB
      have HO105 := n0_
      have BK101 := n1_
      have HB := n2_
      clear n0_ n1_ n2_
      (try clear hb)
      (try clear hb2)
      (try clear hk)
      (try clear hi)
      refine hK.out _ _ ⟨(blk_cell BK101.out 0).trans rfl, (blk_cell BK101.out 1).trans rfl, ((HB.out.cell (World.block_lt_of_cell? w _ hw102_0)).trans hw102_0)⟩ (fun hHeld => ?_)
      clear hK K
      refine norm_ (a' := ?_) ?_ ?_
      rotate_left
      · show Act.put _ (some 13) _ = _
        simp only [Act.put, List.setIfInBounds_toArray, List.set_cons_zero, List.set_cons_succ, i64_w, i32_w]
        rfl
      refine pure_ (i := 9) (N := some 14) (v := ?_) (a' := ?_) #[true, true, true, true, true, true, true, true, true, true, false, false, false, false, false, false, false, false, false] rfl rfl (any_of HT_.out (by kernel_rfl)) (fun _ _ _ h => h) (Or.inl ⟨by rfl, ?_⟩) ?_ ?_
      rotate_left
      · intro w'
        go_simp
        with_reducible rfl
      rotate_left
      · simp only [Act.put, List.setIfInBounds_toArray, List.set_cons_zero, List.set_cons_succ, i64_w, i32_w]
        rfl
      refine pure_ (i := 10) (N := some 15) (v := ?_) (a' := ?_) #[true, true, true, true, true, true, true, true, true, true, true, false, false, false, false, false, false, false, false] rfl rfl (any_of HT_.out (by kernel_rfl)) (fun _ _ _ h => h) (Or.inl ⟨by rfl, ?_⟩) ?_ ?_
      rotate_left
      · intro w'
        go_simp
        with_reducible rfl
      rotate_left
      · simp only [Act.put, List.setIfInBounds_toArray, List.set_cons_zero, List.set_cons_succ, i64_w, i32_w]
        rfl
      refine pure_ (i := 11) (N := some 16) (v := ?_) (a' := ?_) #[true, true, true, true, true, true, true, true, true, true, true, true, false, false, false, false, false, false, false] rfl rfl (any_of HT_.out (by kernel_rfl)) (fun _ _ _ h => h) (Or.inl ⟨by rfl, ?_⟩) ?_ ?_
      rotate_left
      · intro w'
        go_simp
        with_reducible rfl
      rotate_left
      · simp only [Act.put, List.setIfInBounds_toArray, List.set_cons_zero, List.set_cons_succ, i64_w, i32_w]
        rfl
      refine pure_ (i := 12) (N := some 17) (v := ?_) (a' := ?_) #[true, true, true, true, true, true, true, true, true, true, true, true, true, false, false, false, false, false, false] rfl rfl (any_of HT_.out (by kernel_rfl)) (fun _ _ _ h => h) (Or.inl ⟨by rfl, ?_⟩) ?_ ?_
      rotate_left
      · intro w'
        go_simp
        with_reducible rfl
      rotate_left
      · simp only [Act.put, List.setIfInBounds_toArray, List.set_cons_zero, List.set_cons_succ, i64_w, i32_w]
        rfl
      refine pure_ (i := 13) (N := some 18) (v := ?_) (a' := ?_) #[true, true, true, true, true, true, true, true, true, true, true, true, true, true, false, false, false, false, false] rfl rfl (any_of HT_.out (by kernel_rfl)) (fun _ _ _ h => h) (Or.inl ⟨by rfl, ?_⟩) ?_ ?_
      rotate_left
      · intro w'
        go_simp
        with_reducible rfl
      rotate_left
      · simp only [Act.put, List.setIfInBounds_toArray, List.set_cons_zero, List.set_cons_succ, i64_w, i32_w]
        rfl
      refine take_ (i := 14) (N := some 19) (v := ?_) (a' := ?_) #[true, true, true, true, true, true, true, true, true, true, true, true, true, true, true, false, false, false, false] rfl rfl (take_ofW HT_.out HW_.out (by kernel_rfl)) (fun _ _ _ h => h) (Or.inl ⟨by rfl, ?_⟩) hHeld ?_ ?_
      rotate_left
      · rintro w' ⟨s0, s1, s2⟩
        go_simp
        with_reducible rfl
      rotate_left
      · simp only [Act.put, List.setIfInBounds_toArray, List.set_cons_zero, List.set_cons_succ, i64_w, i32_w]
        rfl
      refine one_ (i := 15) (N := some 20) #[true, true, true, true, true, true, true, true, true, true, true, true, true, true, true, true, false, false, false] rfl rfl (one_of HT_.out (by kernel_rfl)) (by decide) (fun K hK => ?_)
      refine Kd.R_lit_step (Kd.int .i64) _ 3 ?hg (N := 20) ?hd (xs := ([a1_1] : List Int)) (inner := [.int .i64 a1_1]) (ok := fun _ => True) (okp := fun _ => True) ?hr ?hp (fun _ hk => hk) trivial (Below.refl _ _) (Nat.le_refl _) (by simp) ?_; (case hd => rfl); (case hg => rfl); (case hr => first | (go_simp; done) | (go_simp; rfl)); (case hp => exact (Reps.one (show Kd.M (Kd.int .i64) _ _ _ a1_1 [.int .i64 a1_1] from rfl) (Reps.none _ _)))
      intro v108 w13 ho14 hb hg_ hnew_
      clear hg_ hnew_
      (first | rw [← Ny107.out] at ho14 | (simp only [Int.reduceToNat] at ho14; rw [← Ny107.out] at ho14))
      have n0_ := Aside0.mk (Kd.R_elder' (by (with_reducible repeat (first | apply Kd.R_alloc | apply Kd.R_drewN | apply Kd.R_drew)); exact HO105.out) (Kd.R_base ho14) hb)
      have n1_ := Aside0.mk (Kd.R_lower (Kd.R_new' ho14 (Kd.R_lt (by (with_reducible repeat (first | apply Kd.R_alloc | apply Kd.R_drewN | apply Kd.R_drew)); exact HO105.out))) (below_size (by repeat (first | (with_reducible first | exact HB.out | apply below_alloc | apply pw_below_drewN | apply below_drew1 | refine below_set ?_ GE101.out) | exact HB.out))))
      have n2_ := Aside0.mk (blk_below (g := gb101) (o := .cells #[.int .i64 a1_0, .int .i64 a1_1] 55 (0, 0)) (by (with_reducible repeat (first | refine blk_drewN ?_ _ | refine blk_drew ?_ | refine blk_alloc ?_ _)); exact BK101.out) hb)
      have n3_ := Aside0.mk (below_step (by repeat (first | (with_reducible first | exact HB.out | apply below_alloc | apply pw_below_drewN | apply below_drew1 | refine below_set ?_ GE101.out) | exact HB.out)) hb)
      clear HO105
      clear BK101
      clear HB
      have HO105 := n0_
      have HO109 := n1_
      have BK101 := n2_
      have HB := n3_
      clear n0_ n1_ n2_ n3_
      clear hb ho14
      obtain ⟨Ao15, co15, eo15⟩ := Kd.R_slice HO109.out
      (first | subst eo15 | (injection eo15 with f1_ f2_ f3_; have f4_ := f1_.symm; have f5_ := f3_.symm; clear f1_ f2_ f3_; subst f4_; subst f5_))
      refine hK.out _ _ ⟨(blk_cell BK101.out 0).trans rfl, (blk_cell BK101.out 1).trans rfl, ((HB.out.cell (World.block_lt_of_cell? w _ hw102_0)).trans hw102_0)⟩ (fun hHeld => ?_)
      clear hK K
      refine norm_ (a' := ?_) ?_ ?_
      rotate_left
      · show Act.put _ (some 20) _ = _
        simp only [Act.put, List.setIfInBounds_toArray, List.set_cons_zero, List.set_cons_succ, i64_w, i32_w]
        rfl
      refine one_ (i := 16) (N := some 21) #[true, true, true, true, true, true, true, true, true, true, true, true, true, true, true, true, true, false, false] rfl rfl (one_of HT_.out (by kernel_rfl)) (by decide) (fun K hK => ?_)
      refine goes_ Tryd.func35 (by kernel_rfl) rfl #[.int .i64 0, .int .i64 (wrap64 ((l0.length : Int) - 1)), .slice Ao15 y107.length co15] (by rfl) rfl rfl (by (try simp only [List.map_toArray, List.map_cons, List.map_nil]); first | done | rfl | (simp only [List.length_drop, List.length_take]; rfl)) ?_
      with_reducible refine (lattice_within.calls 0 (wrap64 ((l0.length : Int) - 1)) _ _ y107 t110 _ ?side1 ?side2 A6.out).mono ?_
      (case side1 => repeat (first | exact (Kd.R_reads' HO109.out).2.2 | (with_reducible refine Kd.C_alloc ?_ _) | (with_reducible refine Kd.C_drewN ?_ _) | (with_reducible refine Kd.C_drew ?_)))
      (case side2 => exact (Kd.R_reads' HO109.out).2.1)
      rintro e w16 ⟨rfl, hb⟩
      refine ⟨_, rfl, ?_⟩
      have n0_ := Aside0.mk (Kd.R_below (by (with_reducible repeat (first | apply Kd.R_alloc | apply Kd.R_drewN | apply Kd.R_drew)); exact HO105.out) hb)
      have n1_ := Aside0.mk (Kd.R_below (by (with_reducible repeat (first | apply Kd.R_alloc | apply Kd.R_drewN | apply Kd.R_drew)); exact HO109.out) hb)
      have n2_ := Aside0.mk (blk_below (g := gb101) (o := .cells #[.int .i64 a1_0, .int .i64 a1_1] 55 (0, 0)) (by (with_reducible repeat (first | refine blk_drewN ?_ _ | refine blk_drew ?_ | refine blk_alloc ?_ _)); exact BK101.out) hb)
      have n3_ := Aside0.mk (below_step (by repeat (first | (with_reducible first | exact HB.out | apply below_alloc | apply pw_below_drewN | apply below_drew1 | refine below_set ?_ GE101.out) | exact HB.out)) hb)
      clear HO105
      clear HO109
      clear BK101
      clear HB
      have HO105 := n0_
      have HO109 := n1_
      have BK101 := n2_
      have HB := n3_
      clear n0_ n1_ n2_ n3_
      (try clear hb)
      (try clear hb2)
      (try clear hk)
      (try clear hi)
      refine hK.out _ _ ⟨(blk_cell BK101.out 0).trans rfl, (blk_cell BK101.out 1).trans rfl, ((HB.out.cell (World.block_lt_of_cell? w _ hw102_0)).trans hw102_0)⟩ (fun hHeld => ?_)
      clear hK K
      refine norm_ (a' := ?_) ?_ ?_
      rotate_left
      · show Act.put _ (some 21) _ = _
        simp only [Act.put, List.setIfInBounds_toArray, List.set_cons_zero, List.set_cons_succ, i64_w, i32_w]
        rfl
      refine pure_ (i := 17) (N := some 22) (v := ?_) (a' := ?_) #[true, true, true, true, true, true, true, true, true, true, true, true, true, true, true, true, true, true, false] rfl rfl (any_of HT_.out (by kernel_rfl)) (fun _ _ _ h => h) (Or.inl ⟨by rfl, ?_⟩) ?_ ?_
      rotate_left
      · intro w'
        go_simp
        with_reducible rfl
      rotate_left
      · simp only [Act.put, List.setIfInBounds_toArray, List.set_cons_zero, List.set_cons_succ, i64_w, i32_w]
        rfl
      refine pure_ (i := 18) (N := some 4) (v := ?_) (a' := ?_) #[true, true, true, true, true, true, true, true, true, true, true, true, true, true, true, true, true, true, true] rfl rfl (any_of HT_.out (by kernel_rfl)) (fun _ _ _ h => h) (Or.inl ⟨by rfl, ?_⟩) ?_ ?_
      rotate_left
      · intro w'
        go_simp
        with_reducible rfl
      rotate_left
      · simp only [Act.put, List.setIfInBounds_toArray, List.set_cons_zero, List.set_cons_succ, i64_w, i32_w]
        rfl
      refine done_ (done_of HT_.out (by kernel_rfl)) ?_
      try go_wp2
      go_ret
      exact ⟨by first | rfl | (simp [errW_none, errW_some] <;> rfl) | (simp [*, errW_none, errW_some] <;> rfl), by repeat (first | (with_reducible first | exact HB.out | apply below_alloc | apply pw_below_drewN | apply below_drew1 | refine below_set ?_ GE101.out) | exact HB.out)⟩
    · replace c5 := Bool.eq_false_iff.mpr c5
      subst c5
      have H1 : (some false) = some r := by rw [if_neg (show ¬ (false = true) by decide)] at H; exact H
      clear H
      have H := H1
      clear H1
      obtain rfl := Option.some.inj H
      go_enter Tryd.func25, Tryd.ntmps25
      try go_wp2_with (first | ((with_reducible refine gate_dst (N := 3) rfl ?_); (try (refine gate_guard (by rfl) ?_; dsimp only)); refine box_event ?hg (N := 3) ?hd (cs := #[.int .i64 a1_0, .int .i64 a1_1]) (t := 55) ?hr ?_; (case hd => rfl); (case hg => rfl); (case hr => first | (go_simp; done) | (go_simp; rfl)); intro gb101 hg w17 hbox hb; have n0_ := Aside0.mk (below_step (by repeat (first | (with_reducible first | exact HB.out | apply below_alloc | apply pw_below_drewN | apply below_drew1) | exact HB.out)) hb); have n1_ := Aside0.mk (hbox); have n2_ := Aside0.mk ((by rw [hg]; exact (below_size (by repeat (first | (with_reducible first | exact HB.out | apply below_alloc | apply pw_below_drewN | apply below_drew1) | exact HB.out))) : w.heap.size ≤ gb101)); have n3_ := Aside0.mk ((by rw [hg]; exact (below_size (by repeat (first | (with_reducible first | exact HB.out | apply below_alloc | apply pw_below_drewN | apply below_drew1) | exact HB.out))) : w.heap.size ≤ gb101)); clear HB; have HB := n0_; have BK101 := n1_; have GW101 := n2_; have GE101 := n3_; clear n0_ n1_ n2_ n3_; clear hb hbox hg))
      have n0_ := Aside0.mk (blk_drew BK101.out)
      have n1_ := Aside0.mk (below_drew1 HB.out)
      clear BK101
      clear HB
      have BK101 := n0_
      have HB := n1_
      clear n0_ n1_
      have p102 : 0 ≤ (0 : Int) := (by omega)
      have q102 : 0 < (l0.length : Int) := of_decide_eq_true (by first | (with_reducible assumption) | assumption)
      obtain ⟨ad102, e102, hx102_0⟩ := Kd.at_string HR0.out 0 p102 q102
      have hw102_0 := hx102_0
      (try rw [show ((0 : Int)).toNat = 0 from rfl] at hw102_0)
      (try rw [show 0 * 1 = 0 from rfl] at hw102_0)
      (try rw [Addr.add_zero'] at hw102_0)
      cases e102
      have qi102 : (0 < l0.length) = True := eq_true (by omega)
      (try rw [show ((0 : Int)).toNat = 0 from rfl] at hx102_0)
      (try rw [Addr.add_zero'] at hx102_0)
      replace hx102_0 := (HB.out.cell (World.block_lt_of_cell? w _ hx102_0)).trans hx102_0
      replace p102 := eq_true p102
      replace q102 := eq_true q102
      refine start_ (n := 19) (S := fun w' => w'.cell? ⟨gb101, 0, none⟩ = some (.int .i64 a1_0) ∧ w'.cell? ⟨gb101, 1, none⟩ = some (.int .i64 a1_1) ∧ w'.cell? ad102 = some (.string (rdOf ByteArray.empty l0 0))) (ds := []) #[false, false, false, false, false, false, false, false, false, false, false, false, false, false, false, false, false, false, false] (by kernel_rfl) rfl rfl ⟨(blk_cell BK101.out 0).trans rfl, (blk_cell BK101.out 1).trans rfl, ((HB.out.cell (World.block_lt_of_cell? w _ hw102_0)).trans hw102_0)⟩ (fun hHeld => ?_); refine with_tabW lattice_grid_isShift.tab1 lattice_grid_isShift.bits1 (fun HT_ HW_ => ?_)
      generalize w17.drew = w18 at BK101 HB hx102_0 hHeld ⊢
      refine pure_ (i := 0) (N := some 5) (v := ?_) (a' := ?_) #[true, false, false, false, false, false, false, false, false, false, false, false, false, false, false, false, false, false, false] rfl rfl (any_of HT_.out (by kernel_rfl)) (fun _ _ _ h => h) (Or.inl ⟨by rfl, ?_⟩) ?_ ?_
      rotate_left
      · intro w'
        go_simp
        with_reducible rfl
      rotate_left
      · simp only [Act.put, List.setIfInBounds_toArray, List.set_cons_zero, List.set_cons_succ, i64_w, i32_w]
        rfl
      refine pure_ (i := 1) (N := some 6) (v := ?_) (a' := ?_) #[true, true, false, false, false, false, false, false, false, false, false, false, false, false, false, false, false, false, false] rfl rfl (any_of HT_.out (by kernel_rfl)) (fun _ _ _ h => h) (Or.inl ⟨by rfl, ?_⟩) ?_ ?_
      rotate_left
      · intro w'
        go_simp
        with_reducible rfl
      rotate_left
      · simp only [Act.put, List.setIfInBounds_toArray, List.set_cons_zero, List.set_cons_succ, i64_w, i32_w]
        rfl
      refine pure_ (i := 5) (N := some 10) (v := ?_) (a' := ?_) #[true, true, false, false, false, true, false, false, false, false, false, false, false, false, false, false, false, false, false] rfl rfl (any_of HT_.out (by kernel_rfl)) (fun _ _ _ h => h) (Or.inl ⟨by rfl, ?_⟩) ?_ ?_
      rotate_left
      · intro w'
        go_simp
        with_reducible rfl
      rotate_left
      · simp only [Act.put, List.setIfInBounds_toArray, List.set_cons_zero, List.set_cons_succ, i64_w, i32_w]
        rfl
      refine take_ (i := 2) (N := some 7) (v := ?_) (a' := ?_) #[true, true, true, false, false, true, false, false, false, false, false, false, false, false, false, false, false, false, false] rfl rfl (take_ofW HT_.out HW_.out (by kernel_rfl)) (fun _ _ _ h => h) (Or.inl ⟨by rfl, ?_⟩) hHeld ?_ ?_
      rotate_left
      · rintro w' ⟨s0, s1, s2⟩
        go_simp
        with_reducible rfl
      rotate_left
      · simp only [Act.put, List.setIfInBounds_toArray, List.set_cons_zero, List.set_cons_succ, i64_w, i32_w]
        rfl
      refine pure_ (i := 3) (N := some 8) (v := ?_) (a' := ?_) #[true, true, true, true, false, true, false, false, false, false, false, false, false, false, false, false, false, false, false] rfl rfl (any_of HT_.out (by kernel_rfl)) (fun _ _ _ h => h) (Or.inl ⟨by rfl, ?_⟩) ?_ ?_
      rotate_left
      · intro w'
        go_simp
        with_reducible rfl
      rotate_left
      · simp only [Act.put, List.setIfInBounds_toArray, List.set_cons_zero, List.set_cons_succ, i64_w, i32_w]
        rfl
      refine pure_ (i := 4) (N := some 9) (v := ?_) (a' := ?_) #[true, true, true, true, true, true, false, false, false, false, false, false, false, false, false, false, false, false, false] rfl rfl (any_of HT_.out (by kernel_rfl)) (fun _ _ _ h => h) (Or.inl ⟨by rfl, ?_⟩) ?_ ?_
      rotate_left
      · intro w'
        go_simp
        with_reducible rfl
      rotate_left
      · simp only [Act.put, List.setIfInBounds_toArray, List.set_cons_zero, List.set_cons_succ, i64_w, i32_w]
        rfl
      refine take_ (i := 6) (N := some 11) (v := ?_) (a' := ?_) #[true, true, true, true, true, true, true, false, false, false, false, false, false, false, false, false, false, false, false] rfl rfl (take_ofW HT_.out HW_.out (by kernel_rfl)) (fun _ _ _ h => h) (Or.inl ⟨by rfl, ?_⟩) hHeld ?_ ?_
      rotate_left
      · rintro w' ⟨s0, s1, s2⟩
        go_simp
        with_reducible rfl
      rotate_left
      · simp only [Act.put, List.setIfInBounds_toArray, List.set_cons_zero, List.set_cons_succ, i64_w, i32_w]
        rfl
      refine one_ (i := 7) (N := some 12) #[true, true, true, true, true, true, true, true, false, false, false, false, false, false, false, false, false, false, false] rfl rfl (one_of HT_.out (by kernel_rfl)) (by decide) (fun K hK => ?_)
      refine Kd.R_lit_step (Kd.int .i64) _ 3 ?hg (N := 12) ?hd (xs := ([a1_0] : List Int)) (inner := [.int .i64 a1_0]) (ok := fun _ => True) (okp := fun _ => True) ?hr ?hp (fun _ hk => hk) trivial (Below.refl _ _) (Nat.le_refl _) (by simp) ?_; (case hd => rfl); (case hg => rfl); (case hr => first | (go_simp; done) | (go_simp; rfl)); (case hp => exact (Reps.one (show Kd.M (Kd.int .i64) _ _ _ a1_0 [.int .i64 a1_0] from rfl) (Reps.none _ _)))
      intro v104 w19 ho20 hb hg_ hnew_
      clear hg_ hnew_
      (first | rw [← Ny103.out] at ho20 | (simp only [Int.reduceToNat] at ho20; rw [← Ny103.out] at ho20))
      have n0_ := Aside0.mk (Kd.R_lower ho20 (below_size (by repeat (first | (with_reducible first | exact HB.out | apply below_alloc | apply pw_below_drewN | apply below_drew1 | refine below_set ?_ GE101.out) | exact HB.out))))
      have n1_ := Aside0.mk (blk_below (g := gb101) (o := .cells #[.int .i64 a1_0, .int .i64 a1_1] 55 (0, 0)) (by (with_reducible repeat (first | refine blk_drewN ?_ _ | refine blk_drew ?_ | refine blk_alloc ?_ _)); exact BK101.out) hb)
      have n2_ := Aside0.mk (below_step (by repeat (first | (with_reducible first | exact HB.out | apply below_alloc | apply pw_below_drewN | apply below_drew1 | refine below_set ?_ GE101.out) | exact HB.out)) hb)
      clear BK101
      clear HB
      have HO105 := n0_
      have BK101 := n1_
      have HB := n2_
      clear n0_ n1_ n2_
      clear hb ho20
      obtain ⟨Ao21, co21, eo21⟩ := Kd.R_slice HO105.out
      (first | subst eo21 | (injection eo21 with f1_ f2_ f3_; have f4_ := f1_.symm; have f5_ := f3_.symm; clear f1_ f2_ f3_; subst f4_; subst f5_))
      refine hK.out _ _ ⟨(blk_cell BK101.out 0).trans rfl, (blk_cell BK101.out 1).trans rfl, ((HB.out.cell (World.block_lt_of_cell? w _ hw102_0)).trans hw102_0)⟩ (fun hHeld => ?_)
      clear hK K
      refine norm_ (a' := ?_) ?_ ?_
      rotate_left
      · show Act.put _ (some 12) _ = _
        simp only [Act.put, List.setIfInBounds_toArray, List.set_cons_zero, List.set_cons_succ, i64_w, i32_w]
        rfl
      refine one_ (i := 8) (N := some 13) #[true, true, true, true, true, true, true, true, true, false, false, false, false, false, false, false, false, false, false] rfl rfl (one_of HT_.out (by kernel_rfl)) (by decide) (fun K hK => ?_)
      refine goes_ Tryd.func35 (by kernel_rfl) rfl #[.int .i64 0, .int .i64 (wrap64 (((rdOf ByteArray.empty l0 0).size : Int) - 1)), .slice Ao21 y103.length co21] (by rfl) rfl rfl (by (try simp only [List.map_toArray, List.map_cons, List.map_nil]); first | done | rfl | (simp only [List.length_drop, List.length_take]; rfl)) ?_
      with_reducible refine (lattice_within.calls 0 (wrap64 (((rdOf ByteArray.empty l0 0).size : Int) - 1)) _ _ y103 false _ ?side1 ?side2 A4.out).mono ?_
      (case side1 => repeat (first | exact (Kd.R_reads' HO105.out).2.2 | (with_reducible refine Kd.C_alloc ?_ _) | (with_reducible refine Kd.C_drewN ?_ _) | (with_reducible refine Kd.C_drew ?_)))
      (case side2 => exact (Kd.R_reads' HO105.out).2.1)
      rintro e w22 ⟨rfl, hb⟩
      refine ⟨_, rfl, ?_⟩
      have n0_ := Aside0.mk (Kd.R_below (by (with_reducible repeat (first | apply Kd.R_alloc | apply Kd.R_drewN | apply Kd.R_drew)); exact HO105.out) hb)
      have n1_ := Aside0.mk (blk_below (g := gb101) (o := .cells #[.int .i64 a1_0, .int .i64 a1_1] 55 (0, 0)) (by (with_reducible repeat (first | refine blk_drewN ?_ _ | refine blk_drew ?_ | refine blk_alloc ?_ _)); exact BK101.out) hb)
      have n2_ := Aside0.mk (below_step (by repeat (first | (with_reducible first | exact HB.out | apply below_alloc | apply pw_below_drewN | apply below_drew1 | refine below_set ?_ GE101.out) | exact HB.out)) hb)
      clear HO105
      clear BK101
      clear HB
      have HO105 := n0_
      have BK101 := n1_
      have HB := n2_
      clear n0_ n1_ n2_
      (try clear hb)
      (try clear hb2)
      (try clear hk)
      (try clear hi)
      refine hK.out _ _ ⟨(blk_cell BK101.out 0).trans rfl, (blk_cell BK101.out 1).trans rfl, ((HB.out.cell (World.block_lt_of_cell? w _ hw102_0)).trans hw102_0)⟩ (fun hHeld => ?_)
      clear hK K
      refine norm_ (a' := ?_) ?_ ?_
      rotate_left
      · show Act.put _ (some 13) _ = _
        simp only [Act.put, List.setIfInBounds_toArray, List.set_cons_zero, List.set_cons_succ, i64_w, i32_w]
        rfl
      refine pure_ (i := 9) (N := some 14) (v := ?_) (a' := ?_) #[true, true, true, true, true, true, true, true, true, true, false, false, false, false, false, false, false, false, false] rfl rfl (any_of HT_.out (by kernel_rfl)) (fun _ _ _ h => h) (Or.inl ⟨by rfl, ?_⟩) ?_ ?_
      rotate_left
      · intro w'
        go_simp
        with_reducible rfl
      rotate_left
      · simp only [Act.put, List.setIfInBounds_toArray, List.set_cons_zero, List.set_cons_succ, i64_w, i32_w]
        rfl
      refine pure_ (i := 10) (N := some 15) (v := undef) (a' := ?_) #[true, true, true, true, true, true, true, true, true, true, true, false, false, false, false, false, false, false, false] rfl rfl (any_of HT_.out (by kernel_rfl)) (fun _ _ _ h => h) (Or.inr ⟨by rfl, rfl⟩) ?_ ?_
      rotate_left
      · simp only [Act.put, List.setIfInBounds_toArray, List.set_cons_zero, List.set_cons_succ, i64_w, i32_w]
        rfl
      refine pure_ (i := 11) (N := some 16) (v := undef) (a' := ?_) #[true, true, true, true, true, true, true, true, true, true, true, true, false, false, false, false, false, false, false] rfl rfl (any_of HT_.out (by kernel_rfl)) (fun _ _ _ h => h) (Or.inr ⟨by rfl, rfl⟩) ?_ ?_
      rotate_left
      · simp only [Act.put, List.setIfInBounds_toArray, List.set_cons_zero, List.set_cons_succ, i64_w, i32_w]
        rfl
      refine pure_ (i := 12) (N := some 17) (v := undef) (a' := ?_) #[true, true, true, true, true, true, true, true, true, true, true, true, true, false, false, false, false, false, false] rfl rfl (any_of HT_.out (by kernel_rfl)) (fun _ _ _ h => h) (Or.inr ⟨by rfl, rfl⟩) ?_ ?_
      rotate_left
      · simp only [Act.put, List.setIfInBounds_toArray, List.set_cons_zero, List.set_cons_succ, i64_w, i32_w]
        rfl
      refine pure_ (i := 13) (N := some 18) (v := undef) (a' := ?_) #[true, true, true, true, true, true, true, true, true, true, true, true, true, true, false, false, false, false, false] rfl rfl (any_of HT_.out (by kernel_rfl)) (fun _ _ _ h => h) (Or.inr ⟨by rfl, rfl⟩) ?_ ?_
      rotate_left
      · simp only [Act.put, List.setIfInBounds_toArray, List.set_cons_zero, List.set_cons_succ, i64_w, i32_w]
        rfl
      refine pure_ (i := 14) (N := some 19) (v := undef) (a' := ?_) #[true, true, true, true, true, true, true, true, true, true, true, true, true, true, true, false, false, false, false] rfl rfl (any_of HT_.out (by kernel_rfl)) (fun _ _ _ h => h) (Or.inr ⟨by rfl, rfl⟩) ?_ ?_
      rotate_left
      · simp only [Act.put, List.setIfInBounds_toArray, List.set_cons_zero, List.set_cons_succ, i64_w, i32_w]
        rfl
      refine pure_ (i := 15) (N := some 20) (v := undef) (a' := ?_) #[true, true, true, true, true, true, true, true, true, true, true, true, true, true, true, true, false, false, false] rfl rfl (any_of HT_.out (by kernel_rfl)) (fun _ _ _ h => h) (Or.inr ⟨by rfl, rfl⟩) ?_ ?_
      rotate_left
      · simp only [Act.put, List.setIfInBounds_toArray, List.set_cons_zero, List.set_cons_succ, i64_w, i32_w]
        rfl
      refine pure_ (i := 16) (N := some 21) (v := undef) (a' := ?_) #[true, true, true, true, true, true, true, true, true, true, true, true, true, true, true, true, true, false, false] rfl rfl (any_of HT_.out (by kernel_rfl)) (fun _ _ _ h => h) (Or.inr ⟨by rfl, rfl⟩) ?_ ?_
      rotate_left
      · simp only [Act.put, List.setIfInBounds_toArray, List.set_cons_zero, List.set_cons_succ, i64_w, i32_w]
        rfl
      refine pure_ (i := 17) (N := some 22) (v := ?_) (a' := ?_) #[true, true, true, true, true, true, true, true, true, true, true, true, true, true, true, true, true, true, false] rfl rfl (any_of HT_.out (by kernel_rfl)) (fun _ _ _ h => h) (Or.inl ⟨by rfl, ?_⟩) ?_ ?_
      rotate_left
      · intro w'
        go_simp
        with_reducible rfl
      rotate_left
      · simp only [Act.put, List.setIfInBounds_toArray, List.set_cons_zero, List.set_cons_succ, i64_w, i32_w]
        rfl
      refine pure_ (i := 18) (N := some 4) (v := ?_) (a' := ?_) #[true, true, true, true, true, true, true, true, true, true, true, true, true, true, true, true, true, true, true] rfl rfl (any_of HT_.out (by kernel_rfl)) (fun _ _ _ h => h) (Or.inl ⟨by rfl, ?_⟩) ?_ ?_
      rotate_left
      · intro w'
        go_simp
        with_reducible rfl
      rotate_left
      · simp only [Act.put, List.setIfInBounds_toArray, List.set_cons_zero, List.set_cons_succ, i64_w, i32_w]
        rfl
      refine done_ (done_of HT_.out (by kernel_rfl)) ?_
      try go_wp2
      go_ret
      exact ⟨by first | rfl | (simp [errW_none, errW_some] <;> rfl) | (simp [*, errW_none, errW_some] <;> rfl), by repeat (first | (with_reducible first | exact HB.out | apply below_alloc | apply pw_below_drewN | apply below_drew1 | refine below_set ?_ GE101.out) | exact HB.out)⟩
  · rw [if_neg c3] at H
    exact absurd H (by simp)

/-! ### lattice_grid_open: function 36 -/
def lattice_grid_open.f (l0 : List ByteArray) (a1_0 : Int) (a1_1 : Int) (a2 : Int) (a3 : Int) : Option (Bool) := if (l0.length : Int) = 0 then (none) else (if 0 ≤ (Int.tmod (wrap64 ((wrap64 (a3 + (l0.length : Int))) - a1_1)) (l0.length : Int)) then (if (Int.tmod (wrap64 ((wrap64 (a3 + (l0.length : Int))) - a1_1)) (l0.length : Int)) < (l0.length : Int) then (if ((rdOf ByteArray.empty l0 (Int.tmod (wrap64 ((wrap64 (a3 + (l0.length : Int))) - a1_1)) (l0.length : Int))).size : Int) = 0 then (none) else (if 0 ≤ (Int.tmod (wrap64 ((wrap64 (a2 + ((rdOf ByteArray.empty l0 (Int.tmod (wrap64 ((wrap64 (a3 + (l0.length : Int))) - a1_1)) (l0.length : Int))).size : Int))) - a1_0)) ((rdOf ByteArray.empty l0 (Int.tmod (wrap64 ((wrap64 (a3 + (l0.length : Int))) - a1_1)) (l0.length : Int))).size : Int)) then (if (Int.tmod (wrap64 ((wrap64 (a2 + ((rdOf ByteArray.empty l0 (Int.tmod (wrap64 ((wrap64 (a3 + (l0.length : Int))) - a1_1)) (l0.length : Int))).size : Int))) - a1_0)) ((rdOf ByteArray.empty l0 (Int.tmod (wrap64 ((wrap64 (a3 + (l0.length : Int))) - a1_1)) (l0.length : Int))).size : Int)) < ((rdOf ByteArray.empty l0 (Int.tmod (wrap64 ((wrap64 (a3 + (l0.length : Int))) - a1_1)) (l0.length : Int))).size : Int) then (some ((bt (rdOf ByteArray.empty l0 (Int.tmod (wrap64 ((wrap64 (a3 + (l0.length : Int))) - a1_1)) (l0.length : Int))) (Int.tmod (wrap64 ((wrap64 (a2 + ((rdOf ByteArray.empty l0 (Int.tmod (wrap64 ((wrap64 (a3 + (l0.length : Int))) - a1_1)) (l0.length : Int))).size : Int))) - a1_0)) ((rdOf ByteArray.empty l0 (Int.tmod (wrap64 ((wrap64 (a3 + (l0.length : Int))) - a1_1)) (l0.length : Int))).size : Int))) == 46)) else (none)) else (none))) else (none)) else (none))
set_option maxHeartbeats 8000000 in
set_option maxRecDepth 100000 in
theorem lattice_grid_open.calls (A0 : Option Addr) (c0 : Nat) (l0 : List ByteArray) (a1_0 : Int) (a1_1 : Int) (a2 : Int) (a3 : Int) (r : Bool) (w : World) (hr0 : Kd.C Kd.string w A0 l0.length l0) (hc0 : l0.length ≤ c0) (h : lattice_grid_open.f l0 a1_0 a1_1 a2 a3 = some r) :
    Calls Tryd.prog 36 #[.slice A0 l0.length c0, .agg #[.int .i64 a1_0, .int .i64 a1_1], .int .i64 a2, .int .i64 a3] w fun e w' => e = .returned (.bool r) ∧ Below w.heap.size w w' := by
  have hu55 := Tryd.underlying55
  have HR0 := Aside0.mk hr0
  have HC0 := Aside0.mk hc0
  clear hr0 hc0
  have HB := Aside0.mk (Below.refl w.heap.size w)
  have H : (if (l0.length : Int) = 0 then (none) else (if 0 ≤ (Int.tmod (wrap64 ((wrap64 (a3 + (l0.length : Int))) - a1_1)) (l0.length : Int)) then (if (Int.tmod (wrap64 ((wrap64 (a3 + (l0.length : Int))) - a1_1)) (l0.length : Int)) < (l0.length : Int) then (if ((rdOf ByteArray.empty l0 (Int.tmod (wrap64 ((wrap64 (a3 + (l0.length : Int))) - a1_1)) (l0.length : Int))).size : Int) = 0 then (none) else (if 0 ≤ (Int.tmod (wrap64 ((wrap64 (a2 + ((rdOf ByteArray.empty l0 (Int.tmod (wrap64 ((wrap64 (a3 + (l0.length : Int))) - a1_1)) (l0.length : Int))).size : Int))) - a1_0)) ((rdOf ByteArray.empty l0 (Int.tmod (wrap64 ((wrap64 (a3 + (l0.length : Int))) - a1_1)) (l0.length : Int))).size : Int)) then (if (Int.tmod (wrap64 ((wrap64 (a2 + ((rdOf ByteArray.empty l0 (Int.tmod (wrap64 ((wrap64 (a3 + (l0.length : Int))) - a1_1)) (l0.length : Int))).size : Int))) - a1_0)) ((rdOf ByteArray.empty l0 (Int.tmod (wrap64 ((wrap64 (a3 + (l0.length : Int))) - a1_1)) (l0.length : Int))).size : Int)) < ((rdOf ByteArray.empty l0 (Int.tmod (wrap64 ((wrap64 (a3 + (l0.length : Int))) - a1_1)) (l0.length : Int))).size : Int) then (some ((bt (rdOf ByteArray.empty l0 (Int.tmod (wrap64 ((wrap64 (a3 + (l0.length : Int))) - a1_1)) (l0.length : Int))) (Int.tmod (wrap64 ((wrap64 (a2 + ((rdOf ByteArray.empty l0 (Int.tmod (wrap64 ((wrap64 (a3 + (l0.length : Int))) - a1_1)) (l0.length : Int))).size : Int))) - a1_0)) ((rdOf ByteArray.empty l0 (Int.tmod (wrap64 ((wrap64 (a3 + (l0.length : Int))) - a1_1)) (l0.length : Int))).size : Int))) == 46)) else (none)) else (none))) else (none)) else (none))) = some r := h
  clear h
  by_cases c5 : (l0.length : Int) = 0
  · rw [if_pos c5] at H
    exact absurd H (by simp)
  · rw [if_neg c5] at H
    have c5b0 : ((l0.length : Int) == 0) = false := beq_eq_false_iff_ne.mpr c5
    have c5b1 : ((l0.length : Int) != 0) = true := bne_iff_ne.mpr c5
    have c5b2 : ¬ (l0 = []) := fun h_ => c5 (by rw [h_]; rfl)
    obtain ⟨ji6, hji6⟩ : ∃ j_ : Int, (Int.tmod (wrap64 ((wrap64 (a3 + (l0.length : Int))) - a1_1)) (l0.length : Int)) = j_ := ⟨_, rfl⟩
    replace H : (if 0 ≤ (ji6) then (if (ji6) < (l0.length : Int) then (if ((rdOf ByteArray.empty l0 (ji6)).size : Int) = 0 then (none) else (if 0 ≤ (Int.tmod (wrap64 ((wrap64 (a2 + ((rdOf ByteArray.empty l0 (ji6)).size : Int))) - a1_0)) ((rdOf ByteArray.empty l0 (ji6)).size : Int)) then (if (Int.tmod (wrap64 ((wrap64 (a2 + ((rdOf ByteArray.empty l0 (ji6)).size : Int))) - a1_0)) ((rdOf ByteArray.empty l0 (ji6)).size : Int)) < ((rdOf ByteArray.empty l0 (ji6)).size : Int) then (some ((bt (rdOf ByteArray.empty l0 (ji6)) (Int.tmod (wrap64 ((wrap64 (a2 + ((rdOf ByteArray.empty l0 (ji6)).size : Int))) - a1_0)) ((rdOf ByteArray.empty l0 (ji6)).size : Int))) == 46)) else (none)) else (none))) else (none)) else (none)) = some r := by first | (rw [hji6] at H; exact H) | (simp only [hji6] at H ⊢; exact H)
    by_cases c7 : 0 ≤ (ji6)
    · rw [if_pos c7] at H
      have c7b0 : decide (0 ≤ (ji6)) = true := decide_eq_true c7
      clear c7
      by_cases c8 : (ji6) < (l0.length : Int)
      · rw [if_pos c8] at H
        have c8b0 : decide ((ji6) < (l0.length : Int)) = true := decide_eq_true c8
        clear c8
        by_cases c9 : ((rdOf ByteArray.empty l0 (ji6)).size : Int) = 0
        · rw [if_pos c9] at H
          exact absurd H (by simp)
        · rw [if_neg c9] at H
          have c9b0 : (((rdOf ByteArray.empty l0 (ji6)).size : Int) == 0) = false := beq_eq_false_iff_ne.mpr c9
          have c9b1 : (((rdOf ByteArray.empty l0 (ji6)).size : Int) != 0) = true := bne_iff_ne.mpr c9
          obtain ⟨ji10, hji10⟩ : ∃ j_ : Int, (Int.tmod (wrap64 ((wrap64 (a2 + ((rdOf ByteArray.empty l0 (ji6)).size : Int))) - a1_0)) ((rdOf ByteArray.empty l0 (ji6)).size : Int)) = j_ := ⟨_, rfl⟩
          replace H : (if 0 ≤ (ji10) then (if (ji10) < ((rdOf ByteArray.empty l0 (ji6)).size : Int) then (some ((bt (rdOf ByteArray.empty l0 (ji6)) (ji10)) == 46)) else (none)) else (none)) = some r := by first | (rw [hji10] at H; exact H) | (simp only [hji10] at H ⊢; exact H)
          by_cases c11 : 0 ≤ (ji10)
          · rw [if_pos c11] at H
            have c11b0 : decide (0 ≤ (ji10)) = true := decide_eq_true c11
            clear c11
            by_cases c12 : (ji10) < ((rdOf ByteArray.empty l0 (ji6)).size : Int)
            · rw [if_pos c12] at H
              have c12b0 : decide ((ji10) < ((rdOf ByteArray.empty l0 (ji6)).size : Int)) = true := decide_eq_true c12
              clear c12
              obtain rfl := Option.some.inj H
              go_enter Tryd.func36, Tryd.ntmps36
              go_wp2_with (first | ((with_reducible refine gate_dst (N := 5) rfl ?_); refine box_event ?hg (N := 5) ?hd (cs := #[.int .i64 a1_0, .int .i64 a1_1]) (t := 55) ?hr ?_; (case hd => rfl); (case hg => rfl); (case hr => first | (go_simp; done) | (go_simp; rfl)); intro gb111 hg w14 hbox hb; have n0_ := Aside0.mk (below_step (by repeat (first | (with_reducible first | exact HB.out | apply below_alloc | apply pw_below_drewN | apply below_drew1) | exact HB.out)) hb); have n1_ := Aside0.mk (hbox); have n2_ := Aside0.mk ((by rw [hg]; exact (below_size (by repeat (first | (with_reducible first | exact HB.out | apply below_alloc | apply pw_below_drewN | apply below_drew1) | exact HB.out))) : w.heap.size ≤ gb111)); have n3_ := Aside0.mk ((by rw [hg]; exact (below_size (by repeat (first | (with_reducible first | exact HB.out | apply below_alloc | apply pw_below_drewN | apply below_drew1) | exact HB.out))) : w.heap.size ≤ gb111)); clear HB; have HB := n0_; have BK111 := n1_; have GW111 := n2_; have GE111 := n3_; clear n0_ n1_ n2_ n3_; clear hb hbox hg; have hcz15_0 : w14.cell? ⟨gb111, 0, none⟩ = some (.int .i64 a1_0) := (blk_cell BK111.out 0).trans rfl; have hcz15_1 : w14.cell? ⟨gb111, 1, none⟩ = some (.int .i64 a1_1) := (blk_cell BK111.out 1).trans rfl; have hfz15_0 := blk_frozen BK111.out 0; have hfz15_1 := blk_frozen BK111.out 1; have p112 : 0 ≤ ((ji6) : Int) := of_decide_eq_true (by first | (with_reducible assumption) | assumption); have q112 : (ji6) < (l0.length : Int) := of_decide_eq_true (by first | (with_reducible assumption) | assumption); obtain ⟨ad112, e112, hx112_0⟩ := Kd.at_string HR0.out (ji6) p112 q112; cases e112; replace hx112_0 := (HB.out.cell (World.block_lt_of_cell? w _ hx112_0)).trans hx112_0; replace p112 := eq_true p112; replace q112 := eq_true q112; have p13 : 0 ≤ ((ji10) : Int) := of_decide_eq_true (by first | (with_reducible assumption) | assumption); have q13 : (ji10) < ((rdOf ByteArray.empty l0 (ji6)).size : Int) := of_decide_eq_true (by first | (with_reducible assumption) | assumption); have hx13 := bt_at (rdOf ByteArray.empty l0 (ji6)) (ji10); replace p13 := eq_true p13; replace q13 := eq_true q13))
              go_ret
              exact ⟨by first | rfl | (simp [errW_none, errW_some] <;> rfl) | (simp only [← hji6, ← hji10]; first | rfl | (simp [errW_none, errW_some] <;> rfl)) | (simp [*, errW_none, errW_some] <;> rfl), by repeat (first | (with_reducible first | exact HB.out | apply below_alloc | apply pw_below_drewN | apply below_drew1 | refine below_set ?_ GE111.out) | exact HB.out)⟩
            · rw [if_neg c12] at H
              exact absurd H (by simp)
          · rw [if_neg c11] at H
            exact absurd H (by simp)
      · rw [if_neg c8] at H
        exact absurd H (by simp)
    · rw [if_neg c7] at H
      exact absurd H (by simp)

/-! ### lattice_unless: function 24 -/
def lattice_unless.f (a0 : Bool) (a1 : Int) : Option (Int) := if a0 = true then (some 0) else (some a1)
set_option maxHeartbeats 8000000 in
set_option maxRecDepth 100000 in
theorem lattice_unless.calls (a0 : Bool) (a1 : Int) (r : Int) (w : World) (h : lattice_unless.f a0 a1 = some r) :
    Calls Tryd.prog 24 #[.bool a0, .int .i64 a1] w fun e w' => e = .returned (.int .i64 r) ∧ Drawn0 w w' := by
  have H : (if a0 = true then (some 0) else (some a1)) = some r := h
  clear h
  by_cases c3 : a0 = true
  · subst c3
    have H1 : (some 0) = some r := by rw [if_pos rfl] at H; exact H
    clear H
    have H := H1
    clear H1
    obtain rfl := Option.some.inj H
    go_enter Tryd.func24, Tryd.ntmps24
    go_wp2
    go_ret
    exact ⟨by first | rfl | (simp; done) | (simp [*]; done), by repeat (first | exact Drawn0.refl _ | apply Drawn0.step)⟩
  · replace c3 := Bool.eq_false_iff.mpr c3
    subst c3
    have H1 : (some a1) = some r := by rw [if_neg (show ¬ (false = true) by decide)] at H; exact H
    clear H
    have H := H1
    clear H1
    obtain rfl := Option.some.inj H
    go_enter Tryd.func24, Tryd.ntmps24
    go_wp2
    go_ret
    exact ⟨by first | rfl | (simp; done) | (simp [*]; done), by repeat (first | exact Drawn0.refl _ | apply Drawn0.step)⟩

end Go.Proofs.YteoifcmafkbklaaDoor.PLat
end
section
-- Written by a program of this claim's author out of the translation (the kit's print, with some functions taken as given). Not trusted: Lean checks it.
namespace Go.Proofs.YteoifcmafkbklaaDoor.PLat
open Go.RowKit Go.Proofs.YteoifcmafkbklaaDoorW.PrintWords Go.Proofs.YteoifcmafkbklaaDoorW.PrintLast Go.Proofs.YteoifcmafkbklaaDoorW.PrintMore Go.Proofs.YteoifcmafkbklaaDoor.X
attribute [local go_sem] max2_int min2_int max_two min_two max_three min_three max_four min_four   -- for this text's walks alone
set_option linter.unusedVariables false
set_option linter.unusedSimpArgs false

end Go.Proofs.YteoifcmafkbklaaDoor.PLat
end
section
/- Package lattice: what is seen of a picture (grid.show). -/
namespace Go.Proofs.YteoifcmafkbklaaDoor.X
open Go.RowKit Go.Proofs.YteoifcmafkbklaaDoorW.PrintWords Go.Proofs.YteoifcmafkbklaaDoorW.PrintLast Go.Proofs.YteoifcmafkbklaaDoorW.PrintMore Go.Proofs.YteoifcmafkbklaaDoor.PLat

/-! ### A block of bytes that a conversion made -/
def BB (w : World) (g : Nat) (l : List UInt8) : Prop :=
  ∃ cells fr, w.heap[g]? = some (.cells cells 5 fr) ∧ (∀ j, j < l.length → cells[j]? = some (.int .u8 (l.getD j 0).toNat)) ∧ l.length ≤ fr.1
theorem BB.cell {w : World} {g : Nat} {l : List UInt8} (h : BB w g l) {j : Nat} (hj : j < l.length) : w.cell? ⟨g, j, none⟩ = some (.int .u8 (l.getD j 0).toNat) := by
  obtain ⟨cells, fr, hb, hc, _⟩ := h
  have := cell_of_row w g j cells _ fr hb
  rw [this, hc j hj]
theorem BB.free {w : World} {g : Nat} {l : List UInt8} (h : BB w g l) {j : Nat} (hj : j < l.length) : w.frozen? ⟨g, j, none⟩ = false := by
  obtain ⟨cells, fr, hb, _, hf⟩ := h
  simp only [World.frozen?, hb]
  simp
  omega
theorem BB.below {w w1 : World} {g : Nat} {l : List UInt8} (h : BB w g l) (hb : Below w.heap.size w w1) : BB w1 g l := by
  obtain ⟨cells, fr, hb0, hc, hf⟩ := h
  exact ⟨cells, fr, (hb.block g (Array.getElem?_eq_some_iff.1 hb0).1).trans hb0, hc, hf⟩
theorem BB.lt {w : World} {g : Nat} {l : List UInt8} (h : BB w g l) : g < w.heap.size := by
  obtain ⟨cells, fr, hb0, _⟩ := h
  exact (Array.getElem?_eq_some_iff.1 hb0).1
theorem BB.new (W : World) (s : ByteArray) : BB (Lib.bytesWorld W 5 s) W.heap.size s.data.toList := by
  have hl : s.data.toList.length = s.size := by rw [Array.length_toList]; rfl
  refine ⟨_, _, Lib.bytesWorld_at_new W 5 s, fun j hj => ?_, ?_⟩
  · have h1 := Lib.bytesWorld_cell W 5 s j (by omega)
    rw [cell_of_row _ _ _ _ _ _ (Lib.bytesWorld_at_new W 5 s)] at h1
    exact h1
  · show s.data.toList.length ≤ (Lib.bytesCells W 5 s).size
    have h1 : ∀ j, j < s.data.toList.length → j < (Lib.bytesCells W 5 s).size := fun j hj => by
      have h1 := Lib.bytesWorld_cell W 5 s j (by omega)
      rw [cell_of_row _ _ _ _ _ _ (Lib.bytesWorld_at_new W 5 s)] at h1
      exact (Array.getElem?_eq_some_iff.1 h1).1
    rcases Nat.eq_zero_or_pos s.data.toList.length with h0 | h0
    · omega
    · have := h1 (s.data.toList.length - 1) (by omega)
      omega
theorem BB.set {w : World} {g : Nat} {l : List UInt8} (h : BB w g l) (j : Nat) (x : UInt8) : BB (w.setCell ⟨g, j, none⟩ (.int .u8 x.toNat)) g (l.set j x) := by
  obtain ⟨cells, fr, hb, hc, hf⟩ := h
  refine ⟨cells.setIfInBounds j (.int .u8 x.toNat), fr, ?_, fun i hi => ?_, by rw [List.length_set]; exact hf⟩
  · have hlt := (Array.getElem?_eq_some_iff.1 hb).1
    simp [World.setCell, Array.getElem?_modify, hb]
  · rw [List.length_set] at hi
    have h1 := hc i hi
    have hlt := (Array.getElem?_eq_some_iff.1 h1).1
    by_cases e : i = j
    · subst e
      simp [hlt, List.getD_eq_getElem?_getD, hi]
    · rw [Array.getElem?_setIfInBounds_ne (Ne.symm e), h1]
      simp [List.getD_eq_getElem?_getD, List.getElem?_set_ne (Ne.symm e)]
theorem BB.string {w : World} {g c : Nat} {l : List UInt8} {src dst : TypeId} (hs : Tryd.prog.underlying src = some (.slice 5)) (hd : Tryd.prog.underlying dst = some .string) (h : BB w g l) :
    (convert src dst (.slice (some ⟨g, 0, none⟩) l.length c)).run Tryd.prog w = .ok (.string ⟨l.toArray⟩) w := by
  have hx : (l.map fun b => (b.toNat : Int)).length = l.length := List.length_map _
  have h1 := run_convert_bytes_arg (P := Tryd.prog) w src 5 hs Tryd.underlying5 g 0 l.length c (l.map fun b => (b.toNat : Int)) hx (fun i hi => by
    rw [Nat.zero_add, h.cell hi]
    simp [List.getD_eq_getElem?_getD, List.getElem?_eq_getElem hi]) dst hd
  have h2 : strOfNums (l.map fun b => (b.toNat : Int)) = ⟨l.toArray⟩ := by
    unfold strOfNums
    have : (l.map fun b => (b.toNat : Int)).map (fun n => UInt8.ofNat n.toNat) = l := by
      rw [List.map_map]
      conv => rhs; rw [← List.map_id l]
      apply List.map_congr_left
      intro b _
      simp
    rw [this]
  rw [h2] at h1
  exact h1

/-! ### What is seen -/
def showL (op : Nat → Bool) (l : List UInt8) : List UInt8 := l.mapIdx fun x b => if op x then b else 63
def partL (op : Nat → Bool) (l : List UInt8) (k : Nat) : List UInt8 := l.mapIdx fun x b => if x < k ∧ op x = false then 63 else b
theorem partL_zero (op : Nat → Bool) (l : List UInt8) : partL op l 0 = l := by
  unfold partL
  apply List.ext_getElem (by simp)
  intro i h1 h2
  simp
theorem partL_length (op : Nat → Bool) (l : List UInt8) (k : Nat) : (partL op l k).length = l.length := by unfold partL; simp
theorem partL_end (op : Nat → Bool) (l : List UInt8) : partL op l l.length = showL op l := by
  unfold partL showL
  apply List.ext_getElem (by simp)
  intro i h1 h2
  simp at h1
  simp only [List.getElem_mapIdx]
  cases op i <;> simp [h1]
theorem partL_open (op : Nat → Bool) (l : List UInt8) (k : Nat) (h : op k = true) : partL op l (k + 1) = partL op l k := by
  unfold partL
  apply List.ext_getElem (by simp)
  intro i h1 h2
  simp only [List.getElem_mapIdx]
  by_cases e : i = k
  · subst e; simp [h]
  · simp only [show (i < k + 1) = (i < k) from propext (by omega)]
theorem partL_shut (op : Nat → Bool) (l : List UInt8) (k : Nat) (hk : k < l.length) (h : op k = false) : partL op l (k + 1) = (partL op l k).set k 63 := by
  unfold partL
  apply List.ext_getElem (by simp)
  intro i h1 h2
  simp only [List.getElem_mapIdx, List.getElem_set]
  by_cases e : i = k
  · subst e; simp [h]
  · rw [if_neg (Ne.symm e)]
    simp only [show (i < k + 1) = (i < k) from propext (by omega)]
/-- The rows as they are seen, op telling which cells are open (column, row). -/
def showRows (op : Nat → Nat → Bool) (p : List ByteArray) : List ByteArray := p.mapIdx fun y row => ⟨(showL (fun x => op x y) row.data.toList).toArray⟩
theorem showRows_length (op : Nat → Nat → Bool) (p : List ByteArray) : (showRows op p).length = p.length := by unfold showRows; simp
theorem showRows_take (op : Nat → Nat → Bool) (p : List ByteArray) (k : Nat) (h : k < p.length) : (showRows op p).take (k + 1) = (showRows op p).take k ++ [⟨(showL (fun x => op x k) (p.getD k ByteArray.empty).data.toList).toArray⟩] := by
  have h2 : k < (showRows op p).length := by rw [showRows_length]; exact h
  have e : (showRows op p)[k]'h2 = ⟨(showL (fun x => op x k) (p.getD k ByteArray.empty).data.toList).toArray⟩ := by
    have : p.getD k ByteArray.empty = p[k] := by simp [List.getD_eq_getElem?_getD, List.getElem?_eq_getElem h]
    rw [this]
    simp only [showRows, List.getElem_mapIdx]
  rw [List.take_succ_eq_append_getElem h2, e]

theorem info9' : (Tryd.prog.info? 9).map (fun i => (i.zero, i.size, i.bytes)) = some (some (.string ⟨#[]⟩), 1, 16) := by kernel_rfl

set_option maxHeartbeats 4000000 in
set_option maxRecDepth 100000 in
theorem show_calls (A0 : Option Addr) (c0 : Nat) (l0 : List ByteArray) (A1 : Option Addr) (c1 : Nat) (p : List ByteArray) (sx sy : Int) (op : Nat → Nat → Bool) (w : World)
    (hr0 : Kd.C Kd.string w A0 l0.length l0) (hc0 : l0.length ≤ c0) (hr1 : Kd.C Kd.string w A1 p.length p) (hc1 : p.length ≤ c1) (hn : p.length ≤ 1000000) (hsz : ∀ y, y < p.length → (p.getD y ByteArray.empty).size ≤ 1000000)
    (hop : ∀ y, y < p.length → ∀ x, x < (p.getD y ByteArray.empty).size → lattice_grid_open.f l0 sx sy (x : Int) (y : Int) = some (op x y)) :
    Calls Tryd.prog 26 #[.slice A0 l0.length c0, .slice A1 p.length c1, .agg #[.int .i64 sx, .int .i64 sy]] w fun e w' => ∃ v, e = .returned v ∧ Kd.R Kd.string 9 w' w.heap.size (fun _ => True) v (showRows op p) ∧ Below w.heap.size w w' := by
  have HR0 := Aside0.mk hr0
  have HC0 := Aside0.mk hc0
  have HR1 := Aside0.mk hr1
  have HSZ := Aside0.mk hsz
  have HOP := Aside0.mk hop
  have HN := Aside0.mk hn
  obtain ⟨n, hnl⟩ : ∃ n, p.length = n := ⟨_, rfl⟩
  have HNL := Aside0.mk hnl
  rw [hnl] at hn HR1 hc1 ⊢
  clear hr0 hr1 hsz hop hnl hc0
  go_enter Tryd.func26, Tryd.ntmps26
  go_wp2
  go_loopg [6, 13] n (fun gg v6 v13 wr => ∃ k : Nat, k ≤ n ∧ n - k ≤ gg ∧ v13 = .int .i64 k ∧ Aside0 (Kd.R Kd.string 9 wr w.heap.size (fun _ => True) v6 ((showRows op p).take k)) ∧ Aside0 (Below w.heap.size w wr) ∧ Aside0 (wr.heap[w.heap.size]? = some (.cells #[.int .i64 sx, .int .i64 sy] 55 (0, 0))))
  case atStart => exact ⟨0, Nat.zero_le _, by omega, rfl, ⟨by rw [List.take_zero]; exact Kd.R_nil _ _ _ _ _⟩, ⟨below_alloc (Below.refl _ _) _⟩, ⟨blk_new w _⟩⟩
  case round =>
    obtain ⟨k, hk, hg, rfl, HO, HB, HK⟩ := hrel
    by_cases hlt : k < n
    · have hlti : (k : Int) < (n : Int) := by omega
      obtain ⟨ad, rfl, hcell⟩ := Kd.at_string (Kd.C_below HR1.out HB.out) (k : Int) (by omega) hlti
      rw [Int.toNat_natCast] at hcell
      have e0 : rdOf ByteArray.empty p (k : Int) = p.getD k ByteArray.empty := by unfold rdOf; rw [Int.toNat_natCast]
      rw [e0] at hcell
      have HSK := Aside0.mk (HSZ.out k (by rw [HNL.out]; exact hlt))
      have HOK := Aside0.mk (HOP.out k (by rw [HNL.out]; exact hlt))
      have HTK := Aside0.mk (showRows_take op p k (by rw [HNL.out]; exact hlt))
      generalize hrow : p.getD k ByteArray.empty = row at hcell HSK HOK HTK
      clear hrow e0
      have kb := fun W => print_bytes (P := Tryd.prog) 9 50 5 Tryd.underlying9 Tryd.underlying50 Tryd.underlying5 row W
      have hdl : row.data.toList.length = row.size := by rw [Array.length_toList]; rfl
      have HDL := Aside0.mk hdl
      clear hdl
      have hszk : row.size ≤ 1000000 := HSK.out
      obtain ⟨wo, rfl⟩ : ∃ wo : World, wo = wr := ⟨_, rfl⟩
      go_wp2
      go_loopg [22] row.size (fun gg2 v22 wr2 => ∃ x : Nat, x ≤ row.size ∧ row.size - x ≤ gg2 ∧ v22 = .int .i64 x ∧ Aside0 (BB wr2 wo.heap.size (partL (fun x => op x k) row.data.toList x)) ∧ Aside0 (Below wo.heap.size wo wr2))
      case atStart => exact ⟨0, Nat.zero_le _, by omega, rfl, ⟨by rw [partL_zero]; exact BB.new wo row⟩, ⟨bytes_below (Below.refl _ _) (Nat.le_refl _) _ row⟩⟩
      case round =>
        obtain ⟨x, hx, hg2, rfl, HBB, HB2⟩ := hrel
        clear kb hcell
        by_cases hxl : x < row.size
        · have hxi : (x : Int) < (row.size : Int) := by omega
          have HK2 := blk_below HK.out HB2.out
          have hz0 : _ = some (Value.int .i64 sx) := (blk_cell HK2 0).trans rfl
          have hz1 : _ = some (Value.int .i64 sy) := (blk_cell HK2 1).trans rfl
          have HRW := Aside0.mk (Kd.C_below HR0.out (later_below HB.out HB2.out))
          have HOX := Aside0.mk (HOK.out x hxl)
          have HXL : Aside0 (x < (partL (fun x => op x k) row.data.toList x).length) := ⟨by rw [partL_length, HDL.out]; exact hxl⟩
          clear HK2
          obtain ⟨q, hq⟩ : ∃ q, op x k = q := ⟨_, rfl⟩
          rw [hq] at HOX
          have HQ := Aside0.mk hq
          clear hq
          cases q with
          | true =>
            go_wp2_with (go_at_call 36; refine (lattice_grid_open.calls _ _ l0 sx sy (x : Int) (k : Int) true _ HRW.out HC0.out HOX.out).mono ?_; rintro e w3 ⟨rfl, hb3⟩; have HB3 := Aside0.mk hb3; clear hb3)
            go_roundg (row.size - (x + 1))
            case measure => omega
            case rel => exact ⟨x + 1, by omega, by omega, by go_num, ⟨by rw [partL_open (fun x => op x k) _ _ HQ.out]; exact HBB.out.below HB3.out⟩, ⟨later_below HB2.out HB3.out⟩⟩
          | false =>
            go_wp2_with (go_at_call 36; refine (lattice_grid_open.calls _ _ l0 sx sy (x : Int) (k : Int) false _ HRW.out HC0.out HOX.out).mono ?_; rintro e w3 ⟨rfl, hb3⟩; have HB3 := Aside0.mk hb3; have hc3 := (HBB.out.below hb3).cell HXL.out; have hf3 := (HBB.out.below hb3).free HXL.out; clear hb3)
            go_roundg (row.size - (x + 1))
            case measure => omega
            case rel => exact ⟨x + 1, by omega, by omega, by go_num, ⟨by rw [partL_shut (fun x => op x k) _ _ (by rw [HDL.out]; exact hxl) HQ.out]; exact (HBB.out.below HB3.out).set x 63⟩, ⟨(later_below HB2.out HB3.out).setCell (Nat.le_refl _) _⟩⟩
        · have hxi : ¬ (x : Int) < (row.size : Int) := by omega
          have hxd : decide (x < row.size) = false := decide_eq_false hxl
          obtain rfl : x = row.size := by omega
          have HEND : Aside0 (BB wr wo.heap.size (showL (fun x => op x k) row.data.toList)) := ⟨by have := HBB.out; rw [← HDL.out, partL_end] at this; exact this⟩
          have ks : ∀ c, (convert 50 9 (.slice (some ⟨wo.heap.size, 0, none⟩) row.size c)).run Tryd.prog wr = .ok (.string ⟨(showL (fun x => op x k) row.data.toList).toArray⟩) wr := fun c => by
            have := BB.string (c := c) Tryd.underlying50 Tryd.underlying9 HEND.out
            rwa [show (showL (fun x => op x k) row.data.toList).length = row.size from by unfold showL; rw [List.length_mapIdx, HDL.out]] at this
          have HOB := Aside0.mk (Kd.R_below HO.out HB2.out)
          have HBB' := Aside0.mk (later_below HB.out HB2.out)
          have HKB := Aside0.mk (blk_below HK.out HB2.out)
          have HLEN : Aside0 (((showRows op p).take k).length = k) := ⟨by rw [List.length_take, showRows_length, HNL.out]; omega⟩
          generalize hnew : (⟨(showL (fun x => op x k) row.data.toList).toArray⟩ : ByteArray) = nrow at ks HTK
          clear hnew hxi hxd hxl hx hg2 HBB HB2 HEND
          go_wp2_with (at_builtin; refine Kd.R_append Kd.string (w0 := w) w.heap.size rfl (.tmp 35) (.tmp 38) 52 9 (.string ⟨#[]⟩) 16 rfl Tryd.underlying52 info9' rfl (by decide) (by omega) _ _ nrow [.string nrow] (fun _ => True) (fun _ => False) rfl rfl rfl (fun _ hk => hk.elim) (fun _ _ => trivial) HOB.out HBB'.out (below_size HBB'.out) (by rw [HLEN.out]; omega) ?_; intro v1 w5 ho hb hg5 hat; have HO5 := Aside0.mk ho; have HB5 := Aside0.mk hb; have HK5 := Aside0.mk (blk_grown HKB.out hg5 (Kd.R_ne HOB.out HKB.out (by decide))); clear ho hb hg5 hat)
          go_roundg (n - (k + 1))
          case measure => omega
          case rel => exact ⟨k + 1, by omega, by omega, by go_num, ⟨by rw [HTK.out]; exact HO5.out⟩, ⟨HB5.out⟩, ⟨HK5.out⟩⟩
    · have hlti : ¬ (k : Int) < (n : Int) := by omega
      obtain rfl : k = n := by omega
      have HE : Aside0 ((showRows op p).take k = showRows op p) := ⟨List.take_of_length_le (by rw [showRows_length, HNL.out]; exact Nat.le_refl _)⟩
      go_wp2
      go_ret
      exact ⟨_, rfl, by rw [← HE.out]; exact HO.out, HB.out⟩
end Go.Proofs.YteoifcmafkbklaaDoor.X
end
