-- Written by a program of this claim's author out of the translation (the kit's print, with some functions taken as given). Not trusted: Lean checks it.
import Derived.Test.YtmkhlgdgndnkbaaDoorPTopFaceColumnsx0
import Derived.Test.YtmkhlgdgndnkbaaDoorPTopFaceColumnsx1
namespace Go.Proofs.YtmkhlgdgndnkbaaDoor.PTopFaceColumns
open Go.RowKit Go.Proofs.YtmkhlgdgndnkbaaDoorW.PrintWords Go.Proofs.YtmkhlgdgndnkbaaDoorW.PrintLast Go.Proofs.YtmkhlgdgndnkbaaDoorW.PrintMore Go.Proofs.YtmkhlgdgndnkbaaDoor.X
attribute [local go_sem] max2_int min2_int max_two min_two max_three min_three max_four min_four   -- for this text's walks alone
set_option linter.unusedVariables false
set_option linter.unusedSimpArgs false

/-! ### panachetop_TopFaceColumns: function 3 -/
mutual
def panachetop_TopFaceColumns.l0 : Nat → Int → Int → Int → ByteArray → ByteArray → Int → Int → List (S33) → Int → Int → Int → Option (Bool)
  | 0, _, _, _, _, _, _, _, _, _, _, _ => none
  | k + 1, x3, x4, x6, x9, x10, x11, x130000, x130001, x131001, x131002, x131003 => if x11 < x3 then ((panachetop_oakSpan.f (wrap64 (20 * (wrap64 (x11 + x4)))) (wrap64 (20 * (wrap64 (x11 + x4))))).bind fun bt131 => ((panachetop_oakSpan.f (wrap64 (20 * (wrap64 ((wrap64 (x11 + x4)) + 1)))) (wrap64 (20 * (wrap64 ((wrap64 (x11 + x4)) + 1))))).bind fun bt133 => (if x130001.length < 4398046511104 then (if x9.size + 1 ≤ 9223372036854775807 then (panachetop_TopFaceColumns.l0 k x3 x4 x6 (x9 ++ (⟨#[49]⟩ : ByteArray)) x10 (wrap64 (x11 + 1)) x130000 (x130001 ++ [(⟨(⟨bt131.1, bt131.2⟩ : S30), (⟨bt133.1, bt133.2⟩ : S30)⟩ : S33)]) x131001 x131002 x131003) else (none)) else (none)))) else (panachetop_TopFaceColumns.l1 k x3 x4 x6 x9 x10 10 x130000 x130001 ([] : List Int) x131001 x131002 x131003)
def panachetop_TopFaceColumns.l1 : Nat → Int → Int → Int → ByteArray → ByteArray → Int → Int → List (S33) → List Int → Int → Int → Int → Option (Bool)
  | 0, _, _, _, _, _, _, _, _, _, _, _, _ => none
  | k + 1, x3, x4, x6, x9, x10, x14, x130000, x130001, x131000, x131001, x131002, x131003 => if x14 ≤ x130000 then (if x131000.length < 17592186044416 then (panachetop_TopFaceColumns.l1 k x3 x4 x6 x9 x10 (wrap64 (x14 + (wrap64 (20 * x4)))) x130000 x130001 (x131000 ++ [x14]) x131001 x131002 x131003) else (none)) else (panachetop_TopFaceColumns.l2 k x3 x4 x6 x9 x10 1 x130000 x130001 x131000 x131001 x131002 x131003)
def panachetop_TopFaceColumns.l2 : Nat → Int → Int → Int → ByteArray → ByteArray → Int → Int → List (S33) → List Int → Int → Int → Int → Option (Bool)
  | 0, _, _, _, _, _, _, _, _, _, _, _, _ => none
  | k + 1, x3, x4, x6, x9, x10, x15, x130000, x130001, x131000, x131001, x131002, x131003 => if x15 < x4 then (if x10.size + 1 ≤ 9223372036854775807 then (panachetop_TopFaceColumns.l2 k x3 x4 x6 x9 (x10 ++ (⟨#[46]⟩ : ByteArray)) (wrap64 (x15 + 1)) x130000 x130001 x131000 x131001 x131002 x131003) else (none)) else ((pleat_Hit.f x130000 x130001 x131000 x131001 x131002 x131003 (wrap64 (20 * x6))).bind fun bt141 => ((panachetop_oakShow.f x9 x10 x6).bind fun t148 => (if bt141.2.2 = 0 then (panachetop_TopFaceColumns.j3 k x3 x4 bt141.1 bt141.2.1 t148 ((t148.size : Int) != x3)) else (panachetop_TopFaceColumns.j3 k x3 x4 bt141.1 bt141.2.1 t148 true))))
def panachetop_TopFaceColumns.j3 : Nat → Int → Int → List Int → List Int → ByteArray → Bool → Option (Bool)
  | 0, _, _, _, _, _, _ => none
  | k + 1, x3, x4, x16, x17, x19, x120 => if x120 = true then (some false) else (panachetop_TopFaceColumns.l3 k x3 x4 x16 x17 x19 (([] : List Int)) 0)
def panachetop_TopFaceColumns.l3 : Nat → Int → Int → List Int → List Int → ByteArray → List Int → Int → Option (Bool)
  | 0, _, _, _, _, _, _, _ => none
  | k + 1, x3, x4, x16, x17, x19, x20, x21 => if x21 < x3 then (if 0 ≤ x21 then (if x21 < (x19.size : Int) then (if (bt x19 x21) = 63 then (if x20.length < 17592186044416 then (panachetop_TopFaceColumns.l3 k x3 x4 x16 x17 x19 (x20 ++ [x21]) (wrap64 (x21 + 1))) else (none)) else (panachetop_TopFaceColumns.l3 k x3 x4 x16 x17 x19 x20 (wrap64 (x21 + 1)))) else (none)) else (none)) else ((panachetop_oakInts.f k x16 x20).bind fun t155 => (if t155 = true then ((panachetop_oakInts.f k x17 x20).bind fun t156 => (if t156 = true then (if x4 = 0 then (none) else (if (x20.length : Int) ≥ (wrap64 (Int.tdiv x3 x4)) then ((panachetop_oakKnown04.f).bind fun t157 => (some t157)) else (some false))) else (some false))) else (some false)))
end
def panachetop_TopFaceColumns.f (k : Nat) (a0_0 : Int) (a0_1 : Int) (a0_2 : Int) (a0_3 : Int) : Option (Bool) := if (wrap64 (2 + (Int.tmod (wrap64 (a0_1)) 3))) = 0 then (none) else (panachetop_TopFaceColumns.l0 k (wrap64 (1 + (Int.tmod (wrap64 (a0_0)) 8))) (wrap64 (2 + (Int.tmod (wrap64 (a0_1)) 3))) (Int.tmod (wrap64 (a0_3)) (wrap64 (2 + (Int.tmod (wrap64 (a0_1)) 3)))) (⟨#[]⟩ : ByteArray) (⟨#[35]⟩ : ByteArray) 0 (wrap64 (20 * (wrap64 ((wrap64 (1 + (Int.tmod (wrap64 (a0_0)) 8))) + (wrap64 (2 + (Int.tmod (wrap64 (a0_1)) 3))))))) ([] : List (S33)) (wrap64 (1 + (Int.tmod (wrap64 (a0_2)) 9))) 0 (wrap64 (20 * (wrap64 (2 + (Int.tmod (wrap64 (a0_1)) 3))))))
theorem panachetop_TopFaceColumns.mono_l : ∀ k, (∀ y0 y1 y2 y3 y4 y5 y6 y7 y8 y9 y10, LeO (panachetop_TopFaceColumns.l0 k y0 y1 y2 y3 y4 y5 y6 y7 y8 y9 y10) (panachetop_TopFaceColumns.l0 (k + 1) y0 y1 y2 y3 y4 y5 y6 y7 y8 y9 y10)) ∧ (∀ y0 y1 y2 y3 y4 y5 y6 y7 y8 y9 y10 y11, LeO (panachetop_TopFaceColumns.l1 k y0 y1 y2 y3 y4 y5 y6 y7 y8 y9 y10 y11) (panachetop_TopFaceColumns.l1 (k + 1) y0 y1 y2 y3 y4 y5 y6 y7 y8 y9 y10 y11)) ∧ (∀ y0 y1 y2 y3 y4 y5 y6 y7 y8 y9 y10 y11, LeO (panachetop_TopFaceColumns.l2 k y0 y1 y2 y3 y4 y5 y6 y7 y8 y9 y10 y11) (panachetop_TopFaceColumns.l2 (k + 1) y0 y1 y2 y3 y4 y5 y6 y7 y8 y9 y10 y11)) ∧ (∀ y0 y1 y2 y3 y4 y5, LeO (panachetop_TopFaceColumns.j3 k y0 y1 y2 y3 y4 y5) (panachetop_TopFaceColumns.j3 (k + 1) y0 y1 y2 y3 y4 y5)) ∧ (∀ y0 y1 y2 y3 y4 y5 y6, LeO (panachetop_TopFaceColumns.l3 k y0 y1 y2 y3 y4 y5 y6) (panachetop_TopFaceColumns.l3 (k + 1) y0 y1 y2 y3 y4 y5 y6))
  | 0 => ⟨fun _ _ _ _ _ _ _ _ _ _ _ r h => by simp [panachetop_TopFaceColumns.l0] at h, fun _ _ _ _ _ _ _ _ _ _ _ _ r h => by simp [panachetop_TopFaceColumns.l1] at h, fun _ _ _ _ _ _ _ _ _ _ _ _ r h => by simp [panachetop_TopFaceColumns.l2] at h, fun _ _ _ _ _ _ r h => by simp [panachetop_TopFaceColumns.j3] at h, fun _ _ _ _ _ _ _ r h => by simp [panachetop_TopFaceColumns.l3] at h⟩
  | k + 1 => by
    obtain ⟨ih0, ih1, ih2, ih3, ih4⟩ := panachetop_TopFaceColumns.mono_l k
    refine ⟨?_, ?_, ?_, ?_, ?_⟩
    · intro y0 y1 y2 y3 y4 y5 y6 y7 y8 y9 y10
      unfold panachetop_TopFaceColumns.l0
      repeat' first
      | (with_reducible exact ih0 _ _ _ _ _ _ _ _ _ _ _)
      | (with_reducible exact ih1 _ _ _ _ _ _ _ _ _ _ _ _)
      | (with_reducible exact ih2 _ _ _ _ _ _ _ _ _ _ _ _)
      | (with_reducible exact ih3 _ _ _ _ _ _)
      | (with_reducible exact ih4 _ _ _ _ _ _ _)
      | (with_reducible exact panachetop_oakInts.mono _ _ _)
      | (with_reducible exact LeO.refl _)
      | (with_reducible exact LeO.none _)
      | (with_reducible refine LeO.ite ?_ ?_)
      | (with_reducible refine LeO.bind ?_ (fun _ => ?_))
      | exact ih0 _ _ _ _ _ _ _ _ _ _ _
      | exact ih1 _ _ _ _ _ _ _ _ _ _ _ _
      | exact ih2 _ _ _ _ _ _ _ _ _ _ _ _
      | exact ih3 _ _ _ _ _ _
      | exact ih4 _ _ _ _ _ _ _
      | exact panachetop_oakInts.mono _ _ _
      | exact LeO.none _
      | refine LeO.ite ?_ ?_
      | refine LeO.bind ?_ (fun _ => ?_)
    · intro y0 y1 y2 y3 y4 y5 y6 y7 y8 y9 y10 y11
      unfold panachetop_TopFaceColumns.l1
      repeat' first
      | (with_reducible exact ih0 _ _ _ _ _ _ _ _ _ _ _)
      | (with_reducible exact ih1 _ _ _ _ _ _ _ _ _ _ _ _)
      | (with_reducible exact ih2 _ _ _ _ _ _ _ _ _ _ _ _)
      | (with_reducible exact ih3 _ _ _ _ _ _)
      | (with_reducible exact ih4 _ _ _ _ _ _ _)
      | (with_reducible exact panachetop_oakInts.mono _ _ _)
      | (with_reducible exact LeO.refl _)
      | (with_reducible exact LeO.none _)
      | (with_reducible refine LeO.ite ?_ ?_)
      | (with_reducible refine LeO.bind ?_ (fun _ => ?_))
      | exact ih0 _ _ _ _ _ _ _ _ _ _ _
      | exact ih1 _ _ _ _ _ _ _ _ _ _ _ _
      | exact ih2 _ _ _ _ _ _ _ _ _ _ _ _
      | exact ih3 _ _ _ _ _ _
      | exact ih4 _ _ _ _ _ _ _
      | exact panachetop_oakInts.mono _ _ _
      | exact LeO.none _
      | refine LeO.ite ?_ ?_
      | refine LeO.bind ?_ (fun _ => ?_)
    · intro y0 y1 y2 y3 y4 y5 y6 y7 y8 y9 y10 y11
      unfold panachetop_TopFaceColumns.l2
      repeat' first
      | (with_reducible exact ih0 _ _ _ _ _ _ _ _ _ _ _)
      | (with_reducible exact ih1 _ _ _ _ _ _ _ _ _ _ _ _)
      | (with_reducible exact ih2 _ _ _ _ _ _ _ _ _ _ _ _)
      | (with_reducible exact ih3 _ _ _ _ _ _)
      | (with_reducible exact ih4 _ _ _ _ _ _ _)
      | (with_reducible exact panachetop_oakInts.mono _ _ _)
      | (with_reducible exact LeO.refl _)
      | (with_reducible exact LeO.none _)
      | (with_reducible refine LeO.ite ?_ ?_)
      | (with_reducible refine LeO.bind ?_ (fun _ => ?_))
      | exact ih0 _ _ _ _ _ _ _ _ _ _ _
      | exact ih1 _ _ _ _ _ _ _ _ _ _ _ _
      | exact ih2 _ _ _ _ _ _ _ _ _ _ _ _
      | exact ih3 _ _ _ _ _ _
      | exact ih4 _ _ _ _ _ _ _
      | exact panachetop_oakInts.mono _ _ _
      | exact LeO.none _
      | refine LeO.ite ?_ ?_
      | refine LeO.bind ?_ (fun _ => ?_)
    · intro y0 y1 y2 y3 y4 y5
      unfold panachetop_TopFaceColumns.j3
      repeat' first
      | (with_reducible exact ih0 _ _ _ _ _ _ _ _ _ _ _)
      | (with_reducible exact ih1 _ _ _ _ _ _ _ _ _ _ _ _)
      | (with_reducible exact ih2 _ _ _ _ _ _ _ _ _ _ _ _)
      | (with_reducible exact ih3 _ _ _ _ _ _)
      | (with_reducible exact ih4 _ _ _ _ _ _ _)
      | (with_reducible exact panachetop_oakInts.mono _ _ _)
      | (with_reducible exact LeO.refl _)
      | (with_reducible exact LeO.none _)
      | (with_reducible refine LeO.ite ?_ ?_)
      | (with_reducible refine LeO.bind ?_ (fun _ => ?_))
      | exact ih0 _ _ _ _ _ _ _ _ _ _ _
      | exact ih1 _ _ _ _ _ _ _ _ _ _ _ _
      | exact ih2 _ _ _ _ _ _ _ _ _ _ _ _
      | exact ih3 _ _ _ _ _ _
      | exact ih4 _ _ _ _ _ _ _
      | exact panachetop_oakInts.mono _ _ _
      | exact LeO.none _
      | refine LeO.ite ?_ ?_
      | refine LeO.bind ?_ (fun _ => ?_)
    · intro y0 y1 y2 y3 y4 y5 y6
      unfold panachetop_TopFaceColumns.l3
      repeat' first
      | (with_reducible exact ih0 _ _ _ _ _ _ _ _ _ _ _)
      | (with_reducible exact ih1 _ _ _ _ _ _ _ _ _ _ _ _)
      | (with_reducible exact ih2 _ _ _ _ _ _ _ _ _ _ _ _)
      | (with_reducible exact ih3 _ _ _ _ _ _)
      | (with_reducible exact ih4 _ _ _ _ _ _ _)
      | (with_reducible exact panachetop_oakInts.mono _ _ _)
      | (with_reducible exact LeO.refl _)
      | (with_reducible exact LeO.none _)
      | (with_reducible refine LeO.ite ?_ ?_)
      | (with_reducible refine LeO.bind ?_ (fun _ => ?_))
      | exact ih0 _ _ _ _ _ _ _ _ _ _ _
      | exact ih1 _ _ _ _ _ _ _ _ _ _ _ _
      | exact ih2 _ _ _ _ _ _ _ _ _ _ _ _
      | exact ih3 _ _ _ _ _ _
      | exact ih4 _ _ _ _ _ _ _
      | exact panachetop_oakInts.mono _ _ _
      | exact LeO.none _
      | refine LeO.ite ?_ ?_
      | refine LeO.bind ?_ (fun _ => ?_)
theorem panachetop_TopFaceColumns.mono : ∀ a0 a1 a2 a3 k, LeO (panachetop_TopFaceColumns.f k a0 a1 a2 a3) (panachetop_TopFaceColumns.f (k + 1) a0 a1 a2 a3) := by
  intro a0 a1 a2 a3 k
  obtain ⟨ih0, ih1, ih2, ih3, ih4⟩ := panachetop_TopFaceColumns.mono_l k
  unfold panachetop_TopFaceColumns.f
  repeat' first
      | (with_reducible exact ih0 _ _ _ _ _ _ _ _ _ _ _)
      | (with_reducible exact ih1 _ _ _ _ _ _ _ _ _ _ _ _)
      | (with_reducible exact ih2 _ _ _ _ _ _ _ _ _ _ _ _)
      | (with_reducible exact ih3 _ _ _ _ _ _)
      | (with_reducible exact ih4 _ _ _ _ _ _ _)
      | (with_reducible exact panachetop_oakInts.mono _ _ _)
      | (with_reducible exact LeO.refl _)
      | (with_reducible exact LeO.none _)
      | (with_reducible refine LeO.ite ?_ ?_)
      | (with_reducible refine LeO.bind ?_ (fun _ => ?_))
      | exact ih0 _ _ _ _ _ _ _ _ _ _ _
      | exact ih1 _ _ _ _ _ _ _ _ _ _ _ _
      | exact ih2 _ _ _ _ _ _ _ _ _ _ _ _
      | exact ih3 _ _ _ _ _ _
      | exact ih4 _ _ _ _ _ _ _
      | exact panachetop_oakInts.mono _ _ _
      | exact LeO.none _
      | refine LeO.ite ?_ ?_
      | refine LeO.bind ?_ (fun _ => ?_)
def panachetop_TopFaceColumns.T1 : Bool × List (List Nat × List Nat) := (true, [([], []), ([0], [0]), ([1], [1]), ([2], [2]), ([3], [3]), ([], []), ([5], [5]), ([6], [6]), ([7], [7]), ([8], [8]), ([4, 0, 1, 2, 3, 4], [4]), ([9, 10, 0, 1, 2, 3, 4, 5, 6, 7, 8, 9, 10], [9])])
def panachetop_TopFaceColumns.B1 : List Nat := [0, 1, 3, 7, 15, 0, 32, 96, 224, 480, 31, 2047]
theorem panachetop_TopFaceColumns.tab1 : rtab .any (opsOf Tryd.f3 1) = panachetop_TopFaceColumns.T1 := by kernel_rfl
theorem panachetop_TopFaceColumns.bits1 : waitsOk panachetop_TopFaceColumns.T1.2 panachetop_TopFaceColumns.B1 = true := by kernel_rfl
def panachetop_TopFaceColumns.T2 : Bool × List (List Nat × List Nat) := (true, [([], []), ([0], [0]), ([1], [1]), ([2], [2]), ([3], [3]), ([], []), ([5], [5]), ([6], [6]), ([], []), ([7, 8], [7, 8]), ([4, 0, 1, 2, 3, 4], [4]), ([9, 10, 0, 1, 2, 3, 4, 5, 6, 7, 8, 9, 10], [9])])
def panachetop_TopFaceColumns.B2 : List Nat := [0, 1, 3, 7, 15, 0, 32, 96, 0, 480, 31, 2047]
theorem panachetop_TopFaceColumns.tab2 : rtab .any (opsOf Tryd.f3 2) = panachetop_TopFaceColumns.T2 := by kernel_rfl
theorem panachetop_TopFaceColumns.bits2 : waitsOk panachetop_TopFaceColumns.T2.2 panachetop_TopFaceColumns.B2 = true := by kernel_rfl
def panachetop_TopFaceColumns.T9 : Bool × List (List Nat × List Nat) := (true, [([], []), ([0], [0]), ([], []), ([], []), ([2, 3], [2, 3]), ([], []), ([], []), ([5, 6, 4], [5, 6]), ([4, 7], [4, 7]), ([8], [8]), ([1, 9, 7], [1, 9]), ([0, 1, 2, 3, 4, 5, 6, 7, 8, 9, 10], []), ([11, 10, 10, 0, 1, 2, 3, 4, 5, 6, 7, 8, 9, 10], [10, 11])])
def panachetop_TopFaceColumns.B9 : List Nat := [0, 1, 0, 0, 12, 0, 0, 124, 252, 508, 1023, 2047, 4095]
theorem panachetop_TopFaceColumns.tab9 : rtab .any (opsOf Tryd.f3 9) = panachetop_TopFaceColumns.T9 := by kernel_rfl
theorem panachetop_TopFaceColumns.bits9 : waitsOk panachetop_TopFaceColumns.T9.2 panachetop_TopFaceColumns.B9 = true := by kernel_rfl
set_option maxHeartbeats 8000000 in
set_option maxRecDepth 100000 in
theorem panachetop_TopFaceColumns.calls (k : Nat) (a0_0 : Int) (a0_1 : Int) (a0_2 : Int) (a0_3 : Int) (r : Bool) (w : World) (h : panachetop_TopFaceColumns.f k a0_0 a0_1 a0_2 a0_3 = some r) (hT : Tabs w) :
    Calls Tryd.prog 3 #[.agg #[.int .u8 a0_0, .int .u8 a0_1, .int .u8 a0_2, .int .u8 a0_3]] w fun e w' => e = .returned (.bool r) ∧ Below w.heap.size w w' := by
  have HT := Aside0.mk hT
  clear hT
  have hu22 := Tryd.underlying22
  have hu25 := Tryd.underlying25
  have hu28 := Tryd.underlying28
  have hu33 := Tryd.underlying33
  have HB := Aside0.mk (Below.refl w.heap.size w)
  have H : (if (wrap64 (2 + (Int.tmod (wrap64 (a0_1)) 3))) = 0 then (none) else (panachetop_TopFaceColumns.l0 k (wrap64 (1 + (Int.tmod (wrap64 (a0_0)) 8))) (wrap64 (2 + (Int.tmod (wrap64 (a0_1)) 3))) (Int.tmod (wrap64 (a0_3)) (wrap64 (2 + (Int.tmod (wrap64 (a0_1)) 3)))) (⟨#[]⟩ : ByteArray) (⟨#[35]⟩ : ByteArray) 0 (wrap64 (20 * (wrap64 ((wrap64 (1 + (Int.tmod (wrap64 (a0_0)) 8))) + (wrap64 (2 + (Int.tmod (wrap64 (a0_1)) 3))))))) ([] : List (S33)) (wrap64 (1 + (Int.tmod (wrap64 (a0_2)) 9))) 0 (wrap64 (20 * (wrap64 (2 + (Int.tmod (wrap64 (a0_1)) 3))))))) = some r := h
  clear h
  by_cases c2 : (wrap64 (2 + (Int.tmod (wrap64 (a0_1)) 3))) = 0
  · rw [if_pos c2] at H
    exact absurd H (by simp)
  · rw [if_neg c2] at H
    have c2b0 : ((wrap64 (2 + (Int.tmod (wrap64 (a0_1)) 3))) == 0) = false := beq_eq_false_iff_ne.mpr c2
    have c2b1 : ((wrap64 (2 + (Int.tmod (wrap64 (a0_1)) 3))) != 0) = true := bne_iff_ne.mpr c2
    have H' := Aside0.mk H
    clear H
    go_enter Tryd.func3, Tryd.ntmps3
    try go_wp2_with (first | ((with_reducible refine gate_dst (N := 1) rfl ?_); (try (refine gate_guard (by rfl) ?_; dsimp only)); refine box_event ?hg (N := 1) ?hd (cs := #[.int .u8 a0_0, .int .u8 a0_1, .int .u8 a0_2, .int .u8 a0_3]) (t := 22) ?hr ?_; (case hd => rfl); (case hg => rfl); (case hr => first | (go_simp; done) | (go_simp; rfl)); intro gb128 hg w3 hbox hb; have n0_ := Aside0.mk (below_step (by repeat (first | (with_reducible first | exact HB.out | apply below_alloc | apply pw_below_drewN | apply below_drew1) | exact HB.out)) hb); have n1_ := Aside0.mk (hbox); have n2_ := Aside0.mk ((by rw [hg]; exact (below_size (by repeat (first | (with_reducible first | exact HB.out | apply below_alloc | apply pw_below_drewN | apply below_drew1) | exact HB.out))) : w.heap.size ≤ gb128)); have n3_ := Aside0.mk ((by rw [hg]; exact (below_size (by repeat (first | (with_reducible first | exact HB.out | apply below_alloc | apply pw_below_drewN | apply below_drew1) | exact HB.out))) : w.heap.size ≤ gb128)); clear HB; have HB := n0_; have BK128 := n1_; have GW128 := n2_; have GE128 := n3_; clear n0_ n1_ n2_ n3_; clear hb hbox hg))
    have n0_ := Aside0.mk (blk_drew BK128.out)
    have n1_ := Aside0.mk (below_drew1 HB.out)
    clear BK128
    clear HB
    have BK128 := n0_
    have HB := n1_
    clear n0_ n1_
    refine start_ (n := 12) (S := fun w' => w'.cell? ⟨gb128, 0, none⟩ = some (.int .u8 a0_0) ∧ w'.cell? ⟨gb128, 1, none⟩ = some (.int .u8 a0_1) ∧ w'.cell? ⟨gb128, 2, none⟩ = some (.int .u8 a0_2) ∧ w'.cell? ⟨gb128, 3, none⟩ = some (.int .u8 a0_3)) (ds := []) #[false, false, false, false, false, false, false, false, false, false, false, false] (by kernel_rfl) rfl rfl ⟨(blk_cell BK128.out 0).trans rfl, (blk_cell BK128.out 1).trans rfl, (blk_cell BK128.out 2).trans rfl, (blk_cell BK128.out 3).trans rfl⟩ (fun hHeld => ?_); refine with_tabW panachetop_TopFaceColumns.tab1 panachetop_TopFaceColumns.bits1 (fun HT_ HW_ => ?_)
    generalize w3.drew = w4 at BK128 HB hHeld ⊢
    refine pure_ (i := 0) (N := some 22) (v := ?_) (a' := ?_) #[true, false, false, false, false, false, false, false, false, false, false, false] rfl rfl (any_of HT_.out (by kernel_rfl)) (fun _ _ _ h => h) (Or.inl ⟨by rfl, ?_⟩) ?_ ?_
    rotate_left
    · intro w'
      go_simp
      with_reducible rfl
    rotate_left
    · simp only [Act.put, List.setIfInBounds_toArray, List.set_cons_zero, List.set_cons_succ, i64_w, i32_w]
      rfl
    refine pure_ (i := 5) (N := some 27) (v := ?_) (a' := ?_) #[true, false, false, false, false, true, false, false, false, false, false, false] rfl rfl (any_of HT_.out (by kernel_rfl)) (fun _ _ _ h => h) (Or.inl ⟨by rfl, ?_⟩) ?_ ?_
    rotate_left
    · intro w'
      go_simp
      with_reducible rfl
    rotate_left
    · simp only [Act.put, List.setIfInBounds_toArray, List.set_cons_zero, List.set_cons_succ, i64_w, i32_w]
      rfl
    refine take_ (i := 1) (N := some 23) (v := ?_) (a' := ?_) #[true, true, false, false, false, true, false, false, false, false, false, false] rfl rfl (take_ofW HT_.out HW_.out (by kernel_rfl)) (fun _ _ _ h => h) (Or.inl ⟨by rfl, ?_⟩) hHeld ?_ ?_
    rotate_left
    · rintro w' ⟨s0, s1, s2, s3⟩
      go_simp
      with_reducible rfl
    rotate_left
    · simp only [Act.put, List.setIfInBounds_toArray, List.set_cons_zero, List.set_cons_succ, i64_w, i32_w]
      rfl
    refine pure_ (i := 2) (N := some 24) (v := ?_) (a' := ?_) #[true, true, true, false, false, true, false, false, false, false, false, false] rfl rfl (any_of HT_.out (by kernel_rfl)) (fun _ _ _ h => h) (Or.inl ⟨by rfl, ?_⟩) ?_ ?_
    rotate_left
    · intro w'
      go_simp
      with_reducible rfl
    rotate_left
    · simp only [Act.put, List.setIfInBounds_toArray, List.set_cons_zero, List.set_cons_succ, i64_w, i32_w]
      rfl
    refine pure_ (i := 3) (N := some 25) (v := ?_) (a' := ?_) #[true, true, true, true, false, true, false, false, false, false, false, false] rfl rfl (any_of HT_.out (by kernel_rfl)) (fun _ _ _ h => h) (Or.inl ⟨by rfl, ?_⟩) ?_ ?_
    rotate_left
    · intro w'
      go_simp
      with_reducible rfl
    rotate_left
    · simp only [Act.put, List.setIfInBounds_toArray, List.set_cons_zero, List.set_cons_succ, i64_w, i32_w]
      rfl
    refine pure_ (i := 4) (N := some 26) (v := ?_) (a' := ?_) #[true, true, true, true, true, true, false, false, false, false, false, false] rfl rfl (any_of HT_.out (by kernel_rfl)) (fun _ _ _ h => h) (Or.inl ⟨by rfl, ?_⟩) ?_ ?_
    rotate_left
    · intro w'
      go_simp
      with_reducible rfl
    rotate_left
    · simp only [Act.put, List.setIfInBounds_toArray, List.set_cons_zero, List.set_cons_succ, i64_w, i32_w]
      rfl
    refine pure_ (i := 10) (N := some 3) (v := ?_) (a' := ?_) #[true, true, true, true, true, true, false, false, false, false, true, false] rfl rfl (any_of HT_.out (by kernel_rfl)) (fun _ _ _ h => h) (Or.inl ⟨by rfl, ?_⟩) ?_ ?_
    rotate_left
    · intro w'
      go_simp
      with_reducible rfl
    rotate_left
    · simp only [Act.put, List.setIfInBounds_toArray, List.set_cons_zero, List.set_cons_succ, i64_w, i32_w]
      rfl
    refine take_ (i := 6) (N := some 28) (v := ?_) (a' := ?_) #[true, true, true, true, true, true, true, false, false, false, true, false] rfl rfl (take_ofW HT_.out HW_.out (by kernel_rfl)) (fun _ _ _ h => h) (Or.inl ⟨by rfl, ?_⟩) hHeld ?_ ?_
    rotate_left
    · rintro w' ⟨s0, s1, s2, s3⟩
      go_simp
      with_reducible rfl
    rotate_left
    · simp only [Act.put, List.setIfInBounds_toArray, List.set_cons_zero, List.set_cons_succ, i64_w, i32_w]
      rfl
    refine pure_ (i := 7) (N := some 29) (v := ?_) (a' := ?_) #[true, true, true, true, true, true, true, true, false, false, true, false] rfl rfl (any_of HT_.out (by kernel_rfl)) (fun _ _ _ h => h) (Or.inl ⟨by rfl, ?_⟩) ?_ ?_
    rotate_left
    · intro w'
      go_simp
      with_reducible rfl
    rotate_left
    · simp only [Act.put, List.setIfInBounds_toArray, List.set_cons_zero, List.set_cons_succ, i64_w, i32_w]
      rfl
    refine pure_ (i := 8) (N := some 30) (v := ?_) (a' := ?_) #[true, true, true, true, true, true, true, true, true, false, true, false] rfl rfl (any_of HT_.out (by kernel_rfl)) (fun _ _ _ h => h) (Or.inl ⟨by rfl, ?_⟩) ?_ ?_
    rotate_left
    · intro w'
      go_simp
      with_reducible rfl
    rotate_left
    · simp only [Act.put, List.setIfInBounds_toArray, List.set_cons_zero, List.set_cons_succ, i64_w, i32_w]
      rfl
    refine pure_ (i := 9) (N := some 31) (v := ?_) (a' := ?_) #[true, true, true, true, true, true, true, true, true, true, true, false] rfl rfl (any_of HT_.out (by kernel_rfl)) (fun _ _ _ h => h) (Or.inl ⟨by rfl, ?_⟩) ?_ ?_
    rotate_left
    · intro w'
      go_simp
      with_reducible rfl
    rotate_left
    · simp only [Act.put, List.setIfInBounds_toArray, List.set_cons_zero, List.set_cons_succ, i64_w, i32_w]
      rfl
    refine pure_ (i := 11) (N := some 4) (v := ?_) (a' := ?_) #[true, true, true, true, true, true, true, true, true, true, true, true] rfl rfl (any_of HT_.out (by kernel_rfl)) (fun _ _ _ h => h) (Or.inl ⟨by rfl, ?_⟩) ?_ ?_
    rotate_left
    · intro w'
      go_simp
      with_reducible rfl
    rotate_left
    · simp only [Act.put, List.setIfInBounds_toArray, List.set_cons_zero, List.set_cons_succ, i64_w, i32_w]
      rfl
    refine done_ (done_of HT_.out (by kernel_rfl)) ?_
    try go_wp2
    have n0_ := Aside0.mk (blk_drew BK128.out)
    have n1_ := Aside0.mk (below_drew1 HB.out)
    clear BK128
    clear HB
    have BK128 := n0_
    have HB := n1_
    clear n0_ n1_
    refine start_ (n := 12) (S := fun w' => w'.cell? ⟨gb128, 0, none⟩ = some (.int .u8 a0_0) ∧ w'.cell? ⟨gb128, 1, none⟩ = some (.int .u8 a0_1) ∧ w'.cell? ⟨gb128, 2, none⟩ = some (.int .u8 a0_2) ∧ w'.cell? ⟨gb128, 3, none⟩ = some (.int .u8 a0_3)) (ds := []) #[false, false, false, false, false, false, false, false, false, false, false, false] (by kernel_rfl) rfl rfl ⟨(blk_cell BK128.out 0).trans rfl, (blk_cell BK128.out 1).trans rfl, (blk_cell BK128.out 2).trans rfl, (blk_cell BK128.out 3).trans rfl⟩ (fun hHeld => ?_); refine with_tabW panachetop_TopFaceColumns.tab2 panachetop_TopFaceColumns.bits2 (fun HT_ HW_ => ?_)
    generalize w4.drew = w5 at BK128 HB hHeld ⊢
    refine pure_ (i := 0) (N := some 32) (v := ?_) (a' := ?_) #[true, false, false, false, false, false, false, false, false, false, false, false] rfl rfl (any_of HT_.out (by kernel_rfl)) (fun _ _ _ h => h) (Or.inl ⟨by rfl, ?_⟩) ?_ ?_
    rotate_left
    · intro w'
      go_simp
      with_reducible rfl
    rotate_left
    · simp only [Act.put, List.setIfInBounds_toArray, List.set_cons_zero, List.set_cons_succ, i64_w, i32_w]
      rfl
    refine pure_ (i := 5) (N := some 37) (v := ?_) (a' := ?_) #[true, false, false, false, false, true, false, false, false, false, false, false] rfl rfl (any_of HT_.out (by kernel_rfl)) (fun _ _ _ h => h) (Or.inl ⟨by rfl, ?_⟩) ?_ ?_
    rotate_left
    · intro w'
      go_simp
      with_reducible rfl
    rotate_left
    · simp only [Act.put, List.setIfInBounds_toArray, List.set_cons_zero, List.set_cons_succ, i64_w, i32_w]
      rfl
    refine pure_ (i := 8) (N := some 40) (v := ?_) (a' := ?_) #[true, false, false, false, false, true, false, false, true, false, false, false] rfl rfl (any_of HT_.out (by kernel_rfl)) (fun _ _ _ h => h) (Or.inl ⟨by rfl, ?_⟩) ?_ ?_
    rotate_left
    · intro w'
      go_simp
      with_reducible rfl
    rotate_left
    · simp only [Act.put, List.setIfInBounds_toArray, List.set_cons_zero, List.set_cons_succ, i64_w, i32_w]
      rfl
    refine take_ (i := 1) (N := some 33) (v := ?_) (a' := ?_) #[true, true, false, false, false, true, false, false, true, false, false, false] rfl rfl (take_ofW HT_.out HW_.out (by kernel_rfl)) (fun _ _ _ h => h) (Or.inl ⟨by rfl, ?_⟩) hHeld ?_ ?_
    rotate_left
    · rintro w' ⟨s0, s1, s2, s3⟩
      go_simp
      with_reducible rfl
    rotate_left
    · simp only [Act.put, List.setIfInBounds_toArray, List.set_cons_zero, List.set_cons_succ, i64_w, i32_w]
      rfl
    refine pure_ (i := 2) (N := some 34) (v := ?_) (a' := ?_) #[true, true, true, false, false, true, false, false, true, false, false, false] rfl rfl (any_of HT_.out (by kernel_rfl)) (fun _ _ _ h => h) (Or.inl ⟨by rfl, ?_⟩) ?_ ?_
    rotate_left
    · intro w'
      go_simp
      with_reducible rfl
    rotate_left
    · simp only [Act.put, List.setIfInBounds_toArray, List.set_cons_zero, List.set_cons_succ, i64_w, i32_w]
      rfl
    refine pure_ (i := 3) (N := some 35) (v := ?_) (a' := ?_) #[true, true, true, true, false, true, false, false, true, false, false, false] rfl rfl (any_of HT_.out (by kernel_rfl)) (fun _ _ _ h => h) (Or.inl ⟨by rfl, ?_⟩) ?_ ?_
    rotate_left
    · intro w'
      go_simp
      with_reducible rfl
    rotate_left
    · simp only [Act.put, List.setIfInBounds_toArray, List.set_cons_zero, List.set_cons_succ, i64_w, i32_w]
      rfl
    refine pure_ (i := 4) (N := some 36) (v := ?_) (a' := ?_) #[true, true, true, true, true, true, false, false, true, false, false, false] rfl rfl (any_of HT_.out (by kernel_rfl)) (fun _ _ _ h => h) (Or.inl ⟨by rfl, ?_⟩) ?_ ?_
    rotate_left
    · intro w'
      go_simp
      with_reducible rfl
    rotate_left
    · simp only [Act.put, List.setIfInBounds_toArray, List.set_cons_zero, List.set_cons_succ, i64_w, i32_w]
      rfl
    refine pure_ (i := 10) (N := some 5) (v := ?_) (a' := ?_) #[true, true, true, true, true, true, false, false, true, false, true, false] rfl rfl (any_of HT_.out (by kernel_rfl)) (fun _ _ _ h => h) (Or.inl ⟨by rfl, ?_⟩) ?_ ?_
    rotate_left
    · intro w'
      go_simp
      with_reducible rfl
    rotate_left
    · simp only [Act.put, List.setIfInBounds_toArray, List.set_cons_zero, List.set_cons_succ, i64_w, i32_w]
      rfl
    refine take_ (i := 6) (N := some 38) (v := ?_) (a' := ?_) #[true, true, true, true, true, true, true, false, true, false, true, false] rfl rfl (take_ofW HT_.out HW_.out (by kernel_rfl)) (fun _ _ _ h => h) (Or.inl ⟨by rfl, ?_⟩) hHeld ?_ ?_
    rotate_left
    · rintro w' ⟨s0, s1, s2, s3⟩
      go_simp
      with_reducible rfl
    rotate_left
    · simp only [Act.put, List.setIfInBounds_toArray, List.set_cons_zero, List.set_cons_succ, i64_w, i32_w]
      rfl
    refine pure_ (i := 7) (N := some 39) (v := ?_) (a' := ?_) #[true, true, true, true, true, true, true, true, true, false, true, false] rfl rfl (any_of HT_.out (by kernel_rfl)) (fun _ _ _ h => h) (Or.inl ⟨by rfl, ?_⟩) ?_ ?_
    rotate_left
    · intro w'
      go_simp
      with_reducible rfl
    rotate_left
    · simp only [Act.put, List.setIfInBounds_toArray, List.set_cons_zero, List.set_cons_succ, i64_w, i32_w]
      rfl
    refine pure_ (i := 9) (N := some 41) (v := ?_) (a' := ?_) #[true, true, true, true, true, true, true, true, true, true, true, false] rfl rfl (any_of HT_.out (by kernel_rfl)) (fun _ _ _ h => h) (Or.inl ⟨by rfl, ?_⟩) ?_ ?_
    rotate_left
    · intro w'
      go_simp
      with_reducible rfl
    rotate_left
    · simp only [Act.put, List.setIfInBounds_toArray, List.set_cons_zero, List.set_cons_succ, i64_w, i32_w]
      rfl
    refine pure_ (i := 11) (N := some 6) (v := ?_) (a' := ?_) #[true, true, true, true, true, true, true, true, true, true, true, true] rfl rfl (any_of HT_.out (by kernel_rfl)) (fun _ _ _ h => h) (Or.inl ⟨by rfl, ?_⟩) ?_ ?_
    rotate_left
    · intro w'
      go_simp
      with_reducible rfl
    rotate_left
    · simp only [Act.put, List.setIfInBounds_toArray, List.set_cons_zero, List.set_cons_succ, i64_w, i32_w]
      rfl
    refine done_ (done_of HT_.out (by kernel_rfl)) ?_
    try go_wp2_with (first | ((with_reducible refine gate_dst (N := 7) rfl ?_); (try (refine gate_guard (by rfl) ?_; dsimp only)); refine box_event ?hg (N := 7) ?hd (cs := #[.int .i64 0, .slice none 0 0]) (t := 25) ?hr ?_; (case hd => rfl); (case hg => rfl); (case hr => first | (go_simp; done) | (go_simp; rfl)); intro gb129 hg w6 hbox hb; have n0_ := Aside0.mk (blk_below (g := gb128) (o := .cells #[.int .u8 a0_0, .int .u8 a0_1, .int .u8 a0_2, .int .u8 a0_3] 22 (0, 0)) (by (with_reducible repeat (first | refine blk_drewN ?_ _ | refine blk_drew ?_ | refine blk_alloc ?_ _)); exact BK128.out) hb); have n1_ := Aside0.mk (below_step (by repeat (first | (with_reducible first | exact HB.out | apply below_alloc | apply pw_below_drewN | apply below_drew1 | refine below_set ?_ GE128.out) | exact HB.out)) hb); have n2_ := Aside0.mk (hbox); have n3_ := Aside0.mk ((by rw [hg]; exact (below_size (by repeat (first | (with_reducible first | exact HB.out | apply below_alloc | apply pw_below_drewN | apply below_drew1 | refine below_set ?_ GE128.out) | exact HB.out))) : w.heap.size ≤ gb129)); have n4_ := Aside0.mk ((by rw [hg]; exact (below_size (by repeat (first | (with_reducible first | exact HB.out | apply below_alloc | apply pw_below_drewN | apply below_drew1 | refine below_set ?_ GE128.out) | exact HB.out))) : w.heap.size ≤ gb129)); have n5_ := Aside0.mk ((by rw [hg]; exact Nat.ne_of_lt (blk_lt (g := gb128) (o := .cells #[.int .u8 a0_0, .int .u8 a0_1, .int .u8 a0_2, .int .u8 a0_3] 22 (0, 0)) (by (with_reducible repeat (first | refine blk_drewN ?_ _ | refine blk_drew ?_ | refine blk_alloc ?_ _)); exact BK128.out)) : gb128 ≠ gb129)); have n6_ := Aside0.mk ((by rw [hg]; exact Nat.ne_of_gt (blk_lt (g := gb128) (o := .cells #[.int .u8 a0_0, .int .u8 a0_1, .int .u8 a0_2, .int .u8 a0_3] 22 (0, 0)) (by (with_reducible repeat (first | refine blk_drewN ?_ _ | refine blk_drew ?_ | refine blk_alloc ?_ _)); exact BK128.out)) : gb129 ≠ gb128)); clear BK128; clear HB; have BK128 := n0_; have HB := n1_; have BK129 := n2_; have GW129 := n3_; have GE129 := n4_; have NB128_129 := n5_; have NB129_128 := n6_; clear n0_ n1_ n2_ n3_ n4_ n5_ n6_; clear hb hbox hg) | ((with_reducible refine gate_dst (N := 8) rfl ?_); (try (refine gate_guard (by rfl) ?_; dsimp only)); refine box_event ?hg (N := 8) ?hd (cs := #[.slice none 0 0, .int .i64 0, .int .i64 0, .int .i64 0]) (t := 28) ?hr ?_; (case hd => rfl); (case hg => rfl); (case hr => first | (go_simp; done) | (go_simp; rfl)); intro gb130 hg w7 hbox hb; have n0_ := Aside0.mk (blk_below (g := gb128) (o := .cells #[.int .u8 a0_0, .int .u8 a0_1, .int .u8 a0_2, .int .u8 a0_3] 22 (0, 0)) (by (with_reducible repeat (first | refine blk_drewN ?_ _ | refine blk_drew ?_ | refine blk_alloc ?_ _)); exact BK128.out) hb); have n1_ := Aside0.mk (blk_below (g := gb129) (o := .cells #[.int .i64 0, .slice none 0 0] 25 (0, 0)) (by (with_reducible repeat (first | refine blk_drewN ?_ _ | refine blk_drew ?_ | refine blk_alloc ?_ _)); exact BK129.out) hb); have n2_ := Aside0.mk (below_step (by repeat (first | (with_reducible first | exact HB.out | apply below_alloc | apply pw_below_drewN | apply below_drew1 | refine below_set ?_ GE128.out | refine below_set ?_ GE129.out) | exact HB.out)) hb); have n3_ := Aside0.mk (hbox); have n4_ := Aside0.mk ((by rw [hg]; exact (below_size (by repeat (first | (with_reducible first | exact HB.out | apply below_alloc | apply pw_below_drewN | apply below_drew1 | refine below_set ?_ GE128.out | refine below_set ?_ GE129.out) | exact HB.out))) : w.heap.size ≤ gb130)); have n5_ := Aside0.mk ((by rw [hg]; exact (below_size (by repeat (first | (with_reducible first | exact HB.out | apply below_alloc | apply pw_below_drewN | apply below_drew1 | refine below_set ?_ GE128.out | refine below_set ?_ GE129.out) | exact HB.out))) : w.heap.size ≤ gb130)); have n6_ := Aside0.mk ((by rw [hg]; exact Nat.ne_of_lt (blk_lt (g := gb128) (o := .cells #[.int .u8 a0_0, .int .u8 a0_1, .int .u8 a0_2, .int .u8 a0_3] 22 (0, 0)) (by (with_reducible repeat (first | refine blk_drewN ?_ _ | refine blk_drew ?_ | refine blk_alloc ?_ _)); exact BK128.out)) : gb128 ≠ gb130)); have n7_ := Aside0.mk ((by rw [hg]; exact Nat.ne_of_gt (blk_lt (g := gb128) (o := .cells #[.int .u8 a0_0, .int .u8 a0_1, .int .u8 a0_2, .int .u8 a0_3] 22 (0, 0)) (by (with_reducible repeat (first | refine blk_drewN ?_ _ | refine blk_drew ?_ | refine blk_alloc ?_ _)); exact BK128.out)) : gb130 ≠ gb128)); have n8_ := Aside0.mk ((by rw [hg]; exact Nat.ne_of_lt (blk_lt (g := gb129) (o := .cells #[.int .i64 0, .slice none 0 0] 25 (0, 0)) (by (with_reducible repeat (first | refine blk_drewN ?_ _ | refine blk_drew ?_ | refine blk_alloc ?_ _)); exact BK129.out)) : gb129 ≠ gb130)); have n9_ := Aside0.mk ((by rw [hg]; exact Nat.ne_of_gt (blk_lt (g := gb129) (o := .cells #[.int .i64 0, .slice none 0 0] 25 (0, 0)) (by (with_reducible repeat (first | refine blk_drewN ?_ _ | refine blk_drew ?_ | refine blk_alloc ?_ _)); exact BK129.out)) : gb130 ≠ gb129)); clear BK128; clear BK129; clear HB; have BK128 := n0_; have BK129 := n1_; have HB := n2_; have BK130 := n3_; have GW130 := n4_; have GE130 := n5_; have NB128_130 := n6_; have NB130_128 := n7_; have NB129_130 := n8_; have NB130_129 := n9_; clear n0_ n1_ n2_ n3_ n4_ n5_ n6_ n7_ n8_ n9_; clear hb hbox hg; have hnb8 := NB129_128.out; have hnc8 := NB128_129.out; have hnb9 := NB129_130.out; have hnc9 := NB130_129.out; have hcz10_0 : w7.cell? ⟨gb129, 0, none⟩ = some (.int .i64 0) := (blk_cell BK129.out 0).trans rfl; have hcz10_1 : w7.cell? ⟨gb129, 1, none⟩ = some (.slice none 0 0) := (blk_cell BK129.out 1).trans rfl; have hfz10_0 := blk_frozen BK129.out 0; have hfz10_1 := blk_frozen BK129.out 1; have hnb11 := NB130_128.out; have hnc11 := NB128_130.out; have hcz12_0 : w7.cell? ⟨gb130, 0, none⟩ = some (.slice none 0 0) := (blk_cell BK130.out 0).trans rfl; have hcz12_1 : w7.cell? ⟨gb130, 1, none⟩ = some (.int .i64 0) := (blk_cell BK130.out 1).trans rfl; have hcz12_2 : w7.cell? ⟨gb130, 2, none⟩ = some (.int .i64 0) := (blk_cell BK130.out 2).trans rfl; have hcz12_3 : w7.cell? ⟨gb130, 3, none⟩ = some (.int .i64 0) := (blk_cell BK130.out 3).trans rfl; have hfz12_0 := blk_frozen BK130.out 0; have hfz12_1 := blk_frozen BK130.out 1; have hfz12_2 := blk_frozen BK130.out 2; have hfz12_3 := blk_frozen BK130.out 3))
    go_loopg [9, 11] k (fun kq v9 v11 w' => ∃ (x9_1 : ByteArray) (x11_1 : Int) (x130001_1 : List (S33)) (u130001 : Value), v9 = .string x9_1 ∧ v11 = .int .i64 x11_1 ∧ Aside0 (panachetop_TopFaceColumns.l0 kq (wrap64 (1 + (Int.tmod (wrap64 (a0_0)) 8))) (wrap64 (2 + (Int.tmod (wrap64 (a0_1)) 3))) (Int.tmod (wrap64 (a0_3)) (wrap64 (2 + (Int.tmod (wrap64 (a0_1)) 3)))) x9_1 (⟨#[35]⟩ : ByteArray) x11_1 (wrap64 (20 * (wrap64 ((wrap64 (1 + (Int.tmod (wrap64 (a0_0)) 8))) + (wrap64 (2 + (Int.tmod (wrap64 (a0_1)) 3))))))) x130001_1 (wrap64 (1 + (Int.tmod (wrap64 (a0_2)) 9))) 0 (wrap64 (20 * (wrap64 (2 + (Int.tmod (wrap64 (a0_1)) 3))))) = some r) ∧ Aside0 (kq ≤ k) ∧ Aside0 (Kd.R k33 33 w' w.heap.size (fun _ => True) u130001 x130001_1) ∧ Aside0 (w'.heap[gb128]? = some (.cells #[.int .u8 a0_0, .int .u8 a0_1, .int .u8 a0_2, .int .u8 a0_3] 22 (0, 0))) ∧ Aside0 (w'.heap[gb129]? = some (.cells #[.int .i64 (wrap64 (20 * (wrap64 ((wrap64 (1 + (Int.tmod (wrap64 (a0_0)) 8))) + (wrap64 (2 + (Int.tmod (wrap64 (a0_1)) 3))))))), u130001] 25 (0, 0))) ∧ Aside0 (w'.heap[gb130]? = some (.cells #[(.slice none 0 0), .int .i64 (wrap64 (1 + (Int.tmod (wrap64 (a0_2)) 9))), .int .i64 0, .int .i64 (wrap64 (20 * (wrap64 (2 + (Int.tmod (wrap64 (a0_1)) 3)))))] 28 (0, 0))) ∧ Aside0 (Below w.heap.size w w'))
    case atStart => exact ⟨((⟨#[]⟩ : ByteArray)), (0), (([] : List (S33))), (.slice none 0 0), (by first | rfl | (simp; done) | (simp [*]; done)), (by first | rfl | (simp; done) | (simp [*]; done)), H', ⟨Nat.le_refl _⟩, ⟨by first | exact Kd.R_nil _ _ _ _ _ | exact Kd.N_nil _ _ _ _ _ | exact Kd.V_nil _ _ _ _ _ | exact Kd.Q_nil _ _ _ _ _ | exact Kd.S_nil _ _ _ _ _⟩, ⟨by (with_reducible repeat (first | refine blk_drewN ?_ _ | refine blk_drew ?_ | refine blk_alloc ?_ _)); refine blk_far ?_ NB128_130.out _; (with_reducible repeat (first | refine blk_drewN ?_ _ | refine blk_drew ?_ | refine blk_alloc ?_ _)); refine blk_far ?_ NB128_130.out _; (with_reducible repeat (first | refine blk_drewN ?_ _ | refine blk_drew ?_ | refine blk_alloc ?_ _)); refine blk_far ?_ NB128_130.out _; (with_reducible repeat (first | refine blk_drewN ?_ _ | refine blk_drew ?_ | refine blk_alloc ?_ _)); refine blk_far ?_ NB128_130.out _; (with_reducible repeat (first | refine blk_drewN ?_ _ | refine blk_drew ?_ | refine blk_alloc ?_ _)); refine blk_far ?_ NB128_129.out _; (with_reducible repeat (first | refine blk_drewN ?_ _ | refine blk_drew ?_ | refine blk_alloc ?_ _)); refine blk_far ?_ NB128_129.out _; (with_reducible repeat (first | refine blk_drewN ?_ _ | refine blk_drew ?_ | refine blk_alloc ?_ _)); exact BK128.out⟩, ⟨by (with_reducible repeat (first | refine blk_drewN ?_ _ | refine blk_drew ?_ | refine blk_alloc ?_ _)); refine blk_far ?_ NB129_130.out _; (with_reducible repeat (first | refine blk_drewN ?_ _ | refine blk_drew ?_ | refine blk_alloc ?_ _)); refine blk_far ?_ NB129_130.out _; (with_reducible repeat (first | refine blk_drewN ?_ _ | refine blk_drew ?_ | refine blk_alloc ?_ _)); refine blk_far ?_ NB129_130.out _; (with_reducible repeat (first | refine blk_drewN ?_ _ | refine blk_drew ?_ | refine blk_alloc ?_ _)); refine blk_far ?_ NB129_130.out _; (with_reducible repeat (first | refine blk_drewN ?_ _ | refine blk_drew ?_ | refine blk_alloc ?_ _)); refine blk_put (cs := #[.int .i64 (wrap64 (20 * (wrap64 ((wrap64 (1 + (Int.tmod (wrap64 (a0_0)) 8))) + (wrap64 (2 + (Int.tmod (wrap64 (a0_1)) 3))))))), .slice none 0 0]) ?_ 1 _ rfl; (with_reducible repeat (first | refine blk_drewN ?_ _ | refine blk_drew ?_ | refine blk_alloc ?_ _)); refine blk_put (cs := #[.int .i64 0, .slice none 0 0]) ?_ 0 _ rfl; (with_reducible repeat (first | refine blk_drewN ?_ _ | refine blk_drew ?_ | refine blk_alloc ?_ _)); exact BK129.out⟩, ⟨by (with_reducible repeat (first | refine blk_drewN ?_ _ | refine blk_drew ?_ | refine blk_alloc ?_ _)); refine blk_put (cs := #[.slice none 0 0, .int .i64 (wrap64 (1 + (Int.tmod (wrap64 (a0_2)) 9))), .int .i64 0, .int .i64 0]) ?_ 3 _ rfl; (with_reducible repeat (first | refine blk_drewN ?_ _ | refine blk_drew ?_ | refine blk_alloc ?_ _)); refine blk_put (cs := #[.slice none 0 0, .int .i64 (wrap64 (1 + (Int.tmod (wrap64 (a0_2)) 9))), .int .i64 0, .int .i64 0]) ?_ 2 _ rfl; (with_reducible repeat (first | refine blk_drewN ?_ _ | refine blk_drew ?_ | refine blk_alloc ?_ _)); refine blk_put (cs := #[.slice none 0 0, .int .i64 0, .int .i64 0, .int .i64 0]) ?_ 1 _ rfl; (with_reducible repeat (first | refine blk_drewN ?_ _ | refine blk_drew ?_ | refine blk_alloc ?_ _)); refine blk_put (cs := #[.slice none 0 0, .int .i64 0, .int .i64 0, .int .i64 0]) ?_ 0 _ rfl; (with_reducible repeat (first | refine blk_drewN ?_ _ | refine blk_drew ?_ | refine blk_alloc ?_ _)); refine blk_far ?_ NB130_129.out _; (with_reducible repeat (first | refine blk_drewN ?_ _ | refine blk_drew ?_ | refine blk_alloc ?_ _)); refine blk_far ?_ NB130_129.out _; (with_reducible repeat (first | refine blk_drewN ?_ _ | refine blk_drew ?_ | refine blk_alloc ?_ _)); exact BK130.out⟩, ⟨by repeat (first | (with_reducible first | exact HB.out | apply below_alloc | apply pw_below_drewN | apply below_drew1 | refine below_set ?_ GE128.out | refine below_set ?_ GE129.out | refine below_set ?_ GE130.out) | exact HB.out)⟩⟩
    case round =>
      clear H'
      try clear c1
      try clear c2
      try clear c2b0
      try clear c2b1
      try clear p2
      try clear c3
      try clear p6
      try clear c8
      try clear c9
      try clear c11
      try clear hcz10_0
      try clear hcz10_1
      try clear hcz12_0
      try clear hcz12_1
      try clear hcz12_2
      try clear hcz12_3
      try clear hfz10_0
      try clear hfz10_1
      try clear hfz12_0
      try clear hfz12_1
      try clear hfz12_2
      try clear hfz12_3
      obtain ⟨x9_1, x11_1, x130001_1, u130001, rfl, rfl, HA, HK1, HO_130001, BK128, BK129, BK130, HB⟩ := hrel
      cases gk with
      | zero => exact absurd HA.out (by simp [panachetop_TopFaceColumns.l0])
      | succ k1 =>
        have H := HA.out
        clear HA
        simp only [panachetop_TopFaceColumns.l0] at H
        by_cases c13 : x11_1 < (wrap64 (1 + (Int.tmod (wrap64 (a0_0)) 8)))
        · rw [if_pos c13] at H
          have c13b0 : decide (x11_1 < (wrap64 (1 + (Int.tmod (wrap64 (a0_0)) 8)))) = true := decide_eq_true c13
          clear c13
          replace H := Option.bind_eq_some_iff.mp H
          obtain ⟨⟨t131, t132⟩, A140, H⟩ := H
          replace H : ((panachetop_oakSpan.f (wrap64 (20 * (wrap64 ((wrap64 (x11_1 + (wrap64 (2 + (Int.tmod (wrap64 (a0_1)) 3))))) + 1)))) (wrap64 (20 * (wrap64 ((wrap64 (x11_1 + (wrap64 (2 + (Int.tmod (wrap64 (a0_1)) 3))))) + 1))))).bind fun bt133 => (if x130001_1.length < 4398046511104 then (if x9_1.size + 1 ≤ 9223372036854775807 then (panachetop_TopFaceColumns.l0 k1 (wrap64 (1 + (Int.tmod (wrap64 (a0_0)) 8))) (wrap64 (2 + (Int.tmod (wrap64 (a0_1)) 3))) (Int.tmod (wrap64 (a0_3)) (wrap64 (2 + (Int.tmod (wrap64 (a0_1)) 3)))) (x9_1 ++ (⟨#[49]⟩ : ByteArray)) (⟨#[35]⟩ : ByteArray) (wrap64 (x11_1 + 1)) (wrap64 (20 * (wrap64 ((wrap64 (1 + (Int.tmod (wrap64 (a0_0)) 8))) + (wrap64 (2 + (Int.tmod (wrap64 (a0_1)) 3))))))) (x130001_1 ++ [(⟨(⟨t131, t132⟩ : S30), (⟨bt133.1, bt133.2⟩ : S30)⟩ : S33)]) (wrap64 (1 + (Int.tmod (wrap64 (a0_2)) 9))) 0 (wrap64 (20 * (wrap64 (2 + (Int.tmod (wrap64 (a0_1)) 3)))))) else (none)) else (none))) = some r := H
          have A14 := Aside0.mk A140
          clear A140
          replace H := Option.bind_eq_some_iff.mp H
          obtain ⟨⟨t133, t134⟩, A150, H⟩ := H
          replace H : (if x130001_1.length < 4398046511104 then (if x9_1.size + 1 ≤ 9223372036854775807 then (panachetop_TopFaceColumns.l0 k1 (wrap64 (1 + (Int.tmod (wrap64 (a0_0)) 8))) (wrap64 (2 + (Int.tmod (wrap64 (a0_1)) 3))) (Int.tmod (wrap64 (a0_3)) (wrap64 (2 + (Int.tmod (wrap64 (a0_1)) 3)))) (x9_1 ++ (⟨#[49]⟩ : ByteArray)) (⟨#[35]⟩ : ByteArray) (wrap64 (x11_1 + 1)) (wrap64 (20 * (wrap64 ((wrap64 (1 + (Int.tmod (wrap64 (a0_0)) 8))) + (wrap64 (2 + (Int.tmod (wrap64 (a0_1)) 3))))))) (x130001_1 ++ [(⟨(⟨t131, t132⟩ : S30), (⟨t133, t134⟩ : S30)⟩ : S33)]) (wrap64 (1 + (Int.tmod (wrap64 (a0_2)) 9))) 0 (wrap64 (20 * (wrap64 (2 + (Int.tmod (wrap64 (a0_1)) 3)))))) else (none)) else (none)) = some r := H
          have A15 := Aside0.mk A150
          clear A150
          by_cases c16 : x130001_1.length < 4398046511104
          · rw [if_pos c16] at H
            have LMc16 := Aside0.mk c16
            clear c16
            obtain ⟨y135, hy135⟩ : ∃ y_ : List (S33), y_ = (x130001_1 ++ [(⟨(⟨t131, t132⟩ : S30), (⟨t133, t134⟩ : S30)⟩ : S33)]) := ⟨_, rfl⟩
            replace H : (if x9_1.size + 1 ≤ 9223372036854775807 then (panachetop_TopFaceColumns.l0 k1 (wrap64 (1 + (Int.tmod (wrap64 (a0_0)) 8))) (wrap64 (2 + (Int.tmod (wrap64 (a0_1)) 3))) (Int.tmod (wrap64 (a0_3)) (wrap64 (2 + (Int.tmod (wrap64 (a0_1)) 3)))) (x9_1 ++ (⟨#[49]⟩ : ByteArray)) (⟨#[35]⟩ : ByteArray) (wrap64 (x11_1 + 1)) (wrap64 (20 * (wrap64 ((wrap64 (1 + (Int.tmod (wrap64 (a0_0)) 8))) + (wrap64 (2 + (Int.tmod (wrap64 (a0_1)) 3))))))) y135 (wrap64 (1 + (Int.tmod (wrap64 (a0_2)) 9))) 0 (wrap64 (20 * (wrap64 (2 + (Int.tmod (wrap64 (a0_1)) 3)))))) else (none)) = some r := by first | (rw [hy135]; with_reducible exact H) | (have H2_ := (Option.bind_some _ _).symm.trans H; rw [hy135]; with_reducible exact H2_) | (have H2_ := (Option.bind_some _ _).symm.trans H; with_reducible exact H2_) | with_reducible exact H | (rw [hy135]; exact H) | exact H
            have Ny135 := Aside0.mk hy135
            clear hy135
            by_cases c17 : x9_1.size + 1 ≤ 9223372036854775807
            · rw [if_pos c17] at H
              have c17b0 := eq_true c17
              have c17b1 : decide (x9_1.size + 1 ≤ 9223372036854775807) = true := decide_eq_true c17
              try have c17b2 : (9223372036854775807 < x9_1.size + 1) = False := eq_false (Nat.not_lt.2 c17)
              have H' := Aside0.mk H
              clear H
              try go_wp2
              have n0_ := Aside0.mk (Kd.R_drew HO_130001.out)
              have n1_ := Aside0.mk (blk_drew BK128.out)
              have n2_ := Aside0.mk (blk_drew BK129.out)
              have n3_ := Aside0.mk (blk_drew BK130.out)
              have n4_ := Aside0.mk (below_drew1 HB.out)
              clear HO_130001
              clear BK128
              clear BK129
              clear BK130
              clear HB
              have HO_130001 := n0_
              have BK128 := n1_
              have BK129 := n2_
              have BK130 := n3_
              have HB := n4_
              clear n0_ n1_ n2_ n3_ n4_
              refine start_ (n := 13) (S := fun w' => w'.cell? ⟨gb129, 0, none⟩ = some (.int .i64 (wrap64 (20 * (wrap64 ((wrap64 (1 + (Int.tmod (wrap64 (a0_0)) 8))) + (wrap64 (2 + (Int.tmod (wrap64 (a0_1)) 3)))))))) ∧ w'.cell? ⟨gb129, 1, none⟩ = some (u130001)) (ds := [12]) #[false, false, false, false, false, false, false, false, false, false, false, false, false] (by kernel_rfl) rfl rfl ⟨(blk_cell BK129.out 0).trans rfl, (blk_cell BK129.out 1).trans rfl⟩ (fun hHeld => ?_); refine with_tabW panachetop_TopFaceColumns.tab9 panachetop_TopFaceColumns.bits9 (fun HT_ HW_ => ?_)
              generalize wr.drew = w18 at HO_130001 BK128 BK129 BK130 HB hHeld ⊢
              refine pure_ (i := 0) (N := some 65) (v := ?_) (a' := ?_) #[true, false, false, false, false, false, false, false, false, false, false, false, false] rfl rfl (any_of HT_.out (by kernel_rfl)) (fun _ _ _ h => h) (Or.inl ⟨by rfl, ?_⟩) ?_ ?_
              rotate_left
              · intro w'
                go_simp
                with_reducible rfl
              rotate_left
              · simp only [Act.put, List.setIfInBounds_toArray, List.set_cons_zero, List.set_cons_succ, i64_w, i32_w]
                rfl
              refine pure_ (i := 2) (N := some 67) (v := ?_) (a' := ?_) #[true, false, true, false, false, false, false, false, false, false, false, false, false] rfl rfl (any_of HT_.out (by kernel_rfl)) (fun _ _ _ h => h) (Or.inl ⟨by rfl, ?_⟩) ?_ ?_
              rotate_left
              · intro w'
                go_simp
                with_reducible rfl
              rotate_left
              · simp only [Act.put, List.setIfInBounds_toArray, List.set_cons_zero, List.set_cons_succ, i64_w, i32_w]
                rfl
              refine pure_ (i := 3) (N := some 68) (v := ?_) (a' := ?_) #[true, false, true, true, false, false, false, false, false, false, false, false, false] rfl rfl (any_of HT_.out (by kernel_rfl)) (fun _ _ _ h => h) (Or.inl ⟨by rfl, ?_⟩) ?_ ?_
              rotate_left
              · intro w'
                go_simp
                with_reducible rfl
              rotate_left
              · simp only [Act.put, List.setIfInBounds_toArray, List.set_cons_zero, List.set_cons_succ, i64_w, i32_w]
                rfl
              refine pure_ (i := 5) (N := some 70) (v := ?_) (a' := ?_) #[true, false, true, true, false, true, false, false, false, false, false, false, false] rfl rfl (any_of HT_.out (by kernel_rfl)) (fun _ _ _ h => h) (Or.inl ⟨by rfl, ?_⟩) ?_ ?_
              rotate_left
              · intro w'
                go_simp
                with_reducible rfl
              rotate_left
              · simp only [Act.put, List.setIfInBounds_toArray, List.set_cons_zero, List.set_cons_succ, i64_w, i32_w]
                rfl
              refine pure_ (i := 6) (N := some 71) (v := ?_) (a' := ?_) #[true, false, true, true, false, true, true, false, false, false, false, false, false] rfl rfl (any_of HT_.out (by kernel_rfl)) (fun _ _ _ h => h) (Or.inl ⟨by rfl, ?_⟩) ?_ ?_
              rotate_left
              · intro w'
                go_simp
                with_reducible rfl
              rotate_left
              · simp only [Act.put, List.setIfInBounds_toArray, List.set_cons_zero, List.set_cons_succ, i64_w, i32_w]
                rfl
              refine take_ (i := 1) (N := some 66) (v := ?_) (a' := ?_) #[true, true, true, true, false, true, true, false, false, false, false, false, false] rfl rfl (take_ofW HT_.out HW_.out (by kernel_rfl)) (fun _ _ _ h => h) (Or.inl ⟨by rfl, ?_⟩) hHeld ?_ ?_
              rotate_left
              · rintro w' ⟨s0, s1⟩
                go_simp
                with_reducible rfl
              rotate_left
              · simp only [Act.put, List.setIfInBounds_toArray, List.set_cons_zero, List.set_cons_succ, i64_w, i32_w]
                rfl
              refine one_ (i := 4) (N := some 69) #[true, true, true, true, true, true, true, false, false, false, false, false, false] rfl rfl (one_of HT_.out (by kernel_rfl)) (by decide) (fun K hK => ?_)
              refine goes_ Tryd.func4 (by kernel_rfl) rfl #[.int .i64 (wrap64 (20 * (wrap64 (x11_1 + (wrap64 (2 + (Int.tmod (wrap64 (a0_1)) 3))))))), .int .i64 (wrap64 (20 * (wrap64 (x11_1 + (wrap64 (2 + (Int.tmod (wrap64 (a0_1)) 3)))))))] (by rfl) rfl rfl (by (try simp only [List.map_toArray, List.map_cons, List.map_nil]); first | done | rfl | (simp only [List.length_drop, List.length_take]; rfl)) ?_
              with_reducible refine (panachetop_oakSpan.calls (wrap64 (20 * (wrap64 (x11_1 + (wrap64 (2 + (Int.tmod (wrap64 (a0_1)) 3))))))) (wrap64 (20 * (wrap64 (x11_1 + (wrap64 (2 + (Int.tmod (wrap64 (a0_1)) 3))))))) t131 t132 _ A14.out).mono ?_
              rintro e w19 ⟨rfl, hb⟩
              refine ⟨_, rfl, ?_⟩
              have n0_ := Aside0.mk (Kd.R_below (by (with_reducible repeat (first | apply Kd.R_alloc | apply Kd.R_drewN | apply Kd.R_drew)); exact HO_130001.out) hb)
              have n1_ := Aside0.mk (blk_below (g := gb128) (o := .cells #[.int .u8 a0_0, .int .u8 a0_1, .int .u8 a0_2, .int .u8 a0_3] 22 (0, 0)) (by (with_reducible repeat (first | refine blk_drewN ?_ _ | refine blk_drew ?_ | refine blk_alloc ?_ _)); exact BK128.out) hb)
              have n2_ := Aside0.mk (blk_below (g := gb129) (o := .cells #[.int .i64 (wrap64 (20 * (wrap64 ((wrap64 (1 + (Int.tmod (wrap64 (a0_0)) 8))) + (wrap64 (2 + (Int.tmod (wrap64 (a0_1)) 3))))))), u130001] 25 (0, 0)) (by (with_reducible repeat (first | refine blk_drewN ?_ _ | refine blk_drew ?_ | refine blk_alloc ?_ _)); exact BK129.out) hb)
              have n3_ := Aside0.mk (blk_below (g := gb130) (o := .cells #[.slice none 0 0, .int .i64 (wrap64 (1 + (Int.tmod (wrap64 (a0_2)) 9))), .int .i64 0, .int .i64 (wrap64 (20 * (wrap64 (2 + (Int.tmod (wrap64 (a0_1)) 3)))))] 28 (0, 0)) (by (with_reducible repeat (first | refine blk_drewN ?_ _ | refine blk_drew ?_ | refine blk_alloc ?_ _)); exact BK130.out) hb)
              have n4_ := Aside0.mk (below_step (by repeat (first | (with_reducible first | exact HB.out | apply below_alloc | apply pw_below_drewN | apply below_drew1 | refine below_set ?_ GE128.out | refine below_set ?_ GE129.out | refine below_set ?_ GE130.out) | exact HB.out)) hb)
              clear HO_130001
              clear BK128
              clear BK129
              clear BK130
              clear HB
              have HO_130001 := n0_
              have BK128 := n1_
              have BK129 := n2_
              have BK130 := n3_
              have HB := n4_
              clear n0_ n1_ n2_ n3_ n4_
              (try clear hb)
              (try clear hb2)
              (try clear hk)
              (try clear hi)
              refine hK.out _ _ ⟨(blk_cell BK129.out 0).trans rfl, (blk_cell BK129.out 1).trans rfl⟩ (fun hHeld => ?_)
              clear hK K
              refine norm_ (a' := ?_) ?_ ?_
              rotate_left
              · show Act.put _ (some 69) _ = _
                simp only [Act.put, List.setIfInBounds_toArray, List.set_cons_zero, List.set_cons_succ, i64_w, i32_w]
                rfl
              refine one_ (i := 7) (N := some 72) #[true, true, true, true, true, true, true, true, false, false, false, false, false] rfl rfl (one_of HT_.out (by kernel_rfl)) (by decide) (fun K hK => ?_)
              refine goes_ Tryd.func4 (by kernel_rfl) rfl #[.int .i64 (wrap64 (20 * (wrap64 ((wrap64 (x11_1 + (wrap64 (2 + (Int.tmod (wrap64 (a0_1)) 3))))) + 1)))), .int .i64 (wrap64 (20 * (wrap64 ((wrap64 (x11_1 + (wrap64 (2 + (Int.tmod (wrap64 (a0_1)) 3))))) + 1))))] (by rfl) rfl rfl (by (try simp only [List.map_toArray, List.map_cons, List.map_nil]); first | done | rfl | (simp only [List.length_drop, List.length_take]; rfl)) ?_
              with_reducible refine (panachetop_oakSpan.calls (wrap64 (20 * (wrap64 ((wrap64 (x11_1 + (wrap64 (2 + (Int.tmod (wrap64 (a0_1)) 3))))) + 1)))) (wrap64 (20 * (wrap64 ((wrap64 (x11_1 + (wrap64 (2 + (Int.tmod (wrap64 (a0_1)) 3))))) + 1)))) t133 t134 _ A15.out).mono ?_
              rintro e w20 ⟨rfl, hb⟩
              refine ⟨_, rfl, ?_⟩
              have n0_ := Aside0.mk (Kd.R_below (by (with_reducible repeat (first | apply Kd.R_alloc | apply Kd.R_drewN | apply Kd.R_drew)); exact HO_130001.out) hb)
              have n1_ := Aside0.mk (blk_below (g := gb128) (o := .cells #[.int .u8 a0_0, .int .u8 a0_1, .int .u8 a0_2, .int .u8 a0_3] 22 (0, 0)) (by (with_reducible repeat (first | refine blk_drewN ?_ _ | refine blk_drew ?_ | refine blk_alloc ?_ _)); exact BK128.out) hb)
              have n2_ := Aside0.mk (blk_below (g := gb129) (o := .cells #[.int .i64 (wrap64 (20 * (wrap64 ((wrap64 (1 + (Int.tmod (wrap64 (a0_0)) 8))) + (wrap64 (2 + (Int.tmod (wrap64 (a0_1)) 3))))))), u130001] 25 (0, 0)) (by (with_reducible repeat (first | refine blk_drewN ?_ _ | refine blk_drew ?_ | refine blk_alloc ?_ _)); exact BK129.out) hb)
              have n3_ := Aside0.mk (blk_below (g := gb130) (o := .cells #[.slice none 0 0, .int .i64 (wrap64 (1 + (Int.tmod (wrap64 (a0_2)) 9))), .int .i64 0, .int .i64 (wrap64 (20 * (wrap64 (2 + (Int.tmod (wrap64 (a0_1)) 3)))))] 28 (0, 0)) (by (with_reducible repeat (first | refine blk_drewN ?_ _ | refine blk_drew ?_ | refine blk_alloc ?_ _)); exact BK130.out) hb)
              have n4_ := Aside0.mk (below_step (by repeat (first | (with_reducible first | exact HB.out | apply below_alloc | apply pw_below_drewN | apply below_drew1 | refine below_set ?_ GE128.out | refine below_set ?_ GE129.out | refine below_set ?_ GE130.out) | exact HB.out)) hb)
              clear HO_130001
              clear BK128
              clear BK129
              clear BK130
              clear HB
              have HO_130001 := n0_
              have BK128 := n1_
              have BK129 := n2_
              have BK130 := n3_
              have HB := n4_
              clear n0_ n1_ n2_ n3_ n4_
              (try clear hb)
              (try clear hb2)
              (try clear hk)
              (try clear hi)
              refine hK.out _ _ ⟨(blk_cell BK129.out 0).trans rfl, (blk_cell BK129.out 1).trans rfl⟩ (fun hHeld => ?_)
              clear hK K
              refine norm_ (a' := ?_) ?_ ?_
              rotate_left
              · show Act.put _ (some 72) _ = _
                simp only [Act.put, List.setIfInBounds_toArray, List.set_cons_zero, List.set_cons_succ, i64_w, i32_w]
                rfl
              refine pure_ (i := 8) (N := some 73) (v := ?_) (a' := ?_) #[true, true, true, true, true, true, true, true, true, false, false, false, false] rfl rfl (any_of HT_.out (by kernel_rfl)) (fun _ _ _ h => h) (Or.inl ⟨by rfl, ?_⟩) ?_ ?_
              rotate_left
              · intro w'
                go_simp
                with_reducible rfl
              rotate_left
              · simp only [Act.put, List.setIfInBounds_toArray, List.set_cons_zero, List.set_cons_succ, i64_w, i32_w]
                rfl
              refine one_ (i := 9) (N := some 74) #[true, true, true, true, true, true, true, true, true, true, false, false, false] rfl rfl (one_of HT_.out (by kernel_rfl)) (by decide) (fun K hK => ?_)
              refine value_ (w1 := ?_) (v := ?_) (by rfl) rfl ?_ ?_
              rotate_left 2
              · go_simp
                constructor
                · rfl
                · rfl
              refine hK.out _ _ ⟨(blk_cell (blk_alloc BK129.out _) 0).trans rfl, (blk_cell (blk_alloc BK129.out _) 1).trans rfl⟩ (fun hHeld => ?_)
              clear hK K
              refine norm_ (a' := ?_) ?_ ?_
              rotate_left
              · show Act.put _ (some 74) _ = _
                simp only [Act.put, List.setIfInBounds_toArray, List.set_cons_zero, List.set_cons_succ, i64_w, i32_w]
                rfl
              refine one_ (i := 10) (N := some 75) #[true, true, true, true, true, true, true, true, true, true, true, false, false] rfl rfl (one_of HT_.out (by kernel_rfl)) (by decide) (fun K hK => ?_)
              refine Kd.R_append_step k33 (w0 := w) w.heap.size (by rfl) (.tmp 66) (.tmp 74) 23 33 (.agg #[(.int .i64 0), (.int .i64 0), (.int .i64 0), (.int .i64 0)]) 32 rfl Tryd.underlying23 info33 rfl (by decide) (by omega) u130001 x130001_1 (⟨(⟨t131, t132⟩ : S30), (⟨t133, t134⟩ : S30)⟩ : S33) [.int .i64 t131, .int .i64 t132, .int .i64 t133, .int .i64 t134] (fun _ => True) (fun _ => False) rfl rfl ?aP (fun _ hk => hk.elim) ?aF ?aO ?aB ?aS ?aL ?_
              (case aP => exact k33_mkM _ _ _ (⟨(⟨t131, t132⟩ : S30), (⟨t133, t134⟩ : S30)⟩ : S33))
              (case aB => exact (by repeat (first | (with_reducible first | exact HB.out | apply below_alloc | apply pw_below_drewN | apply below_drew1 | refine below_set ?_ GE128.out | refine below_set ?_ GE129.out | refine below_set ?_ GE130.out) | exact HB.out)))
              (case aF => exact (fun _ _ => trivial))
              (case aO => exact (by (with_reducible repeat (first | apply Kd.R_alloc | apply Kd.R_drewN | apply Kd.R_drew)); exact HO_130001.out))
              (case aS => exact (below_size (by repeat (first | (with_reducible first | exact HB.out | apply below_alloc | apply pw_below_drewN | apply below_drew1 | refine below_set ?_ GE128.out | refine below_set ?_ GE129.out | refine below_set ?_ GE130.out) | exact HB.out))))
              (case aL => have := LMc16.out; omega)
              intro v136 w21 ho hb hg hat
              rw [← Ny135.out] at ho
              have n0_ := Aside0.mk (blk_grown (g := gb128) (o := .cells #[.int .u8 a0_0, .int .u8 a0_1, .int .u8 a0_2, .int .u8 a0_3] 22 (0, 0)) (by (with_reducible repeat (first | refine blk_drewN ?_ _ | refine blk_drew ?_ | refine blk_alloc ?_ _)); exact BK128.out) hg (Kd.R_ne HO_130001.out BK128.out (by decide)))
              have n1_ := Aside0.mk (blk_grown (g := gb129) (o := .cells #[.int .i64 (wrap64 (20 * (wrap64 ((wrap64 (1 + (Int.tmod (wrap64 (a0_0)) 8))) + (wrap64 (2 + (Int.tmod (wrap64 (a0_1)) 3))))))), u130001] 25 (0, 0)) (by (with_reducible repeat (first | refine blk_drewN ?_ _ | refine blk_drew ?_ | refine blk_alloc ?_ _)); exact BK129.out) hg (Kd.R_ne HO_130001.out BK129.out (by decide)))
              have n2_ := Aside0.mk (blk_grown (g := gb130) (o := .cells #[.slice none 0 0, .int .i64 (wrap64 (1 + (Int.tmod (wrap64 (a0_2)) 9))), .int .i64 0, .int .i64 (wrap64 (20 * (wrap64 (2 + (Int.tmod (wrap64 (a0_1)) 3)))))] 28 (0, 0)) (by (with_reducible repeat (first | refine blk_drewN ?_ _ | refine blk_drew ?_ | refine blk_alloc ?_ _)); exact BK130.out) hg (Kd.R_ne HO_130001.out BK130.out (by decide)))
              have n3_ := Aside0.mk (hb)
              have n4_ := Aside0.mk (ho)
              clear BK128
              clear BK129
              clear BK130
              clear HB
              clear HO_130001
              have BK128 := n0_
              have BK129 := n1_
              have BK130 := n2_
              have HB := n3_
              have HO137 := n4_
              clear n0_ n1_ n2_ n3_ n4_
              clear ho hb hg hat
              obtain ⟨Ao22, co22, eo22⟩ := Kd.R_slice HO137.out
              (first | subst eo22 | (injection eo22 with f1_ f2_ f3_; have f4_ := f1_.symm; have f5_ := f3_.symm; clear f1_ f2_ f3_; subst f4_; subst f5_))
              refine hK.out _ _ ⟨(blk_cell BK129.out 0).trans rfl, (blk_cell BK129.out 1).trans rfl⟩ (fun hHeld => ?_)
              clear hK K
              refine norm_ (a' := ?_) ?_ ?_
              rotate_left
              · show Act.put _ (some 75) _ = _
                simp only [Act.put, List.setIfInBounds_toArray, List.set_cons_zero, List.set_cons_succ, i64_w, i32_w]
                rfl
              refine pure_ (i := 11) (N := some 76) (v := ?_) (a' := ?_) #[true, true, true, true, true, true, true, true, true, true, true, true, false] rfl rfl (any_of HT_.out (by kernel_rfl)) (fun _ _ _ h => h) (Or.inl ⟨by rfl, ?_⟩) ?_ ?_
              rotate_left
              · intro w'
                go_simp
                with_reducible rfl
              rotate_left
              · simp only [Act.put, List.setIfInBounds_toArray, List.set_cons_zero, List.set_cons_succ, i64_w, i32_w]
                rfl
              refine last_ (i := 12) (N := none) #[true, true, true, true, true, true, true, true, true, true, true, true, true] rfl rfl (one_of HT_.out (by kernel_rfl)) (by decide) (fun K hK => ?_)
              have hs23 : w21.cell? ⟨gb129, 1, none⟩ = some (u130001) := (blk_cell BK129.out 1).trans rfl
              have hfs23 := blk_frozen BK129.out 1
              have hns23_0 := NB128_129.out
              have hns23_2 := NB130_129.out
              have hms23_0 := NB129_128.out
              have hms23_2 := NB129_130.out
              refine skip_ (w1 := ?_) (by rfl) rfl ?_ ?_
              rotate_left
              · go_simp
                rfl
              refine hK.out _ _ ?_
              clear hK K
              refine done_ (done_of HT_.out (by kernel_rfl)) ?_
              try go_wp2
              go_roundg k1
              case measure => have := HK1.out; omega
              case rel => exact ⟨(x9_1 ++ (⟨#[49]⟩ : ByteArray)), (wrap64 (x11_1 + 1)), (y135), (.slice Ao22 y135.length co22), (by first | rfl | (simp; done) | (simp [*]; done)), (by first | rfl | (simp; done) | (simp [*]; done)), H', ⟨by have := HK1.out; omega⟩, ⟨by (with_reducible repeat (first | apply Kd.R_alloc | apply Kd.R_drewN | apply Kd.R_drew)); exact Kd.R_mono (Kd.R_far (p := ⟨gb129, 1, none⟩) (Kd.R_types HO137.out BK129.out (by decide)) (fun _ hk => hk.2) (.slice Ao22 y135.length co22)) (fun _ hk => trivial)⟩, ⟨by (with_reducible repeat (first | refine blk_drewN ?_ _ | refine blk_drew ?_ | refine blk_alloc ?_ _)); refine blk_far ?_ NB128_129.out _; (with_reducible repeat (first | refine blk_drewN ?_ _ | refine blk_drew ?_ | refine blk_alloc ?_ _)); exact BK128.out⟩, ⟨by (with_reducible repeat (first | refine blk_drewN ?_ _ | refine blk_drew ?_ | refine blk_alloc ?_ _)); refine blk_put (cs := #[.int .i64 (wrap64 (20 * (wrap64 ((wrap64 (1 + (Int.tmod (wrap64 (a0_0)) 8))) + (wrap64 (2 + (Int.tmod (wrap64 (a0_1)) 3))))))), u130001]) ?_ 1 _ rfl; (with_reducible repeat (first | refine blk_drewN ?_ _ | refine blk_drew ?_ | refine blk_alloc ?_ _)); exact BK129.out⟩, ⟨by (with_reducible repeat (first | refine blk_drewN ?_ _ | refine blk_drew ?_ | refine blk_alloc ?_ _)); refine blk_far ?_ NB130_129.out _; (with_reducible repeat (first | refine blk_drewN ?_ _ | refine blk_drew ?_ | refine blk_alloc ?_ _)); exact BK130.out⟩, ⟨by repeat (first | (with_reducible first | exact HB.out | apply below_alloc | apply pw_below_drewN | apply below_drew1 | refine below_set ?_ GE128.out | refine below_set ?_ GE129.out | refine below_set ?_ GE130.out) | exact HB.out)⟩⟩
            · rw [if_neg c17] at H
              exact absurd H (by simp)
          · rw [if_neg c16] at H
            exact absurd H (by simp)
        · rw [if_neg c13] at H
          have c13b0 : decide (x11_1 < (wrap64 (1 + (Int.tmod (wrap64 (a0_0)) 8)))) = false := decide_eq_false c13
          clear c13
          have H' := Aside0.mk H
          clear H
          go_wp2
          go_loopg [14] k1 (fun kq v14 w' => ∃ (x14_2 : Int) (x131000_2 : List Int) (u131000 : Value), v14 = .int .i64 x14_2 ∧ Aside0 (panachetop_TopFaceColumns.l1 kq (wrap64 (1 + (Int.tmod (wrap64 (a0_0)) 8))) (wrap64 (2 + (Int.tmod (wrap64 (a0_1)) 3))) (Int.tmod (wrap64 (a0_3)) (wrap64 (2 + (Int.tmod (wrap64 (a0_1)) 3)))) x9_1 (⟨#[35]⟩ : ByteArray) x14_2 (wrap64 (20 * (wrap64 ((wrap64 (1 + (Int.tmod (wrap64 (a0_0)) 8))) + (wrap64 (2 + (Int.tmod (wrap64 (a0_1)) 3))))))) x130001_1 x131000_2 (wrap64 (1 + (Int.tmod (wrap64 (a0_2)) 9))) 0 (wrap64 (20 * (wrap64 (2 + (Int.tmod (wrap64 (a0_1)) 3))))) = some r) ∧ Aside0 (kq ≤ k1) ∧ Aside0 (Kd.R k33 33 w' w.heap.size (fun _ => True) u130001 x130001_1) ∧ Aside0 (Kd.R (Kd.int .i64) 3 w' w.heap.size (fun _ => True) u131000 x131000_2) ∧ Aside0 (w'.heap[gb128]? = some (.cells #[.int .u8 a0_0, .int .u8 a0_1, .int .u8 a0_2, .int .u8 a0_3] 22 (0, 0))) ∧ Aside0 (w'.heap[gb129]? = some (.cells #[.int .i64 (wrap64 (20 * (wrap64 ((wrap64 (1 + (Int.tmod (wrap64 (a0_0)) 8))) + (wrap64 (2 + (Int.tmod (wrap64 (a0_1)) 3))))))), u130001] 25 (0, 0))) ∧ Aside0 (w'.heap[gb130]? = some (.cells #[u131000, .int .i64 (wrap64 (1 + (Int.tmod (wrap64 (a0_2)) 9))), .int .i64 0, .int .i64 (wrap64 (20 * (wrap64 (2 + (Int.tmod (wrap64 (a0_1)) 3)))))] 28 (0, 0))) ∧ Aside0 (Below w.heap.size w w'))
          case atStart => exact ⟨(10), (([] : List Int)), (.slice none 0 0), (by first | rfl | (simp; done) | (simp [*]; done)), H', ⟨Nat.le_refl _⟩, ⟨by (with_reducible repeat (first | apply Kd.R_alloc | apply Kd.R_drewN | apply Kd.R_drew)); exact HO_130001.out⟩, ⟨by first | exact Kd.R_nil _ _ _ _ _ | exact Kd.N_nil _ _ _ _ _ | exact Kd.V_nil _ _ _ _ _ | exact Kd.Q_nil _ _ _ _ _ | exact Kd.S_nil _ _ _ _ _⟩, ⟨by (with_reducible repeat (first | refine blk_drewN ?_ _ | refine blk_drew ?_ | refine blk_alloc ?_ _)); exact BK128.out⟩, ⟨by (with_reducible repeat (first | refine blk_drewN ?_ _ | refine blk_drew ?_ | refine blk_alloc ?_ _)); exact BK129.out⟩, ⟨by (with_reducible repeat (first | refine blk_drewN ?_ _ | refine blk_drew ?_ | refine blk_alloc ?_ _)); exact BK130.out⟩, ⟨by repeat (first | (with_reducible first | exact HB.out | apply below_alloc | apply pw_below_drewN | apply below_drew1 | refine below_set ?_ GE128.out | refine below_set ?_ GE129.out | refine below_set ?_ GE130.out) | exact HB.out)⟩⟩
          case round =>
            clear H'
            try clear c1
            try clear c2
            try clear c2b0
            try clear c2b1
            try clear p2
            try clear c3
            try clear c4
            try clear p6
            try clear c8
            try clear c9
            try clear c11
            try clear c13
            try clear c13b0
            try clear c16
            try clear c17
            try clear c17b0
            try clear c17b1
            try clear c17b2
            try clear hcz10_0
            try clear hcz10_1
            try clear hcz12_0
            try clear hcz12_1
            try clear hcz12_2
            try clear hcz12_3
            try clear hfz10_0
            try clear hfz10_1
            try clear hfz12_0
            try clear hfz12_1
            try clear hfz12_2
            try clear hfz12_3
            try clear p2
            try clear p6
            obtain ⟨x14_2, x131000_2, u131000, rfl, HA, HK2, HO_130001, HO_131000, BK128, BK129, BK130, HB⟩ := hrel
            cases gk with
            | zero => exact absurd HA.out (by simp [panachetop_TopFaceColumns.l1])
            | succ k2 =>
              have H := HA.out
              clear HA
              simp only [panachetop_TopFaceColumns.l1] at H
              by_cases c24 : x14_2 ≤ (wrap64 (20 * (wrap64 ((wrap64 (1 + (Int.tmod (wrap64 (a0_0)) 8))) + (wrap64 (2 + (Int.tmod (wrap64 (a0_1)) 3)))))))
              · rw [if_pos c24] at H
                have c24b0 : decide (x14_2 ≤ (wrap64 (20 * (wrap64 ((wrap64 (1 + (Int.tmod (wrap64 (a0_0)) 8))) + (wrap64 (2 + (Int.tmod (wrap64 (a0_1)) 3)))))))) = true := decide_eq_true c24
                clear c24
                by_cases c25 : x131000_2.length < 17592186044416
                · rw [if_pos c25] at H
                  have LMc25 := Aside0.mk c25
                  clear c25
                  obtain ⟨y138, hy138⟩ : ∃ y_ : List Int, y_ = (x131000_2 ++ [x14_2]) := ⟨_, rfl⟩
                  replace H : (panachetop_TopFaceColumns.l1 k2 (wrap64 (1 + (Int.tmod (wrap64 (a0_0)) 8))) (wrap64 (2 + (Int.tmod (wrap64 (a0_1)) 3))) (Int.tmod (wrap64 (a0_3)) (wrap64 (2 + (Int.tmod (wrap64 (a0_1)) 3)))) x9_1 (⟨#[35]⟩ : ByteArray) (wrap64 (x14_2 + (wrap64 (20 * (wrap64 (2 + (Int.tmod (wrap64 (a0_1)) 3))))))) (wrap64 (20 * (wrap64 ((wrap64 (1 + (Int.tmod (wrap64 (a0_0)) 8))) + (wrap64 (2 + (Int.tmod (wrap64 (a0_1)) 3))))))) x130001_1 y138 (wrap64 (1 + (Int.tmod (wrap64 (a0_2)) 9))) 0 (wrap64 (20 * (wrap64 (2 + (Int.tmod (wrap64 (a0_1)) 3)))))) = some r := by first | (rw [hy138]; with_reducible exact H) | (have H2_ := (Option.bind_some _ _).symm.trans H; rw [hy138]; with_reducible exact H2_) | (have H2_ := (Option.bind_some _ _).symm.trans H; with_reducible exact H2_) | with_reducible exact H | (rw [hy138]; exact H) | exact H
                  have Ny138 := Aside0.mk hy138
                  clear hy138
                  have H' := Aside0.mk H
                  clear H
                  have hnb26 := NB129_128.out
                  have hnc26 := NB128_129.out
                  have hnb27 := NB129_130.out
                  have hnc27 := NB130_129.out
                  have hcz28_0 : wr.cell? ⟨gb129, 0, none⟩ = some (.int .i64 (wrap64 (20 * (wrap64 ((wrap64 (1 + (Int.tmod (wrap64 (a0_0)) 8))) + (wrap64 (2 + (Int.tmod (wrap64 (a0_1)) 3)))))))) := (blk_cell BK129.out 0).trans rfl
                  have hcz28_1 : wr.cell? ⟨gb129, 1, none⟩ = some (u130001) := (blk_cell BK129.out 1).trans rfl
                  have hfz28_0 := blk_frozen BK129.out 0
                  have hfz28_1 := blk_frozen BK129.out 1
                  have hnb29 := NB130_128.out
                  have hnc29 := NB128_130.out
                  have hcz30_0 : wr.cell? ⟨gb130, 0, none⟩ = some (u131000) := (blk_cell BK130.out 0).trans rfl
                  have hcz30_1 : wr.cell? ⟨gb130, 1, none⟩ = some (.int .i64 (wrap64 (1 + (Int.tmod (wrap64 (a0_2)) 9)))) := (blk_cell BK130.out 1).trans rfl
                  have hcz30_2 : wr.cell? ⟨gb130, 2, none⟩ = some (.int .i64 0) := (blk_cell BK130.out 2).trans rfl
                  have hcz30_3 : wr.cell? ⟨gb130, 3, none⟩ = some (.int .i64 (wrap64 (20 * (wrap64 (2 + (Int.tmod (wrap64 (a0_1)) 3)))))) := (blk_cell BK130.out 3).trans rfl
                  have hfz30_0 := blk_frozen BK130.out 0
                  have hfz30_1 := blk_frozen BK130.out 1
                  have hfz30_2 := blk_frozen BK130.out 2
                  have hfz30_3 := blk_frozen BK130.out 3
                  go_wp2_with (first | ((with_reducible refine gate_builtin (b := .append) (xs := #[.tmp 88, .tmp 90]) rfl ?_); (try (refine gate_guard (by rfl) ?_; dsimp only)); at_builtin; refine Kd.R_append (Kd.int .i64) (w0 := w) w.heap.size rfl (.tmp 88) (.tmp 90) 26 3 (.int .i64 0) 8 rfl Tryd.underlying26 info3 rfl (by decide) (by omega) u131000 x131000_2 x14_2 [.int .i64 x14_2] (fun _ => True) (fun _ => False) rfl rfl ?aP (fun _ hk => hk.elim) ?aF ?aO ?aB ?aS ?aL ?_; (case aP => exact rfl); (case aB => exact (by repeat (first | (with_reducible first | exact HB.out | apply below_alloc | apply pw_below_drewN | apply below_drew1 | refine below_set ?_ GE128.out | refine below_set ?_ GE129.out | refine below_set ?_ GE130.out) | exact HB.out))); (case aF => exact (fun _ _ => trivial)); (case aO => exact (by (with_reducible repeat (first | apply Kd.R_alloc | apply Kd.R_drewN | apply Kd.R_drew)); exact HO_131000.out)); (case aS => exact (below_size (by repeat (first | (with_reducible first | exact HB.out | apply below_alloc | apply pw_below_drewN | apply below_drew1 | refine below_set ?_ GE128.out | refine below_set ?_ GE129.out | refine below_set ?_ GE130.out) | exact HB.out)))); (case aL => have := LMc25.out; omega); intro v139 w31 ho hb hg hat; rw [← Ny138.out] at ho; have n0_ := Aside0.mk (Kd.R_over' (by (with_reducible repeat (first | apply Kd.R_alloc | apply Kd.R_drewN | apply Kd.R_drew)); exact HO_130001.out) (Kd.R_typed (by (with_reducible repeat (first | apply Kd.R_alloc | apply Kd.R_drewN | apply Kd.R_drew)); exact HO_131000.out)) (by decide) hg); have n1_ := Aside0.mk (blk_grown (g := gb128) (o := .cells #[.int .u8 a0_0, .int .u8 a0_1, .int .u8 a0_2, .int .u8 a0_3] 22 (0, 0)) (by (with_reducible repeat (first | refine blk_drewN ?_ _ | refine blk_drew ?_ | refine blk_alloc ?_ _)); exact BK128.out) hg (Kd.R_ne HO_131000.out BK128.out (by decide))); have n2_ := Aside0.mk (blk_grown (g := gb129) (o := .cells #[.int .i64 (wrap64 (20 * (wrap64 ((wrap64 (1 + (Int.tmod (wrap64 (a0_0)) 8))) + (wrap64 (2 + (Int.tmod (wrap64 (a0_1)) 3))))))), u130001] 25 (0, 0)) (by (with_reducible repeat (first | refine blk_drewN ?_ _ | refine blk_drew ?_ | refine blk_alloc ?_ _)); exact BK129.out) hg (Kd.R_ne HO_131000.out BK129.out (by decide))); have n3_ := Aside0.mk (blk_grown (g := gb130) (o := .cells #[u131000, .int .i64 (wrap64 (1 + (Int.tmod (wrap64 (a0_2)) 9))), .int .i64 0, .int .i64 (wrap64 (20 * (wrap64 (2 + (Int.tmod (wrap64 (a0_1)) 3)))))] 28 (0, 0)) (by (with_reducible repeat (first | refine blk_drewN ?_ _ | refine blk_drew ?_ | refine blk_alloc ?_ _)); exact BK130.out) hg (Kd.R_ne HO_131000.out BK130.out (by decide))); have n4_ := Aside0.mk (hb); have n5_ := Aside0.mk (ho); clear HO_130001; clear BK128; clear BK129; clear BK130; clear HB; clear HO_131000; have HO_130001 := n0_; have BK128 := n1_; have BK129 := n2_; have BK130 := n3_; have HB := n4_; have HO140 := n5_; clear n0_ n1_ n2_ n3_ n4_ n5_; clear ho hb hg hat; obtain ⟨Ao32, co32, eo32⟩ := Kd.R_slice HO140.out; subst eo32; have hcz33_0 : w31.cell? ⟨gb130, 0, none⟩ = some (u131000) := (blk_cell BK130.out 0).trans rfl; have hcz33_1 : w31.cell? ⟨gb130, 1, none⟩ = some (.int .i64 (wrap64 (1 + (Int.tmod (wrap64 (a0_2)) 9)))) := (blk_cell BK130.out 1).trans rfl; have hcz33_2 : w31.cell? ⟨gb130, 2, none⟩ = some (.int .i64 0) := (blk_cell BK130.out 2).trans rfl; have hcz33_3 : w31.cell? ⟨gb130, 3, none⟩ = some (.int .i64 (wrap64 (20 * (wrap64 (2 + (Int.tmod (wrap64 (a0_1)) 3)))))) := (blk_cell BK130.out 3).trans rfl; have hfz33_0 := blk_frozen BK130.out 0; have hfz33_1 := blk_frozen BK130.out 1; have hfz33_2 := blk_frozen BK130.out 2; have hfz33_3 := blk_frozen BK130.out 3))
                  go_roundg k2
                  case measure => have := HK1.out; have := HK2.out; omega
                  case rel => exact ⟨(wrap64 (x14_2 + (wrap64 (20 * (wrap64 (2 + (Int.tmod (wrap64 (a0_1)) 3))))))), (y138), (.slice Ao32 y138.length co32), (by first | rfl | (simp; done) | (simp [*]; done)), H', ⟨by have := HK1.out; have := HK2.out; omega⟩, ⟨by (with_reducible repeat (first | apply Kd.R_alloc | apply Kd.R_drewN | apply Kd.R_drew)); exact Kd.R_mono (Kd.R_far (p := ⟨gb130, 0, none⟩) (Kd.R_types HO_130001.out BK130.out (by decide)) (fun _ hk => hk.2) (.slice Ao32 y138.length co32)) (fun _ hk => trivial)⟩, ⟨by (with_reducible repeat (first | apply Kd.R_alloc | apply Kd.R_drewN | apply Kd.R_drew)); exact Kd.R_mono (Kd.R_far (p := ⟨gb130, 0, none⟩) (Kd.R_types HO140.out BK130.out (by decide)) (fun _ hk => hk.2) (.slice Ao32 y138.length co32)) (fun _ hk => trivial)⟩, ⟨by (with_reducible repeat (first | refine blk_drewN ?_ _ | refine blk_drew ?_ | refine blk_alloc ?_ _)); refine blk_far ?_ NB128_130.out _; (with_reducible repeat (first | refine blk_drewN ?_ _ | refine blk_drew ?_ | refine blk_alloc ?_ _)); exact BK128.out⟩, ⟨by (with_reducible repeat (first | refine blk_drewN ?_ _ | refine blk_drew ?_ | refine blk_alloc ?_ _)); refine blk_far ?_ NB129_130.out _; (with_reducible repeat (first | refine blk_drewN ?_ _ | refine blk_drew ?_ | refine blk_alloc ?_ _)); exact BK129.out⟩, ⟨by (with_reducible repeat (first | refine blk_drewN ?_ _ | refine blk_drew ?_ | refine blk_alloc ?_ _)); refine blk_put (cs := #[u131000, .int .i64 (wrap64 (1 + (Int.tmod (wrap64 (a0_2)) 9))), .int .i64 0, .int .i64 (wrap64 (20 * (wrap64 (2 + (Int.tmod (wrap64 (a0_1)) 3)))))]) ?_ 0 _ rfl; (with_reducible repeat (first | refine blk_drewN ?_ _ | refine blk_drew ?_ | refine blk_alloc ?_ _)); exact BK130.out⟩, ⟨by repeat (first | (with_reducible first | exact HB.out | apply below_alloc | apply pw_below_drewN | apply below_drew1 | refine below_set ?_ GE128.out | refine below_set ?_ GE129.out | refine below_set ?_ GE130.out) | exact HB.out)⟩⟩
                · rw [if_neg c25] at H
                  exact absurd H (by simp)
              · rw [if_neg c24] at H
                have c24b0 : decide (x14_2 ≤ (wrap64 (20 * (wrap64 ((wrap64 (1 + (Int.tmod (wrap64 (a0_0)) 8))) + (wrap64 (2 + (Int.tmod (wrap64 (a0_1)) 3)))))))) = false := decide_eq_false c24
                clear c24
                have H' := Aside0.mk H
                clear H
                have hnb34 := NB129_128.out
                have hnc34 := NB128_129.out
                have hnb35 := NB129_130.out
                have hnc35 := NB130_129.out
                have hcz36_0 : wr.cell? ⟨gb129, 0, none⟩ = some (.int .i64 (wrap64 (20 * (wrap64 ((wrap64 (1 + (Int.tmod (wrap64 (a0_0)) 8))) + (wrap64 (2 + (Int.tmod (wrap64 (a0_1)) 3)))))))) := (blk_cell BK129.out 0).trans rfl
                have hcz36_1 : wr.cell? ⟨gb129, 1, none⟩ = some (u130001) := (blk_cell BK129.out 1).trans rfl
                have hfz36_0 := blk_frozen BK129.out 0
                have hfz36_1 := blk_frozen BK129.out 1
                go_wp2
                go_loopg [10, 15] k2 (fun kq v10 v15 w' => ∃ (x10_3 : ByteArray) (x15_3 : Int), v10 = .string x10_3 ∧ v15 = .int .i64 x15_3 ∧ Aside0 (panachetop_TopFaceColumns.l2 kq (wrap64 (1 + (Int.tmod (wrap64 (a0_0)) 8))) (wrap64 (2 + (Int.tmod (wrap64 (a0_1)) 3))) (Int.tmod (wrap64 (a0_3)) (wrap64 (2 + (Int.tmod (wrap64 (a0_1)) 3)))) x9_1 x10_3 x15_3 (wrap64 (20 * (wrap64 ((wrap64 (1 + (Int.tmod (wrap64 (a0_0)) 8))) + (wrap64 (2 + (Int.tmod (wrap64 (a0_1)) 3))))))) x130001_1 x131000_2 (wrap64 (1 + (Int.tmod (wrap64 (a0_2)) 9))) 0 (wrap64 (20 * (wrap64 (2 + (Int.tmod (wrap64 (a0_1)) 3))))) = some r) ∧ Aside0 (kq ≤ k2) ∧ Aside0 (Kd.R k33 33 w' w.heap.size (fun _ => True) u130001 x130001_1) ∧ Aside0 (Kd.R (Kd.int .i64) 3 w' w.heap.size (fun _ => True) u131000 x131000_2) ∧ Aside0 (w'.heap[gb128]? = some (.cells #[.int .u8 a0_0, .int .u8 a0_1, .int .u8 a0_2, .int .u8 a0_3] 22 (0, 0))) ∧ Aside0 (w'.heap[gb129]? = some (.cells #[.int .i64 (wrap64 (20 * (wrap64 ((wrap64 (1 + (Int.tmod (wrap64 (a0_0)) 8))) + (wrap64 (2 + (Int.tmod (wrap64 (a0_1)) 3))))))), u130001] 25 (0, 0))) ∧ Aside0 (w'.heap[gb130]? = some (.cells #[u131000, .int .i64 (wrap64 (1 + (Int.tmod (wrap64 (a0_2)) 9))), .int .i64 0, .int .i64 (wrap64 (20 * (wrap64 (2 + (Int.tmod (wrap64 (a0_1)) 3)))))] 28 (0, 0))) ∧ Aside0 (Below w.heap.size w w'))
                case atStart => exact ⟨((⟨#[35]⟩ : ByteArray)), (1), (by first | rfl | (simp; done) | (simp [*]; done)), (by first | rfl | (simp; done) | (simp [*]; done)), H', ⟨Nat.le_refl _⟩, ⟨by (with_reducible repeat (first | apply Kd.R_alloc | apply Kd.R_drewN | apply Kd.R_drew)); exact HO_130001.out⟩, ⟨by (with_reducible repeat (first | apply Kd.R_alloc | apply Kd.R_drewN | apply Kd.R_drew)); exact HO_131000.out⟩, ⟨by (with_reducible repeat (first | refine blk_drewN ?_ _ | refine blk_drew ?_ | refine blk_alloc ?_ _)); exact BK128.out⟩, ⟨by (with_reducible repeat (first | refine blk_drewN ?_ _ | refine blk_drew ?_ | refine blk_alloc ?_ _)); exact BK129.out⟩, ⟨by (with_reducible repeat (first | refine blk_drewN ?_ _ | refine blk_drew ?_ | refine blk_alloc ?_ _)); exact BK130.out⟩, ⟨by repeat (first | (with_reducible first | exact HB.out | apply below_alloc | apply pw_below_drewN | apply below_drew1 | refine below_set ?_ GE128.out | refine below_set ?_ GE129.out | refine below_set ?_ GE130.out) | exact HB.out)⟩⟩
                case round =>
                  clear H'
                  try clear c1
                  try clear c2
                  try clear c2b0
                  try clear c2b1
                  try clear p2
                  try clear c3
                  try clear c4
                  try clear p6
                  try clear c8
                  try clear c9
                  try clear c11
                  try clear c13
                  try clear c13b0
                  try clear c16
                  try clear c17
                  try clear c17b0
                  try clear c17b1
                  try clear c17b2
                  try clear c24
                  try clear c24b0
                  try clear c25
                  try clear c26
                  try clear c27
                  try clear c29
                  try clear c34
                  try clear c35
                  try clear hcz10_0
                  try clear hcz10_1
                  try clear hcz12_0
                  try clear hcz12_1
                  try clear hcz12_2
                  try clear hcz12_3
                  try clear hcz28_0
                  try clear hcz28_1
                  try clear hcz30_0
                  try clear hcz30_1
                  try clear hcz30_2
                  try clear hcz30_3
                  try clear hcz33_0
                  try clear hcz33_1
                  try clear hcz33_2
                  try clear hcz33_3
                  try clear hcz36_0
                  try clear hcz36_1
                  try clear hfz10_0
                  try clear hfz10_1
                  try clear hfz12_0
                  try clear hfz12_1
                  try clear hfz12_2
                  try clear hfz12_3
                  try clear hfz28_0
                  try clear hfz28_1
                  try clear hfz30_0
                  try clear hfz30_1
                  try clear hfz30_2
                  try clear hfz30_3
                  try clear hfz33_0
                  try clear hfz33_1
                  try clear hfz33_2
                  try clear hfz33_3
                  try clear hfz36_0
                  try clear hfz36_1
                  try clear p2
                  try clear p6
                  obtain ⟨x10_3, x15_3, rfl, rfl, HA, HK3, HO_130001, HO_131000, BK128, BK129, BK130, HB⟩ := hrel
                  cases gk with
                  | zero => exact absurd HA.out (by simp [panachetop_TopFaceColumns.l2])
                  | succ k3 =>
                    have H := HA.out
                    clear HA
                    simp only [panachetop_TopFaceColumns.l2] at H
                    by_cases c37 : x15_3 < (wrap64 (2 + (Int.tmod (wrap64 (a0_1)) 3)))
                    · rw [if_pos c37] at H
                      have c37b0 : decide (x15_3 < (wrap64 (2 + (Int.tmod (wrap64 (a0_1)) 3)))) = true := decide_eq_true c37
                      clear c37
                      by_cases c38 : x10_3.size + 1 ≤ 9223372036854775807
                      · rw [if_pos c38] at H
                        have c38b0 := eq_true c38
                        have c38b1 : decide (x10_3.size + 1 ≤ 9223372036854775807) = true := decide_eq_true c38
                        try have c38b2 : (9223372036854775807 < x10_3.size + 1) = False := eq_false (Nat.not_lt.2 c38)
                        have H' := Aside0.mk H
                        clear H
                        go_wp2
                        go_roundg k3
                        case measure => have := HK1.out; have := HK2.out; have := HK3.out; omega
                        case rel => exact ⟨(x10_3 ++ (⟨#[46]⟩ : ByteArray)), (wrap64 (x15_3 + 1)), (by first | rfl | (simp; done) | (simp [*]; done)), (by first | rfl | (simp; done) | (simp [*]; done)), H', ⟨by have := HK1.out; have := HK2.out; have := HK3.out; omega⟩, ⟨by (with_reducible repeat (first | apply Kd.R_alloc | apply Kd.R_drewN | apply Kd.R_drew)); exact HO_130001.out⟩, ⟨by (with_reducible repeat (first | apply Kd.R_alloc | apply Kd.R_drewN | apply Kd.R_drew)); exact HO_131000.out⟩, ⟨by (with_reducible repeat (first | refine blk_drewN ?_ _ | refine blk_drew ?_ | refine blk_alloc ?_ _)); exact BK128.out⟩, ⟨by (with_reducible repeat (first | refine blk_drewN ?_ _ | refine blk_drew ?_ | refine blk_alloc ?_ _)); exact BK129.out⟩, ⟨by (with_reducible repeat (first | refine blk_drewN ?_ _ | refine blk_drew ?_ | refine blk_alloc ?_ _)); exact BK130.out⟩, ⟨by repeat (first | (with_reducible first | exact HB.out | apply below_alloc | apply pw_below_drewN | apply below_drew1 | refine below_set ?_ GE128.out | refine below_set ?_ GE129.out | refine below_set ?_ GE130.out) | exact HB.out)⟩⟩
                      · rw [if_neg c38] at H
                        exact absurd H (by simp)
                    · rw [if_neg c37] at H
                      have c37b0 : decide (x15_3 < (wrap64 (2 + (Int.tmod (wrap64 (a0_1)) 3)))) = false := decide_eq_false c37
                      clear c37
                      replace H := Option.bind_eq_some_iff.mp H
                      obtain ⟨⟨t141, t144, t147⟩, A390, H⟩ := H
                      replace H : ((panachetop_oakShow.f x9_1 x10_3 (Int.tmod (wrap64 (a0_3)) (wrap64 (2 + (Int.tmod (wrap64 (a0_1)) 3))))).bind fun t148 => (if t147 = 0 then (panachetop_TopFaceColumns.j3 k3 (wrap64 (1 + (Int.tmod (wrap64 (a0_0)) 8))) (wrap64 (2 + (Int.tmod (wrap64 (a0_1)) 3))) t141 t144 t148 ((t148.size : Int) != (wrap64 (1 + (Int.tmod (wrap64 (a0_0)) 8))))) else (panachetop_TopFaceColumns.j3 k3 (wrap64 (1 + (Int.tmod (wrap64 (a0_0)) 8))) (wrap64 (2 + (Int.tmod (wrap64 (a0_1)) 3))) t141 t144 t148 true))) = some r := H
                      have A39 := Aside0.mk A390
                      clear A390
                      replace H := Option.bind_eq_some_iff.mp H
                      obtain ⟨t148, A400, H⟩ := H
                      replace H : (if t147 = 0 then (panachetop_TopFaceColumns.j3 k3 (wrap64 (1 + (Int.tmod (wrap64 (a0_0)) 8))) (wrap64 (2 + (Int.tmod (wrap64 (a0_1)) 3))) t141 t144 t148 ((t148.size : Int) != (wrap64 (1 + (Int.tmod (wrap64 (a0_0)) 8))))) else (panachetop_TopFaceColumns.j3 k3 (wrap64 (1 + (Int.tmod (wrap64 (a0_0)) 8))) (wrap64 (2 + (Int.tmod (wrap64 (a0_1)) 3))) t141 t144 t148 true)) = some r := H
                      have A40 := Aside0.mk A400
                      clear A400
                      have HC41 := Aside0.mk H
                      clear H
                      have hnb42 := NB129_128.out
                      have hnc42 := NB128_129.out
                      have hnb43 := NB129_130.out
                      have hnc43 := NB130_129.out
                      have hcz44_0 : wr.cell? ⟨gb129, 0, none⟩ = some (.int .i64 (wrap64 (20 * (wrap64 ((wrap64 (1 + (Int.tmod (wrap64 (a0_0)) 8))) + (wrap64 (2 + (Int.tmod (wrap64 (a0_1)) 3)))))))) := (blk_cell BK129.out 0).trans rfl
                      have hcz44_1 : wr.cell? ⟨gb129, 1, none⟩ = some (u130001) := (blk_cell BK129.out 1).trans rfl
                      have hfz44_0 := blk_frozen BK129.out 0
                      have hfz44_1 := blk_frozen BK129.out 1
                      have hnb45 := NB130_128.out
                      have hnc45 := NB128_130.out
                      have hcz46_0 : wr.cell? ⟨gb130, 0, none⟩ = some (u131000) := (blk_cell BK130.out 0).trans rfl
                      have hcz46_1 : wr.cell? ⟨gb130, 1, none⟩ = some (.int .i64 (wrap64 (1 + (Int.tmod (wrap64 (a0_2)) 9)))) := (blk_cell BK130.out 1).trans rfl
                      have hcz46_2 : wr.cell? ⟨gb130, 2, none⟩ = some (.int .i64 0) := (blk_cell BK130.out 2).trans rfl
                      have hcz46_3 : wr.cell? ⟨gb130, 3, none⟩ = some (.int .i64 (wrap64 (20 * (wrap64 (2 + (Int.tmod (wrap64 (a0_1)) 3)))))) := (blk_cell BK130.out 3).trans rfl
                      have hfz46_0 := blk_frozen BK130.out 0
                      have hfz46_1 := blk_frozen BK130.out 1
                      have hfz46_2 := blk_frozen BK130.out 2
                      have hfz46_3 := blk_frozen BK130.out 3
                      obtain ⟨Ao47, co47, eo47⟩ := Kd.R_slice HO_130001.out
                      subst eo47
                      obtain ⟨Ao48, co48, eo48⟩ := Kd.R_slice HO_131000.out
                      subst eo48
                      go_upto_region 21 with (first | ((with_reducible refine gate_callee (f := 5) rfl ?_); refine goesL_ (some 105) rfl rfl Tryd.func5 (by kernel_rfl) rfl #[.agg #[.int .i64 (wrap64 (20 * (wrap64 ((wrap64 (1 + (Int.tmod (wrap64 (a0_0)) 8))) + (wrap64 (2 + (Int.tmod (wrap64 (a0_1)) 3))))))), .slice Ao47 x130001_1.length co47], .agg #[.slice Ao48 x131000_2.length co48, .int .i64 (wrap64 (1 + (Int.tmod (wrap64 (a0_2)) 9))), .int .i64 0, .int .i64 (wrap64 (20 * (wrap64 (2 + (Int.tmod (wrap64 (a0_1)) 3)))))], .int .i64 (wrap64 (20 * (Int.tmod (wrap64 (a0_3)) (wrap64 (2 + (Int.tmod (wrap64 (a0_1)) 3))))))] rfl (by (try simp only [List.map_toArray, List.map_cons, List.map_nil]); first | done | rfl | (simp only [List.length_drop, List.length_take]; rfl)) ?_; (with_reducible refine (pleat_Hit.calls (wrap64 (20 * (wrap64 ((wrap64 (1 + (Int.tmod (wrap64 (a0_0)) 8))) + (wrap64 (2 + (Int.tmod (wrap64 (a0_1)) 3))))))) _ _ x130001_1 _ _ x131000_2 (wrap64 (1 + (Int.tmod (wrap64 (a0_2)) 9))) 0 (wrap64 (20 * (wrap64 (2 + (Int.tmod (wrap64 (a0_1)) 3))))) (wrap64 (20 * (Int.tmod (wrap64 (a0_3)) (wrap64 (2 + (Int.tmod (wrap64 (a0_1)) 3)))))) t141 t144 t147 _ ?side1 ?side2 ?side3 ?side4 A39.out).mono ?_); (case side1 => repeat (first | exact (Kd.R_reads' HO_130001.out).2.2 | (with_reducible refine Kd.C_alloc ?_ _) | (with_reducible refine Kd.C_drewN ?_ _) | (with_reducible refine Kd.C_drew ?_))); (case side2 => exact (Kd.R_reads' HO_130001.out).2.1); (case side3 => repeat (first | exact (Kd.R_reads' HO_131000.out).2.2 | (with_reducible refine Kd.C_alloc ?_ _) | (with_reducible refine Kd.C_drewN ?_ _) | (with_reducible refine Kd.C_drew ?_))); (case side4 => exact (Kd.R_reads' HO_131000.out).2.1); rintro e w49 ⟨v142, v145, rfl, ho0, ho1, hb⟩; refine ⟨_, rfl, ?_⟩; have n0_ := Aside0.mk (Kd.R_below (by (with_reducible repeat (first | apply Kd.R_alloc | apply Kd.R_drewN | apply Kd.R_drew)); exact HO_130001.out) hb); have n1_ := Aside0.mk (Kd.R_mono (Kd.R_told (Kd.R_told (Kd.R_old (by (with_reducible repeat (first | apply Kd.R_alloc | apply Kd.R_drewN | apply Kd.R_drew)); exact HO_131000.out) hb) (Kd.R_base ho0)) (Kd.R_base ho1)) (fun _ h_ => h_.1)); have n2_ := Aside0.mk (Kd.R_lower (Kd.R_new' ho0 (Kd.R_lt (by (with_reducible repeat (first | apply Kd.R_alloc | apply Kd.R_drewN | apply Kd.R_drew)); exact HO_131000.out))) (below_size (by repeat (first | (with_reducible first | exact HB.out | apply below_alloc | apply pw_below_drewN | apply below_drew1 | refine below_set ?_ GE128.out | refine below_set ?_ GE129.out | refine below_set ?_ GE130.out) | exact HB.out)))); have n3_ := Aside0.mk (Kd.R_lower (Kd.R_new' ho1 (Kd.R_lt (by (with_reducible repeat (first | apply Kd.R_alloc | apply Kd.R_drewN | apply Kd.R_drew)); exact HO_131000.out))) (below_size (by repeat (first | (with_reducible first | exact HB.out | apply below_alloc | apply pw_below_drewN | apply below_drew1 | refine below_set ?_ GE128.out | refine below_set ?_ GE129.out | refine below_set ?_ GE130.out) | exact HB.out)))); have n4_ := Aside0.mk (blk_below (g := gb128) (o := .cells #[.int .u8 a0_0, .int .u8 a0_1, .int .u8 a0_2, .int .u8 a0_3] 22 (0, 0)) (by (with_reducible repeat (first | refine blk_drewN ?_ _ | refine blk_drew ?_ | refine blk_alloc ?_ _)); exact BK128.out) hb); have n5_ := Aside0.mk (blk_below (g := gb129) (o := .cells #[.int .i64 (wrap64 (20 * (wrap64 ((wrap64 (1 + (Int.tmod (wrap64 (a0_0)) 8))) + (wrap64 (2 + (Int.tmod (wrap64 (a0_1)) 3))))))), .slice Ao47 x130001_1.length co47] 25 (0, 0)) (by (with_reducible repeat (first | refine blk_drewN ?_ _ | refine blk_drew ?_ | refine blk_alloc ?_ _)); exact BK129.out) hb); have n6_ := Aside0.mk (blk_below (g := gb130) (o := .cells #[.slice Ao48 x131000_2.length co48, .int .i64 (wrap64 (1 + (Int.tmod (wrap64 (a0_2)) 9))), .int .i64 0, .int .i64 (wrap64 (20 * (wrap64 (2 + (Int.tmod (wrap64 (a0_1)) 3)))))] 28 (0, 0)) (by (with_reducible repeat (first | refine blk_drewN ?_ _ | refine blk_drew ?_ | refine blk_alloc ?_ _)); exact BK130.out) hb); have n7_ := Aside0.mk (below_step (by repeat (first | (with_reducible first | exact HB.out | apply below_alloc | apply pw_below_drewN | apply below_drew1 | refine below_set ?_ GE128.out | refine below_set ?_ GE129.out | refine below_set ?_ GE130.out) | exact HB.out)) hb); clear HO_130001; clear HO_131000; clear BK128; clear BK129; clear BK130; clear HB; have HO_130001 := n0_; have HO_131000 := n1_; have HO143 := n2_; have HO146 := n3_; have BK128 := n4_; have BK129 := n5_; have BK130 := n6_; have HB := n7_; clear n0_ n1_ n2_ n3_ n4_ n5_ n6_ n7_; (try clear hb); (try clear hb2); (try clear hk); (try clear hi); (try clear ho0); (try clear ho1)) | ((with_reducible refine gate_callee (f := 6) rfl ?_); refine goesL_ (some 112) rfl rfl Tryd.func6 (by kernel_rfl) rfl #[.string x9_1, .string x10_3, .int .i64 (Int.tmod (wrap64 (a0_3)) (wrap64 (2 + (Int.tmod (wrap64 (a0_1)) 3))))] rfl (by (try simp only [List.map_toArray, List.map_cons, List.map_nil]); first | done | rfl | (simp only [List.length_drop, List.length_take]; rfl)) ?_; (with_reducible refine (panachetop_oakShow.calls x9_1 x10_3 (Int.tmod (wrap64 (a0_3)) (wrap64 (2 + (Int.tmod (wrap64 (a0_1)) 3)))) t148 _ A40.out (Tabs.below HT.out (by repeat (first | (with_reducible first | exact HB.out | apply below_alloc | apply pw_below_drewN | apply below_drew1 | refine below_set ?_ GE128.out | refine below_set ?_ GE129.out | refine below_set ?_ GE130.out) | exact HB.out)))).mono ?_); rintro e w50 ⟨rfl, hb⟩; refine ⟨_, rfl, ?_⟩; have n0_ := Aside0.mk (Kd.R_below (by (with_reducible repeat (first | apply Kd.R_alloc | apply Kd.R_drewN | apply Kd.R_drew)); exact HO_130001.out) hb); have n1_ := Aside0.mk (Kd.R_below (by (with_reducible repeat (first | apply Kd.R_alloc | apply Kd.R_drewN | apply Kd.R_drew)); exact HO_131000.out) hb); have n2_ := Aside0.mk (Kd.R_below (by (with_reducible repeat (first | apply Kd.R_alloc | apply Kd.R_drewN | apply Kd.R_drew)); exact HO143.out) hb); have n3_ := Aside0.mk (Kd.R_below (by (with_reducible repeat (first | apply Kd.R_alloc | apply Kd.R_drewN | apply Kd.R_drew)); exact HO146.out) hb); have n4_ := Aside0.mk (blk_below (g := gb128) (o := .cells #[.int .u8 a0_0, .int .u8 a0_1, .int .u8 a0_2, .int .u8 a0_3] 22 (0, 0)) (by (with_reducible repeat (first | refine blk_drewN ?_ _ | refine blk_drew ?_ | refine blk_alloc ?_ _)); exact BK128.out) hb); have n5_ := Aside0.mk (blk_below (g := gb129) (o := .cells #[.int .i64 (wrap64 (20 * (wrap64 ((wrap64 (1 + (Int.tmod (wrap64 (a0_0)) 8))) + (wrap64 (2 + (Int.tmod (wrap64 (a0_1)) 3))))))), .slice Ao47 x130001_1.length co47] 25 (0, 0)) (by (with_reducible repeat (first | refine blk_drewN ?_ _ | refine blk_drew ?_ | refine blk_alloc ?_ _)); exact BK129.out) hb); have n6_ := Aside0.mk (blk_below (g := gb130) (o := .cells #[.slice Ao48 x131000_2.length co48, .int .i64 (wrap64 (1 + (Int.tmod (wrap64 (a0_2)) 9))), .int .i64 0, .int .i64 (wrap64 (20 * (wrap64 (2 + (Int.tmod (wrap64 (a0_1)) 3)))))] 28 (0, 0)) (by (with_reducible repeat (first | refine blk_drewN ?_ _ | refine blk_drew ?_ | refine blk_alloc ?_ _)); exact BK130.out) hb); have n7_ := Aside0.mk (below_step (by repeat (first | (with_reducible first | exact HB.out | apply below_alloc | apply pw_below_drewN | apply below_drew1 | refine below_set ?_ GE128.out | refine below_set ?_ GE129.out | refine below_set ?_ GE130.out) | exact HB.out)) hb); clear HO_130001; clear HO_131000; clear HO143; clear HO146; clear BK128; clear BK129; clear BK130; clear HB; have HO_130001 := n0_; have HO_131000 := n1_; have HO143 := n2_; have HO146 := n3_; have BK128 := n4_; have BK129 := n5_; have BK130 := n6_; have HB := n7_; clear n0_ n1_ n2_ n3_ n4_ n5_ n6_ n7_; (try clear hb); (try clear hb2); (try clear hk); (try clear hi)))
                      (try simp only [Act.put, List.setIfInBounds_toArray, List.set_cons_zero, List.set_cons_succ])
                      go_cut [120] (fun v120 wc => ∃ (kq : Nat) (x120_40 : Bool), v120 = .bool x120_40 ∧ Aside0 (panachetop_TopFaceColumns.j3 kq (wrap64 (1 + (Int.tmod (wrap64 (a0_0)) 8))) (wrap64 (2 + (Int.tmod (wrap64 (a0_1)) 3))) t141 t144 t148 x120_40 = some r) ∧ Aside0 (kq ≤ k3) ∧ Aside0 (Kd.R (Kd.int .i64) 3 wc w.heap.size (fun k_ => some k_ ≠ (v145 : Value).ownBlock ∧ some k_ ≠ ((.slice Ao48 x131000_2.length co48) : Value).ownBlock) v142 t141) ∧ Aside0 (Kd.R (Kd.int .i64) 3 wc w.heap.size (fun k_ => some k_ ≠ (v142 : Value).ownBlock ∧ some k_ ≠ ((.slice Ao48 x131000_2.length co48) : Value).ownBlock) v145 t144) ∧ Aside0 (Kd.R k33 33 wc w.heap.size (fun _ => True) (.slice Ao47 x130001_1.length co47) x130001_1) ∧ Aside0 (Kd.R (Kd.int .i64) 3 wc w.heap.size (fun k_ => some k_ ≠ (v142 : Value).ownBlock ∧ some k_ ≠ (v145 : Value).ownBlock) (.slice Ao48 x131000_2.length co48) x131000_2) ∧ Aside0 (wc.heap[gb128]? = some (.cells #[.int .u8 a0_0, .int .u8 a0_1, .int .u8 a0_2, .int .u8 a0_3] 22 (0, 0))) ∧ Aside0 (wc.heap[gb129]? = some (.cells #[.int .i64 (wrap64 (20 * (wrap64 ((wrap64 (1 + (Int.tmod (wrap64 (a0_0)) 8))) + (wrap64 (2 + (Int.tmod (wrap64 (a0_1)) 3))))))), (.slice Ao47 x130001_1.length co47)] 25 (0, 0))) ∧ Aside0 (wc.heap[gb130]? = some (.cells #[(.slice Ao48 x131000_2.length co48), .int .i64 (wrap64 (1 + (Int.tmod (wrap64 (a0_2)) 9))), .int .i64 0, .int .i64 (wrap64 (20 * (wrap64 (2 + (Int.tmod (wrap64 (a0_1)) 3)))))] 28 (0, 0))) ∧ Aside0 (Below w.heap.size w wc))
                      case first =>
                        have H := HC41.out
                        clear HC41
                        by_cases c51 : t147 = 0
                        · rw [if_pos c51] at H
                          have c51b0 : (t147 == 0) = true := beq_iff_eq.mpr c51
                          have c51b1 : (t147 != 0) = false := bne_eq_false_iff_eq.mpr c51
                          clear c51
                          (first | rw [c51b0] | (simp only [i64_w, i32_w]; rw [c51b0]) | skip)
                          have H' := Aside0.mk H
                          clear H
                          go_wp2
                          go_meet
                          case rel => exact ⟨_, (((t148.size : Int) != (wrap64 (1 + (Int.tmod (wrap64 (a0_0)) 8))))), (by first | rfl | (simp; done) | (simp [*]; done)), H', ⟨by have := HK1.out; have := HK2.out; have := HK3.out; first | omega | exact Nat.le_refl _⟩, ⟨by (with_reducible repeat (first | apply Kd.R_alloc | apply Kd.R_drewN | apply Kd.R_drew)); exact HO143.out⟩, ⟨by (with_reducible repeat (first | apply Kd.R_alloc | apply Kd.R_drewN | apply Kd.R_drew)); exact HO146.out⟩, ⟨by (with_reducible repeat (first | apply Kd.R_alloc | apply Kd.R_drewN | apply Kd.R_drew)); exact HO_130001.out⟩, ⟨by (with_reducible repeat (first | apply Kd.R_alloc | apply Kd.R_drewN | apply Kd.R_drew)); exact Kd.R_mono HO_131000.out (fun _ hk => ⟨hk.1.2, hk.2⟩)⟩, ⟨by (with_reducible repeat (first | refine blk_drewN ?_ _ | refine blk_drew ?_ | refine blk_alloc ?_ _)); exact BK128.out⟩, ⟨by (with_reducible repeat (first | refine blk_drewN ?_ _ | refine blk_drew ?_ | refine blk_alloc ?_ _)); exact BK129.out⟩, ⟨by (with_reducible repeat (first | refine blk_drewN ?_ _ | refine blk_drew ?_ | refine blk_alloc ?_ _)); exact BK130.out⟩, ⟨by repeat (first | (with_reducible first | exact HB.out | apply below_alloc | apply pw_below_drewN | apply below_drew1 | refine below_set ?_ GE128.out | refine below_set ?_ GE129.out | refine below_set ?_ GE130.out) | exact HB.out)⟩⟩
                        · rw [if_neg c51] at H
                          have c51b0 : (t147 == 0) = false := beq_eq_false_iff_ne.mpr c51
                          have c51b1 : (t147 != 0) = true := bne_iff_ne.mpr c51
                          (first | rw [c51b0] | (simp only [i64_w, i32_w]; rw [c51b0]) | skip)
                          have H' := Aside0.mk H
                          clear H
                          go_wp2
                          go_meet
                          case rel => exact ⟨_, (true), (by first | rfl | (simp; done) | (simp [*]; done)), H', ⟨by have := HK1.out; have := HK2.out; have := HK3.out; first | omega | exact Nat.le_refl _⟩, ⟨by (with_reducible repeat (first | apply Kd.R_alloc | apply Kd.R_drewN | apply Kd.R_drew)); exact HO143.out⟩, ⟨by (with_reducible repeat (first | apply Kd.R_alloc | apply Kd.R_drewN | apply Kd.R_drew)); exact HO146.out⟩, ⟨by (with_reducible repeat (first | apply Kd.R_alloc | apply Kd.R_drewN | apply Kd.R_drew)); exact HO_130001.out⟩, ⟨by (with_reducible repeat (first | apply Kd.R_alloc | apply Kd.R_drewN | apply Kd.R_drew)); exact Kd.R_mono HO_131000.out (fun _ hk => ⟨hk.1.2, hk.2⟩)⟩, ⟨by (with_reducible repeat (first | refine blk_drewN ?_ _ | refine blk_drew ?_ | refine blk_alloc ?_ _)); exact BK128.out⟩, ⟨by (with_reducible repeat (first | refine blk_drewN ?_ _ | refine blk_drew ?_ | refine blk_alloc ?_ _)); exact BK129.out⟩, ⟨by (with_reducible repeat (first | refine blk_drewN ?_ _ | refine blk_drew ?_ | refine blk_alloc ?_ _)); exact BK130.out⟩, ⟨by repeat (first | (with_reducible first | exact HB.out | apply below_alloc | apply pw_below_drewN | apply below_drew1 | refine below_set ?_ GE128.out | refine below_set ?_ GE129.out | refine below_set ?_ GE130.out) | exact HB.out)⟩⟩
                      case rest =>
                        clear HC41
                        try clear c1
                        try clear c2
                        try clear c2b0
                        try clear c2b1
                        try clear p2
                        try clear c3
                        try clear c4
                        try clear c5
                        try clear c6
                        try clear p6
                        try clear c8
                        try clear c9
                        try clear c11
                        try clear c13
                        try clear c13b0
                        try clear c16
                        try clear c17
                        try clear c17b0
                        try clear c17b1
                        try clear c17b2
                        try clear c24
                        try clear c24b0
                        try clear c25
                        try clear c26
                        try clear c27
                        try clear c29
                        try clear c34
                        try clear c35
                        try clear c37
                        try clear c37b0
                        try clear c38
                        try clear c38b0
                        try clear c38b1
                        try clear c38b2
                        try clear c42
                        try clear c43
                        try clear c45
                        try clear c51
                        try clear c51b0
                        try clear c51b1
                        try clear hcz10_0
                        try clear hcz10_1
                        try clear hcz12_0
                        try clear hcz12_1
                        try clear hcz12_2
                        try clear hcz12_3
                        try clear hcz28_0
                        try clear hcz28_1
                        try clear hcz30_0
                        try clear hcz30_1
                        try clear hcz30_2
                        try clear hcz30_3
                        try clear hcz33_0
                        try clear hcz33_1
                        try clear hcz33_2
                        try clear hcz33_3
                        try clear hcz36_0
                        try clear hcz36_1
                        try clear hcz44_0
                        try clear hcz44_1
                        try clear hcz46_0
                        try clear hcz46_1
                        try clear hcz46_2
                        try clear hcz46_3
                        try clear hfz10_0
                        try clear hfz10_1
                        try clear hfz12_0
                        try clear hfz12_1
                        try clear hfz12_2
                        try clear hfz12_3
                        try clear hfz28_0
                        try clear hfz28_1
                        try clear hfz30_0
                        try clear hfz30_1
                        try clear hfz30_2
                        try clear hfz30_3
                        try clear hfz33_0
                        try clear hfz33_1
                        try clear hfz33_2
                        try clear hfz33_3
                        try clear hfz36_0
                        try clear hfz36_1
                        try clear hfz44_0
                        try clear hfz44_1
                        try clear hfz46_0
                        try clear hfz46_1
                        try clear hfz46_2
                        try clear hfz46_3
                        try clear p2
                        try clear p6
                        obtain ⟨kq, x120_40, rfl, HA, HJ40, HO_16, HO_17, HO_130001, HO_131000, BK128, BK129, BK130, HB⟩ := hcut
                        cases kq with
                        | zero => exact absurd HA.out (by simp [panachetop_TopFaceColumns.j3])
                        | succ kj40 =>
                          have H := HA.out
                          clear HA
                          simp only [panachetop_TopFaceColumns.j3] at H
                          by_cases c52 : x120_40 = true
                          · subst c52
                            have H1 : (some false) = some r := by rw [if_pos rfl] at H; exact H
                            clear H
                            have H := H1
                            clear H1
                            obtain rfl := Option.some.inj H
                            go_wp2
                            go_ret
                            exact ⟨by first | rfl | (simp [errW_none, errW_some] <;> rfl) | (simp [*, errW_none, errW_some] <;> rfl), by repeat (first | (with_reducible first | exact HB.out | apply below_alloc | apply pw_below_drewN | apply below_drew1 | refine below_set ?_ GE128.out | refine below_set ?_ GE129.out | refine below_set ?_ GE130.out) | exact HB.out)⟩
                          · replace c52 := Bool.eq_false_iff.mpr c52
                            subst c52
                            have H1 : (panachetop_TopFaceColumns.l3 kj40 (wrap64 (1 + (Int.tmod (wrap64 (a0_0)) 8))) (wrap64 (2 + (Int.tmod (wrap64 (a0_1)) 3))) t141 t144 t148 (([] : List Int)) 0) = some r := by rw [if_neg (show ¬ (false = true) by decide)] at H; exact H
                            clear H
                            have H := H1
                            clear H1
                            obtain ⟨y149, hy149⟩ : ∃ y_ : List Int, y_ = (([] : List Int)) := ⟨_, rfl⟩
                            replace H : (panachetop_TopFaceColumns.l3 kj40 (wrap64 (1 + (Int.tmod (wrap64 (a0_0)) 8))) (wrap64 (2 + (Int.tmod (wrap64 (a0_1)) 3))) t141 t144 t148 y149 0) = some r := by first | (rw [hy149]; with_reducible exact H) | (have H2_ := (Option.bind_some _ _).symm.trans H; rw [hy149]; with_reducible exact H2_) | (have H2_ := (Option.bind_some _ _).symm.trans H; with_reducible exact H2_) | with_reducible exact H | (rw [hy149]; exact H) | exact H
                            have Ny149 := Aside0.mk hy149
                            clear hy149
                            have H' := Aside0.mk H
                            clear H
                            go_wp2_with (first | ((with_reducible refine gate_dst (N := 121) rfl ?_); (try (refine gate_guard (by rfl) ?_; dsimp only)); refine Kd.R_lit (Kd.int .i64) _ 3 ?hg (N := 121) ?hd (xs := ([] : List Int)) (inner := []) (ok := fun _ => True) (okp := fun _ => True) ?hr ?hp (fun _ hk => hk) trivial (Below.refl _ _) (Nat.le_refl _) (by simp) ?_; (case hd => rfl); (case hg => rfl); (case hr => first | (go_simp; done) | (go_simp; rfl)); (case hp => exact (Reps.none _ _)); intro v150 w53 ho54 hb hg_ hnew_; clear hg_ hnew_; (first | rw [← Ny149.out] at ho54 | (simp only [Int.reduceToNat] at ho54; rw [← Ny149.out] at ho54)); have n0_ := Aside0.mk (Kd.R_elder' (by (with_reducible repeat (first | apply Kd.R_alloc | apply Kd.R_drewN | apply Kd.R_drew)); exact HO_16.out) (Kd.R_base ho54) hb); have n1_ := Aside0.mk (Kd.R_elder' (by (with_reducible repeat (first | apply Kd.R_alloc | apply Kd.R_drewN | apply Kd.R_drew)); exact HO_17.out) (Kd.R_base ho54) hb); have n2_ := Aside0.mk (Kd.R_below (by (with_reducible repeat (first | apply Kd.R_alloc | apply Kd.R_drewN | apply Kd.R_drew)); exact HO_130001.out) hb); have n3_ := Aside0.mk (Kd.R_elder' (by (with_reducible repeat (first | apply Kd.R_alloc | apply Kd.R_drewN | apply Kd.R_drew)); exact HO_131000.out) (Kd.R_base ho54) hb); have n4_ := Aside0.mk (Kd.R_lower (Kd.R_new' (Kd.R_new' (Kd.R_new' ho54 (Kd.R_lt (by (with_reducible repeat (first | apply Kd.R_alloc | apply Kd.R_drewN | apply Kd.R_drew)); exact HO_16.out))) (Kd.R_lt (by (with_reducible repeat (first | apply Kd.R_alloc | apply Kd.R_drewN | apply Kd.R_drew)); exact HO_17.out))) (Kd.R_lt (by (with_reducible repeat (first | apply Kd.R_alloc | apply Kd.R_drewN | apply Kd.R_drew)); exact HO_131000.out))) (below_size (by repeat (first | (with_reducible first | exact HB.out | apply below_alloc | apply pw_below_drewN | apply below_drew1 | refine below_set ?_ GE128.out | refine below_set ?_ GE129.out | refine below_set ?_ GE130.out) | exact HB.out)))); have n5_ := Aside0.mk (blk_below (g := gb128) (o := .cells #[.int .u8 a0_0, .int .u8 a0_1, .int .u8 a0_2, .int .u8 a0_3] 22 (0, 0)) (by (with_reducible repeat (first | refine blk_drewN ?_ _ | refine blk_drew ?_ | refine blk_alloc ?_ _)); exact BK128.out) hb); have n6_ := Aside0.mk (blk_below (g := gb129) (o := .cells #[.int .i64 (wrap64 (20 * (wrap64 ((wrap64 (1 + (Int.tmod (wrap64 (a0_0)) 8))) + (wrap64 (2 + (Int.tmod (wrap64 (a0_1)) 3))))))), .slice Ao47 x130001_1.length co47] 25 (0, 0)) (by (with_reducible repeat (first | refine blk_drewN ?_ _ | refine blk_drew ?_ | refine blk_alloc ?_ _)); exact BK129.out) hb); have n7_ := Aside0.mk (blk_below (g := gb130) (o := .cells #[.slice Ao48 x131000_2.length co48, .int .i64 (wrap64 (1 + (Int.tmod (wrap64 (a0_2)) 9))), .int .i64 0, .int .i64 (wrap64 (20 * (wrap64 (2 + (Int.tmod (wrap64 (a0_1)) 3)))))] 28 (0, 0)) (by (with_reducible repeat (first | refine blk_drewN ?_ _ | refine blk_drew ?_ | refine blk_alloc ?_ _)); exact BK130.out) hb); have n8_ := Aside0.mk (below_step (by repeat (first | (with_reducible first | exact HB.out | apply below_alloc | apply pw_below_drewN | apply below_drew1 | refine below_set ?_ GE128.out | refine below_set ?_ GE129.out | refine below_set ?_ GE130.out) | exact HB.out)) hb); clear HO_16; clear HO_17; clear HO_130001; clear HO_131000; clear BK128; clear BK129; clear BK130; clear HB; have HO_16 := n0_; have HO_17 := n1_; have HO_130001 := n2_; have HO_131000 := n3_; have HO151 := n4_; have BK128 := n5_; have BK129 := n6_; have BK130 := n7_; have HB := n8_; clear n0_ n1_ n2_ n3_ n4_ n5_ n6_ n7_ n8_; clear hb ho54))
                            go_loopg [20, 21] kj40 (fun kq v20 v21 w' => ∃ (x20_5 : List Int) (x21_5 : Int), v21 = .int .i64 x21_5 ∧ Aside0 (panachetop_TopFaceColumns.l3 kq (wrap64 (1 + (Int.tmod (wrap64 (a0_0)) 8))) (wrap64 (2 + (Int.tmod (wrap64 (a0_1)) 3))) t141 t144 t148 x20_5 x21_5 = some r) ∧ Aside0 (kq ≤ kj40) ∧ Aside0 (Kd.R (Kd.int .i64) 3 w' w.heap.size (fun k_ => some k_ ≠ (v145 : Value).ownBlock ∧ some k_ ≠ (v20 : Value).ownBlock ∧ some k_ ≠ ((.slice Ao48 x131000_2.length co48) : Value).ownBlock) v142 t141) ∧ Aside0 (Kd.R (Kd.int .i64) 3 w' w.heap.size (fun k_ => some k_ ≠ (v142 : Value).ownBlock ∧ some k_ ≠ (v20 : Value).ownBlock ∧ some k_ ≠ ((.slice Ao48 x131000_2.length co48) : Value).ownBlock) v145 t144) ∧ Aside0 (Kd.R (Kd.int .i64) 3 w' w.heap.size (fun k_ => some k_ ≠ (v142 : Value).ownBlock ∧ some k_ ≠ (v145 : Value).ownBlock ∧ some k_ ≠ ((.slice Ao48 x131000_2.length co48) : Value).ownBlock) v20 x20_5) ∧ Aside0 (Kd.R k33 33 w' w.heap.size (fun _ => True) (.slice Ao47 x130001_1.length co47) x130001_1) ∧ Aside0 (Kd.R (Kd.int .i64) 3 w' w.heap.size (fun k_ => some k_ ≠ (v142 : Value).ownBlock ∧ some k_ ≠ (v145 : Value).ownBlock ∧ some k_ ≠ (v20 : Value).ownBlock) (.slice Ao48 x131000_2.length co48) x131000_2) ∧ Aside0 (w'.heap[gb128]? = some (.cells #[.int .u8 a0_0, .int .u8 a0_1, .int .u8 a0_2, .int .u8 a0_3] 22 (0, 0))) ∧ Aside0 (w'.heap[gb129]? = some (.cells #[.int .i64 (wrap64 (20 * (wrap64 ((wrap64 (1 + (Int.tmod (wrap64 (a0_0)) 8))) + (wrap64 (2 + (Int.tmod (wrap64 (a0_1)) 3))))))), (.slice Ao47 x130001_1.length co47)] 25 (0, 0))) ∧ Aside0 (w'.heap[gb130]? = some (.cells #[(.slice Ao48 x131000_2.length co48), .int .i64 (wrap64 (1 + (Int.tmod (wrap64 (a0_2)) 9))), .int .i64 0, .int .i64 (wrap64 (20 * (wrap64 (2 + (Int.tmod (wrap64 (a0_1)) 3)))))] 28 (0, 0))) ∧ Aside0 (Below w.heap.size w w'))
                            case atStart => exact ⟨(y149), (0), (by first | rfl | (simp; done) | (simp [*]; done)), H', ⟨Nat.le_refl _⟩, ⟨by (with_reducible repeat (first | apply Kd.R_alloc | apply Kd.R_drewN | apply Kd.R_drew)); exact Kd.R_mono HO_16.out (fun _ hk => ⟨hk.1.1, ⟨hk.2, hk.1.2⟩⟩)⟩, ⟨by (with_reducible repeat (first | apply Kd.R_alloc | apply Kd.R_drewN | apply Kd.R_drew)); exact Kd.R_mono HO_17.out (fun _ hk => ⟨hk.1.1, ⟨hk.2, hk.1.2⟩⟩)⟩, ⟨by (with_reducible repeat (first | apply Kd.R_alloc | apply Kd.R_drewN | apply Kd.R_drew)); exact Kd.R_mono HO151.out (fun _ hk => ⟨hk.1.1.2, ⟨hk.1.2, hk.2⟩⟩)⟩, ⟨by (with_reducible repeat (first | apply Kd.R_alloc | apply Kd.R_drewN | apply Kd.R_drew)); exact HO_130001.out⟩, ⟨by (with_reducible repeat (first | apply Kd.R_alloc | apply Kd.R_drewN | apply Kd.R_drew)); exact Kd.R_mono HO_131000.out (fun _ hk => ⟨hk.1.1, ⟨hk.1.2, hk.2⟩⟩)⟩, ⟨by (with_reducible repeat (first | refine blk_drewN ?_ _ | refine blk_drew ?_ | refine blk_alloc ?_ _)); exact BK128.out⟩, ⟨by (with_reducible repeat (first | refine blk_drewN ?_ _ | refine blk_drew ?_ | refine blk_alloc ?_ _)); exact BK129.out⟩, ⟨by (with_reducible repeat (first | refine blk_drewN ?_ _ | refine blk_drew ?_ | refine blk_alloc ?_ _)); exact BK130.out⟩, ⟨by repeat (first | (with_reducible first | exact HB.out | apply below_alloc | apply pw_below_drewN | apply below_drew1 | refine below_set ?_ GE128.out | refine below_set ?_ GE129.out | refine below_set ?_ GE130.out) | exact HB.out)⟩⟩
                            case round =>
                              clear H'
                              try clear c1
                              try clear c2
                              try clear c2b0
                              try clear c2b1
                              try clear p2
                              try clear c3
                              try clear c4
                              try clear c5
                              try clear c6
                              try clear p6
                              try clear c8
                              try clear c9
                              try clear c11
                              try clear c13
                              try clear c13b0
                              try clear c16
                              try clear c17
                              try clear c17b0
                              try clear c17b1
                              try clear c17b2
                              try clear c24
                              try clear c24b0
                              try clear c25
                              try clear c26
                              try clear c27
                              try clear c29
                              try clear c34
                              try clear c35
                              try clear c37
                              try clear c37b0
                              try clear c38
                              try clear c38b0
                              try clear c38b1
                              try clear c38b2
                              try clear c42
                              try clear c43
                              try clear c45
                              try clear c51
                              try clear c51b0
                              try clear c51b1
                              try clear c52
                              try clear hcz10_0
                              try clear hcz10_1
                              try clear hcz12_0
                              try clear hcz12_1
                              try clear hcz12_2
                              try clear hcz12_3
                              try clear hcz28_0
                              try clear hcz28_1
                              try clear hcz30_0
                              try clear hcz30_1
                              try clear hcz30_2
                              try clear hcz30_3
                              try clear hcz33_0
                              try clear hcz33_1
                              try clear hcz33_2
                              try clear hcz33_3
                              try clear hcz36_0
                              try clear hcz36_1
                              try clear hcz44_0
                              try clear hcz44_1
                              try clear hcz46_0
                              try clear hcz46_1
                              try clear hcz46_2
                              try clear hcz46_3
                              try clear hfz10_0
                              try clear hfz10_1
                              try clear hfz12_0
                              try clear hfz12_1
                              try clear hfz12_2
                              try clear hfz12_3
                              try clear hfz28_0
                              try clear hfz28_1
                              try clear hfz30_0
                              try clear hfz30_1
                              try clear hfz30_2
                              try clear hfz30_3
                              try clear hfz33_0
                              try clear hfz33_1
                              try clear hfz33_2
                              try clear hfz33_3
                              try clear hfz36_0
                              try clear hfz36_1
                              try clear hfz44_0
                              try clear hfz44_1
                              try clear hfz46_0
                              try clear hfz46_1
                              try clear hfz46_2
                              try clear hfz46_3
                              try clear p2
                              try clear p6
                              obtain ⟨x20_5, x21_5, rfl, HA, HK5, HO_16, HO_17, HO_20, HO_130001, HO_131000, BK128, BK129, BK130, HB⟩ := hrel
                              cases gk with
                              | zero => exact absurd HA.out (by simp [panachetop_TopFaceColumns.l3])
                              | succ k5 =>
                                have H := HA.out
                                clear HA
                                simp only [panachetop_TopFaceColumns.l3] at H
                                by_cases c55 : x21_5 < (wrap64 (1 + (Int.tmod (wrap64 (a0_0)) 8)))
                                · rw [if_pos c55] at H
                                  have c55b0 : decide (x21_5 < (wrap64 (1 + (Int.tmod (wrap64 (a0_0)) 8)))) = true := decide_eq_true c55
                                  clear c55
                                  by_cases c56 : 0 ≤ x21_5
                                  · rw [if_pos c56] at H
                                    have c56b0 : decide (0 ≤ x21_5) = true := decide_eq_true c56
                                    clear c56
                                    by_cases c57 : x21_5 < (t148.size : Int)
                                    · rw [if_pos c57] at H
                                      have c57b0 : decide (x21_5 < (t148.size : Int)) = true := decide_eq_true c57
                                      clear c57
                                      by_cases c59 : (bt t148 x21_5) = 63
                                      · rw [if_pos c59] at H
                                        have c59b0 : ((bt t148 x21_5) == 63) = true := beq_iff_eq.mpr c59
                                        have c59b1 : ((bt t148 x21_5) != 63) = false := bne_eq_false_iff_eq.mpr c59
                                        clear c59
                                        by_cases c60 : x20_5.length < 17592186044416
                                        · rw [if_pos c60] at H
                                          have LMc60 := Aside0.mk c60
                                          clear c60
                                          obtain ⟨y152, hy152⟩ : ∃ y_ : List Int, y_ = (x20_5 ++ [x21_5]) := ⟨_, rfl⟩
                                          replace H : (panachetop_TopFaceColumns.l3 k5 (wrap64 (1 + (Int.tmod (wrap64 (a0_0)) 8))) (wrap64 (2 + (Int.tmod (wrap64 (a0_1)) 3))) t141 t144 t148 y152 (wrap64 (x21_5 + 1))) = some r := by first | (rw [hy152]; with_reducible exact H) | (have H2_ := (Option.bind_some _ _).symm.trans H; rw [hy152]; with_reducible exact H2_) | (have H2_ := (Option.bind_some _ _).symm.trans H; with_reducible exact H2_) | with_reducible exact H | (rw [hy152]; exact H) | exact H
                                          have Ny152 := Aside0.mk hy152
                                          clear hy152
                                          have H' := Aside0.mk H
                                          clear H
                                          have p58 : 0 ≤ (x21_5 : Int) := of_decide_eq_true (by first | (with_reducible assumption) | assumption)
                                          have q58 : x21_5 < (t148.size : Int) := of_decide_eq_true (by first | (with_reducible assumption) | assumption)
                                          have hx58 := bt_at t148 x21_5
                                          replace p58 := eq_true p58
                                          replace q58 := eq_true q58
                                          go_wp2_with (first | ((with_reducible refine gate_builtin (b := .append) (xs := #[.tmp 131, .tmp 133]) rfl ?_); (try (refine gate_guard (by rfl) ?_; dsimp only)); at_builtin; refine Kd.R_append (Kd.int .i64) (w0 := w) w.heap.size rfl (.tmp 131) (.tmp 133) 26 3 (.int .i64 0) 8 rfl Tryd.underlying26 info3 rfl (by decide) (by omega) u20 x20_5 x21_5 [.int .i64 x21_5] (fun k_ => some k_ ≠ (v142 : Value).ownBlock ∧ some k_ ≠ (v145 : Value).ownBlock ∧ some k_ ≠ (.slice Ao48 x131000_2.length co48 : Value).ownBlock) (fun _ => False) rfl rfl ?aP (fun _ hk => hk.elim) ?aF ?aO ?aB ?aS ?aL ?_; (case aP => exact rfl); (case aB => exact (by repeat (first | (with_reducible first | exact HB.out | apply below_alloc | apply pw_below_drewN | apply below_drew1 | refine below_set ?_ GE128.out | refine below_set ?_ GE129.out | refine below_set ?_ GE130.out) | exact HB.out))); (case aF => exact (fun k_ hk => ⟨Kd.fresh' (Kd.R_lt (by (with_reducible repeat (first | apply Kd.R_alloc | apply Kd.R_drewN | apply Kd.R_drew)); exact HO_16.out)) k_ hk, Kd.fresh' (Kd.R_lt (by (with_reducible repeat (first | apply Kd.R_alloc | apply Kd.R_drewN | apply Kd.R_drew)); exact HO_17.out)) k_ hk, Kd.fresh' (Kd.R_lt (by (with_reducible repeat (first | apply Kd.R_alloc | apply Kd.R_drewN | apply Kd.R_drew)); exact HO_131000.out)) k_ hk⟩)); (case aO => exact (by (with_reducible repeat (first | apply Kd.R_alloc | apply Kd.R_drewN | apply Kd.R_drew)); exact HO_20.out)); (case aS => exact (below_size (by repeat (first | (with_reducible first | exact HB.out | apply below_alloc | apply pw_below_drewN | apply below_drew1 | refine below_set ?_ GE128.out | refine below_set ?_ GE129.out | refine below_set ?_ GE130.out) | exact HB.out)))); (case aL => have := LMc60.out; omega); intro v153 w61 ho hb hg hat; rw [← Ny152.out] at ho; have n0_ := Aside0.mk (Kd.R_after (ok := (fun k_ => some k_ ≠ (v145 : Value).ownBlock ∧ some k_ ≠ (.slice Ao48 x131000_2.length co48 : Value).ownBlock)) (by (with_reducible repeat (first | apply Kd.R_alloc | apply Kd.R_drewN | apply Kd.R_drew)); exact Kd.R_mono HO_16.out (fun _ hk => ⟨⟨hk.1, hk.2.2⟩, hk.2.1⟩)) hg hat); have n1_ := Aside0.mk (Kd.R_after (ok := (fun k_ => some k_ ≠ (v142 : Value).ownBlock ∧ some k_ ≠ (.slice Ao48 x131000_2.length co48 : Value).ownBlock)) (by (with_reducible repeat (first | apply Kd.R_alloc | apply Kd.R_drewN | apply Kd.R_drew)); exact Kd.R_mono HO_17.out (fun _ hk => ⟨⟨hk.1, hk.2.2⟩, hk.2.1⟩)) hg hat); have n2_ := Aside0.mk (Kd.R_over' (by (with_reducible repeat (first | apply Kd.R_alloc | apply Kd.R_drewN | apply Kd.R_drew)); exact HO_130001.out) (Kd.R_typed (by (with_reducible repeat (first | apply Kd.R_alloc | apply Kd.R_drewN | apply Kd.R_drew)); exact HO_20.out)) (by decide) hg); have n3_ := Aside0.mk (Kd.R_after (ok := (fun k_ => some k_ ≠ (v142 : Value).ownBlock ∧ some k_ ≠ (v145 : Value).ownBlock)) (by (with_reducible repeat (first | apply Kd.R_alloc | apply Kd.R_drewN | apply Kd.R_drew)); exact Kd.R_mono HO_131000.out (fun _ hk => ⟨⟨hk.1, hk.2.1⟩, hk.2.2⟩)) hg hat); have n4_ := Aside0.mk (blk_grown (g := gb128) (o := .cells #[.int .u8 a0_0, .int .u8 a0_1, .int .u8 a0_2, .int .u8 a0_3] 22 (0, 0)) (by (with_reducible repeat (first | refine blk_drewN ?_ _ | refine blk_drew ?_ | refine blk_alloc ?_ _)); exact BK128.out) hg (Kd.R_ne HO_20.out BK128.out (by decide))); have n5_ := Aside0.mk (blk_grown (g := gb129) (o := .cells #[.int .i64 (wrap64 (20 * (wrap64 ((wrap64 (1 + (Int.tmod (wrap64 (a0_0)) 8))) + (wrap64 (2 + (Int.tmod (wrap64 (a0_1)) 3))))))), .slice Ao47 x130001_1.length co47] 25 (0, 0)) (by (with_reducible repeat (first | refine blk_drewN ?_ _ | refine blk_drew ?_ | refine blk_alloc ?_ _)); exact BK129.out) hg (Kd.R_ne HO_20.out BK129.out (by decide))); have n6_ := Aside0.mk (blk_grown (g := gb130) (o := .cells #[.slice Ao48 x131000_2.length co48, .int .i64 (wrap64 (1 + (Int.tmod (wrap64 (a0_2)) 9))), .int .i64 0, .int .i64 (wrap64 (20 * (wrap64 (2 + (Int.tmod (wrap64 (a0_1)) 3)))))] 28 (0, 0)) (by (with_reducible repeat (first | refine blk_drewN ?_ _ | refine blk_drew ?_ | refine blk_alloc ?_ _)); exact BK130.out) hg (Kd.R_ne HO_20.out BK130.out (by decide))); have n7_ := Aside0.mk (hb); have n8_ := Aside0.mk (ho); clear HO_16; clear HO_17; clear HO_130001; clear HO_131000; clear BK128; clear BK129; clear BK130; clear HB; clear HO_20; have HO_16 := n0_; have HO_17 := n1_; have HO_130001 := n2_; have HO_131000 := n3_; have BK128 := n4_; have BK129 := n5_; have BK130 := n6_; have HB := n7_; have HO154 := n8_; clear n0_ n1_ n2_ n3_ n4_ n5_ n6_ n7_ n8_; clear ho hb hg hat))
                                          go_roundg k5
                                          case measure => have := HK1.out; have := HK2.out; have := HK3.out; have := HJ40.out; have := HK5.out; omega
                                          case rel => exact ⟨(y152), (wrap64 (x21_5 + 1)), (by first | rfl | (simp; done) | (simp [*]; done)), H', ⟨by have := HK1.out; have := HK2.out; have := HK3.out; have := HJ40.out; have := HK5.out; omega⟩, ⟨by (with_reducible repeat (first | apply Kd.R_alloc | apply Kd.R_drewN | apply Kd.R_drew)); exact Kd.R_mono HO_16.out (fun _ hk => ⟨hk.1.1, ⟨hk.2, hk.1.2⟩⟩)⟩, ⟨by (with_reducible repeat (first | apply Kd.R_alloc | apply Kd.R_drewN | apply Kd.R_drew)); exact Kd.R_mono HO_17.out (fun _ hk => ⟨hk.1.1, ⟨hk.2, hk.1.2⟩⟩)⟩, ⟨by (with_reducible repeat (first | apply Kd.R_alloc | apply Kd.R_drewN | apply Kd.R_drew)); exact HO154.out⟩, ⟨by (with_reducible repeat (first | apply Kd.R_alloc | apply Kd.R_drewN | apply Kd.R_drew)); exact HO_130001.out⟩, ⟨by (with_reducible repeat (first | apply Kd.R_alloc | apply Kd.R_drewN | apply Kd.R_drew)); exact Kd.R_mono HO_131000.out (fun _ hk => ⟨hk.1.1, ⟨hk.1.2, hk.2⟩⟩)⟩, ⟨by (with_reducible repeat (first | refine blk_drewN ?_ _ | refine blk_drew ?_ | refine blk_alloc ?_ _)); exact BK128.out⟩, ⟨by (with_reducible repeat (first | refine blk_drewN ?_ _ | refine blk_drew ?_ | refine blk_alloc ?_ _)); exact BK129.out⟩, ⟨by (with_reducible repeat (first | refine blk_drewN ?_ _ | refine blk_drew ?_ | refine blk_alloc ?_ _)); exact BK130.out⟩, ⟨by repeat (first | (with_reducible first | exact HB.out | apply below_alloc | apply pw_below_drewN | apply below_drew1 | refine below_set ?_ GE128.out | refine below_set ?_ GE129.out | refine below_set ?_ GE130.out) | exact HB.out)⟩⟩
                                        · rw [if_neg c60] at H
                                          exact absurd H (by simp)
                                      · rw [if_neg c59] at H
                                        have c59b0 : ((bt t148 x21_5) == 63) = false := beq_eq_false_iff_ne.mpr c59
                                        have c59b1 : ((bt t148 x21_5) != 63) = true := bne_iff_ne.mpr c59
                                        have H' := Aside0.mk H
                                        clear H
                                        have p58 : 0 ≤ (x21_5 : Int) := of_decide_eq_true (by first | (with_reducible assumption) | assumption)
                                        have q58 : x21_5 < (t148.size : Int) := of_decide_eq_true (by first | (with_reducible assumption) | assumption)
                                        have hx58 := bt_at t148 x21_5
                                        replace p58 := eq_true p58
                                        replace q58 := eq_true q58
                                        go_wp2
                                        go_roundg k5
                                        case measure => have := HK1.out; have := HK2.out; have := HK3.out; have := HJ40.out; have := HK5.out; omega
                                        case rel => exact ⟨(x20_5), (wrap64 (x21_5 + 1)), (by first | rfl | (simp; done) | (simp [*]; done)), H', ⟨by have := HK1.out; have := HK2.out; have := HK3.out; have := HJ40.out; have := HK5.out; omega⟩, ⟨by (with_reducible repeat (first | apply Kd.R_alloc | apply Kd.R_drewN | apply Kd.R_drew)); exact HO_16.out⟩, ⟨by (with_reducible repeat (first | apply Kd.R_alloc | apply Kd.R_drewN | apply Kd.R_drew)); exact HO_17.out⟩, ⟨by (with_reducible repeat (first | apply Kd.R_alloc | apply Kd.R_drewN | apply Kd.R_drew)); exact HO_20.out⟩, ⟨by (with_reducible repeat (first | apply Kd.R_alloc | apply Kd.R_drewN | apply Kd.R_drew)); exact HO_130001.out⟩, ⟨by (with_reducible repeat (first | apply Kd.R_alloc | apply Kd.R_drewN | apply Kd.R_drew)); exact HO_131000.out⟩, ⟨by (with_reducible repeat (first | refine blk_drewN ?_ _ | refine blk_drew ?_ | refine blk_alloc ?_ _)); exact BK128.out⟩, ⟨by (with_reducible repeat (first | refine blk_drewN ?_ _ | refine blk_drew ?_ | refine blk_alloc ?_ _)); exact BK129.out⟩, ⟨by (with_reducible repeat (first | refine blk_drewN ?_ _ | refine blk_drew ?_ | refine blk_alloc ?_ _)); exact BK130.out⟩, ⟨by repeat (first | (with_reducible first | exact HB.out | apply below_alloc | apply pw_below_drewN | apply below_drew1 | refine below_set ?_ GE128.out | refine below_set ?_ GE129.out | refine below_set ?_ GE130.out) | exact HB.out)⟩⟩
                                    · rw [if_neg c57] at H
                                      exact absurd H (by simp)
                                  · rw [if_neg c56] at H
                                    exact absurd H (by simp)
                                · rw [if_neg c55] at H
                                  have c55b0 : decide (x21_5 < (wrap64 (1 + (Int.tmod (wrap64 (a0_0)) 8)))) = false := decide_eq_false c55
                                  clear c55
                                  replace H := Option.bind_eq_some_iff.mp H
                                  obtain ⟨t155, A620, H⟩ := H
                                  replace H : (if t155 = true then ((panachetop_oakInts.f k5 t144 x20_5).bind fun t156 => (if t156 = true then (if (wrap64 (2 + (Int.tmod (wrap64 (a0_1)) 3))) = 0 then (none) else (if (x20_5.length : Int) ≥ (wrap64 (Int.tdiv (wrap64 (1 + (Int.tmod (wrap64 (a0_0)) 8))) (wrap64 (2 + (Int.tmod (wrap64 (a0_1)) 3))))) then ((panachetop_oakKnown04.f).bind fun t157 => (some t157)) else (some false))) else (some false))) else (some false)) = some r := H
                                  have A62 := Aside0.mk A620
                                  clear A620
                                  by_cases c63 : t155 = true
                                  · subst c63
                                    have H1 : ((panachetop_oakInts.f k5 t144 x20_5).bind fun t156 => (if t156 = true then (if (wrap64 (2 + (Int.tmod (wrap64 (a0_1)) 3))) = 0 then (none) else (if (x20_5.length : Int) ≥ (wrap64 (Int.tdiv (wrap64 (1 + (Int.tmod (wrap64 (a0_0)) 8))) (wrap64 (2 + (Int.tmod (wrap64 (a0_1)) 3))))) then ((panachetop_oakKnown04.f).bind fun t157 => (some t157)) else (some false))) else (some false))) = some r := by rw [if_pos rfl] at H; exact H
                                    clear H
                                    have H := H1
                                    clear H1
                                    replace H := Option.bind_eq_some_iff.mp H
                                    obtain ⟨t156, A640, H⟩ := H
                                    replace H : (if t156 = true then (if (wrap64 (2 + (Int.tmod (wrap64 (a0_1)) 3))) = 0 then (none) else (if (x20_5.length : Int) ≥ (wrap64 (Int.tdiv (wrap64 (1 + (Int.tmod (wrap64 (a0_0)) 8))) (wrap64 (2 + (Int.tmod (wrap64 (a0_1)) 3))))) then ((panachetop_oakKnown04.f).bind fun t157 => (some t157)) else (some false))) else (some false)) = some r := H
                                    have A64 := Aside0.mk A640
                                    clear A640
                                    by_cases c65 : t156 = true
                                    · subst c65
                                      have H1 : (if (wrap64 (2 + (Int.tmod (wrap64 (a0_1)) 3))) = 0 then (none) else (if (x20_5.length : Int) ≥ (wrap64 (Int.tdiv (wrap64 (1 + (Int.tmod (wrap64 (a0_0)) 8))) (wrap64 (2 + (Int.tmod (wrap64 (a0_1)) 3))))) then ((panachetop_oakKnown04.f).bind fun t157 => (some t157)) else (some false))) = some r := by rw [if_pos rfl] at H; exact H
                                      clear H
                                      have H := H1
                                      clear H1
                                      by_cases c66 : (wrap64 (2 + (Int.tmod (wrap64 (a0_1)) 3))) = 0
                                      · rw [if_pos c66] at H
                                        exact absurd H (by simp)
                                      · rw [if_neg c66] at H
                                        have c66b0 : ((wrap64 (2 + (Int.tmod (wrap64 (a0_1)) 3))) == 0) = false := beq_eq_false_iff_ne.mpr c66
                                        have c66b1 : ((wrap64 (2 + (Int.tmod (wrap64 (a0_1)) 3))) != 0) = true := bne_iff_ne.mpr c66
                                        by_cases c67 : (x20_5.length : Int) ≥ (wrap64 (Int.tdiv (wrap64 (1 + (Int.tmod (wrap64 (a0_0)) 8))) (wrap64 (2 + (Int.tmod (wrap64 (a0_1)) 3)))))
                                        · rw [if_pos c67] at H
                                          have c67b0 : decide ((wrap64 (Int.tdiv (wrap64 (1 + (Int.tmod (wrap64 (a0_0)) 8))) (wrap64 (2 + (Int.tmod (wrap64 (a0_1)) 3))))) ≤ (x20_5.length : Int)) = true := decide_eq_true c67
                                          clear c67
                                          replace H := Option.bind_eq_some_iff.mp H
                                          obtain ⟨t157, A680, H⟩ := H
                                          replace H : (some t157) = some r := H
                                          have A68 := Aside0.mk A680
                                          clear A680
                                          obtain rfl := Option.some.inj H
                                          obtain ⟨Ao69, co69, eo69⟩ := Kd.R_slice HO_16.out
                                          subst eo69
                                          obtain ⟨Ao70, co70, eo70⟩ := Kd.R_slice HO_20.out
                                          subst eo70
                                          go_wp2_with (first | ((with_reducible refine gate_callee (f := 7) rfl ?_); refine goesL_ (some 137) rfl rfl Tryd.func7 (by kernel_rfl) rfl #[.slice Ao69 t141.length co69, .slice Ao70 x20_5.length co70] rfl (by (try simp only [List.map_toArray, List.map_cons, List.map_nil]); first | done | rfl | (simp only [List.length_drop, List.length_take]; rfl)) ?_; (with_reducible refine (panachetop_oakInts.calls k5 _ _ t141 _ _ x20_5 true _ ?side1 ?side2 ?side3 ?side4 A62.out).mono ?_); (case side1 => repeat (first | exact (Kd.R_reads' HO_16.out).2.2 | (with_reducible refine Kd.C_alloc ?_ _) | (with_reducible refine Kd.C_drewN ?_ _) | (with_reducible refine Kd.C_drew ?_))); (case side2 => exact (Kd.R_reads' HO_16.out).2.1); (case side3 => repeat (first | exact (Kd.R_reads' HO_20.out).2.2 | (with_reducible refine Kd.C_alloc ?_ _) | (with_reducible refine Kd.C_drewN ?_ _) | (with_reducible refine Kd.C_drew ?_))); (case side4 => exact (Kd.R_reads' HO_20.out).2.1); rintro e w' ⟨rfl, ⟨nd, rfl⟩⟩; refine ⟨_, rfl, ?_⟩; obtain ⟨Ao71, co71, eo71⟩ := Kd.R_slice HO_17.out; subst eo71) | (go_at_call 7; (with_reducible refine (panachetop_oakInts.calls k5 _ _ t144 _ _ x20_5 true _ ?side1 ?side2 ?side3 ?side4 A64.out).mono ?_); (case side1 => repeat (first | exact (Kd.R_reads' HO_17.out).2.2 | (with_reducible refine Kd.C_alloc ?_ _) | (with_reducible refine Kd.C_drewN ?_ _) | (with_reducible refine Kd.C_drew ?_))); (case side2 => exact (Kd.R_reads' HO_17.out).2.1); (case side3 => repeat (first | exact (Kd.R_reads' HO_20.out).2.2 | (with_reducible refine Kd.C_alloc ?_ _) | (with_reducible refine Kd.C_drewN ?_ _) | (with_reducible refine Kd.C_drew ?_))); (case side4 => exact (Kd.R_reads' HO_20.out).2.1); rintro e w' ⟨rfl, ⟨nd, rfl⟩⟩) | (go_at_call 8; (with_reducible refine (panachetop_oakKnown04.calls  t157 _ A68.out (Tabs.below HT.out (by repeat (first | (with_reducible first | exact HB.out | apply below_alloc | apply pw_below_drewN | apply below_drew1 | refine below_set ?_ GE128.out | refine below_set ?_ GE129.out | refine below_set ?_ GE130.out) | exact HB.out)))).mono ?_); rintro e w72 ⟨rfl, hb⟩; have n0_ := Aside0.mk (Kd.R_below (by (with_reducible repeat (first | apply Kd.R_alloc | apply Kd.R_drewN | apply Kd.R_drew)); exact HO_16.out) hb); have n1_ := Aside0.mk (Kd.R_below (by (with_reducible repeat (first | apply Kd.R_alloc | apply Kd.R_drewN | apply Kd.R_drew)); exact HO_17.out) hb); have n2_ := Aside0.mk (Kd.R_below (by (with_reducible repeat (first | apply Kd.R_alloc | apply Kd.R_drewN | apply Kd.R_drew)); exact HO_20.out) hb); have n3_ := Aside0.mk (Kd.R_below (by (with_reducible repeat (first | apply Kd.R_alloc | apply Kd.R_drewN | apply Kd.R_drew)); exact HO_130001.out) hb); have n4_ := Aside0.mk (Kd.R_below (by (with_reducible repeat (first | apply Kd.R_alloc | apply Kd.R_drewN | apply Kd.R_drew)); exact HO_131000.out) hb); have n5_ := Aside0.mk (blk_below (g := gb128) (o := .cells #[.int .u8 a0_0, .int .u8 a0_1, .int .u8 a0_2, .int .u8 a0_3] 22 (0, 0)) (by (with_reducible repeat (first | refine blk_drewN ?_ _ | refine blk_drew ?_ | refine blk_alloc ?_ _)); exact BK128.out) hb); have n6_ := Aside0.mk (blk_below (g := gb129) (o := .cells #[.int .i64 (wrap64 (20 * (wrap64 ((wrap64 (1 + (Int.tmod (wrap64 (a0_0)) 8))) + (wrap64 (2 + (Int.tmod (wrap64 (a0_1)) 3))))))), .slice Ao47 x130001_1.length co47] 25 (0, 0)) (by (with_reducible repeat (first | refine blk_drewN ?_ _ | refine blk_drew ?_ | refine blk_alloc ?_ _)); exact BK129.out) hb); have n7_ := Aside0.mk (blk_below (g := gb130) (o := .cells #[.slice Ao48 x131000_2.length co48, .int .i64 (wrap64 (1 + (Int.tmod (wrap64 (a0_2)) 9))), .int .i64 0, .int .i64 (wrap64 (20 * (wrap64 (2 + (Int.tmod (wrap64 (a0_1)) 3)))))] 28 (0, 0)) (by (with_reducible repeat (first | refine blk_drewN ?_ _ | refine blk_drew ?_ | refine blk_alloc ?_ _)); exact BK130.out) hb); have n8_ := Aside0.mk (below_step (by repeat (first | (with_reducible first | exact HB.out | apply below_alloc | apply pw_below_drewN | apply below_drew1 | refine below_set ?_ GE128.out | refine below_set ?_ GE129.out | refine below_set ?_ GE130.out) | exact HB.out)) hb); clear HO_16; clear HO_17; clear HO_20; clear HO_130001; clear HO_131000; clear BK128; clear BK129; clear BK130; clear HB; have HO_16 := n0_; have HO_17 := n1_; have HO_20 := n2_; have HO_130001 := n3_; have HO_131000 := n4_; have BK128 := n5_; have BK129 := n6_; have BK130 := n7_; have HB := n8_; clear n0_ n1_ n2_ n3_ n4_ n5_ n6_ n7_ n8_; (try clear hb); (try clear hb2); (try clear hk); (try clear hi)))
                                          go_ret
                                          exact ⟨by first | rfl | (simp [errW_none, errW_some] <;> rfl) | (simp [*, errW_none, errW_some] <;> rfl), by repeat (first | (with_reducible first | exact HB.out | apply below_alloc | apply pw_below_drewN | apply below_drew1 | refine below_set ?_ GE128.out | refine below_set ?_ GE129.out | refine below_set ?_ GE130.out) | exact HB.out)⟩
                                        · rw [if_neg c67] at H
                                          have c67b0 : decide ((wrap64 (Int.tdiv (wrap64 (1 + (Int.tmod (wrap64 (a0_0)) 8))) (wrap64 (2 + (Int.tmod (wrap64 (a0_1)) 3))))) ≤ (x20_5.length : Int)) = false := decide_eq_false c67
                                          clear c67
                                          obtain rfl := Option.some.inj H
                                          obtain ⟨Ao73, co73, eo73⟩ := Kd.R_slice HO_16.out
                                          subst eo73
                                          obtain ⟨Ao74, co74, eo74⟩ := Kd.R_slice HO_20.out
                                          subst eo74
                                          go_wp2_with (first | ((with_reducible refine gate_callee (f := 7) rfl ?_); refine goesL_ (some 137) rfl rfl Tryd.func7 (by kernel_rfl) rfl #[.slice Ao73 t141.length co73, .slice Ao74 x20_5.length co74] rfl (by (try simp only [List.map_toArray, List.map_cons, List.map_nil]); first | done | rfl | (simp only [List.length_drop, List.length_take]; rfl)) ?_; (with_reducible refine (panachetop_oakInts.calls k5 _ _ t141 _ _ x20_5 true _ ?side1 ?side2 ?side3 ?side4 A62.out).mono ?_); (case side1 => repeat (first | exact (Kd.R_reads' HO_16.out).2.2 | (with_reducible refine Kd.C_alloc ?_ _) | (with_reducible refine Kd.C_drewN ?_ _) | (with_reducible refine Kd.C_drew ?_))); (case side2 => exact (Kd.R_reads' HO_16.out).2.1); (case side3 => repeat (first | exact (Kd.R_reads' HO_20.out).2.2 | (with_reducible refine Kd.C_alloc ?_ _) | (with_reducible refine Kd.C_drewN ?_ _) | (with_reducible refine Kd.C_drew ?_))); (case side4 => exact (Kd.R_reads' HO_20.out).2.1); rintro e w' ⟨rfl, ⟨nd, rfl⟩⟩; refine ⟨_, rfl, ?_⟩; obtain ⟨Ao75, co75, eo75⟩ := Kd.R_slice HO_17.out; subst eo75) | (go_at_call 7; (with_reducible refine (panachetop_oakInts.calls k5 _ _ t144 _ _ x20_5 true _ ?side1 ?side2 ?side3 ?side4 A64.out).mono ?_); (case side1 => repeat (first | exact (Kd.R_reads' HO_17.out).2.2 | (with_reducible refine Kd.C_alloc ?_ _) | (with_reducible refine Kd.C_drewN ?_ _) | (with_reducible refine Kd.C_drew ?_))); (case side2 => exact (Kd.R_reads' HO_17.out).2.1); (case side3 => repeat (first | exact (Kd.R_reads' HO_20.out).2.2 | (with_reducible refine Kd.C_alloc ?_ _) | (with_reducible refine Kd.C_drewN ?_ _) | (with_reducible refine Kd.C_drew ?_))); (case side4 => exact (Kd.R_reads' HO_20.out).2.1); rintro e w' ⟨rfl, ⟨nd, rfl⟩⟩))
                                          go_ret
                                          exact ⟨by first | rfl | (simp [errW_none, errW_some] <;> rfl) | (simp [*, errW_none, errW_some] <;> rfl), by repeat (first | (with_reducible first | exact HB.out | apply below_alloc | apply pw_below_drewN | apply below_drew1 | refine below_set ?_ GE128.out | refine below_set ?_ GE129.out | refine below_set ?_ GE130.out) | exact HB.out)⟩
                                    · replace c65 := Bool.eq_false_iff.mpr c65
                                      subst c65
                                      have H1 : (some false) = some r := by rw [if_neg (show ¬ (false = true) by decide)] at H; exact H
                                      clear H
                                      have H := H1
                                      clear H1
                                      obtain rfl := Option.some.inj H
                                      obtain ⟨Ao76, co76, eo76⟩ := Kd.R_slice HO_16.out
                                      subst eo76
                                      obtain ⟨Ao77, co77, eo77⟩ := Kd.R_slice HO_20.out
                                      subst eo77
                                      go_wp2_with (first | ((with_reducible refine gate_callee (f := 7) rfl ?_); refine goesL_ (some 137) rfl rfl Tryd.func7 (by kernel_rfl) rfl #[.slice Ao76 t141.length co76, .slice Ao77 x20_5.length co77] rfl (by (try simp only [List.map_toArray, List.map_cons, List.map_nil]); first | done | rfl | (simp only [List.length_drop, List.length_take]; rfl)) ?_; (with_reducible refine (panachetop_oakInts.calls k5 _ _ t141 _ _ x20_5 true _ ?side1 ?side2 ?side3 ?side4 A62.out).mono ?_); (case side1 => repeat (first | exact (Kd.R_reads' HO_16.out).2.2 | (with_reducible refine Kd.C_alloc ?_ _) | (with_reducible refine Kd.C_drewN ?_ _) | (with_reducible refine Kd.C_drew ?_))); (case side2 => exact (Kd.R_reads' HO_16.out).2.1); (case side3 => repeat (first | exact (Kd.R_reads' HO_20.out).2.2 | (with_reducible refine Kd.C_alloc ?_ _) | (with_reducible refine Kd.C_drewN ?_ _) | (with_reducible refine Kd.C_drew ?_))); (case side4 => exact (Kd.R_reads' HO_20.out).2.1); rintro e w' ⟨rfl, ⟨nd, rfl⟩⟩; refine ⟨_, rfl, ?_⟩; obtain ⟨Ao78, co78, eo78⟩ := Kd.R_slice HO_17.out; subst eo78) | (go_at_call 7; (with_reducible refine (panachetop_oakInts.calls k5 _ _ t144 _ _ x20_5 false _ ?side1 ?side2 ?side3 ?side4 A64.out).mono ?_); (case side1 => repeat (first | exact (Kd.R_reads' HO_17.out).2.2 | (with_reducible refine Kd.C_alloc ?_ _) | (with_reducible refine Kd.C_drewN ?_ _) | (with_reducible refine Kd.C_drew ?_))); (case side2 => exact (Kd.R_reads' HO_17.out).2.1); (case side3 => repeat (first | exact (Kd.R_reads' HO_20.out).2.2 | (with_reducible refine Kd.C_alloc ?_ _) | (with_reducible refine Kd.C_drewN ?_ _) | (with_reducible refine Kd.C_drew ?_))); (case side4 => exact (Kd.R_reads' HO_20.out).2.1); rintro e w' ⟨rfl, ⟨nd, rfl⟩⟩))
                                      go_ret
                                      exact ⟨by first | rfl | (simp [errW_none, errW_some] <;> rfl) | (simp [*, errW_none, errW_some] <;> rfl), by repeat (first | (with_reducible first | exact HB.out | apply below_alloc | apply pw_below_drewN | apply below_drew1 | refine below_set ?_ GE128.out | refine below_set ?_ GE129.out | refine below_set ?_ GE130.out) | exact HB.out)⟩
                                  · replace c63 := Bool.eq_false_iff.mpr c63
                                    subst c63
                                    have H1 : (some false) = some r := by rw [if_neg (show ¬ (false = true) by decide)] at H; exact H
                                    clear H
                                    have H := H1
                                    clear H1
                                    obtain rfl := Option.some.inj H
                                    obtain ⟨Ao79, co79, eo79⟩ := Kd.R_slice HO_16.out
                                    subst eo79
                                    obtain ⟨Ao80, co80, eo80⟩ := Kd.R_slice HO_20.out
                                    subst eo80
                                    go_wp2_with (first | ((with_reducible refine gate_callee (f := 7) rfl ?_); refine goesL_ (some 137) rfl rfl Tryd.func7 (by kernel_rfl) rfl #[.slice Ao79 t141.length co79, .slice Ao80 x20_5.length co80] rfl (by (try simp only [List.map_toArray, List.map_cons, List.map_nil]); first | done | rfl | (simp only [List.length_drop, List.length_take]; rfl)) ?_; (with_reducible refine (panachetop_oakInts.calls k5 _ _ t141 _ _ x20_5 false _ ?side1 ?side2 ?side3 ?side4 A62.out).mono ?_); (case side1 => repeat (first | exact (Kd.R_reads' HO_16.out).2.2 | (with_reducible refine Kd.C_alloc ?_ _) | (with_reducible refine Kd.C_drewN ?_ _) | (with_reducible refine Kd.C_drew ?_))); (case side2 => exact (Kd.R_reads' HO_16.out).2.1); (case side3 => repeat (first | exact (Kd.R_reads' HO_20.out).2.2 | (with_reducible refine Kd.C_alloc ?_ _) | (with_reducible refine Kd.C_drewN ?_ _) | (with_reducible refine Kd.C_drew ?_))); (case side4 => exact (Kd.R_reads' HO_20.out).2.1); rintro e w' ⟨rfl, ⟨nd, rfl⟩⟩; refine ⟨_, rfl, ?_⟩))
                                    go_ret
                                    exact ⟨by first | rfl | (simp [errW_none, errW_some] <;> rfl) | (simp [*, errW_none, errW_some] <;> rfl), by repeat (first | (with_reducible first | exact HB.out | apply below_alloc | apply pw_below_drewN | apply below_drew1 | refine below_set ?_ GE128.out | refine below_set ?_ GE129.out | refine below_set ?_ GE130.out) | exact HB.out)⟩

end Go.Proofs.YtmkhlgdgndnkbaaDoor.PTopFaceColumns
