/- Part 6 of this claim's texts, put together by a program of its author: POakx3, POakx, TooU, TooV, TocDef, TocAll, TocPure, TocRow, TocCard. -/
import Derived.Test.YteoifcmafkbklaaDoorMe
import Derived.Deep.QuietTactic
import Derived.BigQuiet
import Derived.OpenShut
import Derived.Test.YteoifcmafkbklaaDoorRows
import Derived.Laws.IdiomArrays
import Derived.Lib.LaidIn
import Derived.Lib.LaidU8
import Derived.Deep.DeepHandedRow
import Derived.Deep.DeepWitnessRowRef
import Derived.ProofKit
import Derived.SizedLaws
import Derived.Carry
import Derived.Test.YteoifcmafkbklaaDoorTie
import Derived.Test.YteoifcmafkbklaaDoorCards
import Derived.SevenTiedAt
section
-- Written by a program of this claim's author out of the translation (the kit's print, with some functions taken as given). Not trusted: Lean checks it.
namespace Go.Proofs.YteoifcmafkbklaaDoor.POak
open Go.RowKit Go.Proofs.YteoifcmafkbklaaDoorW.PrintWords Go.Proofs.YteoifcmafkbklaaDoorW.PrintLast Go.Proofs.YteoifcmafkbklaaDoorW.PrintMore Go.Proofs.YteoifcmafkbklaaDoor.X
attribute [local go_sem] max2_int min2_int max_two min_two max_three min_three max_four min_four   -- for this text's walks alone
set_option linter.unusedVariables false
set_option linter.unusedSimpArgs false

/-! ### panachetop_oakInts: function 12 -/
def panachetop_oakInts.l0 : Nat → List Int → List Int → Int → Option (Bool)
  | 0, _, _, _ => none
  | k + 1, x0, x1, x5 => if x5 < (x0.length : Int) then (if 0 ≤ x5 then (if x5 < (x1.length : Int) then (if (rd x0 x5) = (rd x1 x5) then (panachetop_oakInts.l0 k x0 x1 (wrap64 (x5 + 1))) else (some false)) else (none)) else (none)) else (some true)
def panachetop_oakInts.f (k : Nat) (l0 : List Int) (l1 : List Int) : Option (Bool) := if (l0.length : Int) = (l1.length : Int) then (panachetop_oakInts.l0 k l0 l1 0) else (some false)
theorem panachetop_oakInts.mono_l : ∀ k, (∀ y0 y1 y2, LeO (panachetop_oakInts.l0 k y0 y1 y2) (panachetop_oakInts.l0 (k + 1) y0 y1 y2))
  | 0 => fun _ _ _ r h => by simp [panachetop_oakInts.l0] at h
  | k + 1 => by
    have ih0 := panachetop_oakInts.mono_l k
    · intro y0 y1 y2
      unfold panachetop_oakInts.l0
      repeat' first
      | (with_reducible exact ih0 _ _ _)
      | (with_reducible exact LeO.refl _)
      | (with_reducible exact LeO.none _)
      | (with_reducible refine LeO.ite ?_ ?_)
      | (with_reducible refine LeO.bind ?_ (fun _ => ?_))
      | exact ih0 _ _ _
      | exact LeO.none _
      | refine LeO.ite ?_ ?_
      | refine LeO.bind ?_ (fun _ => ?_)
theorem panachetop_oakInts.mono : ∀ a0 a1 k, LeO (panachetop_oakInts.f k a0 a1) (panachetop_oakInts.f (k + 1) a0 a1) := by
  intro a0 a1 k
  have ih0 := panachetop_oakInts.mono_l k
  unfold panachetop_oakInts.f
  repeat' first
      | (with_reducible exact ih0 _ _ _)
      | (with_reducible exact LeO.refl _)
      | (with_reducible exact LeO.none _)
      | (with_reducible refine LeO.ite ?_ ?_)
      | (with_reducible refine LeO.bind ?_ (fun _ => ?_))
      | exact ih0 _ _ _
      | exact LeO.none _
      | refine LeO.ite ?_ ?_
      | refine LeO.bind ?_ (fun _ => ?_)
set_option maxHeartbeats 8000000 in
set_option maxRecDepth 100000 in
theorem panachetop_oakInts.calls (k : Nat) (A0 : Option Addr) (c0 : Nat) (l0 : List Int) (A1 : Option Addr) (c1 : Nat) (l1 : List Int) (r : Bool) (w : World) (hr0 : Kd.C (Kd.int .i64) w A0 l0.length l0) (hc0 : l0.length ≤ c0) (hr1 : Kd.C (Kd.int .i64) w A1 l1.length l1) (hc1 : l1.length ≤ c1) (h : panachetop_oakInts.f k l0 l1 = some r) :
    Calls Tryd.prog 12 #[.slice A0 l0.length c0, .slice A1 l1.length c1] w fun e w' => e = .returned (.bool r) ∧ Drawn0 w w' := by
  have HR0 := Aside0.mk hr0
  have HC0 := Aside0.mk hc0
  clear hr0 hc0
  have HR1 := Aside0.mk hr1
  have HC1 := Aside0.mk hc1
  clear hr1 hc1
  have H : (if (l0.length : Int) = (l1.length : Int) then (panachetop_oakInts.l0 k l0 l1 0) else (some false)) = some r := h
  clear h
  by_cases c3 : (l0.length : Int) = (l1.length : Int)
  · rw [if_pos c3] at H
    have c3b0 : ((l0.length : Int) == (l1.length : Int)) = true := beq_iff_eq.mpr c3
    have c3b1 : ((l0.length : Int) != (l1.length : Int)) = false := bne_eq_false_iff_eq.mpr c3
    have c3b2 : (l0.length == l1.length) = true := by first | simpa using c3 | (simp at c3 ⊢; omega)
    clear c3
    have H' := Aside0.mk H
    clear H
    go_enter Tryd.func12, Tryd.ntmps12
    go_wp2
    repeat (go_quiet (fail); try go_wp2)
    go_loopg [5] k (fun kq v5 w' => ∃ (x5_1 : Int), v5 = .int .i64 x5_1 ∧ Aside0 (panachetop_oakInts.l0 kq l0 l1 x5_1 = some r) ∧ Aside0 (kq ≤ k) ∧ Drawn0 w w')
    case atStart => exact ⟨(0), (by first | rfl | (simp; done) | (simp [*]; done)), H', ⟨Nat.le_refl _⟩, by repeat (first | exact Drawn0.refl _ | apply Drawn0.step)⟩
    case round =>
      clear H'
      try clear c1
      try clear p2
      try clear c3
      try clear c3b0
      try clear c3b1
      try clear c3b2
      obtain ⟨x5_1, rfl, HA, HK1, ⟨m1, rfl⟩⟩ := hrel
      cases gk with
      | zero => exact absurd HA.out (by simp [panachetop_oakInts.l0])
      | succ k1 =>
        have H := HA.out
        clear HA
        simp only [panachetop_oakInts.l0] at H
        by_cases c4 : x5_1 < (l0.length : Int)
        · rw [if_pos c4] at H
          have c4b0 : decide (x5_1 < (l0.length : Int)) = true := decide_eq_true c4
          clear c4
          by_cases c5 : 0 ≤ x5_1
          · rw [if_pos c5] at H
            have c5b0 : decide (0 ≤ x5_1) = true := decide_eq_true c5
            clear c5
            by_cases c6 : x5_1 < (l1.length : Int)
            · rw [if_pos c6] at H
              have c6b0 : decide (x5_1 < (l1.length : Int)) = true := decide_eq_true c6
              clear c6
              by_cases c7 : (rd l0 x5_1) = (rd l1 x5_1)
              · rw [if_pos c7] at H
                have c7b0 : ((rd l0 x5_1) == (rd l1 x5_1)) = true := beq_iff_eq.mpr c7
                have c7b1 : ((rd l0 x5_1) != (rd l1 x5_1)) = false := bne_eq_false_iff_eq.mpr c7
                clear c7
                have H' := Aside0.mk H
                clear H
                have p147 : 0 ≤ (x5_1 : Int) := of_decide_eq_true (by first | (with_reducible assumption) | assumption)
                have q147 : x5_1 < (l0.length : Int) := of_decide_eq_true (by first | (with_reducible assumption) | assumption)
                obtain ⟨ad147, e147, hx147_0⟩ := Kd.at_int HR0.out x5_1 p147 q147
                cases e147
                replace p147 := eq_true p147
                replace q147 := eq_true q147
                have p148 : 0 ≤ (x5_1 : Int) := of_decide_eq_true (by first | (with_reducible assumption) | assumption)
                have q148 : x5_1 < (l1.length : Int) := of_decide_eq_true (by first | (with_reducible assumption) | assumption)
                obtain ⟨ad148, e148, hx148_0⟩ := Kd.at_int HR1.out x5_1 p148 q148
                cases e148
                replace p148 := eq_true p148
                replace q148 := eq_true q148
                go_wp2
                repeat (go_quiet (fail); try go_wp2)
                go_roundg k1
                case measure => have := HK1.out; omega
                case rel => exact ⟨(wrap64 (x5_1 + 1)), (by first | rfl | (simp; done) | (simp [*]; done)), H', ⟨by have := HK1.out; omega⟩, by repeat (first | exact Drawn0.refl _ | apply Drawn0.step)⟩
              · rw [if_neg c7] at H
                have c7b0 : ((rd l0 x5_1) == (rd l1 x5_1)) = false := beq_eq_false_iff_ne.mpr c7
                have c7b1 : ((rd l0 x5_1) != (rd l1 x5_1)) = true := bne_iff_ne.mpr c7
                obtain rfl := Option.some.inj H
                have p147 : 0 ≤ (x5_1 : Int) := of_decide_eq_true (by first | (with_reducible assumption) | assumption)
                have q147 : x5_1 < (l0.length : Int) := of_decide_eq_true (by first | (with_reducible assumption) | assumption)
                obtain ⟨ad147, e147, hx147_0⟩ := Kd.at_int HR0.out x5_1 p147 q147
                cases e147
                replace p147 := eq_true p147
                replace q147 := eq_true q147
                have p148 : 0 ≤ (x5_1 : Int) := of_decide_eq_true (by first | (with_reducible assumption) | assumption)
                have q148 : x5_1 < (l1.length : Int) := of_decide_eq_true (by first | (with_reducible assumption) | assumption)
                obtain ⟨ad148, e148, hx148_0⟩ := Kd.at_int HR1.out x5_1 p148 q148
                cases e148
                replace p148 := eq_true p148
                replace q148 := eq_true q148
                go_wp2
                repeat (go_quiet (fail); try go_wp2)
                go_ret
                exact ⟨by first | rfl | (simp; done) | (simp [*]; done), by repeat (first | exact Drawn0.refl _ | apply Drawn0.step)⟩
            · rw [if_neg c6] at H
              exact absurd H (by simp)
          · rw [if_neg c5] at H
            exact absurd H (by simp)
        · rw [if_neg c4] at H
          have c4b0 : decide (x5_1 < (l0.length : Int)) = false := decide_eq_false c4
          clear c4
          obtain rfl := Option.some.inj H
          go_wp2
          repeat (go_quiet (fail); try go_wp2)
          go_ret
          exact ⟨by first | rfl | (simp; done) | (simp [*]; done), by repeat (first | exact Drawn0.refl _ | apply Drawn0.step)⟩
  · rw [if_neg c3] at H
    have c3b0 : ((l0.length : Int) == (l1.length : Int)) = false := beq_eq_false_iff_ne.mpr c3
    have c3b1 : ((l0.length : Int) != (l1.length : Int)) = true := bne_iff_ne.mpr c3
    have c3b2 : (l0.length == l1.length) = false := by first | simpa using c3 | (simp at c3 ⊢; omega)
    obtain rfl := Option.some.inj H
    go_enter Tryd.func12, Tryd.ntmps12
    go_wp2
    repeat (go_quiet (fail); try go_wp2)
    go_ret
    exact ⟨by first | rfl | (simp; done) | (simp [*]; done), by repeat (first | exact Drawn0.refl _ | apply Drawn0.step)⟩

end Go.Proofs.YteoifcmafkbklaaDoor.POak
end
section
-- Written by a program of this claim's author out of the translation (the kit's print, with some functions taken as given). Not trusted: Lean checks it.
namespace Go.Proofs.YteoifcmafkbklaaDoor.POak
open Go.RowKit Go.Proofs.YteoifcmafkbklaaDoorW.PrintWords Go.Proofs.YteoifcmafkbklaaDoorW.PrintLast Go.Proofs.YteoifcmafkbklaaDoorW.PrintMore Go.Proofs.YteoifcmafkbklaaDoor.X
attribute [local go_sem] max2_int min2_int max_two min_two max_three min_three max_four min_four   -- for this text's walks alone
set_option linter.unusedVariables false
set_option linter.unusedSimpArgs false

end Go.Proofs.YteoifcmafkbklaaDoor.POak
end
section
/- The law TopOpenColumns: what stands in memory while it builds a blade: the blade in memory, five lists of its own. -/
namespace Go.Proofs.YteoifcmafkbklaaDoor.X
open Go.RowKit Go.Proofs.YteoifcmafkbklaaDoorW.PrintWords Go.Proofs.YteoifcmafkbklaaDoorW.PrintLast Go.Proofs.YteoifcmafkbklaaDoorW.PrintMore Go.Proofs.YteoifcmafkbklaaDoor.POak

structure LawS (w0 wr : World) (g : Nat) (b0 b1 b3 vb vt vc vo vk : Value) (lb lt : List S32) (lc : List S35) (lo lk : List Int) : Prop where
  blk : wr.heap[g]? = some (.cells #[b0, b1, .int .i64 0, b3] 29 (0, 0))
  ge : w0.heap.size ≤ g
  hb : Kd.R k32 32 wr w0.heap.size (fun k => some k ≠ vt.ownBlock) vb lb
  ht : Kd.R k32 32 wr w0.heap.size (fun k => some k ≠ vb.ownBlock) vt lt
  hc : Kd.R k35 35 wr w0.heap.size (fun _ => True) vc lc
  ho : Kd.R (Kd.int .i64) 3 wr w0.heap.size (fun k => some k ≠ vk.ownBlock) vo lo
  hk : Kd.R (Kd.int .i64) 3 wr w0.heap.size (fun k => some k ≠ vo.ownBlock) vk lk
  below : Below w0.heap.size w0 wr
theorem below_of_grown {w w' : World} (h : w.grownBy w' none) : Below w.heap.size w w' := ⟨h.os, h.tape, h.output, h.size, fun k hk => h.block k hk (by simp)⟩
/-- The list that was not appended to stays apart from the one that was. -/
theorem R_beside {α : Type} {d : Kd α} {e base : Nat} {W w1 : World} {u v v1 : Value} {xs : List α} (h : d.R e W base (fun k => some k ≠ v.ownBlock) u xs) (hg : W.grownBy w1 v.ownBlock) (hat : v1.ownBlock = v.ownBlock ∨ ∃ b, v1.ownBlock = some b ∧ W.heap.size ≤ b) : d.R e w1 base (fun k => some k ≠ v1.ownBlock) u xs :=
  Kd.R_mono (Kd.R_after (ok := fun _ => True) (Kd.R_mono h (fun _ hk => ⟨trivial, hk⟩)) hg hat) (fun _ hk => hk.2)
section
variable {w0 wr w1 : World} {g : Nat} {b0 b1 b3 vb vt vc vo vk v1 : Value} {lb lt : List S32} {lc : List S35} {lo lk : List Int}
theorem LawS.after (h : LawS w0 wr g b0 b1 b3 vb vt vc vo vk lb lt lc lo lk) (hb : Below wr.heap.size wr w1) : LawS w0 w1 g b0 b1 b3 vb vt vc vo vk lb lt lc lo lk where
  blk := blk_below h.blk hb
  ge := h.ge
  hb := Kd.R_below h.hb hb
  ht := Kd.R_below h.ht hb
  hc := Kd.R_below h.hc hb
  ho := Kd.R_below h.ho hb
  hk := Kd.R_below h.hk hb
  below := later_below h.below hb
theorem LawS.drew (h : LawS w0 wr g b0 b1 b3 vb vt vc vo vk lb lt lc lo lk) : LawS w0 wr.drew g b0 b1 b3 vb vt vc vo vk lb lt lc lo lk := h.after (below_drew (Below.refl _ _))
theorem LawS.held (h : LawS w0 wr g b0 b1 b3 vb vt vc vo vk lb lt lc lo lk) : wr.cell? ⟨g, 0, none⟩ = some b0 ∧ wr.cell? ⟨g, 1, none⟩ = some b1 ∧ wr.cell? ⟨g, 2, none⟩ = some (.int .i64 0) ∧ wr.cell? ⟨g, 3, none⟩ = some b3 :=
  ⟨(blk_cell h.blk 0).trans rfl, (blk_cell h.blk 1).trans rfl, (blk_cell h.blk 2).trans rfl, (blk_cell h.blk 3).trans rfl⟩
theorem LawS.appB {lb' : List S32} (h : LawS w0 wr g b0 b1 b3 vb vt vc vo vk lb lt lc lo lk) (hv : Kd.R k32 32 w1 w0.heap.size (fun k => some k ≠ vt.ownBlock) v1 lb') (hb : Below w0.heap.size w0 w1) (hg : wr.grownBy w1 vb.ownBlock) (hat : v1.ownBlock = vb.ownBlock ∨ ∃ b, v1.ownBlock = some b ∧ wr.heap.size ≤ b) :
    LawS w0 w1 g b0 b1 b3 v1 vt vc vo vk lb' lt lc lo lk where
  blk := blk_grown h.blk hg (Kd.R_ne h.hb h.blk (by decide))
  ge := h.ge
  hb := hv
  ht := R_beside h.ht hg hat
  hc := Kd.R_over' h.hc (Kd.R_typed h.hb) (by decide) hg
  ho := Kd.R_over' h.ho (Kd.R_typed h.hb) (by decide) hg
  hk := Kd.R_over' h.hk (Kd.R_typed h.hb) (by decide) hg
  below := hb
theorem LawS.appT {lt' : List S32} (h : LawS w0 wr g b0 b1 b3 vb vt vc vo vk lb lt lc lo lk) (hv : Kd.R k32 32 w1 w0.heap.size (fun k => some k ≠ vb.ownBlock) v1 lt') (hb : Below w0.heap.size w0 w1) (hg : wr.grownBy w1 vt.ownBlock) (hat : v1.ownBlock = vt.ownBlock ∨ ∃ b, v1.ownBlock = some b ∧ wr.heap.size ≤ b) :
    LawS w0 w1 g b0 b1 b3 vb v1 vc vo vk lb lt' lc lo lk where
  blk := blk_grown h.blk hg (Kd.R_ne h.ht h.blk (by decide))
  ge := h.ge
  hb := R_beside h.hb hg hat
  ht := hv
  hc := Kd.R_over' h.hc (Kd.R_typed h.ht) (by decide) hg
  ho := Kd.R_over' h.ho (Kd.R_typed h.ht) (by decide) hg
  hk := Kd.R_over' h.hk (Kd.R_typed h.ht) (by decide) hg
  below := hb
theorem LawS.appC {lc' : List S35} (h : LawS w0 wr g b0 b1 b3 vb vt vc vo vk lb lt lc lo lk) (hv : Kd.R k35 35 w1 w0.heap.size (fun _ => True) v1 lc') (hb : Below w0.heap.size w0 w1) (hg : wr.grownBy w1 vc.ownBlock) :
    LawS w0 w1 g b0 b1 b3 vb vt v1 vo vk lb lt lc' lo lk where
  blk := blk_grown h.blk hg (Kd.R_ne h.hc h.blk (by decide))
  ge := h.ge
  hb := Kd.R_over' h.hb (Kd.R_typed h.hc) (by decide) hg
  ht := Kd.R_over' h.ht (Kd.R_typed h.hc) (by decide) hg
  hc := hv
  ho := Kd.R_over' h.ho (Kd.R_typed h.hc) (by decide) hg
  hk := Kd.R_over' h.hk (Kd.R_typed h.hc) (by decide) hg
  below := hb
theorem LawS.appO {lo' : List Int} (h : LawS w0 wr g b0 b1 b3 vb vt vc vo vk lb lt lc lo lk) (hv : Kd.R (Kd.int .i64) 3 w1 w0.heap.size (fun k => some k ≠ vk.ownBlock) v1 lo') (hb : Below w0.heap.size w0 w1) (hg : wr.grownBy w1 vo.ownBlock) (hat : v1.ownBlock = vo.ownBlock ∨ ∃ b, v1.ownBlock = some b ∧ wr.heap.size ≤ b) :
    LawS w0 w1 g b0 b1 b3 vb vt vc v1 vk lb lt lc lo' lk where
  blk := blk_grown h.blk hg (Kd.R_ne h.ho h.blk (by decide))
  ge := h.ge
  hb := Kd.R_over' h.hb (Kd.R_typed h.ho) (by decide) hg
  ht := Kd.R_over' h.ht (Kd.R_typed h.ho) (by decide) hg
  hc := Kd.R_over' h.hc (Kd.R_typed h.ho) (by decide) hg
  ho := hv
  hk := R_beside h.hk hg hat
  below := hb
theorem LawS.appK {lk' : List Int} (h : LawS w0 wr g b0 b1 b3 vb vt vc vo vk lb lt lc lo lk) (hv : Kd.R (Kd.int .i64) 3 w1 w0.heap.size (fun k => some k ≠ vo.ownBlock) v1 lk') (hb : Below w0.heap.size w0 w1) (hg : wr.grownBy w1 vk.ownBlock) (hat : v1.ownBlock = vk.ownBlock ∨ ∃ b, v1.ownBlock = some b ∧ wr.heap.size ≤ b) :
    LawS w0 w1 g b0 b1 b3 vb vt vc vo v1 lb lt lc lo lk' where
  blk := blk_grown h.blk hg (Kd.R_ne h.hk h.blk (by decide))
  ge := h.ge
  hb := Kd.R_over' h.hb (Kd.R_typed h.hk) (by decide) hg
  ht := Kd.R_over' h.ht (Kd.R_typed h.hk) (by decide) hg
  hc := Kd.R_over' h.hc (Kd.R_typed h.hk) (by decide) hg
  ho := R_beside h.ho hg hat
  hk := hv
  below := hb
/-- A field is stored. -/
theorem LawS.put (h : LawS w0 wr g b0 b1 b3 vb vt vc vo vk lb lt lc lo lk) (j : Nat) (u : Value) {b0' b1' b3' : Value} (e : #[b0, b1, .int .i64 0, b3].setIfInBounds j u = #[b0', b1', .int .i64 0, b3']) : LawS w0 (wr.setCell ⟨g, j, none⟩ u) g b0' b1' b3' vb vt vc vo vk lb lt lc lo lk where
  blk := blk_put h.blk j u e
  ge := h.ge
  hb := Kd.R_mono (Kd.R_far (p := ⟨g, j, none⟩) (Kd.R_types h.hb h.blk (by decide)) (fun _ hk => hk.2) u) (fun _ hk => hk.1)
  ht := Kd.R_mono (Kd.R_far (p := ⟨g, j, none⟩) (Kd.R_types h.ht h.blk (by decide)) (fun _ hk => hk.2) u) (fun _ hk => hk.1)
  hc := Kd.R_mono (Kd.R_far (p := ⟨g, j, none⟩) (Kd.R_types h.hc h.blk (by decide)) (fun _ hk => hk.2) u) (fun _ _ => trivial)
  ho := Kd.R_mono (Kd.R_far (p := ⟨g, j, none⟩) (Kd.R_types h.ho h.blk (by decide)) (fun _ hk => hk.2) u) (fun _ hk => hk.1)
  hk := Kd.R_mono (Kd.R_far (p := ⟨g, j, none⟩) (Kd.R_types h.hk h.blk (by decide)) (fun _ hk => hk.2) u) (fun _ hk => hk.1)
  below := below_set h.below h.ge
theorem R_empty (w : World) (base : Nat) (ok : Nat → Prop) (hb : base ≤ w.heap.size) (hok : ok w.heap.size) : Kd.R (Kd.int .i64) 3 (w.alloc (.cells #[] 3)) base ok (.slice (some ⟨w.heap.size, 0, none⟩) 0 0) [] :=
  Kd.R_of_own (xs := ([] : List Int)) (own_lit w base 3 .i64 [] hb (by decide)) (fun k hk => by
    have e : w.heap.size = k := by simpa [Value.ownBlock] using hk
    exact e ▸ hok)
theorem LawS.start {w0 w3 : World} (hB : Below w0.heap.size w0 w3) :
    LawS w0 (((w3.alloc (.cells #[] 3)).alloc (.cells #[] 3)).alloc (.cells #[.slice none 0 0, .slice none 0 0, .int .i64 0, .slice none 0 0] 29)) (w3.heap.size + 1 + 1) (.slice none 0 0) (.slice none 0 0) (.slice none 0 0) (.slice none 0 0) (.slice none 0 0) (.slice none 0 0) (.slice (some ⟨w3.heap.size, 0, none⟩) 0 0) (.slice (some ⟨w3.heap.size + 1, 0, none⟩) 0 0) [] [] [] [] [] where
  blk := one_blk _ _ (by simp)
  ge := by have := hB.size; omega
  hb := Kd.R_nil _ _ _ _ _
  ht := Kd.R_nil _ _ _ _ _
  hc := Kd.R_nil _ _ _ _ _
  ho := Kd.R_alloc (Kd.R_alloc (R_empty w3 _ _ hB.size (by
    intro e
    simp [Value.ownBlock] at e)) _) _
  hk := by
    have h := R_empty (w3.alloc (.cells #[] 3)) w0.heap.size (fun k => some k ≠ (Value.slice (some ⟨w3.heap.size, 0, none⟩) 0 0).ownBlock) (by simp; have := hB.size; omega) (by
      intro e
      simp [Value.ownBlock] at e)
    have h2 := Kd.R_alloc h (.cells #[.slice none 0 0, .slice none 0 0, .int .i64 0, .slice none 0 0] 29)
    simpa using h2
  below := below_alloc (below_alloc (below_alloc hB _) _) _
end
end Go.Proofs.YteoifcmafkbklaaDoor.X
end
section
/- The law TopOpenColumns: its walk. -/
namespace Go.Proofs.YteoifcmafkbklaaDoor.X
open Go.RowKit Go.Proofs.YteoifcmafkbklaaDoorW.PrintWords Go.Proofs.YteoifcmafkbklaaDoorW.PrintLast Go.Proofs.YteoifcmafkbklaaDoorW.PrintMore Go.Proofs.YteoifcmafkbklaaDoor.POak

/-- The cracks, the costs and the open columns of the first columns that are seen. -/
def crUp (s : ByteArray) : Nat → List S35
  | 0 => []
  | i + 1 => if bt s i = 63 then crUp s i ++ [⟨⟨i, i⟩, ⟨10, 10⟩, ⟨20, 20⟩⟩] else crUp s i
def coUp (s : ByteArray) : Nat → List Int
  | 0 => []
  | i + 1 => if bt s i = 63 then coUp s i ++ [1] else coUp s i
def opUp (s : ByteArray) : Nat → List Int
  | 0 => []
  | i + 1 => if bt s i = 63 then opUp s i else opUp s i ++ [(i : Int)]
def spanUp (a : Int) : Nat → List S32
  | 0 => []
  | i + 1 => spanUp a i ++ [⟨a, a⟩]

theorem crUp_length (s : ByteArray) (i : Nat) : (crUp s i).length ≤ i := by
  induction i with
  | zero => exact Nat.le_refl _
  | succ i ih =>
    unfold crUp
    split
    · rw [List.length_append, List.length_singleton]; omega
    · omega
theorem coUp_length (s : ByteArray) (i : Nat) : (coUp s i).length ≤ i := by
  induction i with
  | zero => exact Nat.le_refl _
  | succ i ih =>
    unfold coUp
    split
    · rw [List.length_append, List.length_singleton]; omega
    · omega
theorem opUp_length (s : ByteArray) (i : Nat) : (opUp s i).length ≤ i := by
  induction i with
  | zero => exact Nat.le_refl _
  | succ i ih =>
    unfold opUp
    split
    · omega
    · rw [List.length_append, List.length_singleton]; omega
theorem info_crack : (Tryd.prog.info? 35).map (fun i => (i.zero, i.size, i.bytes)) = some (some (.agg #[.int .i64 0, .int .i64 0, .int .i64 0, .int .i64 0, .int .i64 0, .int .i64 0]), 6, 48) := by kernel_rfl
theorem spanUp_length (a : Int) (i : Nat) : (spanUp a i).length = i := by
  induction i with
  | zero => rfl
  | succ i ih => unfold spanUp; rw [List.length_append, ih]; rfl
theorem R_C' {α : Type} {d : Kd α} {e base n c : Nat} {ok : Nat → Prop} {w : World} {A : Option Addr} {xs : List α} (h : d.R e w base ok (.slice A n c) xs) : d.C w A xs.length xs := (Kd.R_reads' h).2.2
/-- What Most and Costs answer for the blade that the law builds. -/
def MostOk (s : ByteArray) : Prop := ∀ (W : World) (A0 A1 A3 : Option Addr) (c0 c1 c3 : Nat), k32.C W A0 (spanUp 0 s.size).length (spanUp 0 s.size) → (spanUp 0 s.size).length ≤ c0 → k32.C W A1 (spanUp 30 s.size).length (spanUp 30 s.size) → (spanUp 30 s.size).length ≤ c1 → k35.C W A3 (crUp s s.size).length (crUp s s.size) → (crUp s s.size).length ≤ c3 →
  Calls Tryd.prog 9 #[.agg #[.slice A0 (spanUp 0 s.size).length c0, .slice A1 (spanUp 30 s.size).length c1, .int .i64 0, .slice A3 (crUp s s.size).length c3], .agg #[.int .i64 1, .int .i64 30, .int .i64 0, .int .i64 0]] W fun e w' =>
    ∃ v : Value, e = .returned (.tuple #[v, .int .i64 0]) ∧ Kd.R k48 48 w' W.heap.size (fun _ => True) v ((opUp s s.size).map fun x => (⟨x, 0⟩ : S48)) ∧ Below W.heap.size W w'
def CostsOk (s : ByteArray) : Prop := ∀ (W : World) (A0 A1 A3 : Option Addr) (c0 c1 c3 : Nat), k32.C W A0 (spanUp 0 s.size).length (spanUp 0 s.size) → (spanUp 0 s.size).length ≤ c0 → k32.C W A1 (spanUp 30 s.size).length (spanUp 30 s.size) → (spanUp 30 s.size).length ≤ c1 → k35.C W A3 (crUp s s.size).length (crUp s s.size) → (crUp s s.size).length ≤ c3 →
  Calls Tryd.prog 11 #[.agg #[.slice A0 (spanUp 0 s.size).length c0, .slice A1 (spanUp 30 s.size).length c1, .int .i64 0, .slice A3 (crUp s s.size).length c3], .agg #[.int .i64 1, .int .i64 30, .int .i64 0, .int .i64 0]] W fun e w' =>
    ∃ v : Value, e = .returned (.tuple #[v, .int .i64 0]) ∧ Kd.R (Kd.int .i64) 3 w' W.heap.size (fun _ => True) v (coUp s s.size) ∧ Below W.heap.size W w'
theorem oakBlade_eq (a b : List S32) (c : List S35) (ha : a.length ≤ 1000) (hb : b.length ≤ 1000) (hc : c.length ≤ 1000) : panachetop_oakBlade.f a b 0 c = some (a, b, 0, c) := by
  unfold panachetop_oakBlade.f
  simp only [Option.bind_some, List.nil_append, List.length_nil]
  rw [if_pos (by omega), if_pos (by omega), if_pos (by omega)]
/-- A copy of the blade. -/
theorem oakBlade_copies {s : ByteArray} (hs : s.size ≤ 1000) {W : World} {A0 A1 A3 : Option Addr} {c0 c1 c3 : Nat} (h0 : k32.C W A0 (spanUp 0 s.size).length (spanUp 0 s.size)) (l0 : (spanUp 0 s.size).length ≤ c0) (h1 : k32.C W A1 (spanUp 30 s.size).length (spanUp 30 s.size)) (l1 : (spanUp 30 s.size).length ≤ c1) (h3 : k35.C W A3 (crUp s s.size).length (crUp s s.size)) (l3 : (crUp s s.size).length ≤ c3) :
    Calls Tryd.prog 10 #[.agg #[.slice A0 (spanUp 0 s.size).length c0, .slice A1 (spanUp 30 s.size).length c1, .int .i64 0, .slice A3 (crUp s s.size).length c3]] W fun e w' => ∃ (B0 B1 B3 : Option Addr) (d0 d1 d3 : Nat), e = .returned (.agg #[.slice B0 (spanUp 0 s.size).length d0, .slice B1 (spanUp 30 s.size).length d1, .int .i64 0, .slice B3 (crUp s s.size).length d3]) ∧
      k32.C w' B0 (spanUp 0 s.size).length (spanUp 0 s.size) ∧ (spanUp 0 s.size).length ≤ d0 ∧ k32.C w' B1 (spanUp 30 s.size).length (spanUp 30 s.size) ∧ (spanUp 30 s.size).length ≤ d1 ∧ k35.C w' B3 (crUp s s.size).length (crUp s s.size) ∧ (crUp s s.size).length ≤ d3 ∧ Below W.heap.size W w' := by
  refine (panachetop_oakBlade.calls A0 c0 (spanUp 0 s.size) A1 c1 (spanUp 30 s.size) 0 A3 c3 (crUp s s.size) _ _ _ _ W h0 l0 h1 l1 h3 l3 (oakBlade_eq _ _ _ (by rw [spanUp_length]; exact hs) (by rw [spanUp_length]; exact hs) (by have := crUp_length s s.size; omega))).mono ?_
  rintro e w' ⟨v0, v1, v3, rfl, r0, r1, r3, hb⟩
  obtain ⟨B0, d0, rfl, m0, k0⟩ := Kd.R_reads r0
  obtain ⟨B1, d1, rfl, m1, k1⟩ := Kd.R_reads r1
  obtain ⟨B3, d3, rfl, m3, k3⟩ := Kd.R_reads r3
  exact ⟨_, _, _, _, _, _, rfl, k0, m0, k1, m1, k3, m3, hb⟩
set_option maxHeartbeats 8000000 in
set_option maxRecDepth 8000 in
theorem law_calls {x0 x1 x2 x3 : Int} {row bars seen : ByteArray} {kr kb ki : Nat} {W : World} (hT : Tabs W)
    (hrow : panachetop_oakCells.f kr [] x0 = some row) (hbars : panachetop_oakBars.f kb x1 x2 = some bars) (hpos : 0 < bars.size) (hbs : bars.size ≤ 1000)
    (hseen : panachetop_oakShow.f row bars (Int.tmod (wrap64 x3) (bars.size : Int)) = some seen) (hemp : seen.toList.isEmpty = false) (hsz : seen.size ≤ 1000) (hknown : panachetop_oakKnown04.f = some true) (hints : panachetop_oakInts.f ki (coUp seen seen.size) (coUp seen seen.size) = some true) (hmc : 4 < (coUp seen seen.size).length ∨ (MostOk seen ∧ CostsOk seen)) :
    Calls Tryd.prog 3 #[.agg #[.int .u8 x0, .int .u8 x1, .int .u8 x2, .int .u8 x3]] W fun e w' => e = .returned (.bool true) ∧ Below W.heap.size W w' := by
  have HT := Aside0.mk hT
  have HROW := Aside0.mk hrow
  have HBARS := Aside0.mk hbars
  have HSEEN := Aside0.mk hseen
  have HKN := Aside0.mk hknown
  have HMC := Aside0.mk hmc
  have HIN := Aside0.mk hints
  clear hT hrow hbars hseen hknown hmc hints
  go_enter Tryd.func3, Tryd.ntmps3
  go_upto_region 1 with fail
  have b1 := blk_new W (.cells #[.int .u8 x0, .int .u8 x1, .int .u8 x2, .int .u8 x3] 22 (0, 0))
  have hb1 : Below W.heap.size W (W.alloc (.cells #[.int .u8 x0, .int .u8 x1, .int .u8 x2, .int .u8 x3] 22 (0, 0))) := below_alloc (Below.refl _ _) _
  generalize W.alloc (.cells #[.int .u8 x0, .int .u8 x1, .int .u8 x2, .int .u8 x3] 22 (0, 0)) = w1 at b1 hb1 ⊢
  have z0 := (blk_cell b1 0).trans rfl
  have z1 := (blk_cell b1 1).trans rfl
  have z2 := (blk_cell b1 2).trans rfl
  have z3 := (blk_cell b1 3).trans rfl
  have B1 := Aside0.mk b1
  have HB := Aside0.mk hb1
  clear b1 hb1
  have CA : ∀ W', Calls Tryd.prog 4 #[.slice none 0 0, .int .u8 x0] W' fun e w' => e = .returned (.string row) ∧ ∃ m, w' = W'.drewN m := fun W' => (panachetop_oakCells.calls kr none 0 ([] : List Int) x0 row W' (Kd.C_nil _ _) (Nat.le_refl 0) HROW.out).mono (by rintro e w' ⟨rfl, ⟨nd, rfl⟩⟩; exact ⟨rfl, nd, rfl⟩)
  have CB : ∀ W', Calls Tryd.prog 5 #[.int .u8 x1, .int .u8 x2] W' fun e w' => e = .returned (.string bars) ∧ ∃ m, w' = W'.drewN m := fun W' => (panachetop_oakBars.calls kb x1 x2 bars W' HBARS.out).mono (by rintro e w' ⟨rfl, ⟨nd, rfl⟩⟩; exact ⟨rfl, nd, rfl⟩)
  have HCA := Aside0.mk CA
  have HCB := Aside0.mk CB
  clear CA CB
  go_quiet (first | (go_at_call 4; refine Calls.quiet_of (HCA.out _)) | (go_at_call 5; refine Calls.quiet_of (HCB.out _)))
  have HBq := Aside0.mk (pw_below_drewN HB.out nq)
  have Bq := Aside0.mk (blk_drewN B1.out nq)
  clear z0 z1 z2 z3 HCA HCB HB B1
  generalize w1.drewN nq = w2 at HBq Bq ⊢
  have z3 := (blk_cell Bq.out 3).trans rfl
  have hne1 : ¬ (bars.size : Int) = 0 := by omega
  have hb0 : bars.size ≠ 0 := by omega
  go_upto_region 6 with (go_at_call 6; refine (panachetop_oakShow.calls row bars _ seen _ HSEEN.out (Tabs.below HT.out HBq.out)).mono ?_; rintro e w3 ⟨rfl, hb3⟩; have HB3 := Aside0.mk (later_below HBq.out hb3); clear hb3 z3)
  have HS := Aside0.mk (LawS.start HB3.out)
  obtain ⟨g, hg⟩ : ∃ g, w3.heap.size + 1 + 1 = g := ⟨_, rfl⟩
  rw [hg] at HS ⊢
  clear hg
  obtain ⟨n, hn⟩ : ∃ n, seen.size = n := ⟨_, rfl⟩
  have HN := Aside0.mk hn
  rw [hn] at hsz
  clear hn
  go_wp2
  go_loopg [7, 8, 9] n (fun gg v7 v8 v9 wr => ∃ i : Nat, i ≤ n ∧ n - i ≤ gg ∧ v9 = .int .i64 (i : Int) ∧ ∃ vb vt vc : Value, Aside0 (LawS W wr g vb vt vc vb vt vc v7 v8 (spanUp 0 i) (spanUp 30 i) (crUp seen i) (opUp seen i) (coUp seen i)))
  case atStart => exact ⟨0, Nat.zero_le _, Nat.le_refl _, rfl, _, _, _, HS⟩
  case round =>
    clear HS HB3 HSEEN HROW HBARS HBq Bq
    obtain ⟨i, hi, hgg, rfl, vb, vt, vc, HS⟩ := hrel
    have hsn : (seen.size : Int) = (n : Int) := by rw [HN.out]
    by_cases hlt : i < n
    · have hltz : (i : Int) < (n : Int) := by omega
      go_upto_region 9 with fail
      have HD := Aside0.mk HS.out.drew
      refine start_ (n := 14) (S := fun w' => w'.cell? ⟨g, 0, none⟩ = some vb ∧ w'.cell? ⟨g, 1, none⟩ = some vt ∧ w'.cell? ⟨g, 2, none⟩ = some (.int .i64 0) ∧ w'.cell? ⟨g, 3, none⟩ = some vc) (ds := [11, 13]) #[false, false, false, false, false, false, false, false, false, false, false, false, false, false] (by kernel_rfl) rfl rfl HD.out.held (fun hHeld => ?_)
      clear HS
      have HS := HD
      clear HD
      generalize wr.drew = wd at HS hHeld ⊢
      refine pure_ (i := 0) (N := some 44) (v := ?_) (a' := ?_) #[true, false, false, false, false, false, false, false, false, false, false, false, false, false] rfl rfl (by kernel_rfl) (fun _ _ _ h => h) (Or.inl ⟨by rfl, ?_⟩) ?_ ?_
      rotate_left
      · intro w'; go_simp; with_reducible rfl
      rotate_left
      · simp only [Act.put, List.setIfInBounds_toArray, List.set_cons_zero, List.set_cons_succ]; rfl
      refine pure_ (i := 5) (N := some 49) (v := ?_) (a' := ?_) #[true, false, false, false, false, true, false, false, false, false, false, false, false, false] rfl rfl (by kernel_rfl) (fun _ _ _ h => h) (Or.inl ⟨by rfl, ?_⟩) ?_ ?_
      rotate_left
      · intro w'; go_simp; with_reducible rfl
      rotate_left
      · simp only [Act.put, List.setIfInBounds_toArray, List.set_cons_zero, List.set_cons_succ]; rfl
      refine take_ (i := 1) (N := some 45) (v := ?_) (a' := ?_) #[true, true, false, false, false, true, false, false, false, false, false, false, false, false] rfl rfl (by kernel_rfl) (fun _ _ _ h => h) (Or.inl ⟨by rfl, ?_⟩) hHeld ?_ ?_
      rotate_left
      · rintro w' ⟨s0, s1, s2, s3⟩; go_simp; with_reducible rfl
      rotate_left
      · simp only [Act.put, List.setIfInBounds_toArray, List.set_cons_zero, List.set_cons_succ]; rfl
      refine take_ (i := 6) (N := some 50) (v := ?_) (a' := ?_) #[true, true, false, false, false, true, true, false, false, false, false, false, false, false] rfl rfl (by kernel_rfl) (fun _ _ _ h => h) (Or.inl ⟨by rfl, ?_⟩) hHeld ?_ ?_
      rotate_left
      · rintro w' ⟨s0, s1, s2, s3⟩; go_simp; with_reducible rfl
      rotate_left
      · simp only [Act.put, List.setIfInBounds_toArray, List.set_cons_zero, List.set_cons_succ]; rfl
      refine one_ (i := 2) (N := some 46) #[true, true, true, false, false, true, true, false, false, false, false, false, false, false] rfl rfl (by kernel_rfl) (by decide) (fun K hK => ?_)
      refine goes_ Tryd.func7 (by kernel_rfl) rfl #[.int .i64 0, .int .i64 0] (by rfl) rfl rfl (by (try simp only [List.map_toArray, List.map_cons, List.map_nil]); first | done | rfl) ?_
      with_reducible refine (panachetop_oakSpan.calls 0 0 0 0 _ rfl).mono ?_
      rintro e w5 ⟨rfl, hb⟩
      refine ⟨_, rfl, ?_⟩
      have HN := Aside0.mk (HS.out.after hb)
      clear HS
      have HS := HN
      clear HN
      clear hb
      refine hK.out _ _ HS.out.held (fun hHeld => ?_)
      clear hK K
      refine norm_ (a' := ?_) ?_ ?_
      rotate_left
      · show Act.put _ (some 46) _ = _
        simp only [Act.put, List.setIfInBounds_toArray, List.set_cons_zero, List.set_cons_succ]
        rfl
      refine one_ (i := 3) (N := some 47) #[true, true, true, true, false, true, true, false, false, false, false, false, false, false] rfl rfl (by kernel_rfl) (by decide) (fun K hK => ?_)
      refine Kd.R_lit_step k32 _ 32 ?hg (N := 47) ?hd (xs := [(⟨0, 0⟩ : S32)]) (inner := [.int .i64 0, .int .i64 0]) (ok := fun _ => True) (okp := fun _ => True) ?hr ?hp (fun _ hk => hk) trivial (Below.refl _ _) (Nat.le_refl _) (by simp) ?_; (case hd => rfl); (case hg => rfl); (case hr => first | (go_simp; done) | (go_simp; rfl)); (case hp => exact (Reps.c2 (show Kd.M k32 _ _ _ (⟨0, 0⟩ : S32) [.int .i64 0, .int .i64 0] from k32_mkM _ _ _ _) (Reps.none _ _)))
      intro v5 w5 ho hb hg hat
      obtain ⟨Al, cl, rfl⟩ := Kd.R_slice ho
      have HL := Aside0.mk (Kd.R_lower ho (below_size HS.out.below))
      have HN := Aside0.mk (HS.out.after (below_of_grown hg))
      clear HS
      have HS := HN
      clear HN
      clear ho hb hg hat
      refine hK.out _ _ HS.out.held (fun hHeld => ?_)
      clear hK K
      refine norm_ (a' := ?_) ?_ ?_
      rotate_left
      · show Act.put _ (some 47) _ = _
        simp only [Act.put, List.setIfInBounds_toArray, List.set_cons_zero, List.set_cons_succ]
        rfl
      refine one_ (i := 4) (N := some 48) #[true, true, true, true, true, true, true, false, false, false, false, false, false, false] rfl rfl (by kernel_rfl) (by decide) (fun K hK => ?_)
      refine Kd.R_append_rows_step k32 (w0 := W) W.heap.size (by rfl) (.tmp 45) (.tmp 47) 26 32 (.agg #[.int .i64 0, .int .i64 0]) 16 rfl Tryd.underlying26 info_span rfl (by decide) (by omega) vb (spanUp 0 i) [(⟨0, 0⟩ : S32)] _ _ _ (fun k => some k ≠ vt.ownBlock) (fun _ => False) rfl rfl ?aO ?aR (fun _ _ h => h) (fun _ h => h.elim) ?aF ?aB ?aS ?aL ?_
      (case aR => exact (Kd.R_reads' HL.out).2.2)
      (case aB => exact HS.out.below)
      (case aF => exact fun k hk => Kd.fresh' (Kd.R_lt HS.out.ht) k hk)
      (case aO => exact HS.out.hb)
      (case aS => exact below_size HS.out.below)
      (case aL => rw [spanUp_length]; simp; omega)
      intro v6 w6 ho hb hg hat
      replace ho : Kd.R k32 32 w6 W.heap.size (fun k => some k ≠ vt.ownBlock) v6 (spanUp 0 (i + 1)) := ho
      obtain ⟨Ab, cb, rfl⟩ := Kd.R_slice ho
      have HN := Aside0.mk (HS.out.appB ho hb hg hat)
      clear HS
      have HS := HN
      clear HN
      clear ho hb hg hat HL
      refine hK.out _ _ HS.out.held (fun hHeld => ?_)
      clear hK K
      refine norm_ (a' := ?_) ?_ ?_
      rotate_left
      · show Act.put _ (some 48) _ = _
        simp only [Act.put, List.setIfInBounds_toArray, List.set_cons_zero, List.set_cons_succ]
        rfl
      refine pure_ (i := 10) (N := some 54) (v := ?_) (a' := ?_) #[true, true, true, true, true, true, true, false, false, false, true, false, false, false] rfl rfl (by kernel_rfl) (fun _ _ _ h => h) (Or.inl ⟨by rfl, ?_⟩) ?_ ?_
      rotate_left
      · intro w'; go_simp; with_reducible rfl
      rotate_left
      · simp only [Act.put, List.setIfInBounds_toArray, List.set_cons_zero, List.set_cons_succ]; rfl
      refine one_ (i := 7) (N := some 51) #[true, true, true, true, true, true, true, true, false, false, true, false, false, false] rfl rfl (by kernel_rfl) (by decide) (fun K hK => ?_)
      refine goes_ Tryd.func7 (by kernel_rfl) rfl #[.int .i64 30, .int .i64 30] (by rfl) rfl rfl (by (try simp only [List.map_toArray, List.map_cons, List.map_nil]); first | done | rfl) ?_
      with_reducible refine (panachetop_oakSpan.calls 30 30 30 30 _ rfl).mono ?_
      rintro e w5 ⟨rfl, hb⟩
      refine ⟨_, rfl, ?_⟩
      have HN := Aside0.mk (HS.out.after hb)
      clear HS
      have HS := HN
      clear HN
      clear hb
      refine hK.out _ _ HS.out.held (fun hHeld => ?_)
      clear hK K
      refine norm_ (a' := ?_) ?_ ?_
      rotate_left
      · show Act.put _ (some 51) _ = _
        simp only [Act.put, List.setIfInBounds_toArray, List.set_cons_zero, List.set_cons_succ]
        rfl
      refine one_ (i := 8) (N := some 52) #[true, true, true, true, true, true, true, true, true, false, true, false, false, false] rfl rfl (by kernel_rfl) (by decide) (fun K hK => ?_)
      refine Kd.R_lit_step k32 _ 32 ?hg (N := 52) ?hd (xs := [(⟨30, 30⟩ : S32)]) (inner := [.int .i64 30, .int .i64 30]) (ok := fun _ => True) (okp := fun _ => True) ?hr ?hp (fun _ hk => hk) trivial (Below.refl _ _) (Nat.le_refl _) (by simp) ?_; (case hd => rfl); (case hg => rfl); (case hr => first | (go_simp; done) | (go_simp; rfl)); (case hp => exact (Reps.c2 (show Kd.M k32 _ _ _ (⟨30, 30⟩ : S32) [.int .i64 30, .int .i64 30] from k32_mkM _ _ _ _) (Reps.none _ _)))
      intro v5 w5 ho hb hg hat
      obtain ⟨Am, cm, rfl⟩ := Kd.R_slice ho
      have HL := Aside0.mk (Kd.R_lower ho (below_size HS.out.below))
      have HN := Aside0.mk (HS.out.after (below_of_grown hg))
      clear HS
      have HS := HN
      clear HN
      clear ho hb hg hat
      refine hK.out _ _ HS.out.held (fun hHeld => ?_)
      clear hK K
      refine norm_ (a' := ?_) ?_ ?_
      rotate_left
      · show Act.put _ (some 52) _ = _
        simp only [Act.put, List.setIfInBounds_toArray, List.set_cons_zero, List.set_cons_succ]
        rfl
      refine one_ (i := 9) (N := some 53) #[true, true, true, true, true, true, true, true, true, true, true, false, false, false] rfl rfl (by kernel_rfl) (by decide) (fun K hK => ?_)
      refine Kd.R_append_rows_step k32 (w0 := W) W.heap.size (by rfl) (.tmp 50) (.tmp 52) 26 32 (.agg #[.int .i64 0, .int .i64 0]) 16 rfl Tryd.underlying26 info_span rfl (by decide) (by omega) vt (spanUp 30 i) [(⟨30, 30⟩ : S32)] _ _ _ (fun k => some k ≠ (.slice Ab (spanUp 0 (i + 1)).length cb : Value).ownBlock) (fun _ => False) rfl rfl ?aO ?aR (fun _ _ h => h) (fun _ h => h.elim) ?aF ?aB ?aS ?aL ?_
      (case aR => exact (Kd.R_reads' HL.out).2.2)
      (case aB => exact HS.out.below)
      (case aF => exact fun k hk => Kd.fresh' (Kd.R_lt HS.out.hb) k hk)
      (case aO => exact HS.out.ht)
      (case aS => exact below_size HS.out.below)
      (case aL => rw [spanUp_length]; simp; omega)
      intro v6 w6 ho hb hg hat
      replace ho : Kd.R k32 32 w6 W.heap.size (fun k => some k ≠ (.slice Ab (spanUp 0 (i + 1)).length cb : Value).ownBlock) v6 (spanUp 30 (i + 1)) := ho
      obtain ⟨At, ct, rfl⟩ := Kd.R_slice ho
      have HN := Aside0.mk (HS.out.appT ho hb hg hat)
      clear HS
      have HS := HN
      clear HN
      clear ho hb hg hat HL
      refine hK.out _ _ HS.out.held (fun hHeld => ?_)
      clear hK K
      refine norm_ (a' := ?_) ?_ ?_
      rotate_left
      · show Act.put _ (some 53) _ = _
        simp only [Act.put, List.setIfInBounds_toArray, List.set_cons_zero, List.set_cons_succ]
        rfl
      refine last_ (i := 11) (N := none) #[true, true, true, true, true, true, true, true, true, true, true, true, false, false] rfl rfl (by kernel_rfl) (by decide) (fun K hK => ?_)
      have s0 := HS.out.held.1
      have f0 := blk_frozen HS.out.blk 0
      refine skip_ (w1 := ?_) (by rfl) rfl ?_ ?_
      rotate_left
      · go_simp; rfl
      refine hK.out _ _ ?_
      clear hK K
      have HN := Aside0.mk (HS.out.put 0 (.slice Ab (spanUp 0 (i + 1)).length cb) rfl)
      clear HS
      have HS := HN
      clear HN
      clear s0 f0 hHeld
      generalize w6.setCell ⟨g, 0, none⟩ (.slice Ab (spanUp 0 (i + 1)).length cb) = wa at HS ⊢
      refine pure_ (i := 12) (N := some 55) (v := ?_) (a' := ?_) #[true, true, true, true, true, true, true, true, true, true, true, true, true, false] rfl rfl (by kernel_rfl) (fun _ _ _ h => h) (Or.inl ⟨by rfl, ?_⟩) ?_ ?_
      rotate_left
      · intro w'; go_simp; with_reducible rfl
      rotate_left
      · simp only [Act.put, List.setIfInBounds_toArray, List.set_cons_zero, List.set_cons_succ]; rfl
      refine last_ (i := 13) (N := none) #[true, true, true, true, true, true, true, true, true, true, true, true, true, true] rfl rfl (by kernel_rfl) (by decide) (fun K hK => ?_)
      have s0 := HS.out.held.2.1
      have f0 := blk_frozen HS.out.blk 1
      refine skip_ (w1 := ?_) (by rfl) rfl ?_ ?_
      rotate_left
      · go_simp; rfl
      refine hK.out _ _ ?_
      clear hK K
      have HN := Aside0.mk (HS.out.put 1 (.slice At (spanUp 30 (i + 1)).length ct) rfl)
      clear HS
      have HS := HN
      clear HN
      clear s0 f0
      generalize wa.setCell ⟨g, 1, none⟩ (.slice At (spanUp 30 (i + 1)).length ct) = wb at HS ⊢
      refine done_ (by kernel_rfl) ?_
      have HVC : Aside0 (((seen.size : Int) = (n : Int))) := ⟨hsn⟩
      have p29 : (0 ≤ (i : Int)) = True := eq_true (by omega)
      have q29 : ((i : Int) < (seen.size : Int)) = True := eq_true (by omega)
      have hx29 : ∀ h : i < seen.size, ((seen[i]'h).toNat : Int) = bt seen (i : Int) := fun h => bt_at seen (i : Int) h
      have hsz29 : i < seen.size := by rw [HN.out]; exact hlt
      have hq29 : (i : Int) < (n : Int) := hltz
      by_cases c : bt seen (i : Int) = 63
      · have c1 : (bt seen (i : Int) == 63) = true := beq_iff_eq.mpr c
        have HC1 : Aside0 (crUp seen (i + 1) = crUp seen i ++ [⟨⟨(i : Int), (i : Int)⟩, ⟨10, 10⟩, ⟨20, 20⟩⟩]) := ⟨if_pos c⟩
        have HO1 : Aside0 (opUp seen (i + 1) = opUp seen i) := ⟨if_pos c⟩
        have HK1 : Aside0 (coUp seen (i + 1) = coUp seen i ++ [1]) := ⟨if_pos c⟩
        obtain ⟨lc1, hlc1⟩ : ∃ l, crUp seen (i + 1) = l := ⟨_, rfl⟩
        obtain ⟨lk1, hlk1⟩ : ∃ l, coUp seen (i + 1) = l := ⟨_, rfl⟩
        have HLC1 := Aside0.mk (HC1.out.symm.trans hlc1)
        have HLK1 := Aside0.mk (HK1.out.symm.trans hlk1)
        clear c
        go_upto_region 11 with fail
        have HD := Aside0.mk HS.out.drew
        refine start_ (n := 16) (S := fun w' => w'.cell? ⟨g, 0, none⟩ = some (.slice Ab (spanUp 0 (i + 1)).length cb) ∧ w'.cell? ⟨g, 1, none⟩ = some (.slice At (spanUp 30 (i + 1)).length ct) ∧ w'.cell? ⟨g, 2, none⟩ = some (.int .i64 0) ∧ w'.cell? ⟨g, 3, none⟩ = some vc) (ds := [14]) #[false, false, false, false, false, false, false, false, false, false, false, false, false, false, false, false] (by kernel_rfl) rfl rfl HD.out.held (fun hHeld => ?_)
        clear HS
        have HS := HD
        clear HD
        generalize wb.drew = wd at HS hHeld ⊢
        refine pure_ (i := 0) (N := some 60) (v := ?_) (a' := ?_) #[true, false, false, false, false, false, false, false, false, false, false, false, false, false, false, false] rfl rfl (by kernel_rfl) (fun _ _ _ h => h) (Or.inl ⟨by rfl, ?_⟩) ?_ ?_
        rotate_left
        · intro w'; go_simp; with_reducible rfl
        rotate_left
        · simp only [Act.put, List.setIfInBounds_toArray, List.set_cons_zero, List.set_cons_succ]; rfl
        refine pure_ (i := 2) (N := some 62) (v := ?_) (a' := ?_) #[true, false, true, false, false, false, false, false, false, false, false, false, false, false, false, false] rfl rfl (by kernel_rfl) (fun _ _ _ h => h) (Or.inl ⟨by rfl, ?_⟩) ?_ ?_
        rotate_left
        · intro w'; go_simp; with_reducible rfl
        rotate_left
        · simp only [Act.put, List.setIfInBounds_toArray, List.set_cons_zero, List.set_cons_succ]; rfl
        refine pure_ (i := 3) (N := some 63) (v := ?_) (a' := ?_) #[true, false, true, true, false, false, false, false, false, false, false, false, false, false, false, false] rfl rfl (by kernel_rfl) (fun _ _ _ h => h) (Or.inl ⟨by rfl, ?_⟩) ?_ ?_
        rotate_left
        · intro w'; go_simp; with_reducible rfl
        rotate_left
        · simp only [Act.put, List.setIfInBounds_toArray, List.set_cons_zero, List.set_cons_succ]; rfl
        refine pure_ (i := 10) (N := some 70) (v := ?_) (a' := ?_) #[true, false, true, true, false, false, false, false, false, false, true, false, false, false, false, false] rfl rfl (by kernel_rfl) (fun _ _ _ h => h) (Or.inl ⟨by rfl, ?_⟩) ?_ ?_
        rotate_left
        · intro w'; go_simp; with_reducible rfl
        rotate_left
        · simp only [Act.put, List.setIfInBounds_toArray, List.set_cons_zero, List.set_cons_succ]; rfl
        refine take_ (i := 1) (N := some 61) (v := ?_) (a' := ?_) #[true, true, true, true, false, false, false, false, false, false, true, false, false, false, false, false] rfl rfl (by kernel_rfl) (fun _ _ _ h => h) (Or.inl ⟨by rfl, ?_⟩) hHeld ?_ ?_
        rotate_left
        · rintro w' ⟨s0, s1, s2, s3⟩; go_simp; with_reducible rfl
        rotate_left
        · simp only [Act.put, List.setIfInBounds_toArray, List.set_cons_zero, List.set_cons_succ]; rfl
        refine join_ (σ := Value × Value × Value) 3 #[true, true, true, true, true, true, true, true, true, true, true, true, false, true, false, false] (fun s_ => [(64, .agg #[.int .i64 (i : Int), .int .i64 (i : Int)]), (65, .agg #[.int .i64 10, .int .i64 10]), (66, .agg #[.int .i64 20, .int .i64 20]), (67, .agg #[.int .i64 (i : Int), .int .i64 (i : Int), .int .i64 10, .int .i64 10, .int .i64 20, .int .i64 20]), (68, s_.1), (69, s_.2.1), (71, s_.2.2), (73, .pointer (some ⟨g, 3, none⟩))]) (fun s_ w' => Aside0 (LawS W w' g (.slice Ab (spanUp 0 (i + 1)).length cb) (.slice At (spanUp 30 (i + 1)).length ct) vc (.slice Ab (spanUp 0 (i + 1)).length cb) (.slice At (spanUp 30 (i + 1)).length ct) s_.2.1 u7 u8 (spanUp 0 (i + 1)) (spanUp 30 (i + 1)) lc1 (opUp seen i) (coUp seen i)) ∧ Aside0 (Kd.R (Kd.int .i64) 3 w' W.heap.size (fun _ => True) s_.2.2 [1]) ∧ (∃ A c, s_.2.1 = .slice A lc1.length c) ∧ ∃ A c, s_.2.2 = .slice A [(1 : Int)].length c) ?_ ?_
        rotate_left
        · intro hJ
          refine two_ (i := 4) (j := 11) (Ni := some 64) (Nj := some 71) #[true, true, true, true, true, false, false, false, false, false, true, false, false, false, false, false] #[true, true, true, true, false, false, false, false, false, false, true, true, false, false, false, false] rfl rfl rfl rfl (by kernel_rfl) (by decide) (by decide) (fun K hK => ?_) (fun K hK => ?_)
          · refine goes_ Tryd.func7 (by kernel_rfl) rfl #[.int .i64 (i : Int), .int .i64 (i : Int)] (by rfl) rfl rfl (by (try simp only [List.map_toArray, List.map_cons, List.map_nil]); first | done | rfl) ?_
            with_reducible refine (panachetop_oakSpan.calls (i : Int) (i : Int) (i : Int) (i : Int) _ rfl).mono ?_
            rintro e w5 ⟨rfl, hb⟩
            refine ⟨_, rfl, ?_⟩
            have HN := Aside0.mk (HS.out.after hb)
            clear HS
            have HS := HN
            clear HN
            clear hb
            refine hK.out _ _ HS.out.held (fun hHeld => ?_)
            clear hK K
            refine norm_ (a' := ?_) ?_ ?_
            rotate_left
            · show Act.put _ (some 64) _ = _
              simp only [Act.put, List.setIfInBounds_toArray, List.set_cons_zero, List.set_cons_succ]
              rfl
            refine two_ (i := 5) (j := 11) (Ni := some 65) (Nj := some 71) #[true, true, true, true, true, true, false, false, false, false, true, false, false, false, false, false] #[true, true, true, true, true, false, false, false, false, false, true, true, false, false, false, false] rfl rfl rfl rfl (by kernel_rfl) (by decide) (by decide) (fun K hK => ?_) (fun K hK => ?_)
            · refine goes_ Tryd.func7 (by kernel_rfl) rfl #[.int .i64 10, .int .i64 10] (by rfl) rfl rfl (by (try simp only [List.map_toArray, List.map_cons, List.map_nil]); first | done | rfl) ?_
              with_reducible refine (panachetop_oakSpan.calls 10 10 10 10 _ rfl).mono ?_
              rintro e w5 ⟨rfl, hb⟩
              refine ⟨_, rfl, ?_⟩
              have HN := Aside0.mk (HS.out.after hb)
              clear HS
              have HS := HN
              clear HN
              clear hb
              refine hK.out _ _ HS.out.held (fun hHeld => ?_)
              clear hK K
              refine norm_ (a' := ?_) ?_ ?_
              rotate_left
              · show Act.put _ (some 65) _ = _
                simp only [Act.put, List.setIfInBounds_toArray, List.set_cons_zero, List.set_cons_succ]
                rfl
              refine two_ (i := 6) (j := 11) (Ni := some 66) (Nj := some 71) #[true, true, true, true, true, true, true, false, false, false, true, false, false, false, false, false] #[true, true, true, true, true, true, false, false, false, false, true, true, false, false, false, false] rfl rfl rfl rfl (by kernel_rfl) (by decide) (by decide) (fun K hK => ?_) (fun K hK => ?_)
              · refine goes_ Tryd.func7 (by kernel_rfl) rfl #[.int .i64 20, .int .i64 20] (by rfl) rfl rfl (by (try simp only [List.map_toArray, List.map_cons, List.map_nil]); first | done | rfl) ?_
                with_reducible refine (panachetop_oakSpan.calls 20 20 20 20 _ rfl).mono ?_
                rintro e w5 ⟨rfl, hb⟩
                refine ⟨_, rfl, ?_⟩
                have HN := Aside0.mk (HS.out.after hb)
                clear HS
                have HS := HN
                clear HN
                clear hb
                refine hK.out _ _ HS.out.held (fun hHeld => ?_)
                clear hK K
                refine norm_ (a' := ?_) ?_ ?_
                rotate_left
                · show Act.put _ (some 66) _ = _
                  simp only [Act.put, List.setIfInBounds_toArray, List.set_cons_zero, List.set_cons_succ]
                  rfl
                refine pure_ (i := 7) (N := some 67) (v := ?_) (a' := ?_) #[true, true, true, true, true, true, true, true, false, false, true, false, false, false, false, false] rfl rfl (by kernel_rfl) (fun _ _ _ h => h) (Or.inl ⟨by rfl, ?_⟩) ?_ ?_
                rotate_left
                · intro w'; go_simp; with_reducible rfl
                rotate_left
                · simp only [Act.put, List.setIfInBounds_toArray, List.set_cons_zero, List.set_cons_succ]; rfl
                refine two_ (i := 8) (j := 11) (Ni := some 68) (Nj := some 71) #[true, true, true, true, true, true, true, true, true, false, true, false, false, false, false, false] #[true, true, true, true, true, true, true, true, false, false, true, true, false, false, false, false] rfl rfl rfl rfl (by kernel_rfl) (by decide) (by decide) (fun K hK => ?_) (fun K hK => ?_)
                · refine Kd.R_lit_step k35 _ 35 ?hg (N := 68) ?hd (xs := [(⟨⟨(i : Int), (i : Int)⟩, ⟨10, 10⟩, ⟨20, 20⟩⟩ : S35)]) (inner := [.int .i64 (i : Int), .int .i64 (i : Int), .int .i64 10, .int .i64 10, .int .i64 20, .int .i64 20]) (ok := fun _ => True) (okp := fun _ => True) ?hr ?hp (fun _ hk => hk) trivial (Below.refl _ _) (Nat.le_refl _) (by simp) ?_; (case hd => rfl); (case hg => rfl); (case hr => first | (go_simp; done) | (go_simp; rfl)); (case hp => exact (Reps.c6 (show Kd.M k35 _ _ _ (⟨⟨(i : Int), (i : Int)⟩, ⟨10, 10⟩, ⟨20, 20⟩⟩ : S35) [.int .i64 (i : Int), .int .i64 (i : Int), .int .i64 10, .int .i64 10, .int .i64 20, .int .i64 20] from k35_mkM _ _ _ _) (Reps.none _ _)))
                  intro v5 w5 ho hb hg hat
                  obtain ⟨Aq, cq, rfl⟩ := Kd.R_slice ho
                  have HL := Aside0.mk (Kd.R_lower ho (below_size HS.out.below))
                  have HN := Aside0.mk (HS.out.after (below_of_grown hg))
                  clear HS
                  have HS := HN
                  clear HN
                  clear ho hb hg hat
                  refine hK.out _ _ HS.out.held (fun hHeld => ?_)
                  clear hK K
                  refine norm_ (a' := ?_) ?_ ?_
                  rotate_left
                  · show Act.put _ (some 68) _ = _
                    simp only [Act.put, List.setIfInBounds_toArray, List.set_cons_zero, List.set_cons_succ]
                    rfl
                  refine two_ (i := 9) (j := 11) (Ni := some 69) (Nj := some 71) #[true, true, true, true, true, true, true, true, true, true, true, false, false, false, false, false] #[true, true, true, true, true, true, true, true, true, false, true, true, false, false, false, false] rfl rfl rfl rfl (by kernel_rfl) (by decide) (by decide) (fun K hK => ?_) (fun K hK => ?_)
                  · refine Kd.R_append_rows_step k35 (w0 := W) W.heap.size (by rfl) (.tmp 61) (.tmp 68) 27 35 (.agg #[.int .i64 0, .int .i64 0, .int .i64 0, .int .i64 0, .int .i64 0, .int .i64 0]) 48 rfl Tryd.underlying27 info_crack rfl (by decide) (by omega) vc (crUp seen i) [(⟨⟨(i : Int), (i : Int)⟩, ⟨10, 10⟩, ⟨20, 20⟩⟩ : S35)] _ _ _ (fun _ => True) (fun _ => False) rfl rfl ?aO ?aR (fun _ _ h => h) (fun _ h => h.elim) ?aF ?aB ?aS ?aL ?_
                    (case aR => exact (Kd.R_reads' HL.out).2.2)
                    (case aB => exact HS.out.below)
                    (case aF => exact fun _ _ => trivial)
                    (case aO => exact HS.out.hc)
                    (case aS => exact below_size HS.out.below)
                    (case aL => have := crUp_length seen i; simp; omega)
                    intro v6 w6 ho hb hg hat
                    rw [HLC1.out] at ho
                    obtain ⟨Ac, cc, rfl⟩ := Kd.R_slice ho
                    have HN := Aside0.mk (HS.out.appC ho hb hg)
                    clear HS
                    have HS := HN
                    clear HN
                    clear ho hb hg hat HL
                    refine hK.out _ _ HS.out.held (fun hHeld => ?_)
                    clear hK K
                    refine norm_ (a' := ?_) ?_ ?_
                    rotate_left
                    · show Act.put _ (some 69) _ = _
                      simp only [Act.put, List.setIfInBounds_toArray, List.set_cons_zero, List.set_cons_succ]
                      rfl
                    refine pure_ (i := 13) (N := some 73) (v := ?_) (a' := ?_) #[true, true, true, true, true, true, true, true, true, true, true, false, false, true, false, false] rfl rfl (by kernel_rfl) (fun _ _ _ h => h) (Or.inl ⟨by rfl, ?_⟩) ?_ ?_
                    rotate_left
                    · intro w'; go_simp; with_reducible rfl
                    rotate_left
                    · simp only [Act.put, List.setIfInBounds_toArray, List.set_cons_zero, List.set_cons_succ]; rfl
                    refine one_ (i := 11) (N := some 71) #[true, true, true, true, true, true, true, true, true, true, true, true, false, true, false, false] rfl rfl (by kernel_rfl) (by decide) (fun K hK => ?_)
                    refine Kd.R_lit_step (Kd.int .i64) _ 3 ?hg (N := 71) ?hd (xs := ([1] : List Int)) (inner := [.int .i64 1]) (ok := fun _ => True) (okp := fun _ => True) ?hr ?hp (fun _ hk => hk) trivial (Below.refl _ _) (Nat.le_refl _) (by simp) ?_; (case hd => rfl); (case hg => rfl); (case hr => first | (go_simp; done) | (go_simp; rfl)); (case hp => exact (Reps.one (show Kd.M (Kd.int .i64) _ _ _ 1 [.int .i64 1] from rfl) (Reps.none _ _)))
                    intro v5 w5 ho hb hg hat
                    obtain ⟨Az, cz, rfl⟩ := Kd.R_slice ho
                    have HLK := Aside0.mk (Kd.R_lower ho (below_size HS.out.below))
                    have HN := Aside0.mk (HS.out.after (below_of_grown hg))
                    clear HS
                    have HS := HN
                    clear HN
                    clear ho hb hg hat
                    refine hK.out _ _ HS.out.held (fun hHeld => ?_)
                    clear hK K
                    refine norm_ (a' := ?_) ?_ ?_
                    rotate_left
                    · show Act.put _ (some 71) _ = _
                      simp only [Act.put, List.setIfInBounds_toArray, List.set_cons_zero, List.set_cons_succ]
                      rfl
                    exact norm_ (by first | (simp only [putAll, Act.put, List.setIfInBounds_toArray, List.set_cons_zero, List.set_cons_succ]; done) | (simp only [putAll, Act.put, List.setIfInBounds_toArray, List.set_cons_zero, List.set_cons_succ]; rfl)) (hJ (.slice Aq [(⟨⟨(i : Int), (i : Int)⟩, ⟨10, 10⟩, ⟨20, 20⟩⟩ : S35)].length cq, .slice Ac lc1.length cc, .slice Az [(1 : Int)].length cz) _ ⟨HS, HLK, ⟨_, _, rfl⟩, ⟨_, _, rfl⟩⟩)
                  · refine Kd.R_lit_step (Kd.int .i64) _ 3 ?hg (N := 71) ?hd (xs := ([1] : List Int)) (inner := [.int .i64 1]) (ok := fun _ => True) (okp := fun _ => True) ?hr ?hp (fun _ hk => hk) trivial (Below.refl _ _) (Nat.le_refl _) (by simp) ?_; (case hd => rfl); (case hg => rfl); (case hr => first | (go_simp; done) | (go_simp; rfl)); (case hp => exact (Reps.one (show Kd.M (Kd.int .i64) _ _ _ 1 [.int .i64 1] from rfl) (Reps.none _ _)))
                    intro v5 w5 ho hb hg hat
                    obtain ⟨Az, cz, rfl⟩ := Kd.R_slice ho
                    have HLK := Aside0.mk (Kd.R_lower ho (below_size HS.out.below))
                    have HLN := Aside0.mk (Kd.R_below HL.out (below_of_grown hg))
                    clear HL
                    have HL := HLN
                    clear HLN
                    have HN := Aside0.mk (HS.out.after (below_of_grown hg))
                    clear HS
                    have HS := HN
                    clear HN
                    clear ho hb hg hat
                    refine hK.out _ _ HS.out.held (fun hHeld => ?_)
                    clear hK K
                    refine norm_ (a' := ?_) ?_ ?_
                    rotate_left
                    · show Act.put _ (some 71) _ = _
                      simp only [Act.put, List.setIfInBounds_toArray, List.set_cons_zero, List.set_cons_succ]
                      rfl
                    refine one_ (i := 9) (N := some 69) #[true, true, true, true, true, true, true, true, true, true, true, true, false, false, false, false] rfl rfl (by kernel_rfl) (by decide) (fun K hK => ?_)
                    refine Kd.R_append_rows_step k35 (w0 := W) W.heap.size (by rfl) (.tmp 61) (.tmp 68) 27 35 (.agg #[.int .i64 0, .int .i64 0, .int .i64 0, .int .i64 0, .int .i64 0, .int .i64 0]) 48 rfl Tryd.underlying27 info_crack rfl (by decide) (by omega) vc (crUp seen i) [(⟨⟨(i : Int), (i : Int)⟩, ⟨10, 10⟩, ⟨20, 20⟩⟩ : S35)] _ _ _ (fun _ => True) (fun _ => False) rfl rfl ?aO ?aR (fun _ _ h => h) (fun _ h => h.elim) ?aF ?aB ?aS ?aL ?_
                    (case aR => exact (Kd.R_reads' HL.out).2.2)
                    (case aB => exact HS.out.below)
                    (case aF => exact fun _ _ => trivial)
                    (case aO => exact HS.out.hc)
                    (case aS => exact below_size HS.out.below)
                    (case aL => have := crUp_length seen i; simp; omega)
                    intro v6 w6 ho hb hg hat
                    rw [HLC1.out] at ho
                    obtain ⟨Ac, cc, rfl⟩ := Kd.R_slice ho
                    have HLN := Aside0.mk (Kd.R_over' HLK.out (Kd.R_typed HS.out.hc) (by decide) hg)
                    clear HLK
                    have HLK := HLN
                    clear HLN
                    have HN := Aside0.mk (HS.out.appC ho hb hg)
                    clear HS
                    have HS := HN
                    clear HN
                    clear ho hb hg hat HL
                    refine hK.out _ _ HS.out.held (fun hHeld => ?_)
                    clear hK K
                    refine norm_ (a' := ?_) ?_ ?_
                    rotate_left
                    · show Act.put _ (some 69) _ = _
                      simp only [Act.put, List.setIfInBounds_toArray, List.set_cons_zero, List.set_cons_succ]
                      rfl
                    refine pure_ (i := 13) (N := some 73) (v := ?_) (a' := ?_) #[true, true, true, true, true, true, true, true, true, true, true, true, false, true, false, false] rfl rfl (by kernel_rfl) (fun _ _ _ h => h) (Or.inl ⟨by rfl, ?_⟩) ?_ ?_
                    rotate_left
                    · intro w'; go_simp; with_reducible rfl
                    rotate_left
                    · simp only [Act.put, List.setIfInBounds_toArray, List.set_cons_zero, List.set_cons_succ]; rfl
                    exact norm_ (by first | (simp only [putAll, Act.put, List.setIfInBounds_toArray, List.set_cons_zero, List.set_cons_succ]; done) | (simp only [putAll, Act.put, List.setIfInBounds_toArray, List.set_cons_zero, List.set_cons_succ]; rfl)) (hJ (.slice Aq [(⟨⟨(i : Int), (i : Int)⟩, ⟨10, 10⟩, ⟨20, 20⟩⟩ : S35)].length cq, .slice Ac lc1.length cc, .slice Az [(1 : Int)].length cz) _ ⟨HS, HLK, ⟨_, _, rfl⟩, ⟨_, _, rfl⟩⟩)
                · refine Kd.R_lit_step (Kd.int .i64) _ 3 ?hg (N := 71) ?hd (xs := ([1] : List Int)) (inner := [.int .i64 1]) (ok := fun _ => True) (okp := fun _ => True) ?hr ?hp (fun _ hk => hk) trivial (Below.refl _ _) (Nat.le_refl _) (by simp) ?_; (case hd => rfl); (case hg => rfl); (case hr => first | (go_simp; done) | (go_simp; rfl)); (case hp => exact (Reps.one (show Kd.M (Kd.int .i64) _ _ _ 1 [.int .i64 1] from rfl) (Reps.none _ _)))
                  intro v5 w5 ho hb hg hat
                  obtain ⟨Az, cz, rfl⟩ := Kd.R_slice ho
                  have HLK := Aside0.mk (Kd.R_lower ho (below_size HS.out.below))
                  have HN := Aside0.mk (HS.out.after (below_of_grown hg))
                  clear HS
                  have HS := HN
                  clear HN
                  clear ho hb hg hat
                  refine hK.out _ _ HS.out.held (fun hHeld => ?_)
                  clear hK K
                  refine norm_ (a' := ?_) ?_ ?_
                  rotate_left
                  · show Act.put _ (some 71) _ = _
                    simp only [Act.put, List.setIfInBounds_toArray, List.set_cons_zero, List.set_cons_succ]
                    rfl
                  refine one_ (i := 8) (N := some 68) #[true, true, true, true, true, true, true, true, true, false, true, true, false, false, false, false] rfl rfl (by kernel_rfl) (by decide) (fun K hK => ?_)
                  refine Kd.R_lit_step k35 _ 35 ?hg (N := 68) ?hd (xs := [(⟨⟨(i : Int), (i : Int)⟩, ⟨10, 10⟩, ⟨20, 20⟩⟩ : S35)]) (inner := [.int .i64 (i : Int), .int .i64 (i : Int), .int .i64 10, .int .i64 10, .int .i64 20, .int .i64 20]) (ok := fun _ => True) (okp := fun _ => True) ?hr ?hp (fun _ hk => hk) trivial (Below.refl _ _) (Nat.le_refl _) (by simp) ?_; (case hd => rfl); (case hg => rfl); (case hr => first | (go_simp; done) | (go_simp; rfl)); (case hp => exact (Reps.c6 (show Kd.M k35 _ _ _ (⟨⟨(i : Int), (i : Int)⟩, ⟨10, 10⟩, ⟨20, 20⟩⟩ : S35) [.int .i64 (i : Int), .int .i64 (i : Int), .int .i64 10, .int .i64 10, .int .i64 20, .int .i64 20] from k35_mkM _ _ _ _) (Reps.none _ _)))
                  intro v5 w5 ho hb hg hat
                  obtain ⟨Aq, cq, rfl⟩ := Kd.R_slice ho
                  have HL := Aside0.mk (Kd.R_lower ho (below_size HS.out.below))
                  have HLN := Aside0.mk (Kd.R_below HLK.out (below_of_grown hg))
                  clear HLK
                  have HLK := HLN
                  clear HLN
                  have HN := Aside0.mk (HS.out.after (below_of_grown hg))
                  clear HS
                  have HS := HN
                  clear HN
                  clear ho hb hg hat
                  refine hK.out _ _ HS.out.held (fun hHeld => ?_)
                  clear hK K
                  refine norm_ (a' := ?_) ?_ ?_
                  rotate_left
                  · show Act.put _ (some 68) _ = _
                    simp only [Act.put, List.setIfInBounds_toArray, List.set_cons_zero, List.set_cons_succ]
                    rfl
                  refine one_ (i := 9) (N := some 69) #[true, true, true, true, true, true, true, true, true, true, true, true, false, false, false, false] rfl rfl (by kernel_rfl) (by decide) (fun K hK => ?_)
                  refine Kd.R_append_rows_step k35 (w0 := W) W.heap.size (by rfl) (.tmp 61) (.tmp 68) 27 35 (.agg #[.int .i64 0, .int .i64 0, .int .i64 0, .int .i64 0, .int .i64 0, .int .i64 0]) 48 rfl Tryd.underlying27 info_crack rfl (by decide) (by omega) vc (crUp seen i) [(⟨⟨(i : Int), (i : Int)⟩, ⟨10, 10⟩, ⟨20, 20⟩⟩ : S35)] _ _ _ (fun _ => True) (fun _ => False) rfl rfl ?aO ?aR (fun _ _ h => h) (fun _ h => h.elim) ?aF ?aB ?aS ?aL ?_
                  (case aR => exact (Kd.R_reads' HL.out).2.2)
                  (case aB => exact HS.out.below)
                  (case aF => exact fun _ _ => trivial)
                  (case aO => exact HS.out.hc)
                  (case aS => exact below_size HS.out.below)
                  (case aL => have := crUp_length seen i; simp; omega)
                  intro v6 w6 ho hb hg hat
                  rw [HLC1.out] at ho
                  obtain ⟨Ac, cc, rfl⟩ := Kd.R_slice ho
                  have HLN := Aside0.mk (Kd.R_over' HLK.out (Kd.R_typed HS.out.hc) (by decide) hg)
                  clear HLK
                  have HLK := HLN
                  clear HLN
                  have HN := Aside0.mk (HS.out.appC ho hb hg)
                  clear HS
                  have HS := HN
                  clear HN
                  clear ho hb hg hat HL
                  refine hK.out _ _ HS.out.held (fun hHeld => ?_)
                  clear hK K
                  refine norm_ (a' := ?_) ?_ ?_
                  rotate_left
                  · show Act.put _ (some 69) _ = _
                    simp only [Act.put, List.setIfInBounds_toArray, List.set_cons_zero, List.set_cons_succ]
                    rfl
                  refine pure_ (i := 13) (N := some 73) (v := ?_) (a' := ?_) #[true, true, true, true, true, true, true, true, true, true, true, true, false, true, false, false] rfl rfl (by kernel_rfl) (fun _ _ _ h => h) (Or.inl ⟨by rfl, ?_⟩) ?_ ?_
                  rotate_left
                  · intro w'; go_simp; with_reducible rfl
                  rotate_left
                  · simp only [Act.put, List.setIfInBounds_toArray, List.set_cons_zero, List.set_cons_succ]; rfl
                  exact norm_ (by first | (simp only [putAll, Act.put, List.setIfInBounds_toArray, List.set_cons_zero, List.set_cons_succ]; done) | (simp only [putAll, Act.put, List.setIfInBounds_toArray, List.set_cons_zero, List.set_cons_succ]; rfl)) (hJ (.slice Aq [(⟨⟨(i : Int), (i : Int)⟩, ⟨10, 10⟩, ⟨20, 20⟩⟩ : S35)].length cq, .slice Ac lc1.length cc, .slice Az [(1 : Int)].length cz) _ ⟨HS, HLK, ⟨_, _, rfl⟩, ⟨_, _, rfl⟩⟩)
              · refine Kd.R_lit_step (Kd.int .i64) _ 3 ?hg (N := 71) ?hd (xs := ([1] : List Int)) (inner := [.int .i64 1]) (ok := fun _ => True) (okp := fun _ => True) ?hr ?hp (fun _ hk => hk) trivial (Below.refl _ _) (Nat.le_refl _) (by simp) ?_; (case hd => rfl); (case hg => rfl); (case hr => first | (go_simp; done) | (go_simp; rfl)); (case hp => exact (Reps.one (show Kd.M (Kd.int .i64) _ _ _ 1 [.int .i64 1] from rfl) (Reps.none _ _)))
                intro v5 w5 ho hb hg hat
                obtain ⟨Az, cz, rfl⟩ := Kd.R_slice ho
                have HLK := Aside0.mk (Kd.R_lower ho (below_size HS.out.below))
                have HN := Aside0.mk (HS.out.after (below_of_grown hg))
                clear HS
                have HS := HN
                clear HN
                clear ho hb hg hat
                refine hK.out _ _ HS.out.held (fun hHeld => ?_)
                clear hK K
                refine norm_ (a' := ?_) ?_ ?_
                rotate_left
                · show Act.put _ (some 71) _ = _
                  simp only [Act.put, List.setIfInBounds_toArray, List.set_cons_zero, List.set_cons_succ]
                  rfl
                refine one_ (i := 6) (N := some 66) #[true, true, true, true, true, true, true, false, false, false, true, true, false, false, false, false] rfl rfl (by kernel_rfl) (by decide) (fun K hK => ?_)
                refine goes_ Tryd.func7 (by kernel_rfl) rfl #[.int .i64 20, .int .i64 20] (by rfl) rfl rfl (by (try simp only [List.map_toArray, List.map_cons, List.map_nil]); first | done | rfl) ?_
                with_reducible refine (panachetop_oakSpan.calls 20 20 20 20 _ rfl).mono ?_
                rintro e w5 ⟨rfl, hb⟩
                refine ⟨_, rfl, ?_⟩
                have HLN := Aside0.mk (Kd.R_below HLK.out hb)
                clear HLK
                have HLK := HLN
                clear HLN
                have HN := Aside0.mk (HS.out.after hb)
                clear HS
                have HS := HN
                clear HN
                clear hb
                refine hK.out _ _ HS.out.held (fun hHeld => ?_)
                clear hK K
                refine norm_ (a' := ?_) ?_ ?_
                rotate_left
                · show Act.put _ (some 66) _ = _
                  simp only [Act.put, List.setIfInBounds_toArray, List.set_cons_zero, List.set_cons_succ]
                  rfl
                refine pure_ (i := 7) (N := some 67) (v := ?_) (a' := ?_) #[true, true, true, true, true, true, true, true, false, false, true, true, false, false, false, false] rfl rfl (by kernel_rfl) (fun _ _ _ h => h) (Or.inl ⟨by rfl, ?_⟩) ?_ ?_
                rotate_left
                · intro w'; go_simp; with_reducible rfl
                rotate_left
                · simp only [Act.put, List.setIfInBounds_toArray, List.set_cons_zero, List.set_cons_succ]; rfl
                refine one_ (i := 8) (N := some 68) #[true, true, true, true, true, true, true, true, true, false, true, true, false, false, false, false] rfl rfl (by kernel_rfl) (by decide) (fun K hK => ?_)
                refine Kd.R_lit_step k35 _ 35 ?hg (N := 68) ?hd (xs := [(⟨⟨(i : Int), (i : Int)⟩, ⟨10, 10⟩, ⟨20, 20⟩⟩ : S35)]) (inner := [.int .i64 (i : Int), .int .i64 (i : Int), .int .i64 10, .int .i64 10, .int .i64 20, .int .i64 20]) (ok := fun _ => True) (okp := fun _ => True) ?hr ?hp (fun _ hk => hk) trivial (Below.refl _ _) (Nat.le_refl _) (by simp) ?_; (case hd => rfl); (case hg => rfl); (case hr => first | (go_simp; done) | (go_simp; rfl)); (case hp => exact (Reps.c6 (show Kd.M k35 _ _ _ (⟨⟨(i : Int), (i : Int)⟩, ⟨10, 10⟩, ⟨20, 20⟩⟩ : S35) [.int .i64 (i : Int), .int .i64 (i : Int), .int .i64 10, .int .i64 10, .int .i64 20, .int .i64 20] from k35_mkM _ _ _ _) (Reps.none _ _)))
                intro v5 w5 ho hb hg hat
                obtain ⟨Aq, cq, rfl⟩ := Kd.R_slice ho
                have HL := Aside0.mk (Kd.R_lower ho (below_size HS.out.below))
                have HLN := Aside0.mk (Kd.R_below HLK.out (below_of_grown hg))
                clear HLK
                have HLK := HLN
                clear HLN
                have HN := Aside0.mk (HS.out.after (below_of_grown hg))
                clear HS
                have HS := HN
                clear HN
                clear ho hb hg hat
                refine hK.out _ _ HS.out.held (fun hHeld => ?_)
                clear hK K
                refine norm_ (a' := ?_) ?_ ?_
                rotate_left
                · show Act.put _ (some 68) _ = _
                  simp only [Act.put, List.setIfInBounds_toArray, List.set_cons_zero, List.set_cons_succ]
                  rfl
                refine one_ (i := 9) (N := some 69) #[true, true, true, true, true, true, true, true, true, true, true, true, false, false, false, false] rfl rfl (by kernel_rfl) (by decide) (fun K hK => ?_)
                refine Kd.R_append_rows_step k35 (w0 := W) W.heap.size (by rfl) (.tmp 61) (.tmp 68) 27 35 (.agg #[.int .i64 0, .int .i64 0, .int .i64 0, .int .i64 0, .int .i64 0, .int .i64 0]) 48 rfl Tryd.underlying27 info_crack rfl (by decide) (by omega) vc (crUp seen i) [(⟨⟨(i : Int), (i : Int)⟩, ⟨10, 10⟩, ⟨20, 20⟩⟩ : S35)] _ _ _ (fun _ => True) (fun _ => False) rfl rfl ?aO ?aR (fun _ _ h => h) (fun _ h => h.elim) ?aF ?aB ?aS ?aL ?_
                (case aR => exact (Kd.R_reads' HL.out).2.2)
                (case aB => exact HS.out.below)
                (case aF => exact fun _ _ => trivial)
                (case aO => exact HS.out.hc)
                (case aS => exact below_size HS.out.below)
                (case aL => have := crUp_length seen i; simp; omega)
                intro v6 w6 ho hb hg hat
                rw [HLC1.out] at ho
                obtain ⟨Ac, cc, rfl⟩ := Kd.R_slice ho
                have HLN := Aside0.mk (Kd.R_over' HLK.out (Kd.R_typed HS.out.hc) (by decide) hg)
                clear HLK
                have HLK := HLN
                clear HLN
                have HN := Aside0.mk (HS.out.appC ho hb hg)
                clear HS
                have HS := HN
                clear HN
                clear ho hb hg hat HL
                refine hK.out _ _ HS.out.held (fun hHeld => ?_)
                clear hK K
                refine norm_ (a' := ?_) ?_ ?_
                rotate_left
                · show Act.put _ (some 69) _ = _
                  simp only [Act.put, List.setIfInBounds_toArray, List.set_cons_zero, List.set_cons_succ]
                  rfl
                refine pure_ (i := 13) (N := some 73) (v := ?_) (a' := ?_) #[true, true, true, true, true, true, true, true, true, true, true, true, false, true, false, false] rfl rfl (by kernel_rfl) (fun _ _ _ h => h) (Or.inl ⟨by rfl, ?_⟩) ?_ ?_
                rotate_left
                · intro w'; go_simp; with_reducible rfl
                rotate_left
                · simp only [Act.put, List.setIfInBounds_toArray, List.set_cons_zero, List.set_cons_succ]; rfl
                exact norm_ (by first | (simp only [putAll, Act.put, List.setIfInBounds_toArray, List.set_cons_zero, List.set_cons_succ]; done) | (simp only [putAll, Act.put, List.setIfInBounds_toArray, List.set_cons_zero, List.set_cons_succ]; rfl)) (hJ (.slice Aq [(⟨⟨(i : Int), (i : Int)⟩, ⟨10, 10⟩, ⟨20, 20⟩⟩ : S35)].length cq, .slice Ac lc1.length cc, .slice Az [(1 : Int)].length cz) _ ⟨HS, HLK, ⟨_, _, rfl⟩, ⟨_, _, rfl⟩⟩)
            · refine Kd.R_lit_step (Kd.int .i64) _ 3 ?hg (N := 71) ?hd (xs := ([1] : List Int)) (inner := [.int .i64 1]) (ok := fun _ => True) (okp := fun _ => True) ?hr ?hp (fun _ hk => hk) trivial (Below.refl _ _) (Nat.le_refl _) (by simp) ?_; (case hd => rfl); (case hg => rfl); (case hr => first | (go_simp; done) | (go_simp; rfl)); (case hp => exact (Reps.one (show Kd.M (Kd.int .i64) _ _ _ 1 [.int .i64 1] from rfl) (Reps.none _ _)))
              intro v5 w5 ho hb hg hat
              obtain ⟨Az, cz, rfl⟩ := Kd.R_slice ho
              have HLK := Aside0.mk (Kd.R_lower ho (below_size HS.out.below))
              have HN := Aside0.mk (HS.out.after (below_of_grown hg))
              clear HS
              have HS := HN
              clear HN
              clear ho hb hg hat
              refine hK.out _ _ HS.out.held (fun hHeld => ?_)
              clear hK K
              refine norm_ (a' := ?_) ?_ ?_
              rotate_left
              · show Act.put _ (some 71) _ = _
                simp only [Act.put, List.setIfInBounds_toArray, List.set_cons_zero, List.set_cons_succ]
                rfl
              refine one_ (i := 5) (N := some 65) #[true, true, true, true, true, true, false, false, false, false, true, true, false, false, false, false] rfl rfl (by kernel_rfl) (by decide) (fun K hK => ?_)
              refine goes_ Tryd.func7 (by kernel_rfl) rfl #[.int .i64 10, .int .i64 10] (by rfl) rfl rfl (by (try simp only [List.map_toArray, List.map_cons, List.map_nil]); first | done | rfl) ?_
              with_reducible refine (panachetop_oakSpan.calls 10 10 10 10 _ rfl).mono ?_
              rintro e w5 ⟨rfl, hb⟩
              refine ⟨_, rfl, ?_⟩
              have HLN := Aside0.mk (Kd.R_below HLK.out hb)
              clear HLK
              have HLK := HLN
              clear HLN
              have HN := Aside0.mk (HS.out.after hb)
              clear HS
              have HS := HN
              clear HN
              clear hb
              refine hK.out _ _ HS.out.held (fun hHeld => ?_)
              clear hK K
              refine norm_ (a' := ?_) ?_ ?_
              rotate_left
              · show Act.put _ (some 65) _ = _
                simp only [Act.put, List.setIfInBounds_toArray, List.set_cons_zero, List.set_cons_succ]
                rfl
              refine one_ (i := 6) (N := some 66) #[true, true, true, true, true, true, true, false, false, false, true, true, false, false, false, false] rfl rfl (by kernel_rfl) (by decide) (fun K hK => ?_)
              refine goes_ Tryd.func7 (by kernel_rfl) rfl #[.int .i64 20, .int .i64 20] (by rfl) rfl rfl (by (try simp only [List.map_toArray, List.map_cons, List.map_nil]); first | done | rfl) ?_
              with_reducible refine (panachetop_oakSpan.calls 20 20 20 20 _ rfl).mono ?_
              rintro e w5 ⟨rfl, hb⟩
              refine ⟨_, rfl, ?_⟩
              have HLN := Aside0.mk (Kd.R_below HLK.out hb)
              clear HLK
              have HLK := HLN
              clear HLN
              have HN := Aside0.mk (HS.out.after hb)
              clear HS
              have HS := HN
              clear HN
              clear hb
              refine hK.out _ _ HS.out.held (fun hHeld => ?_)
              clear hK K
              refine norm_ (a' := ?_) ?_ ?_
              rotate_left
              · show Act.put _ (some 66) _ = _
                simp only [Act.put, List.setIfInBounds_toArray, List.set_cons_zero, List.set_cons_succ]
                rfl
              refine pure_ (i := 7) (N := some 67) (v := ?_) (a' := ?_) #[true, true, true, true, true, true, true, true, false, false, true, true, false, false, false, false] rfl rfl (by kernel_rfl) (fun _ _ _ h => h) (Or.inl ⟨by rfl, ?_⟩) ?_ ?_
              rotate_left
              · intro w'; go_simp; with_reducible rfl
              rotate_left
              · simp only [Act.put, List.setIfInBounds_toArray, List.set_cons_zero, List.set_cons_succ]; rfl
              refine one_ (i := 8) (N := some 68) #[true, true, true, true, true, true, true, true, true, false, true, true, false, false, false, false] rfl rfl (by kernel_rfl) (by decide) (fun K hK => ?_)
              refine Kd.R_lit_step k35 _ 35 ?hg (N := 68) ?hd (xs := [(⟨⟨(i : Int), (i : Int)⟩, ⟨10, 10⟩, ⟨20, 20⟩⟩ : S35)]) (inner := [.int .i64 (i : Int), .int .i64 (i : Int), .int .i64 10, .int .i64 10, .int .i64 20, .int .i64 20]) (ok := fun _ => True) (okp := fun _ => True) ?hr ?hp (fun _ hk => hk) trivial (Below.refl _ _) (Nat.le_refl _) (by simp) ?_; (case hd => rfl); (case hg => rfl); (case hr => first | (go_simp; done) | (go_simp; rfl)); (case hp => exact (Reps.c6 (show Kd.M k35 _ _ _ (⟨⟨(i : Int), (i : Int)⟩, ⟨10, 10⟩, ⟨20, 20⟩⟩ : S35) [.int .i64 (i : Int), .int .i64 (i : Int), .int .i64 10, .int .i64 10, .int .i64 20, .int .i64 20] from k35_mkM _ _ _ _) (Reps.none _ _)))
              intro v5 w5 ho hb hg hat
              obtain ⟨Aq, cq, rfl⟩ := Kd.R_slice ho
              have HL := Aside0.mk (Kd.R_lower ho (below_size HS.out.below))
              have HLN := Aside0.mk (Kd.R_below HLK.out (below_of_grown hg))
              clear HLK
              have HLK := HLN
              clear HLN
              have HN := Aside0.mk (HS.out.after (below_of_grown hg))
              clear HS
              have HS := HN
              clear HN
              clear ho hb hg hat
              refine hK.out _ _ HS.out.held (fun hHeld => ?_)
              clear hK K
              refine norm_ (a' := ?_) ?_ ?_
              rotate_left
              · show Act.put _ (some 68) _ = _
                simp only [Act.put, List.setIfInBounds_toArray, List.set_cons_zero, List.set_cons_succ]
                rfl
              refine one_ (i := 9) (N := some 69) #[true, true, true, true, true, true, true, true, true, true, true, true, false, false, false, false] rfl rfl (by kernel_rfl) (by decide) (fun K hK => ?_)
              refine Kd.R_append_rows_step k35 (w0 := W) W.heap.size (by rfl) (.tmp 61) (.tmp 68) 27 35 (.agg #[.int .i64 0, .int .i64 0, .int .i64 0, .int .i64 0, .int .i64 0, .int .i64 0]) 48 rfl Tryd.underlying27 info_crack rfl (by decide) (by omega) vc (crUp seen i) [(⟨⟨(i : Int), (i : Int)⟩, ⟨10, 10⟩, ⟨20, 20⟩⟩ : S35)] _ _ _ (fun _ => True) (fun _ => False) rfl rfl ?aO ?aR (fun _ _ h => h) (fun _ h => h.elim) ?aF ?aB ?aS ?aL ?_
              (case aR => exact (Kd.R_reads' HL.out).2.2)
              (case aB => exact HS.out.below)
              (case aF => exact fun _ _ => trivial)
              (case aO => exact HS.out.hc)
              (case aS => exact below_size HS.out.below)
              (case aL => have := crUp_length seen i; simp; omega)
              intro v6 w6 ho hb hg hat
              rw [HLC1.out] at ho
              obtain ⟨Ac, cc, rfl⟩ := Kd.R_slice ho
              have HLN := Aside0.mk (Kd.R_over' HLK.out (Kd.R_typed HS.out.hc) (by decide) hg)
              clear HLK
              have HLK := HLN
              clear HLN
              have HN := Aside0.mk (HS.out.appC ho hb hg)
              clear HS
              have HS := HN
              clear HN
              clear ho hb hg hat HL
              refine hK.out _ _ HS.out.held (fun hHeld => ?_)
              clear hK K
              refine norm_ (a' := ?_) ?_ ?_
              rotate_left
              · show Act.put _ (some 69) _ = _
                simp only [Act.put, List.setIfInBounds_toArray, List.set_cons_zero, List.set_cons_succ]
                rfl
              refine pure_ (i := 13) (N := some 73) (v := ?_) (a' := ?_) #[true, true, true, true, true, true, true, true, true, true, true, true, false, true, false, false] rfl rfl (by kernel_rfl) (fun _ _ _ h => h) (Or.inl ⟨by rfl, ?_⟩) ?_ ?_
              rotate_left
              · intro w'; go_simp; with_reducible rfl
              rotate_left
              · simp only [Act.put, List.setIfInBounds_toArray, List.set_cons_zero, List.set_cons_succ]; rfl
              exact norm_ (by first | (simp only [putAll, Act.put, List.setIfInBounds_toArray, List.set_cons_zero, List.set_cons_succ]; done) | (simp only [putAll, Act.put, List.setIfInBounds_toArray, List.set_cons_zero, List.set_cons_succ]; rfl)) (hJ (.slice Aq [(⟨⟨(i : Int), (i : Int)⟩, ⟨10, 10⟩, ⟨20, 20⟩⟩ : S35)].length cq, .slice Ac lc1.length cc, .slice Az [(1 : Int)].length cz) _ ⟨HS, HLK, ⟨_, _, rfl⟩, ⟨_, _, rfl⟩⟩)
          · refine Kd.R_lit_step (Kd.int .i64) _ 3 ?hg (N := 71) ?hd (xs := ([1] : List Int)) (inner := [.int .i64 1]) (ok := fun _ => True) (okp := fun _ => True) ?hr ?hp (fun _ hk => hk) trivial (Below.refl _ _) (Nat.le_refl _) (by simp) ?_; (case hd => rfl); (case hg => rfl); (case hr => first | (go_simp; done) | (go_simp; rfl)); (case hp => exact (Reps.one (show Kd.M (Kd.int .i64) _ _ _ 1 [.int .i64 1] from rfl) (Reps.none _ _)))
            intro v5 w5 ho hb hg hat
            obtain ⟨Az, cz, rfl⟩ := Kd.R_slice ho
            have HLK := Aside0.mk (Kd.R_lower ho (below_size HS.out.below))
            have HN := Aside0.mk (HS.out.after (below_of_grown hg))
            clear HS
            have HS := HN
            clear HN
            clear ho hb hg hat
            refine hK.out _ _ HS.out.held (fun hHeld => ?_)
            clear hK K
            refine norm_ (a' := ?_) ?_ ?_
            rotate_left
            · show Act.put _ (some 71) _ = _
              simp only [Act.put, List.setIfInBounds_toArray, List.set_cons_zero, List.set_cons_succ]
              rfl
            refine one_ (i := 4) (N := some 64) #[true, true, true, true, true, false, false, false, false, false, true, true, false, false, false, false] rfl rfl (by kernel_rfl) (by decide) (fun K hK => ?_)
            refine goes_ Tryd.func7 (by kernel_rfl) rfl #[.int .i64 (i : Int), .int .i64 (i : Int)] (by rfl) rfl rfl (by (try simp only [List.map_toArray, List.map_cons, List.map_nil]); first | done | rfl) ?_
            with_reducible refine (panachetop_oakSpan.calls (i : Int) (i : Int) (i : Int) (i : Int) _ rfl).mono ?_
            rintro e w5 ⟨rfl, hb⟩
            refine ⟨_, rfl, ?_⟩
            have HLN := Aside0.mk (Kd.R_below HLK.out hb)
            clear HLK
            have HLK := HLN
            clear HLN
            have HN := Aside0.mk (HS.out.after hb)
            clear HS
            have HS := HN
            clear HN
            clear hb
            refine hK.out _ _ HS.out.held (fun hHeld => ?_)
            clear hK K
            refine norm_ (a' := ?_) ?_ ?_
            rotate_left
            · show Act.put _ (some 64) _ = _
              simp only [Act.put, List.setIfInBounds_toArray, List.set_cons_zero, List.set_cons_succ]
              rfl
            refine one_ (i := 5) (N := some 65) #[true, true, true, true, true, true, false, false, false, false, true, true, false, false, false, false] rfl rfl (by kernel_rfl) (by decide) (fun K hK => ?_)
            refine goes_ Tryd.func7 (by kernel_rfl) rfl #[.int .i64 10, .int .i64 10] (by rfl) rfl rfl (by (try simp only [List.map_toArray, List.map_cons, List.map_nil]); first | done | rfl) ?_
            with_reducible refine (panachetop_oakSpan.calls 10 10 10 10 _ rfl).mono ?_
            rintro e w5 ⟨rfl, hb⟩
            refine ⟨_, rfl, ?_⟩
            have HLN := Aside0.mk (Kd.R_below HLK.out hb)
            clear HLK
            have HLK := HLN
            clear HLN
            have HN := Aside0.mk (HS.out.after hb)
            clear HS
            have HS := HN
            clear HN
            clear hb
            refine hK.out _ _ HS.out.held (fun hHeld => ?_)
            clear hK K
            refine norm_ (a' := ?_) ?_ ?_
            rotate_left
            · show Act.put _ (some 65) _ = _
              simp only [Act.put, List.setIfInBounds_toArray, List.set_cons_zero, List.set_cons_succ]
              rfl
            refine one_ (i := 6) (N := some 66) #[true, true, true, true, true, true, true, false, false, false, true, true, false, false, false, false] rfl rfl (by kernel_rfl) (by decide) (fun K hK => ?_)
            refine goes_ Tryd.func7 (by kernel_rfl) rfl #[.int .i64 20, .int .i64 20] (by rfl) rfl rfl (by (try simp only [List.map_toArray, List.map_cons, List.map_nil]); first | done | rfl) ?_
            with_reducible refine (panachetop_oakSpan.calls 20 20 20 20 _ rfl).mono ?_
            rintro e w5 ⟨rfl, hb⟩
            refine ⟨_, rfl, ?_⟩
            have HLN := Aside0.mk (Kd.R_below HLK.out hb)
            clear HLK
            have HLK := HLN
            clear HLN
            have HN := Aside0.mk (HS.out.after hb)
            clear HS
            have HS := HN
            clear HN
            clear hb
            refine hK.out _ _ HS.out.held (fun hHeld => ?_)
            clear hK K
            refine norm_ (a' := ?_) ?_ ?_
            rotate_left
            · show Act.put _ (some 66) _ = _
              simp only [Act.put, List.setIfInBounds_toArray, List.set_cons_zero, List.set_cons_succ]
              rfl
            refine pure_ (i := 7) (N := some 67) (v := ?_) (a' := ?_) #[true, true, true, true, true, true, true, true, false, false, true, true, false, false, false, false] rfl rfl (by kernel_rfl) (fun _ _ _ h => h) (Or.inl ⟨by rfl, ?_⟩) ?_ ?_
            rotate_left
            · intro w'; go_simp; with_reducible rfl
            rotate_left
            · simp only [Act.put, List.setIfInBounds_toArray, List.set_cons_zero, List.set_cons_succ]; rfl
            refine one_ (i := 8) (N := some 68) #[true, true, true, true, true, true, true, true, true, false, true, true, false, false, false, false] rfl rfl (by kernel_rfl) (by decide) (fun K hK => ?_)
            refine Kd.R_lit_step k35 _ 35 ?hg (N := 68) ?hd (xs := [(⟨⟨(i : Int), (i : Int)⟩, ⟨10, 10⟩, ⟨20, 20⟩⟩ : S35)]) (inner := [.int .i64 (i : Int), .int .i64 (i : Int), .int .i64 10, .int .i64 10, .int .i64 20, .int .i64 20]) (ok := fun _ => True) (okp := fun _ => True) ?hr ?hp (fun _ hk => hk) trivial (Below.refl _ _) (Nat.le_refl _) (by simp) ?_; (case hd => rfl); (case hg => rfl); (case hr => first | (go_simp; done) | (go_simp; rfl)); (case hp => exact (Reps.c6 (show Kd.M k35 _ _ _ (⟨⟨(i : Int), (i : Int)⟩, ⟨10, 10⟩, ⟨20, 20⟩⟩ : S35) [.int .i64 (i : Int), .int .i64 (i : Int), .int .i64 10, .int .i64 10, .int .i64 20, .int .i64 20] from k35_mkM _ _ _ _) (Reps.none _ _)))
            intro v5 w5 ho hb hg hat
            obtain ⟨Aq, cq, rfl⟩ := Kd.R_slice ho
            have HL := Aside0.mk (Kd.R_lower ho (below_size HS.out.below))
            have HLN := Aside0.mk (Kd.R_below HLK.out (below_of_grown hg))
            clear HLK
            have HLK := HLN
            clear HLN
            have HN := Aside0.mk (HS.out.after (below_of_grown hg))
            clear HS
            have HS := HN
            clear HN
            clear ho hb hg hat
            refine hK.out _ _ HS.out.held (fun hHeld => ?_)
            clear hK K
            refine norm_ (a' := ?_) ?_ ?_
            rotate_left
            · show Act.put _ (some 68) _ = _
              simp only [Act.put, List.setIfInBounds_toArray, List.set_cons_zero, List.set_cons_succ]
              rfl
            refine one_ (i := 9) (N := some 69) #[true, true, true, true, true, true, true, true, true, true, true, true, false, false, false, false] rfl rfl (by kernel_rfl) (by decide) (fun K hK => ?_)
            refine Kd.R_append_rows_step k35 (w0 := W) W.heap.size (by rfl) (.tmp 61) (.tmp 68) 27 35 (.agg #[.int .i64 0, .int .i64 0, .int .i64 0, .int .i64 0, .int .i64 0, .int .i64 0]) 48 rfl Tryd.underlying27 info_crack rfl (by decide) (by omega) vc (crUp seen i) [(⟨⟨(i : Int), (i : Int)⟩, ⟨10, 10⟩, ⟨20, 20⟩⟩ : S35)] _ _ _ (fun _ => True) (fun _ => False) rfl rfl ?aO ?aR (fun _ _ h => h) (fun _ h => h.elim) ?aF ?aB ?aS ?aL ?_
            (case aR => exact (Kd.R_reads' HL.out).2.2)
            (case aB => exact HS.out.below)
            (case aF => exact fun _ _ => trivial)
            (case aO => exact HS.out.hc)
            (case aS => exact below_size HS.out.below)
            (case aL => have := crUp_length seen i; simp; omega)
            intro v6 w6 ho hb hg hat
            rw [HLC1.out] at ho
            obtain ⟨Ac, cc, rfl⟩ := Kd.R_slice ho
            have HLN := Aside0.mk (Kd.R_over' HLK.out (Kd.R_typed HS.out.hc) (by decide) hg)
            clear HLK
            have HLK := HLN
            clear HLN
            have HN := Aside0.mk (HS.out.appC ho hb hg)
            clear HS
            have HS := HN
            clear HN
            clear ho hb hg hat HL
            refine hK.out _ _ HS.out.held (fun hHeld => ?_)
            clear hK K
            refine norm_ (a' := ?_) ?_ ?_
            rotate_left
            · show Act.put _ (some 69) _ = _
              simp only [Act.put, List.setIfInBounds_toArray, List.set_cons_zero, List.set_cons_succ]
              rfl
            refine pure_ (i := 13) (N := some 73) (v := ?_) (a' := ?_) #[true, true, true, true, true, true, true, true, true, true, true, true, false, true, false, false] rfl rfl (by kernel_rfl) (fun _ _ _ h => h) (Or.inl ⟨by rfl, ?_⟩) ?_ ?_
            rotate_left
            · intro w'; go_simp; with_reducible rfl
            rotate_left
            · simp only [Act.put, List.setIfInBounds_toArray, List.set_cons_zero, List.set_cons_succ]; rfl
            exact norm_ (by first | (simp only [putAll, Act.put, List.setIfInBounds_toArray, List.set_cons_zero, List.set_cons_succ]; done) | (simp only [putAll, Act.put, List.setIfInBounds_toArray, List.set_cons_zero, List.set_cons_succ]; rfl)) (hJ (.slice Aq [(⟨⟨(i : Int), (i : Int)⟩, ⟨10, 10⟩, ⟨20, 20⟩⟩ : S35)].length cq, .slice Ac lc1.length cc, .slice Az [(1 : Int)].length cz) _ ⟨HS, HLK, ⟨_, _, rfl⟩, ⟨_, _, rfl⟩⟩)
        rintro ⟨s68, s69, s71⟩ w5 ⟨HS, HLK, ⟨Ac, cc, e69⟩, ⟨Az, cz, e71⟩⟩
        have e69 : s69 = _ := e69
        have e71 : s71 = _ := e71
        subst e69 e71
        have HS : Aside0 (LawS W w5 g (.slice Ab (spanUp 0 (i + 1)).length cb) (.slice At (spanUp 30 (i + 1)).length ct) vc (.slice Ab (spanUp 0 (i + 1)).length cb) (.slice At (spanUp 30 (i + 1)).length ct) (.slice Ac lc1.length cc) u7 u8 (spanUp 0 (i + 1)) (spanUp 30 (i + 1)) lc1 (opUp seen i) (coUp seen i)) := HS
        have HLK : Aside0 (Kd.R (Kd.int .i64) 3 w5 W.heap.size (fun _ => True) (.slice Az [(1 : Int)].length cz) [1]) := HLK
        have hHeld := HS.out.held
        refine norm_ (a' := ?_) ?_ ?_
        rotate_left
        · simp only [putAll, Act.put, List.setIfInBounds_toArray, List.set_cons_zero, List.set_cons_succ]
          rfl
        refine one_ (i := 12) (N := some 72) #[true, true, true, true, true, true, true, true, true, true, true, true, true, true, false, false] rfl rfl (by kernel_rfl) (by decide) (fun K hK => ?_)
        refine Kd.R_append_rows_step (Kd.int .i64) (w0 := W) W.heap.size (by rfl) (.tmp 70) (.tmp 71) 30 3 (.int .i64 0) 8 rfl Tryd.underlying30 info_int rfl (by decide) (by omega) u8 (coUp seen i) [1] _ _ _ (fun k => some k ≠ u7.ownBlock) (fun _ => False) rfl rfl ?aO ?aR (fun _ _ h => h) (fun _ h => h.elim) ?aF ?aB ?aS ?aL ?_
        (case aR => exact (Kd.R_reads' HLK.out).2.2)
        (case aB => exact HS.out.below)
        (case aF => exact fun k hk => Kd.fresh' (Kd.R_lt HS.out.ho) k hk)
        (case aO => exact HS.out.hk)
        (case aS => exact below_size HS.out.below)
        (case aL => have := coUp_length seen i; simp; omega)
        intro v6 w6 ho hb hg hat
        rw [HLK1.out] at ho
        obtain ⟨Ak, ck, rfl⟩ := Kd.R_slice ho
        have HN := Aside0.mk (HS.out.appK ho hb hg hat)
        clear HS
        have HS := HN
        clear HN
        clear ho hb hg hat HLK
        refine hK.out _ _ HS.out.held (fun hHeld => ?_)
        clear hK K
        refine norm_ (a' := ?_) ?_ ?_
        rotate_left
        · show Act.put _ (some 72) _ = _
          simp only [Act.put, List.setIfInBounds_toArray, List.set_cons_zero, List.set_cons_succ]
          rfl
        refine last_ (i := 14) (N := none) #[true, true, true, true, true, true, true, true, true, true, true, true, true, true, true, false] rfl rfl (by kernel_rfl) (by decide) (fun K hK => ?_)
        have s0 := HS.out.held.2.2.2
        have f0 := blk_frozen HS.out.blk 3
        refine skip_ (w1 := ?_) (by rfl) rfl ?_ ?_
        rotate_left
        · go_simp; rfl
        refine hK.out _ _ ?_
        clear hK K
        have HN := Aside0.mk (HS.out.put 3 (.slice Ac lc1.length cc) rfl)
        clear HS
        have HS := HN
        clear HN
        clear s0 f0 hHeld
        generalize w6.setCell ⟨g, 3, none⟩ (.slice Ac lc1.length cc) = we at HS ⊢
        refine pure_ (i := 15) (N := some 8) (v := ?_) (a' := ?_) #[true, true, true, true, true, true, true, true, true, true, true, true, true, true, true, true] rfl rfl (by kernel_rfl) (fun _ _ _ h => h) (Or.inl ⟨by rfl, ?_⟩) ?_ ?_
        rotate_left
        · intro w'; go_simp; with_reducible rfl
        rotate_left
        · simp only [Act.put, List.setIfInBounds_toArray, List.set_cons_zero, List.set_cons_succ]; rfl
        refine done_ (by kernel_rfl) ?_
        go_wp2
        go_roundg (n - (i + 1))
        case measure => omega
        case rel => exact ⟨i + 1, hlt, Nat.le_refl _, by go_num, _, _, _, ⟨by rw [hlc1, hlk1, HO1.out]; exact HS.out⟩⟩
      · have c1 : (bt seen (i : Int) == 63) = false := beq_eq_false_iff_ne.mpr c
        have HC1 : Aside0 (crUp seen (i + 1) = crUp seen i) := ⟨if_neg c⟩
        have HO1 : Aside0 (opUp seen (i + 1) = opUp seen i ++ [(i : Int)]) := ⟨if_neg c⟩
        have HK1 : Aside0 (coUp seen (i + 1) = coUp seen i) := ⟨if_neg c⟩
        clear c
        go_wp2_with (at_builtin; refine Kd.R_append (Kd.int .i64) (w0 := W) W.heap.size rfl (.tmp 74) (.tmp 76) 30 3 (.int .i64 0) 8 rfl Tryd.underlying30 info_int rfl (by decide) (by omega) u7 (opUp seen i) (i : Int) [.int .i64 (i : Int)] (fun k => some k ≠ u8.ownBlock) (fun _ => False) rfl rfl rfl (fun _ hk => hk.elim) (fun k hk => Kd.fresh' (Kd.R_lt HS.out.hk) k hk) HS.out.ho HS.out.below (below_size HS.out.below) (by have := opUp_length seen i; omega) ?_; intro v7 w7 ho hb hg5 hat; have HN2 := Aside0.mk (HS.out.appO ho hb hg5 hat); clear ho hb hg5 hat)
        go_roundg (n - (i + 1))
        case measure => omega
        case rel => exact ⟨i + 1, hlt, Nat.le_refl _, by go_num, _, _, _, ⟨by rw [HC1.out, HK1.out, HO1.out]; exact HN2.out⟩⟩
    · have hltz : ¬ (i : Int) < (n : Int) := by omega
      obtain rfl : i = n := by omega
      obtain ⟨Ab, cb, rfl, lb0, hCb⟩ := Kd.R_reads HS.out.hb
      obtain ⟨At, ct, rfl, lt0, hCt⟩ := Kd.R_reads HS.out.ht
      obtain ⟨Ac, cc, rfl, lc0, hCc⟩ := Kd.R_reads HS.out.hc
      obtain ⟨Ao, co, rfl⟩ := Kd.R_slice HS.out.ho
      obtain ⟨Ak, ck, rfl⟩ := Kd.R_slice HS.out.hk
      clear hCb hCt hCc lb0 lt0 lc0
      by_cases hc4 : 4 < (coUp seen i).length
      · have hc4z : (4 : Int) < ((coUp seen i).length : Int) := by omega
        go_wp2_with (go_at_call 8; refine (panachetop_oakKnown04.calls true _ HKN.out (Tabs.below HT.out HS.out.below)).mono ?_; rintro e w5 ⟨rfl, hb5⟩; have HB5 := Aside0.mk hb5; clear hb5)
        go_ret
        exact ⟨rfl, later_below HS.out.below HB5.out⟩
      · have hc4z : ¬ (4 : Int) < ((coUp seen i).length : Int) := by omega
        obtain ⟨hM, hK⟩ : MostOk seen ∧ CostsOk seen := by
          rcases HMC.out with h | h
          · exact absurd (by rw [← HN.out]; exact h) hc4
          · exact h
        have HMO := Aside0.mk hM
        have HCO := Aside0.mk hK
        have hss : seen.size = i := HN.out
        clear hM hK
        subst hss
        go_upto_region 16 with fail
        have b10 := blk_new wr (.cells #[.int .i64 1, .int .i64 30, .int .i64 0, .int .i64 0] 38 (0, 0))
        have hb10 : Below wr.heap.size wr (wr.alloc (.cells #[.int .i64 1, .int .i64 30, .int .i64 0, .int .i64 0] 38 (0, 0))) := below_alloc (Below.refl _ _) _
        generalize wr.alloc (.cells #[.int .i64 1, .int .i64 30, .int .i64 0, .int .i64 0] 38 (0, 0)) = wz at b10 hb10 ⊢
        generalize wr.heap.size = gs at b10 ⊢
        have HSz := Aside0.mk (HS.out.after hb10)
        have BSz := Aside0.mk b10
        clear b10 hb10 HS
        go_cut [11, 12] from 83 to 89 (fun v11 v12 wx => ∃ (Am : Option Addr) (cm : Nat), v11 = .slice Am (opUp seen seen.size).length cm ∧ v12 = .int .i64 0 ∧ Aside0 (LawS W wx g (.slice Ab (spanUp 0 seen.size).length cb) (.slice At (spanUp 30 seen.size).length ct) (.slice Ac (crUp seen seen.size).length cc) (.slice Ab (spanUp 0 seen.size).length cb) (.slice At (spanUp 30 seen.size).length ct) (.slice Ac (crUp seen seen.size).length cc) (.slice Ao (opUp seen seen.size).length co) (.slice Ak (coUp seen seen.size).length ck) (spanUp 0 seen.size) (spanUp 30 seen.size) (crUp seen seen.size) (opUp seen seen.size) (coUp seen seen.size)) ∧ Aside0 (wx.heap[gs]? = some (.cells #[.int .i64 1, .int .i64 30, .int .i64 0, .int .i64 0] 38 (0, 0))) ∧ Aside0 (Kd.R k48 48 wx W.heap.size (fun _ => True) (.slice Am (opUp seen seen.size).length cm) ((opUp seen seen.size).map fun x => (⟨x, 0⟩ : S48))))
        case first =>
          have x0 := HSz.out.held.1
          have x1 := HSz.out.held.2.1
          have x2 := HSz.out.held.2.2.1
          have x3 := HSz.out.held.2.2.2
          have y0 := (blk_cell BSz.out 0).trans rfl
          have y1 := (blk_cell BSz.out 1).trans rfl
          have y2 := (blk_cell BSz.out 2).trans rfl
          have y3 := (blk_cell BSz.out 3).trans rfl
          go_region_with (first
            | (go_at_call 10; refine (oakBlade_copies hsz (Kd.C_drew (R_C HSz.out.hb)) (Kd.R_reads' HSz.out.hb).2.1 (Kd.C_drew (R_C HSz.out.ht)) (Kd.R_reads' HSz.out.ht).2.1 (Kd.C_drew (R_C HSz.out.hc)) (Kd.R_reads' HSz.out.hc).2.1).mono ?_; rintro e w5 ⟨B0, B1, B3, d0, d1, d3, rfl, k0, m0, k1, m1, k3, m3, hb5⟩; have hz5 := below_then (below_drew (Below.refl wz.heap.size wz)) (Nat.le_refl _) hb5; have HS5 := Aside0.mk (HSz.out.after hz5); have BS5 := Aside0.mk (blk_below BSz.out hz5); have K0 := Aside0.mk k0; have K1 := Aside0.mk k1; have K3 := Aside0.mk k3; have M0 := Aside0.mk m0; have M1 := Aside0.mk m1; have M3 := Aside0.mk m3; clear x0 x1 x2 x3 y0 y1 y2 y3 hb5 hz5 k0 k1 k3 m0 m1 m3; have y0 := (blk_cell BS5.out 0).trans rfl; have y1 := (blk_cell BS5.out 1).trans rfl; have y2 := (blk_cell BS5.out 2).trans rfl; have y3 := (blk_cell BS5.out 3).trans rfl)
            | (go_at_call 9; refine (HMO.out w5 B0 B1 B3 d0 d1 d3 K0.out M0.out K1.out M1.out K3.out M3.out).mono ?_; rintro e w6 ⟨vm, rfl, hv, hb6⟩; obtain ⟨Am, cm, e6⟩ := Kd.R_slice hv; rw [List.length_map] at e6; subst e6; have HR := Aside0.mk (Kd.R_lower hv HS5.out.below.size); have HS6 := Aside0.mk (HS5.out.after hb6); have BS6 := Aside0.mk (blk_below BS5.out hb6); clear hv hb6))
          all_goals (go_wp2; go_meet; case rel => exact ⟨_, _, rfl, rfl, HS6, BS6, HR⟩)
        case rest =>
          obtain ⟨Am, cm, rfl, rfl, HSw, BSw, HV⟩ := hcut
          clear HSz BSz
          go_upto_region 17 with fail
          go_cut [13, 14] from 90 to 96 (fun v13 v14 wx => ∃ (Ax : Option Addr) (cx : Nat), v13 = .slice Ax (coUp seen seen.size).length cx ∧ v14 = .int .i64 0 ∧ Aside0 (LawS W wx g (.slice Ab (spanUp 0 seen.size).length cb) (.slice At (spanUp 30 seen.size).length ct) (.slice Ac (crUp seen seen.size).length cc) (.slice Ab (spanUp 0 seen.size).length cb) (.slice At (spanUp 30 seen.size).length ct) (.slice Ac (crUp seen seen.size).length cc) (.slice Ao (opUp seen seen.size).length co) (.slice Ak (coUp seen seen.size).length ck) (spanUp 0 seen.size) (spanUp 30 seen.size) (crUp seen seen.size) (opUp seen seen.size) (coUp seen seen.size)) ∧ Aside0 (Kd.R k48 48 wx W.heap.size (fun _ => True) (.slice Am (opUp seen seen.size).length cm) ((opUp seen seen.size).map fun x => (⟨x, 0⟩ : S48))) ∧ Aside0 (Kd.R (Kd.int .i64) 3 wx W.heap.size (fun _ => True) (.slice Ax (coUp seen seen.size).length cx) (coUp seen seen.size)))
          case first =>
            have x0 := HSw.out.held.1
            have x1 := HSw.out.held.2.1
            have x2 := HSw.out.held.2.2.1
            have x3 := HSw.out.held.2.2.2
            have y0 := (blk_cell BSw.out 0).trans rfl
            have y1 := (blk_cell BSw.out 1).trans rfl
            have y2 := (blk_cell BSw.out 2).trans rfl
            have y3 := (blk_cell BSw.out 3).trans rfl
            go_region_with (first
              | (go_at_call 10; refine (oakBlade_copies hsz (Kd.C_drew (R_C HSw.out.hb)) (Kd.R_reads' HSw.out.hb).2.1 (Kd.C_drew (R_C HSw.out.ht)) (Kd.R_reads' HSw.out.ht).2.1 (Kd.C_drew (R_C HSw.out.hc)) (Kd.R_reads' HSw.out.hc).2.1).mono ?_; rintro e w5 ⟨B0, B1, B3, d0, d1, d3, rfl, k0, m0, k1, m1, k3, m3, hb5⟩; have hz5 := below_then (below_drew (Below.refl wc.heap.size wc)) (Nat.le_refl _) hb5; have HS5 := Aside0.mk (HSw.out.after hz5); have BS5 := Aside0.mk (blk_below BSw.out hz5); have HV5 := Aside0.mk (Kd.R_below HV.out hz5); have K0 := Aside0.mk k0; have K1 := Aside0.mk k1; have K3 := Aside0.mk k3; have M0 := Aside0.mk m0; have M1 := Aside0.mk m1; have M3 := Aside0.mk m3; clear x0 x1 x2 x3 y0 y1 y2 y3 hb5 hz5 k0 k1 k3 m0 m1 m3; have y0 := (blk_cell BS5.out 0).trans rfl; have y1 := (blk_cell BS5.out 1).trans rfl; have y2 := (blk_cell BS5.out 2).trans rfl; have y3 := (blk_cell BS5.out 3).trans rfl)
              | (go_at_call 11; refine (HCO.out w5 B0 B1 B3 d0 d1 d3 K0.out M0.out K1.out M1.out K3.out M3.out).mono ?_; rintro e w6 ⟨vm, rfl, hv, hb6⟩; obtain ⟨Ax, cx, e6⟩ := Kd.R_slice hv; subst e6; have HR := Aside0.mk (Kd.R_lower hv HS5.out.below.size); have HS6 := Aside0.mk (HS5.out.after hb6); have BS6 := Aside0.mk (blk_below BS5.out hb6); have HV6 := Aside0.mk (Kd.R_below HV5.out hb6); clear hv hb6))
            all_goals (go_wp2; go_meet; case rel => exact ⟨_, _, rfl, rfl, HS6, HV6, HR⟩)
          case rest =>
            obtain ⟨Ax, cx, rfl, rfl, HSq, HVq, HRq⟩ := hcut
            go_wp2_with (go_at_call 12; refine (panachetop_oakInts.calls ki Ax cx (coUp seen seen.size) Ak ck (coUp seen seen.size) true _ (R_C HRq.out) (Kd.R_reads' HRq.out).2.1 (R_C HSq.out.hk) (Kd.R_reads' HSq.out.hk).2.1 HIN.out).mono ?_; rintro e w' ⟨rfl, ⟨nd, rfl⟩⟩; have HSd := Aside0.mk (HSq.out.after (pw_below_drewN (Below.refl _ _) nd)); have HVd := Aside0.mk (Kd.R_drewN HVq.out nd))
            clear HSq HVq HRq
            go_loopg [15] (opUp seen seen.size).length (fun gg v15 wr => ∃ j : Nat, j ≤ (opUp seen seen.size).length ∧ (opUp seen seen.size).length - j ≤ gg ∧ v15 = .int .i64 (j : Int) ∧ Aside0 (LawS W wr g (.slice Ab (spanUp 0 seen.size).length cb) (.slice At (spanUp 30 seen.size).length ct) (.slice Ac (crUp seen seen.size).length cc) (.slice Ab (spanUp 0 seen.size).length cb) (.slice At (spanUp 30 seen.size).length ct) (.slice Ac (crUp seen seen.size).length cc) (.slice Ao (opUp seen seen.size).length co) (.slice Ak (coUp seen seen.size).length ck) (spanUp 0 seen.size) (spanUp 30 seen.size) (crUp seen seen.size) (opUp seen seen.size) (coUp seen seen.size)) ∧ Aside0 (Kd.R k48 48 wr W.heap.size (fun _ => True) (.slice Am (opUp seen seen.size).length cm) ((opUp seen seen.size).map fun x => (⟨x, 0⟩ : S48))))
            case atStart => exact ⟨0, Nat.zero_le _, Nat.le_refl _, rfl, HSd, HVd⟩
            case round =>
              clear HSd HVd
              obtain ⟨j, hj, hgj, rfl, HSr, HVr⟩ := hrel
              by_cases hjl : j < (opUp seen seen.size).length
              · have hjz : (j : Int) < ((opUp seen seen.size).length : Int) := by omega
                have hj0 : (0 : Int) ≤ (j : Int) := by omega
                have hbj := opUp_length seen seen.size
                have hC := R_C' HVr.out
                rw [List.length_map] at hC
                obtain ⟨ad, c1, rfl, _, hK, hcell⟩ := Kd.C_get hC z48 (j : Int) (by omega) hjz
                rw [Int.toNat_natCast] at hK hcell
                have e1 := k48_open hK
                subst e1
                have eg : ((opUp seen seen.size).map fun x => (⟨x, 0⟩ : S48)).getD j z48 = ⟨(opUp seen seen.size).getD j 0, 0⟩ := by
                  rw [List.getD_eq_getElem?_getD, List.getD_eq_getElem?_getD, List.getElem?_map, List.getElem?_eq_getElem hjl]
                  rfl
                obtain ⟨ad2, c2, rfl, _, hK2, hcell2⟩ := Kd.C_get (R_C HSr.out.ho) (0 : Int) (j : Int) (by omega) hjz
                rw [Int.toNat_natCast] at hK2 hcell2
                have e2 : c2 = [.int .i64 ((opUp seen seen.size).getD j 0)] := hK2
                subst e2
                rw [eg] at hcell
                generalize (opUp seen seen.size).getD j 0 = x at hcell hcell2
                have hcc : ∀ q u, [Value.int .i64 x, Value.int .i64 0][q]? = some u → wr.cell? (ad.add (j * 2 + q)) = some u := fun q u hu => hcell q u hu
                have s0 : wr.cell? (ad.add (j * 2)) = some (.int .i64 x) := hcc 0 _ rfl
                have s1 : wr.cell? ⟨(ad.add (j * 2)).block, (ad.add (j * 2)).off + 1, none⟩ = some (.int .i64 0) := by rw [← add_field _ _ 1 (by omega)]; exact hcc 1 _ rfl
                have s2 : wr.cell? (ad2.add j) = some (.int .i64 x) := by
                  have h := hcell2 0 _ rfl
                  rw [show j * (Kd.int .i64).sz + 0 = j from by show j * 1 + 0 = j; omega] at h
                  exact h
                clear hK hcell hcc hK2 hcell2 eg hC
                go_upto_region 23 with fail
                go_quiet (fail)
                have HSn := Aside0.mk (HSr.out.after (pw_below_drewN (Below.refl _ _) nq))
                have HVn := Aside0.mk (Kd.R_drewN HVr.out nq)
                go_wp2
                go_roundg ((opUp seen seen.size).length - (j + 1))
                case measure => omega
                case rel => exact ⟨j + 1, hjl, Nat.le_refl _, by go_num, HSn, HVn⟩
              · have hjz : ¬ (j : Int) < ((opUp seen seen.size).length : Int) := by omega
                obtain rfl : j = (opUp seen seen.size).length := by omega
                go_wp2_with (go_at_call 8; refine (panachetop_oakKnown04.calls true _ HKN.out (Tabs.below HT.out HSr.out.below)).mono ?_; rintro e w5 ⟨rfl, hb5⟩; have HB5 := Aside0.mk hb5; clear hb5)
                go_ret
                exact ⟨rfl, later_below HSr.out.below HB5.out⟩
        
end Go.Proofs.YteoifcmafkbklaaDoor.X
end
section
/- What TopOpenColumns asks at one class of its bytes: as a test that the kernel can reckon; and that the test is enough. -/
namespace Go.Proofs.YteoifcmafkbklaaDoor.PureToc
open Go.RowKit Go.Proofs.YteoifcmafkbklaaDoor.X Go.Proofs.YteoifcmafkbklaaDoor.PToo Go.Proofs.YteoifcmafkbklaaDoor.PBen Go.Proofs.YteoifcmafkbklaaDoor.PTob Go.Proofs.YteoifcmafkbklaaDoor.PSur Go.Proofs.YteoifcmafkbklaaDoor.PCon Go.Proofs.YteoifcmafkbklaaDoor.POak Go.Proofs.YteoifcmafkbklaaDoorW.PrintWords

def blOf (s1 s2 : List Int) (s3 : List S67) (x : Nat) : List Int := if x < s1.length then (tooth_view_block.f 40 s1 s2 s3 1 30 0 0 (x : Int)).getD [] else []
def blOk (s1 s2 : List Int) (s3 : List S67) : Bool := (List.range s1.length).all fun x => match tooth_view_block.f 40 s1 s2 s3 1 30 0 0 (x : Int) with
  | some l => decide (l.length ≤ 1000)
  | none => false
theorem blOk_spec {s1 s2 : List Int} {s3 : List S67} (h : blOk s1 s2 s3 = true) : (∀ x, x < s1.length → tooth_view_block.f 40 s1 s2 s3 1 30 0 0 (x : Int) = some (blOf s1 s2 s3 x)) ∧ ∀ x, (blOf s1 s2 s3 x).length ≤ 1000 := by
  unfold blOk at h
  simp only [List.all_eq_true, List.mem_range] at h
  have k : ∀ x, x < s1.length → tooth_view_block.f 40 s1 s2 s3 1 30 0 0 (x : Int) = some (blOf s1 s2 s3 x) ∧ (blOf s1 s2 s3 x).length ≤ 1000 := by
    intro x hx
    have hh := h x hx
    unfold blOf
    rw [if_pos hx]
    generalize tooth_view_block.f 40 s1 s2 s3 1 30 0 0 (x : Int) = o at hh ⊢
    cases o with
    | none => cases hh
    | some l => exact ⟨rfl, of_decide_eq_true hh⟩
  refine ⟨fun x hx => (k x hx).1, fun x => ?_⟩
  by_cases hx : x < s1.length
  · exact (k x hx).2
  · unfold blOf; rw [if_neg hx]; exact Nat.zero_le _
def spOf (s3 : List S67) (i : Nat) : List S67 := (tooth_spoil_17.f 40 [s3.take i, s3.drop (i + 1)]).getD []
def spOk (s3 : List S67) : Bool := (List.range s3.length).all fun i => (tooth_spoil_17.f 40 [s3.take i, s3.drop (i + 1)]).isSome
theorem spOk_spec {s3 : List S67} (h : spOk s3 = true) : ∀ i, i < s3.length → tooth_spoil_17.f 40 [s3.take i, s3.drop (i + 1)] = some (spOf s3 i) := by
  intro i hi
  unfold spOk at h
  simp only [List.all_eq_true, List.mem_range] at h
  have hh := h i hi
  unfold spOf
  generalize tooth_spoil_17.f 40 [s3.take i, s3.drop (i + 1)] = o at hh ⊢
  cases o with
  | none => cases hh
  | some l => rfl
def places (l : List S48) : List (Int × Int) := l.map fun p => (p.f0, p.f1)
theorem places_inj {l : List S48} {o : List Int} (h : places l = o.map fun x => (x, (0 : Int))) : l = o.map fun x => (⟨x, 0⟩ : S48) := by
  have e : l = (places l).map fun q => (⟨q.1, q.2⟩ : S48) := by
    unfold places
    rw [List.map_map]
    conv => lhs; rw [← List.map_id l]
    rfl
  rw [e, h, List.map_map]
  rfl
def goodView (s : ByteArray) (s1 s2 : List Int) (s3 : List S67) : Bool :=
  decide (s1.length ≤ 1000) && (decide (s3.length ≤ 1000) && (blOk s1 s2 s3 && (decide (places (sticksUp (blOf s1 s2 s3) s1.length) = (opUp s s.size).map fun x => (x, (0 : Int))) && (spOk s3 && (((List.range s3.length).all fun i => blOk s1 s2 (spOf s3 i)) && decide (((List.range s3.length).map fun i => ((sticksUp (blOf s1 s2 (spOf s3 i)) s1.length).length : Int) - ((sticksUp (blOf s1 s2 s3) s1.length).length : Int)) = coUp s s.size))))))
def goodMost (s : ByteArray) : Bool :=
  decide (tooth_form.f (spanUp 0 s.size) (spanUp 30 s.size) 0 (crUp s s.size) = some 0) && match tooth_bent.f 40 (spanUp 0 s.size) 0 with
  | some (rb, true) => (match tooth_bent.f 40 (spanUp 30 s.size) 0 with
    | some (rt, true) => (match tooth_blade_sure.f 40 (spanUp 0 s.size) (spanUp 30 s.size) 0 (crUp s s.size) rb rt with
      | some (s1, s2, s3) => goodView s s1 s2 s3
      | none => false)
    | _ => false)
  | _ => false
theorem good_spec {s : ByteArray} (h : goodMost s = true) : MostOk s ∧ CostsOk s := by
  unfold goodMost at h
  rw [Bool.and_eq_true] at h
  obtain ⟨hf, h⟩ := h
  have hf := of_decide_eq_true hf
  split at h
  · rename_i rb hb
    split at h
    · rename_i rt ht
      split at h
      · rename_i s1 s2 s3 hs
        unfold goodView at h
        simp only [Bool.and_eq_true] at h
        obtain ⟨d1, d2, d3, d4, d5, d6, d7⟩ := h
        have k := blOk_spec d3
        have hp := places_inj (of_decide_eq_true d4)
        simp only [List.all_eq_true, List.mem_range] at d6
        have k6 : ∀ i, i < s3.length → blOk s1 s2 (spOf s3 i) = true := d6
        have e1 : tooth_within.f 1 30 [1] = some true := by decide
        have e2 : tooth_within.f 1 300 [30] = some true := by decide
        have e3 : tooth_within.f 0 50 [0, 0] = some true := by decide
        refine ⟨fun W A0 A1 A3 c0 c1 c3 h0 l0 h1 l1 h3 l3 => ?_, fun W A0 A1 A3 c0 c1 c3 h0 l0 h1 l1 h3 l3 => ?_⟩
        · have r := Most_calls (k := 40) (ks := 40) (kb := 40) (wide := 30) (kerf := 0) (bend := 0) (bl := blOf s1 s2 s3) h0 l0 h1 l1 h3 l3 hf hb ht e1 e2 e3 hs (of_decide_eq_true d1) k.1 k.2
          rw [hp] at r
          exact r
        · have r := Costs_calls (k := 40) (ks := 40) (kb := 40) (kc := 40) (wide := 30) (kerf := 0) (bend := 0) (bl := blOf s1 s2 s3) (sp := spOf s3) (blc := fun i => if i < s3.length then blOf s1 s2 (spOf s3 i) else fun _ => []) h0 l0 h1 l1 h3 l3 hf hb ht e1 e2 e3 hs (of_decide_eq_true d1) k.1 k.2 (of_decide_eq_true d2) (spOk_spec d5)
            (fun i hi x hx => by rw [if_pos hi]; exact (blOk_spec (k6 i hi)).1 x hx) (fun i x => by
              by_cases hi : i < s3.length
              · rw [if_pos hi]; exact (blOk_spec (k6 i hi)).2 x
              · rw [if_neg hi]; exact Nat.zero_le _)
          have e : ((List.range s3.length).map fun i => ((sticksUp ((fun i => if i < s3.length then blOf s1 s2 (spOf s3 i) else fun _ => []) i) s1.length).length : Int) - ((sticksUp (blOf s1 s2 s3) s1.length).length : Int)) = coUp s s.size := by
            rw [← of_decide_eq_true d7]
            refine List.map_congr_left fun i hi => ?_
            show ((sticksUp (if i < s3.length then blOf s1 s2 (spOf s3 i) else fun _ => []) s1.length).length : Int) - _ = _
            rw [if_pos (List.mem_range.1 hi)]
          rw [e] at r
          exact r
      · cases h
    · cases h
  · cases h
def tailOk (s : ByteArray) : Bool := (!s.toList.isEmpty) && (decide (s.size ≤ 1000) && (decide (panachetop_oakInts.f 12 (coUp s s.size) (coUp s s.size) = some true) && (decide (4 < (coUp s s.size).length) || goodMost s)))
theorem tailOk_spec {s : ByteArray} (h : tailOk s = true) : s.toList.isEmpty = false ∧ s.size ≤ 1000 ∧ panachetop_oakInts.f 12 (coUp s s.size) (coUp s s.size) = some true ∧ (4 < (coUp s s.size).length ∨ (MostOk s ∧ CostsOk s)) := by
  unfold tailOk at h
  rw [Bool.and_eq_true, Bool.and_eq_true, Bool.and_eq_true, Bool.or_eq_true] at h
  obtain ⟨q1, q2, q3, q4⟩ := h
  refine ⟨by simpa using q1, of_decide_eq_true q2, of_decide_eq_true q3, ?_⟩
  rcases q4 with q | q
  · exact .inl (of_decide_eq_true q)
  · exact .inr (good_spec q)
def goodOf (n : Nat) (a b : Option ByteArray) (c : ByteArray → ByteArray → Option ByteArray) : Bool := match a with
  | some row => (match b with
    | some bars => decide (0 < bars.size) && (decide (bars.size = n) && (match c row bars with
      | some s => tailOk s
      | none => false))
    | none => false)
  | none => false
theorem goodOf_spec {n : Nat} {a b : Option ByteArray} {c : ByteArray → ByteArray → Option ByteArray} (h : goodOf n a b c = true) : ∃ row bars s, a = some row ∧ b = some bars ∧ 0 < bars.size ∧ bars.size = n ∧ c row bars = some s ∧ tailOk s = true := by
  unfold goodOf at h
  cases a with
  | none => cases h
  | some row =>
    cases b with
    | none => cases h
    | some bars =>
      simp only [Bool.and_eq_true] at h
      obtain ⟨g1, g2, g3⟩ := h
      cases hc : c row bars with
      | none => rw [hc] at g3; cases g3
      | some s => rw [hc] at g3; exact ⟨row, bars, s, rfl, rfl, of_decide_eq_true g1, of_decide_eq_true g2, hc, g3⟩
/-- One class: the row's width, the bars' bits, how many bars, the shift. -/
def good (x0 x1 x2 x3 : Nat) : Bool := goodOf (x2 + 1) (panachetop_oakCells.f 12 [] (x0 : Int)) (panachetop_oakBars.f 12 (x1 : Int) (x2 : Int)) (fun row bars => panachetop_oakShow.f row bars (x3 : Int))
end Go.Proofs.YteoifcmafkbklaaDoor.PureToc
end
section
/- What TopOpenColumns asks holds at all classes of its four bytes: reckoned by the kernel. -/
namespace Go.Proofs.YteoifcmafkbklaaDoor.PureToc
open Go.RowKit Go.Proofs.YteoifcmafkbklaaDoor.X Go.Proofs.YteoifcmafkbklaaDoor.POak

set_option maxRecDepth 100000
theorem known : panachetop_oakKnown04.f = some true := by decide +kernel
def barsEq (m x : Nat) : Bool := decide ((panachetop_oakBars.f 12 (x : Int) (m : Int)).map ByteArray.data = (panachetop_oakBars.f 12 ((2 * (x / 2 % 2 ^ m) : Nat) : Int) (m : Int)).map ByteArray.data)
theorem bars16 : ((List.range 4).all fun m => (List.range 256).all fun x => barsEq m x) = true := by decide +kernel
theorem all0 : ((List.range 4).all fun x0 => (List.range 4).all fun x2 => (List.range (2 ^ x2)).all fun y => (List.range (x2 + 1)).all fun x3 => good x0 (2 * y) x2 x3) = true := by decide +kernel
theorem all1 : ((List.range 4).all fun x0 => (List.range 4).all fun x2 => (List.range (2 ^ x2)).all fun y => (List.range (x2 + 1)).all fun x3 => good (4 + x0) (2 * y) x2 x3) = true := by decide +kernel
end Go.Proofs.YteoifcmafkbklaaDoor.PureToc
end
section
/- The plain law of TopOpenColumns: whatever the four bytes are, what the law asks holds: it hangs on the bytes' rests alone. -/
namespace Go.Proofs.YteoifcmafkbklaaDoor.PureToc
open Go.RowKit Go.Proofs.YteoifcmafkbklaaDoor.X Go.Proofs.YteoifcmafkbklaaDoor.POak Go.Proofs.YteoifcmafkbklaaDoorW.PrintWords

theorem cells_same {a b : Int} (h : Int.tmod (wrap64 a) 8 = Int.tmod (wrap64 b) 8) : ∀ (k : Nat) (s : ByteArray) (j : Int), panachetop_oakCells.l0 k [] a s j = panachetop_oakCells.l0 k [] b s j := by
  intro k
  induction k with
  | zero => intro s j; rfl
  | succ k ih =>
    intro s j
    unfold panachetop_oakCells.l0
    rw [h]
    simp only [ih]
theorem bars_same {x a b : Int} (h : Int.tmod (wrap64 a) 4 = Int.tmod (wrap64 b) 4) : ∀ (k : Nat) (s : ByteArray) (j : Int), panachetop_oakBars.l0 k x a s j = panachetop_oakBars.l0 k x b s j := by
  intro k
  induction k with
  | zero => intro s j; rfl
  | succ k ih =>
    intro s j
    unfold panachetop_oakBars.l0
    rw [h]
    simp only [ih]
theorem rest (n : Nat) (m : Nat) (hn : n < 256) (_hm : 0 < m) : Int.tmod (wrap64 (n : Int)) (m : Int) = ((n % m : Nat) : Int) := by
  rw [wrap_id (by omega) (by omega), Int.tmod_eq_emod_of_nonneg (by omega), Int.natCast_emod]
theorem data_inj {a b : Option ByteArray} (h : a.map ByteArray.data = b.map ByteArray.data) : a = b := by
  cases a with
  | none => cases b with
    | none => rfl
    | some y => cases h
  | some x => cases b with
    | none => cases h
    | some y =>
      obtain ⟨x⟩ := x
      obtain ⟨y⟩ := y
      have e : x = y := Option.some.inj h
      rw [e]
theorem all4 {p : Nat → Nat → Nat → Nat → Bool} (h : ((List.range 4).all fun x0 => (List.range 4).all fun x2 => (List.range (2 ^ x2)).all fun y => (List.range (x2 + 1)).all fun x3 => p x0 x2 y x3) = true)
    {x0 x2 y x3 : Nat} (h0 : x0 < 4) (h2 : x2 < 4) (h1 : y < 2 ^ x2) (h3 : x3 < x2 + 1) : p x0 x2 y x3 = true := by
  simp only [List.all_eq_true, List.mem_range] at h
  exact h x0 h0 x2 h2 y h1 x3 h3
theorem good_of {x0 x2 y x3 : Nat} (h0 : x0 < 8) (h2 : x2 < 4) (h1 : y < 2 ^ x2) (h3 : x3 < x2 + 1) : good x0 (2 * y) x2 x3 = true := by
  by_cases h : x0 < 4
  · exact all4 (p := fun x0 x2 y x3 => good x0 (2 * y) x2 x3) all0 h h2 h1 h3
  · have := all4 (p := fun x0 x2 y x3 => good (4 + x0) (2 * y) x2 x3) all1 (x0 := x0 - 4) (by omega) h2 h1 h3
    have e : 4 + (x0 - 4) = x0 := by omega
    simp only [e] at this
    exact this
theorem all2 {p : Nat → Nat → Bool} (h : ((List.range 4).all fun m => (List.range 256).all fun x => p m x) = true) {m x : Nat} (hm : m < 4) (hx : x < 256) : p m x = true := by
  simp only [List.all_eq_true, List.mem_range] at h
  exact h m hm x hx
theorem bars_of {x m : Nat} (hx : x < 256) (hm : m < 4) : panachetop_oakBars.f 12 (x : Int) (m : Int) = panachetop_oakBars.f 12 ((2 * (x / 2 % 2 ^ m) : Nat) : Int) (m : Int) := by
  have h := all2 bars16 hm hx
  unfold barsEq at h
  exact data_inj (of_decide_eq_true h)
def Asked (k n0 n1 n2 n3 : Nat) : Prop := ∃ row bars seen : ByteArray, panachetop_oakCells.f k [] (n0 : Int) = some row ∧ panachetop_oakBars.f k (n1 : Int) (n2 : Int) = some bars ∧ 0 < bars.size ∧ bars.size ≤ 1000 ∧ panachetop_oakShow.f row bars (Int.tmod (wrap64 (n3 : Int)) (bars.size : Int)) = some seen ∧ tailOk seen = true
theorem asked_of (k n0 n1 n2 n3 x1 : Nat) (h3 : n3 < 256) {m0 m2 : Nat} (hm2 : m2 < 4) (e0 : panachetop_oakCells.f k [] (n0 : Int) = panachetop_oakCells.f k [] (m0 : Int)) (e1 : panachetop_oakBars.f k (n1 : Int) (n2 : Int) = panachetop_oakBars.f k (x1 : Int) (m2 : Int))
    (hg : goodOf (m2 + 1) (panachetop_oakCells.f k [] (m0 : Int)) (panachetop_oakBars.f k (x1 : Int) (m2 : Int)) (fun row bars => panachetop_oakShow.f row bars ((n3 % (m2 + 1) : Nat) : Int)) = true) : Asked k n0 n1 n2 n3 := by
  obtain ⟨row, bars, s, h0, h1, hp, hs, hc, ht⟩ := goodOf_spec hg
  refine ⟨row, bars, s, e0.trans h0, e1.trans h1, hp, by omega, ?_, ht⟩
  rw [rest n3 bars.size h3 hp, hs]
  exact hc
theorem good_asked {n0 n1 n2 n3 x1 m0 m2 : Nat} (h3 : n3 < 256) (hm2 : m2 < 4) (e0 : panachetop_oakCells.f 12 [] (n0 : Int) = panachetop_oakCells.f 12 [] (m0 : Int)) (e1 : panachetop_oakBars.f 12 (n1 : Int) (n2 : Int) = panachetop_oakBars.f 12 (x1 : Int) (m2 : Int)) (hg : good m0 x1 m2 (n3 % (m2 + 1)) = true) : Asked 12 n0 n1 n2 n3 := by
  unfold good at hg
  exact asked_of 12 n0 n1 n2 n3 x1 h3 hm2 e0 e1 hg
theorem pure (n0 n1 n2 n3 : Nat) (h0 : n0 < 256) (h1 : n1 < 256) (h2 : n2 < 256) (h3 : n3 < 256) : Asked 12 n0 n1 n2 n3 := by
  have hm2 : n2 % 4 < 4 := Nat.mod_lt _ (by decide)
  refine good_asked (x1 := 2 * (n1 / 2 % 2 ^ (n2 % 4))) h3 (m0 := n0 % 8) hm2 ?_ ?_ (good_of (Nat.mod_lt _ (by decide)) hm2 (Nat.mod_lt _ (Nat.two_pow_pos _)) (Nat.mod_lt _ (Nat.succ_pos _)))
  · refine cells_same ?_ 12 _ _
    rw [show (8 : Int) = ((8 : Nat) : Int) from rfl, rest n0 8 h0 (by decide), rest (n0 % 8) 8 (by omega) (by decide), Nat.mod_mod]
  · refine (bars_same (b := ((n2 % 4 : Nat) : Int)) ?_ 12 _ _).trans (bars_of h1 hm2)
    rw [show (4 : Int) = ((4 : Nat) : Int) from rfl, rest n2 4 h2 (by decide), rest (n2 % 4) 4 (by omega) (by decide), Nat.mod_mod]
end Go.Proofs.YteoifcmafkbklaaDoor.PureToc
end
section
/- The row of TopOpenColumns: for every four bytes, with the two tables of package unicode/utf8 as its text lays them, the law returns true and its argument reads as before. -/
namespace Go.Proofs.YteoifcmafkbklaaDoor.topOpenColumns
open Go.Shelf Go.ChangeShapes Go.WideShapes Go.ChangeAt Go.RowKit Go.Lib
open Go.Proofs.YteoifcmafkbklaaDoor.X Go.Proofs.YteoifcmafkbklaaDoor.PureToc

theorem own : ownKnob Tryd.prog.godebug = none := by kernel_rfl
theorem laidOut : laidOutB Tryd.prog = true := by kernel_rfl
theorem list4 : ∀ (l : List Value), l.length = 4 → ∃ a b c d, l = [a, b, c, d]
  | [a, b, c, d], _ => ⟨a, b, c, d, rfl⟩

/-- The witness: the settled world, the two variables holding what their initialisers lay. -/
noncomputable def laidWorld (os : Os) : World :=
  let w0 := World.holding Tryd.prog os ⟨#[], #[], []⟩
  let put (h : Array Obj) (g : Nat) (cs : Array Value) : Array Obj := h.modify g fun
    | .cells _ t frozen => .cells cs t frozen
    | o => o
  let h1 := put w0.heap 0 (Lib.firstTab.map fun z => Value.int .u8 z).toArray
  let h2 := put h1 1 ((List.range 16).flatMap fun i => [Value.int .u8 (Lib.accLo i), Value.int .u8 (Lib.accHi i)]).toArray
  { w0 with heap := h2 }
theorem laid_met (os : Os) (args : Array Value) : laidMet Tryd.prog Rows.topOpenColumnsRow.laid ((laidWorld os).forCall (fun _ _ => 0) ⟨#[], args, []⟩).memory :=
  (LaidIn.of_run (l := Rows.topOpenColumnsRow.laid) [0, 1] 8 (by kernel_rfl) (by kernel_rfl) (by kernel_rfl) (by kernel_rfl)).met

theorem first_eq : (Rows.laid_unicode_utf8_first : DataW Unit) = Lib.firstData := by kernel_rfl
theorem accept_eq : (Rows.laid_unicode_utf8_acceptRanges : DataW Unit) = Lib.acceptData := by kernel_rfl
theorem reads_first {W : World} (hL : laidMet Tryd.prog Rows.topOpenColumnsRow.laid W) : VarReads Tryd.prog W "unicode/utf8.first" Lib.firstData := by
  rw [← first_eq]
  exact Lib.laidMet.reads hL (.tail _ (.head _))
theorem reads_accept {W : World} (hL : laidMet Tryd.prog Rows.topOpenColumnsRow.laid W) : VarReads Tryd.prog W "unicode/utf8.acceptRanges" Lib.acceptData := by
  rw [← accept_eq]
  exact Lib.laidMet.reads hL (.head _)

abbrev spec : OpenSpec := OpenSpec.ofChange Rows.topOpenColumnsSpec
theorem witness_row (os : Os) {H : Type} (enc : TypeId × Value → H) :
    spec.preRow enc Tryd.prog Tryd.f3 Rows.topOpenColumnsRow.domain false Rows.topOpenColumnsRow.laid ((laidWorld os).forCall (fun _ _ => 0) ⟨#[], #[.agg #[.int .u8 0, .int .u8 0, .int .u8 0, .int .u8 0]], []⟩).memory #[.agg #[.int .u8 0, .int .u8 0, .int .u8 0, .int .u8 0]] := by
  have hw : (DataW.whole enc Tryd.prog ((laidWorld os).forCall (fun _ _ => 0) ⟨#[], #[.agg #[.int .u8 0, .int .u8 0, .int .u8 0, .int .u8 0]], []⟩).memory Tryd.f3.params.toList spec.vars false #[Value.agg #[.int .u8 0, .int .u8 0, .int .u8 0, .int .u8 0]].toList 8).map (fun x => (x.1, x.2.1)) =
      some ([.agg [.lit (.int .u8 0), .lit (.int .u8 0), .lit (.int .u8 0), .lit (.int .u8 0)]], []) := by kernel_rfl
  obtain ⟨⟨x1, x2, x3⟩, hx, hx1⟩ := Option.map_eq_some_iff.1 hw
  simp only [Prod.mk.injEq] at hx1
  obtain ⟨rfl, rfl⟩ := hx1
  exact OpenSpec.preRow_of_cond 8 hx (by kernel_rfl) (fun k hk => by cases hk) (by kernel_rfl) (laid_met os _)

set_option maxRecDepth 100000 in
set_option maxHeartbeats 2000000 in
theorem lifted (os : Os) (started : os.Started) (H : Type) (enc : TypeId × Value → H) (F : Stop.Interp) :
    ReturnsInHanded {} Tryd.checked os 3 .any (spec.preRow enc Tryd.prog Tryd.f3 Rows.topOpenColumnsRow.domain false Rows.topOpenColumnsRow.laid) ((spec.at F).post enc Tryd.prog Tryd.f3 false true false false) := by
  refine returnsInHanded_of_row (C := Tryd.checked) (s := spec) own started (by kernel_rfl) Tryd.func3
    (witness_row_atRef (enc := enc) (C := Tryd.checked) false (laidWorld os) #[.agg #[.int .u8 0, .int .u8 0, .int .u8 0, .int .u8 0]] rfl (by kernel_rfl) (by kernel_rfl) (by kernel_rfl) (witness_row os enc)) ?_
  intro W base args ds gs before hval0 hW _ _ _ hL _ _
  have hval : ∀ (j : Nat) t v, Tryd.f3.params[j]? = some t → args[j]? = some v → Value.okWide Tryd.prog W .any base t v := hval0
  have hW' := hW
  obtain ⟨p, q, hA0, hV0, rfl, _, _⟩ := hW
  have hA : DataW.TrodAll enc Tryd.prog W 0 (fun _ => true) true Tryd.f3.params.toList args.toList ds p := hA0
  rw [Tryd.params3] at hA hval
  obtain ⟨v0, d0, rfl, rfl, h0⟩ := trodAll_one hA
  obtain ⟨rfl, rfl⟩ := trodVars_none hV0
  obtain ⟨cs, rfl, hsz, _⟩ : ∃ cs, v0 = .agg cs ∧ cs.size = Tryd.prog.cellsOf 22 ∧ Row.okWide Tryd.prog W .any base 22 cs := by
    have := hval 0 22 v0 rfl rfl
    simpa [Value.okWide, Tryd.underlying22] using this
  rw [show Tryd.prog.cellsOf 22 = 4 from by kernel_rfl] at hsz
  obtain ⟨l⟩ := cs
  obtain ⟨c0, c1, c2, c3, rfl⟩ := list4 l hsz
  have h0k := h0
  obtain ⟨fuel, hf⟩ := h0
  obtain ⟨y0, y1, y2, y3, m, hx, hy0, hy1, hy2, hy3⟩ := trod_array4 Tryd.underlying22 (show Tryd.prog.cellsOf 5 = 1 from by kernel_rfl) hf
  obtain ⟨x0, e0, rfl, w0⟩ := DataW.trod_int Tryd.underlying5 hy0
  obtain ⟨x1, e1, rfl, w1⟩ := DataW.trod_int Tryd.underlying5 hy1
  obtain ⟨x2, e2, rfl, w2⟩ := DataW.trod_int Tryd.underlying5 hy2
  obtain ⟨x3, e3, rfl, w3⟩ := DataW.trod_int Tryd.underlying5 hy3
  simp at e0 e1 e2 e3
  subst e0 e1 e2 e3
  simp only [Prod.mk.injEq] at hx
  obtain ⟨rfl, rfl⟩ := hx
  clear hA0 hV0 hval0
  simp only [List.append_nil] at hW' h0k
  have htab : Tabs W :=
    utf8Tabs_of_reads (ρ := Tryd.lays260_ren) Tryd.lays260 ⟨by kernel_rfl, by kernel_rfl, by kernel_rfl, by kernel_rfl, by kernel_rfl, by kernel_rfl, by kernel_rfl⟩
      (reads_first hL) (reads_accept hL)
  have k0 := bounds_u8 w0
  have k1 := bounds_u8 w1
  have k2 := bounds_u8 w2
  have k3 := bounds_u8 w3
  obtain ⟨n0, rfl⟩ := Int.eq_ofNat_of_zero_le k0.1
  obtain ⟨n1, rfl⟩ := Int.eq_ofNat_of_zero_le k1.1
  obtain ⟨n2, rfl⟩ := Int.eq_ofNat_of_zero_le k2.1
  obtain ⟨n3, rfl⟩ := Int.eq_ofNat_of_zero_le k3.1
  obtain ⟨row, bars, seen, q1, q2, q3, q4, q5, q6⟩ := PureToc.pure n0 n1 n2 n3 (by omega) (by omega) (by omega) (by omega)
  obtain ⟨t1, t2, t3, t4⟩ := PureToc.tailOk_spec q6
  refine (law_calls (kr := 12) (kb := 12) (ki := 12) htab q1 q2 q3 q4 q5 t1 t2 PureToc.known t3 t4).mono ?_
  rintro e W' ⟨rfl, bel⟩
  have e1 : (spec.at F).fn H ([.agg [.lit (.int .u8 n0), .lit (.int .u8 n1), .lit (.int .u8 n2), .lit (.int .u8 n3)]] ++ []) = { results := [.lit (.bool true)], args := [.agg [.lit (.int .u8 n0), .lit (.int .u8 n1), .lit (.int .u8 n2), .lit (.int .u8 n3)]] } := rfl
  refine ⟨_, rfl, _, _, _, [], [], [], hW', ?_, ?_, ?_, bel.frame _, fun h => by cases h⟩
  · rw [e1]; exact trodAll_mk1 (shut_bool Tryd.underlying4 _)
  · rw [e1]; exact trodAll_mk1 (Below.trod laidOut (by kernel_rfl) (of_decide_eq_true (by kernel_rfl)) h0k bel (fun x hx => by cases hx))
  · rw [e1]; rfl

theorem over : Rows.TopOpenColumnsSaid :=
  OpenClaim.holds_of_cond 3 Tryd.f3 rfl rfl rfl rfl rfl rfl rfl ⟨rfl, rfl, rfl, rfl, rfl⟩ rfl rfl rfl rfl rfl (by kernel_rfl) Tryd.func3 (by kernel_rfl)
    (of_decide_eq_true (by kernel_rfl)) (by unfold Func.isWrapper; first | (rw [if_pos (by decide +kernel)]; kernel_rfl) | (rw [if_neg (by decide +kernel)]; exact ⟨rfl, rfl⟩))
    (fun os started H enc _ F0 => by rw [OpenClaim.pre_eq_preRow]; exact lifted os started H enc F0)
end Go.Proofs.YteoifcmafkbklaaDoor.topOpenColumns
end
section
/- TopOpenColumns: the tied card: for every four bytes the law returns true and its argument reads as before; what the two tables of package unicode/utf8 hold is tied to the program's text. -/
namespace Go.Proofs.YteoifcmafkbklaaDoor
open Go

theorem topOpenColumns_card : Rows.TopOpenColumnsCardSaid :=
  Claim7.holds_tied_plain_at .later [] [.data, .pinned] true (true, "2c4299340c0bc505c1c5f04785f4fa5e508e1d688f64181771048c08c375d952") false
    topOpenColumns.over (fun _ h => by cases h) (by kernel_rfl) (fun _ h => by cases h) topOpenColumns_row_tie rfl ⟨rfl, rfl⟩ (by kernel_rfl) rfl
    (fun f fn hf hfn => by
      obtain rfl : f = 3 := Option.some.inj ((show Tryd.prog.funcNamed "panache/panachetop.TopOpenColumns" = some 3 by kernel_rfl).symm.trans hf) |>.symm
      obtain rfl : fn = Tryd.f3 := (Option.some.inj (Tryd.func3.symm.trans hfn)).symm
      exact ⟨by kernel_rfl, fun j t ht => by
        rw [Tryd.params3] at ht
        have h3 : t = 22 := by
          rcases j with _ | j
          · simpa using ht.symm
          · simp at ht
        subst h3
        exact (show Tryd.prog.wantsStandIn 22 = false by kernel_rfl)⟩)
    (by kernel_rfl)
#print axioms topOpenColumns_card
end Go.Proofs.YteoifcmafkbklaaDoor
end
