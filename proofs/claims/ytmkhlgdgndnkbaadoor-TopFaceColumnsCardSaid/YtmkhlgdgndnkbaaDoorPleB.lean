/- Package pleat: Check. -/
import Derived.Test.YtmkhlgdgndnkbaaDoorPPlex
namespace Go.Proofs.YtmkhlgdgndnkbaaDoor.X
open Go.RowKit Go.Proofs.YtmkhlgdgndnkbaaDoorW.PrintWords Go.Proofs.YtmkhlgdgndnkbaaDoorW.PrintLast Go.Proofs.YtmkhlgdgndnkbaaDoorW.PrintMore Go.Proofs.YtmkhlgdgndnkbaaDoor.PPle

def spanB (lo hi least most : Int) : Bool := (decide (least ≤ lo) && decide (lo ≤ most)) && (decide (least ≤ hi) && decide (hi ≤ most)) && decide (lo ≤ hi)
theorem isSpan_f (lo hi least most : Int) : pleat_isSpan.f lo hi least most = some (spanB lo hi least most) := by
  unfold pleat_isSpan.f pleat_within.f spanB
  simp only [Option.bind_some, List.all_cons, List.all_nil, Bool.and_true]
  cases ((decide (least ≤ lo) && decide (lo ≤ most)) && (decide (least ≤ hi) && decide (hi ≤ most))) <;> simp

/-- A face that is none. -/
def faceBad (long : Int) (x : S33) : Bool := !(spanB x.f0.f0 x.f0.f1 0 long) || (!(spanB x.f1.f0 x.f1.f1 0 long) || decide (x.f1.f0 ≤ x.f0.f1))

theorem enters_pcheck1 : ∀ args w, (callFunc 29 args).run Tryd.prog w = .ok (.enter 29 args) w := enters_of Tryd.func29 (by kernel_rfl) rfl
set_option maxHeartbeats 2000000 in
theorem pcheck1_pred {g : Nat} {long : Int} {xs : List S33} {w : World} (h1 : w.cell? ⟨g, 0, none⟩ = some (.int .i64 long)) :
    PredK 29 #[.pointer (some ⟨g, 0, none⟩)] k33 cellN xs (faceBad long) w := by
  intro x _ W cs hb hK
  have e := k33_open hK
  subst e
  simp only [cellN]
  show Calls Tryd.prog 29 #[.agg #[.int .i64 x.f0.f0, .int .i64 x.f0.f1, .int .i64 x.f1.f0, .int .i64 x.f1.f1], .pointer (some ⟨g, 0, none⟩)] W _
  have k0 : W.cell? ⟨g, 0, none⟩ = some (.int .i64 long) := pw_cell_below hb h1
  have k1 : ∀ o, (W.alloc o).cell? ⟨g, 0, none⟩ = some (.int .i64 long) := fun o => keep_cell o k0
  have HS0 := Aside0.mk (isSpan_f x.f0.f0 x.f0.f1 0 long)
  have HS1 := Aside0.mk (isSpan_f x.f1.f0 x.f1.f1 0 long)
  unfold faceBad
  clear hb h1 hK k0
  have step : ∀ {w1 : World}, Below (W.alloc (.cells #[.int .i64 x.f0.f0, .int .i64 x.f0.f1, .int .i64 x.f1.f0, .int .i64 x.f1.f1] 33 (0, 0))).heap.size (W.alloc (.cells #[.int .i64 x.f0.f0, .int .i64 x.f0.f1, .int .i64 x.f1.f0, .int .i64 x.f1.f1] 33 (0, 0))) w1 →
      w1.cell? ⟨g, 0, none⟩ = some (.int .i64 long) ∧ (w1.cell? ⟨W.heap.size, 1, none⟩ = some (.int .i64 x.f0.f1) ∧ w1.cell? ⟨W.heap.size, 2, none⟩ = some (.int .i64 x.f1.f0) ∧ w1.cell? ⟨W.heap.size, 3, none⟩ = some (.int .i64 x.f1.f1)) ∧ Aside0 (Below W.heap.size W w1) := fun hb =>
    ⟨pw_cell_below hb (k1 _), ⟨pw_cell_below hb ((blk_cell (blk_new W _) 1).trans rfl), pw_cell_below hb ((blk_cell (blk_new W _) 2).trans rfl), pw_cell_below hb ((blk_cell (blk_new W _) 3).trans rfl)⟩, ⟨below_then (below_alloc (Below.refl _ _) _) (by simp) hb⟩⟩
  have STEP := Aside0.mk @step
  clear step
  cases q0 : spanB x.f0.f0 x.f0.f1 0 long with
  | false =>
    rw [q0] at HS0
    clear q0
    go_enter Tryd.func29, Tryd.ntmps29
    go_wp2_with (go_at_call 30; with_reducible refine (pleat_isSpan.calls x.f0.f0 x.f0.f1 0 long false _ HS0.out).mono ?_; rintro e w1 ⟨rfl, hb1⟩; obtain ⟨c0, ⟨c1, c2, c3⟩, HB⟩ := STEP.out hb1; clear hb1)
    go_ret
    exact ⟨rfl, HB.out⟩
  | true =>
    rw [q0] at HS0
    clear q0
    cases q1 : spanB x.f1.f0 x.f1.f1 0 long with
    | false =>
      rw [q1] at HS1
      clear q1
      go_enter Tryd.func29, Tryd.ntmps29
      go_wp2_with (first | (go_at_call 30; with_reducible refine (pleat_isSpan.calls x.f0.f0 x.f0.f1 0 long true _ HS0.out).mono ?_; rintro e w1 ⟨rfl, hb1⟩; obtain ⟨c0, ⟨c1, c2, c3⟩, HB⟩ := STEP.out hb1; clear hb1) | (go_at_call 30; with_reducible refine (pleat_isSpan.calls x.f1.f0 x.f1.f1 0 long false _ HS1.out).mono ?_; rintro e w2 ⟨rfl, hb2⟩; have HB2 := Aside0.mk (later_below HB.out hb2); clear hb2))
      go_ret
      exact ⟨rfl, HB2.out⟩
    | true =>
      rw [q1] at HS1
      clear q1
      obtain ⟨q, hq⟩ : ∃ q, decide (x.f1.f0 ≤ x.f0.f1) = q := ⟨_, rfl⟩
      have HQ := Aside0.mk hq
      go_enter Tryd.func29, Tryd.ntmps29
      go_wp2_with (first | (go_at_call 30; with_reducible refine (pleat_isSpan.calls x.f0.f0 x.f0.f1 0 long true _ HS0.out).mono ?_; rintro e w1 ⟨rfl, hb1⟩; obtain ⟨c0, ⟨c1, c2, c3⟩, HB⟩ := STEP.out hb1; clear hb1) | (go_at_call 30; with_reducible refine (pleat_isSpan.calls x.f1.f0 x.f1.f1 0 long true _ HS1.out).mono ?_; rintro e w2 ⟨rfl, hb2⟩; have HB2 := Aside0.mk (later_below HB.out hb2); have d1 := pw_cell_below hb2 c1; have d2 := pw_cell_below hb2 c2; clear hb2))
      go_ret
      exact ⟨by simp [hq], HB2.out⟩

/-- Check. -/
def pcheckF (long : Int) (l : List S33) : Int := if (decide (1 ≤ long) && decide (long ≤ 5000)) = true then if 8 < l.length then 5 else if l.any (faceBad long) = true then 2 else 0 else 3
def pleat_Check.f (a0_0 : Int) (l0_1 : List S33) : Option Int := some (pcheckF a0_0 l0_1)
set_option maxHeartbeats 2000000 in
theorem pleat_Check.calls (a0_0 : Int) (A0_1 : Option Addr) (c0_1 : Nat) (l0_1 : List S33) (r : Int) (w : World) (hr0_1 : Kd.C k33 w A0_1 l0_1.length l0_1) (_hc0_1 : l0_1.length ≤ c0_1) (h : pleat_Check.f a0_0 l0_1 = some r) :
    Calls Tryd.prog 15 #[.agg #[.int .i64 a0_0, .slice A0_1 l0_1.length c0_1]] w fun e w' => e = .returned (.int .i64 r) ∧ Below w.heap.size w w' := by
  obtain rfl := Option.some.inj h
  have HR := Aside0.mk hr0_1
  have hw : pleat_within.f 1 5000 [a0_0] = some (decide (1 ≤ a0_0) && decide (a0_0 ≤ 5000)) := by unfold pleat_within.f; simp
  unfold pcheckF
  clear hr0_1 h
  cases q0 : (decide (1 ≤ a0_0) && decide (a0_0 ≤ 5000)) with
  | false =>
    rw [q0] at hw
    have HW := Aside0.mk hw
    clear hw
    go_enter Tryd.func15, Tryd.ntmps15
    go_wp2_with (go_at_call 10; refine (pleat_within.calls 1 5000 _ _ [a0_0] false _ (C_lit1 _ .i64 _ a0_0 (by simp)) (Nat.le_refl 1) HW.out).mono ?_; rintro e w1 ⟨rfl, hb1⟩; have HB := Aside0.mk (below_then (below_alloc (below_alloc (Below.refl w.heap.size w) _) _) (by simp; omega) hb1); clear hb1)
    go_ret
    exact ⟨rfl, HB.out⟩
  | true =>
    rw [q0] at hw
    have HW := Aside0.mk hw
    clear hw
    have k0 : (w.alloc (.cells #[.int .i64 a0_0, .slice A0_1 l0_1.length c0_1] 25 (0, 0))).cell? ⟨w.heap.size, 0, none⟩ = some (.int .i64 a0_0) := (blk_cell (blk_new w _) 0).trans rfl
    have k1 : (w.alloc (.cells #[.int .i64 a0_0, .slice A0_1 l0_1.length c0_1] 25 (0, 0))).cell? ⟨w.heap.size, 1, none⟩ = some (.slice A0_1 l0_1.length c0_1) := (blk_cell (blk_new w _) 1).trans rfl
    have STEP : Aside0 (∀ {w1 : World} (o : Obj), Below ((w.alloc (.cells #[.int .i64 a0_0, .slice A0_1 l0_1.length c0_1] 25 (0, 0))).alloc o).heap.size ((w.alloc (.cells #[.int .i64 a0_0, .slice A0_1 l0_1.length c0_1] 25 (0, 0))).alloc o) w1 →
        w1.cell? ⟨w.heap.size, 0, none⟩ = some (.int .i64 a0_0) ∧ w1.cell? ⟨w.heap.size, 1, none⟩ = some (.slice A0_1 l0_1.length c0_1) ∧ Aside0 (Below w.heap.size w w1)) := ⟨fun o hb =>
      ⟨pw_cell_below hb (keep_cell o k0), pw_cell_below hb (keep_cell o k1), ⟨below_then (below_alloc (below_alloc (Below.refl _ _) _) _) (by simp; omega) hb⟩⟩⟩
    clear k0 k1
    by_cases c8 : 8 < l0_1.length
    · have d8 : decide ((8 : Int) < (l0_1.length : Int)) = true := decide_eq_true (by omega)
      have d8' : decide (8 < l0_1.length) = true := decide_eq_true c8
      rw [if_pos rfl, if_pos c8]
      clear c8
      go_enter Tryd.func15, Tryd.ntmps15
      go_wp2_with (go_at_call 10; refine (pleat_within.calls 1 5000 _ _ [a0_0] true _ (C_lit1 _ .i64 _ a0_0 (by simp)) (Nat.le_refl 1) HW.out).mono ?_; rintro e w1 ⟨rfl, hb1⟩; obtain ⟨c0, c1, HB⟩ := STEP.out _ hb1; clear hb1)
      go_ret
      exact ⟨rfl, HB.out⟩
    · have d8 : decide ((8 : Int) < (l0_1.length : Int)) = false := decide_eq_false (by omega)
      have d8' : decide (8 < l0_1.length) = false := decide_eq_false c8
      rw [if_pos rfl, if_neg c8]
      clear c8
      obtain ⟨q, hq⟩ : ∃ q, l0_1.any (faceBad a0_0) = q := ⟨_, rfl⟩
      rw [hq]
      have HQ := Aside0.mk hq
      clear hq
      cases q with
      | true =>
        go_enter Tryd.func15, Tryd.ntmps15
        go_wp2_with (first | (go_at_call 10; refine (pleat_within.calls 1 5000 _ _ [a0_0] true _ (C_lit1 _ .i64 _ a0_0 (by simp)) (Nat.le_refl 1) HW.out).mono ?_; rintro e w1 ⟨rfl, hb1⟩; have hR1 := Kd.C_below HR.out ((STEP.out _ hb1).2.2.out); have HR1 := Aside0.mk hR1; clear hR1; obtain ⟨c0, c1, HB⟩ := STEP.out _ hb1; clear hb1) | (go_at_call 31; refine (contains_face (p := faceBad a0_0) enters_pcheck1 HR1.out (pcheck1_pred c0)).mono ?_; rw [HQ.out]; rintro e w2 ⟨rfl, hb2⟩; have HB2 := Aside0.mk (later_below HB.out hb2); clear hb2))
        go_ret
        exact ⟨rfl, HB2.out⟩
      | false =>
        go_enter Tryd.func15, Tryd.ntmps15
        go_wp2_with (first | (go_at_call 10; refine (pleat_within.calls 1 5000 _ _ [a0_0] true _ (C_lit1 _ .i64 _ a0_0 (by simp)) (Nat.le_refl 1) HW.out).mono ?_; rintro e w1 ⟨rfl, hb1⟩; have hR1 := Kd.C_below HR.out ((STEP.out _ hb1).2.2.out); have HR1 := Aside0.mk hR1; clear hR1; obtain ⟨c0, c1, HB⟩ := STEP.out _ hb1; clear hb1) | (go_at_call 31; refine (contains_face (p := faceBad a0_0) enters_pcheck1 HR1.out (pcheck1_pred c0)).mono ?_; rw [HQ.out]; rintro e w2 ⟨rfl, hb2⟩; have HB2 := Aside0.mk (later_below HB.out hb2); clear hb2))
        go_ret
        exact ⟨rfl, HB2.out⟩
end Go.Proofs.YtmkhlgdgndnkbaaDoor.X
