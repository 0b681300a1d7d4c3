/- Package pleat: within. -/
import Derived.Test.YtmkhlgdgndnkbaaDoorLatGen
namespace Go.Proofs.YtmkhlgdgndnkbaaDoor.X
open Go.RowKit Go.Proofs.YtmkhlgdgndnkbaaDoorW.PrintWords Go.Proofs.YtmkhlgdgndnkbaaDoorW.PrintLast Go.Proofs.YtmkhlgdgndnkbaaDoorW.PrintMore

theorem enters_pwithin1 : ∀ args w, (callFunc 18 args).run Tryd.prog w = .ok (.enter 18 args) w := enters_of Tryd.func18 (by kernel_rfl) rfl

def poutside (least most n : Int) : Bool := decide (n < least) || decide (most < n)

theorem pwithin1_pred {g1 g2 : Nat} {least most : Int} {xs : List Int} {w : World} (h1 : w.cell? ⟨g1, 0, none⟩ = some (.int .i64 least)) (h2 : w.cell? ⟨g2, 0, none⟩ = some (.int .i64 most)) :
    PredK 18 #[.pointer (some ⟨g1, 0, none⟩), .pointer (some ⟨g2, 0, none⟩)] (Kd.int .i64) cell1 xs (poutside least most) w := by
  intro x _ W cs hb hK
  have e : cs = [.int .i64 x] := hK
  subst e
  have k1 : W.cell? ⟨g1, 0, none⟩ = some (.int .i64 least) := pw_cell_below hb h1
  have k2 : W.cell? ⟨g2, 0, none⟩ = some (.int .i64 most) := pw_cell_below hb h2
  simp only [cell1, List.getD_cons_zero]
  show Calls Tryd.prog 18 #[.int .i64 x, .pointer (some ⟨g1, 0, none⟩), .pointer (some ⟨g2, 0, none⟩)] W _
  clear hb h1 h2 hK
  by_cases c1 : x < least
  · have d1 : decide (x < least) = true := decide_eq_true c1
    have e1 : poutside least most x = true := by simp [poutside, d1]
    rw [e1]
    clear c1 e1
    go_enter Tryd.func18, Tryd.ntmps18
    go_wp2
    go_ret
    exact ⟨rfl, by first | exact Below.refl _ _ | exact pw_below_drewN (Below.refl _ _) _⟩
  · have d1 : decide (x < least) = false := decide_eq_false c1
    clear c1
    by_cases c2 : most < x
    · have d2 : decide (most < x) = true := decide_eq_true c2
      have e1 : poutside least most x = true := by simp [poutside, d2]
      rw [e1]
      clear c2 e1
      go_enter Tryd.func18, Tryd.ntmps18
      go_wp2
      go_ret
      exact ⟨rfl, by first | exact Below.refl _ _ | exact pw_below_drewN (Below.refl _ _) _⟩
    · have d2 : decide (most < x) = false := decide_eq_false c2
      have e1 : poutside least most x = false := by simp [poutside, d1, d2]
      rw [e1]
      clear c2 e1
      go_enter Tryd.func18, Tryd.ntmps18
      go_wp2
      go_ret
      exact ⟨rfl, by first | exact Below.refl _ _ | exact pw_below_drewN (Below.refl _ _) _⟩

/-- within: all integers lie between two others. -/
def pleat_within.f (a0 a1 : Int) (l2 : List Int) : Option Bool := some (l2.all fun n => decide (a0 ≤ n) && decide (n ≤ a1))
theorem any_poutside (a0 a1 : Int) (l : List Int) : (!(l.any (poutside a0 a1))) = l.all fun n => decide (a0 ≤ n) && decide (n ≤ a1) := by
  induction l with
  | nil => rfl
  | cons x l ih =>
    simp only [List.any_cons, List.all_cons, Bool.not_or, ih]
    congr 1
    simp only [poutside, Bool.not_or]
    by_cases h1 : a0 ≤ x <;> by_cases h2 : x ≤ a1 <;> simp [h1, h2] <;> omega
set_option maxHeartbeats 1000000 in
theorem pleat_within.calls (a0 : Int) (a1 : Int) (A2 : Option Addr) (c2 : Nat) (l2 : List Int) (r : Bool) (w : World) (hr2 : Kd.C (Kd.int .i64) w A2 l2.length l2) (_hc2 : l2.length ≤ c2) (h : pleat_within.f a0 a1 l2 = some r) :
    Calls Tryd.prog 10 #[.int .i64 a0, .int .i64 a1, .slice A2 l2.length c2] w fun e w' => e = .returned (.bool r) ∧ Below w.heap.size w w' := by
  obtain rfl := Option.some.inj h
  rw [← any_poutside]
  have HR := Aside0.mk hr2
  clear hr2 h
  go_enter Tryd.func10, Tryd.ntmps10
  go_wp2_with fail
  refine (contains_int (p := poutside a0 a1) enters_pwithin1 (Kd.C_alloc (Kd.C_alloc HR.out _) _) (pwithin1_pred (by simp) (by simp))).mono ?_
  rintro e w' ⟨rfl, hb⟩
  have HB := Aside0.mk (below_then (below_alloc (below_alloc (Below.refl _ _) _) _) (by simp; omega) hb)
  clear hb
  go_wp2
  go_ret
  exact ⟨rfl, HB.out⟩
end Go.Proofs.YtmkhlgdgndnkbaaDoor.X
