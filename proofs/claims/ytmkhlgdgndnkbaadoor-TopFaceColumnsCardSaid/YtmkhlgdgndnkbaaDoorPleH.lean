/- Package pleat: Hit. -/
import Derived.Test.YtmkhlgdgndnkbaaDoorPleF
namespace Go.Proofs.YtmkhlgdgndnkbaaDoor.X
open Go.RowKit Go.Proofs.YtmkhlgdgndnkbaaDoorW.PrintWords Go.Proofs.YtmkhlgdgndnkbaaDoorW.PrintLast Go.Proofs.YtmkhlgdgndnkbaaDoorW.PrintMore Go.Proofs.YtmkhlgdgndnkbaaDoor.PPle Go.Proofs.YtmkhlgdgndnkbaaDoor.PPlM

theorem enters_least : ∀ args w, (callFunc 12 args).run Tryd.prog w = .ok (.enter 12 args) w := enters_of Tryd.func12 (by kernel_rfl) rfl
theorem enters_most : ∀ args w, (callFunc 13 args).run Tryd.prog w = .ok (.enter 13 args) w := enters_of Tryd.func13 (by kernel_rfl) rfl
/-- How far the folds are from a part of the leaf, with at most 100 grooves. -/
def awO (long : Int) (l : List S33) (gr : List Int) (half room play shift a b : Int) : Option Int := pleat_bed_away.f 100 long l gr half room play shift a b
def hitP (long : Int) (l : List S33) (gr : List Int) (half room play shift : Int) (t : S33 → Int × Int) (x : S33) : Bool := decide ((awO long l gr half room play shift (t x).1 (t x).2).getD 0 < 0)
def leastT (x : S33) : Int × Int := (x.f0.f1, x.f1.f0)
def mostT (x : S33) : Int × Int := (x.f0.f0, x.f1.f1)
def fineT (long : Int) (l : List S33) (gr : List Int) (half room play shift : Int) (t : S33 → Int × Int) : Bool := l.all fun x => (awO long l gr half room play shift (t x).1 (t x).2).isSome
def hitsT (long : Int) (l : List S33) (gr : List Int) (half room play shift : Int) (t : S33 → Int × Int) : List Int := hitsUp (hitP long l gr half room play shift t) l z33 l.length
def pleat_Hit.f (a0_0 : Int) (l0_1 : List S33) (l1_0 : List Int) (a1_1 : Int) (a1_2 : Int) (a1_3 : Int) (a2 : Int) : Option (List Int × List Int × Int) :=
  (pleat_Mould.f 100 l1_0 a1_1 a1_2 a1_3).bind fun m =>
    if (if pcheckF a0_0 l0_1 = 0 then m else pcheckF a0_0 l0_1) = 0 then
      if (decide (0 ≤ a2) && decide (a2 ≤ a1_3)) = true then
        if l0_1.length ≤ 1000000 ∧ fineT a0_0 l0_1 l1_0 a1_1 a1_2 a1_3 a2 leastT = true ∧ fineT a0_0 l0_1 l1_0 a1_1 a1_2 a1_3 a2 mostT = true then
          some (hitsT a0_0 l0_1 l1_0 a1_1 a1_2 a1_3 a2 leastT, hitsT a0_0 l0_1 l1_0 a1_1 a1_2 a1_3 a2 mostT, 0)
        else none
      else some ([], [], 3)
    else some ([], [], if pcheckF a0_0 l0_1 = 0 then m else pcheckF a0_0 l0_1)

theorem hitsLeast_calls {long half room play shift : Int} {A B : Option Addr} {c d : Nat} {l : List S33} {gr : List Int} {w : World}
    (hr : Kd.C k33 w A l.length l) (hc : l.length ≤ c) (hg : Kd.C (Kd.int .i64) w B gr.length gr) (hd : gr.length ≤ d) (hl : l.length ≤ 1000000) (hf : fineT long l gr half room play shift leastT = true) :
    Calls Tryd.prog 11 #[.agg #[.int .i64 long, .slice A l.length c, .slice B gr.length d, .int .i64 half, .int .i64 room, .int .i64 play], .int .i64 shift, .func (.func 12) #[] #[]] w fun e w' =>
      ∃ v, e = .returned v ∧ Kd.R (Kd.int .i64) 3 w' w.heap.size (fun _ => True) v (hitsT long l gr half room play shift leastT) ∧ Below w.heap.size w w' :=
  hits_calls (k := 100) (ta := fun x => (leastT x).1) (tb := fun x => (leastT x).2) (aw := fun x => (awO long l gr half room play shift (leastT x).1 (leastT x).2).getD 0) enters_least hr hc hg hd hl
    (fun x _ W => pleat_least.calls x.f0.f0 x.f0.f1 x.f1.f0 x.f1.f1 x.f0.f1 x.f1.f0 W rfl)
    (fun x hx => by
      have h := List.all_eq_true.1 hf x hx
      show awO long l gr half room play shift (leastT x).1 (leastT x).2 = _
      cases e : awO long l gr half room play shift (leastT x).1 (leastT x).2 with
      | none => rw [e] at h; cases h
      | some r => rfl)
theorem hitsMost_calls {long half room play shift : Int} {A B : Option Addr} {c d : Nat} {l : List S33} {gr : List Int} {w : World}
    (hr : Kd.C k33 w A l.length l) (hc : l.length ≤ c) (hg : Kd.C (Kd.int .i64) w B gr.length gr) (hd : gr.length ≤ d) (hl : l.length ≤ 1000000) (hf : fineT long l gr half room play shift mostT = true) :
    Calls Tryd.prog 11 #[.agg #[.int .i64 long, .slice A l.length c, .slice B gr.length d, .int .i64 half, .int .i64 room, .int .i64 play], .int .i64 shift, .func (.func 13) #[] #[]] w fun e w' =>
      ∃ v, e = .returned v ∧ Kd.R (Kd.int .i64) 3 w' w.heap.size (fun _ => True) v (hitsT long l gr half room play shift mostT) ∧ Below w.heap.size w w' :=
  hits_calls (k := 100) (ta := fun x => (mostT x).1) (tb := fun x => (mostT x).2) (aw := fun x => (awO long l gr half room play shift (mostT x).1 (mostT x).2).getD 0) enters_most hr hc hg hd hl
    (fun x _ W => pleat_most.calls x.f0.f0 x.f0.f1 x.f1.f0 x.f1.f1 x.f0.f0 x.f1.f1 W rfl)
    (fun x hx => by
      have h := List.all_eq_true.1 hf x hx
      show awO long l gr half room play shift (mostT x).1 (mostT x).2 = _
      cases e : awO long l gr half room play shift (mostT x).1 (mostT x).2 with
      | none => rw [e] at h; cases h
      | some r => rfl)

theorem two_rows {w3 w4 : World} {b b1 : Nat} {v1 v2 : Value} {r1 r2 : List Int} {ok1 ok2 : Nat → Prop} (h1 : Kd.R (Kd.int .i64) 3 w3 b1 ok1 v1 r1) (hb : Below w3.heap.size w3 w4) (h2 : Kd.R (Kd.int .i64) 3 w4 w3.heap.size ok2 v2 r2) (hb1 : b ≤ b1) (hb2 : b ≤ w3.heap.size) :
    Kd.R (Kd.int .i64) 3 w4 b (fun k_ => some k_ ≠ (v2 : Value).ownBlock) v1 r1 ∧ Kd.R (Kd.int .i64) 3 w4 b (fun k_ => some k_ ≠ (v1 : Value).ownBlock) v2 r2 :=
  ⟨Kd.R_of_own (own_less (Kd.own_of_R (Kd.R_below h1 hb)) hb1) (fun k hk e => absurd (Kd.R_lt h1 k hk) (by have := Kd.R_base h2 k e.symm; omega)),
   Kd.R_of_own (own_less (Kd.own_of_R h2) hb2) (fun k hk e => absurd (Kd.R_lt h1 k e.symm) (by have := Kd.R_base h2 k hk; omega))⟩

set_option maxHeartbeats 4000000 in
theorem pleat_Hit.calls (a0_0 : Int) (A0_1 : Option Addr) (c0_1 : Nat) (l0_1 : List S33) (A1_0 : Option Addr) (c1_0 : Nat) (l1_0 : List Int) (a1_1 : Int) (a1_2 : Int) (a1_3 : Int) (a2 : Int) (r1 : List Int) (r2 : List Int) (r3 : Int) (w : World) (hr0_1 : Kd.C k33 w A0_1 l0_1.length l0_1) (hc0_1 : l0_1.length ≤ c0_1) (hr1_0 : Kd.C (Kd.int .i64) w A1_0 l1_0.length l1_0) (hc1_0 : l1_0.length ≤ c1_0) (h : pleat_Hit.f a0_0 l0_1 l1_0 a1_1 a1_2 a1_3 a2 = some (r1, r2, r3)) :
    Calls Tryd.prog 5 #[.agg #[.int .i64 a0_0, .slice A0_1 l0_1.length c0_1], .agg #[.slice A1_0 l1_0.length c1_0, .int .i64 a1_1, .int .i64 a1_2, .int .i64 a1_3], .int .i64 a2] w fun e w' => ∃ v0_ v1_ : Value, e = .returned (.tuple #[v0_, v1_, .int .i64 r3]) ∧ Kd.R (Kd.int .i64) 3 w' w.heap.size (fun k_ => some k_ ≠ (v1_ : Value).ownBlock) v0_ r1 ∧ Kd.R (Kd.int .i64) 3 w' w.heap.size (fun k_ => some k_ ≠ (v0_ : Value).ownBlock) v1_ r2 ∧ Below w.heap.size w w' := by
  unfold pleat_Hit.f at h
  obtain ⟨m, hm, h⟩ := Option.bind_eq_some_iff.1 h
  have HR := Aside0.mk hr0_1
  have HG := Aside0.mk hr1_0
  have HM := Aside0.mk hm
  generalize he : (if pcheckF a0_0 l0_1 = 0 then m else pcheckF a0_0 l0_1) = q at h
  have HE := Aside0.mk he
  have HF : Aside0 (∀ {w1 : World}, Below ((w.alloc (.cells #[.int .i64 a0_0, .slice A0_1 l0_1.length c0_1] 25 (0, 0))).alloc (.cells #[.slice A1_0 l1_0.length c1_0, .int .i64 a1_1, .int .i64 a1_2, .int .i64 a1_3] 28 (0, 0))).heap.size ((w.alloc (.cells #[.int .i64 a0_0, .slice A0_1 l0_1.length c0_1] 25 (0, 0))).alloc (.cells #[.slice A1_0 l1_0.length c1_0, .int .i64 a1_1, .int .i64 a1_2, .int .i64 a1_3] 28 (0, 0))) w1 →
      w1.cell? ⟨w.heap.size + 1, 3, none⟩ = some (.int .i64 a1_3) ∧ Below w.heap.size w w1) := ⟨fun hb => ⟨(blk_cell (blk_below (one_blk _ _ (by simp)) hb) 3).trans rfl, below_then (below_alloc (below_alloc (Below.refl _ _) _) _) (by simp; omega) hb⟩⟩
  clear hr0_1 hr1_0 hm he
  by_cases c0 : q = 0
  · subst c0
    rw [if_pos rfl] at h
    have hw : pleat_within.f 0 a1_3 [a2] = some (decide (0 ≤ a2) && decide (a2 ≤ a1_3)) := by unfold pleat_within.f; simp
    cases qw : (decide (0 ≤ a2) && decide (a2 ≤ a1_3)) with
    | false =>
      rw [qw] at hw
      have HW := Aside0.mk hw
      rw [qw, if_neg (by decide)] at h
      obtain ⟨rfl, rfl, rfl⟩ : r1 = [] ∧ r2 = [] ∧ r3 = 3 := by have := Option.some.inj h; simp only [Prod.mk.injEq] at this; exact ⟨this.1.symm, this.2.1.symm, this.2.2.symm⟩
      clear h hw qw
      go_enter Tryd.func5, Tryd.ntmps5
      go_wp2_with (first | (go_at_call 9; refine (newBed_calls (Kd.C_alloc (Kd.C_alloc HR.out _) _) hc0_1 (Kd.C_alloc (Kd.C_alloc HG.out _) _) hc1_0 HM.out).mono ?_; rw [HE.out]; rintro e w1 ⟨rfl, hb1⟩; obtain ⟨k3, hb⟩ := HF.out hb1; have HB := Aside0.mk hb; have k3' := fun o => keep_cell o k3; clear hb1 hb) | (go_at_call 10; refine (pleat_within.calls 0 a1_3 _ _ [a2] false _ (C_lit1 _ .i64 _ a2 (by simp)) (Nat.le_refl 1) HW.out).mono ?_; rintro e w2 ⟨rfl, hb2⟩; have HB2 := Aside0.mk (below_then (below_alloc (below_alloc HB.out _) _) (by have := below_size HB.out; simp; omega) hb2); clear hb2))
      go_ret3
      exact ⟨_, _, rfl, Kd.R_nil _ _ _ _ _, Kd.R_nil _ _ _ _ _, HB2.out⟩
    | true =>
      rw [qw] at hw
      have HW := Aside0.mk hw
      rw [qw, if_pos rfl] at h
      by_cases hh : l0_1.length ≤ 1000000 ∧ fineT a0_0 l0_1 l1_0 a1_1 a1_2 a1_3 a2 leastT = true ∧ fineT a0_0 l0_1 l1_0 a1_1 a1_2 a1_3 a2 mostT = true
      · rw [if_pos hh] at h
        have HH := Aside0.mk hh
        obtain ⟨e1, e2, rfl⟩ : hitsT a0_0 l0_1 l1_0 a1_1 a1_2 a1_3 a2 leastT = r1 ∧ hitsT a0_0 l0_1 l1_0 a1_1 a1_2 a1_3 a2 mostT = r2 ∧ (0 : Int) = r3 := by have := Option.some.inj h; simp only [Prod.mk.injEq] at this; exact this
        have E1 := Aside0.mk e1
        have E2 := Aside0.mk e2
        clear h hw qw hh e1 e2
        go_enter Tryd.func5, Tryd.ntmps5
        go_wp2_with (first | (go_at_call 9; refine (newBed_calls (Kd.C_alloc (Kd.C_alloc HR.out _) _) hc0_1 (Kd.C_alloc (Kd.C_alloc HG.out _) _) hc1_0 HM.out).mono ?_; rw [HE.out]; rintro e w1 ⟨rfl, hb1⟩; obtain ⟨k3, hb⟩ := HF.out hb1; have HB := Aside0.mk hb; have k3' := fun o => keep_cell o k3; clear hb1 hb) | (go_at_call 10; refine (pleat_within.calls 0 a1_3 _ _ [a2] true _ (C_lit1 _ .i64 _ a2 (by simp)) (Nat.le_refl 1) HW.out).mono ?_; rintro e w2 ⟨rfl, hb2⟩; have HB2 := Aside0.mk (below_then (below_alloc (below_alloc HB.out _) _) (by have := below_size HB.out; simp; omega) hb2); have b9 := blk_below (blk_alloc (blk_new w1 _) _) hb2; clear hb2))
        have HR2 := Aside0.mk (Kd.C_below HR.out HB2.out)
        have HG2 := Aside0.mk (Kd.C_below HG.out HB2.out)
        have B9 := Aside0.mk b9
        have y0 := (blk_cell b9 0).trans rfl
        have y1 := (blk_cell b9 1).trans rfl
        have y2 := (blk_cell b9 2).trans rfl
        have y3 := (blk_cell b9 3).trans rfl
        have y4 := (blk_cell b9 4).trans rfl
        have y5 := (blk_cell b9 5).trans rfl
        clear b9 k3 k3'
        go_region_with (first
          | (go_at_call 11; with_reducible refine (hitsLeast_calls (Kd.C_below HR2.out (below_drew (Below.refl _ _))) hc0_1 (Kd.C_below HG2.out (below_drew (Below.refl _ _))) hc1_0 HH.out.1 HH.out.2.1).mono ?_; rintro e w3 ⟨v1, rfl, hv1, hb3⟩; have HV1 := Aside0.mk hv1; have HB3 := Aside0.mk hb3; have x0 := (blk_cell (blk_below B9.out (below_then (below_drew (Below.refl _ _)) (Nat.le_refl _) hb3)) 0).trans rfl; have x1 := (blk_cell (blk_below B9.out (below_then (below_drew (Below.refl _ _)) (Nat.le_refl _) hb3)) 1).trans rfl; have x2 := (blk_cell (blk_below B9.out (below_then (below_drew (Below.refl _ _)) (Nat.le_refl _) hb3)) 2).trans rfl; have x3 := (blk_cell (blk_below B9.out (below_then (below_drew (Below.refl _ _)) (Nat.le_refl _) hb3)) 3).trans rfl; have x4 := (blk_cell (blk_below B9.out (below_then (below_drew (Below.refl _ _)) (Nat.le_refl _) hb3)) 4).trans rfl; have x5 := (blk_cell (blk_below B9.out (below_then (below_drew (Below.refl _ _)) (Nat.le_refl _) hb3)) 5).trans rfl; clear hv1 hb3)
          | (go_at_call 11; with_reducible refine (hitsMost_calls (Kd.C_below HR2.out (below_then (below_drew (Below.refl _ _)) (Nat.le_refl _) HB3.out)) hc0_1 (Kd.C_below HG2.out (below_then (below_drew (Below.refl _ _)) (Nat.le_refl _) HB3.out)) hc1_0 HH.out.1 HH.out.2.2).mono ?_; rintro e w4 ⟨v2, rfl, hv2, hb4⟩; have HV2 := Aside0.mk hv2; have HB4 := Aside0.mk hb4; clear hv2 hb4))
        all_goals
          go_wp2
          go_ret3
          have hbd := below_drew HB2.out
          have hb3 := below_then hbd (below_size hbd) HB3.out
          have k := two_rows HV1.out HB4.out HV2.out (below_size hbd) (below_size hb3)
          rw [E1.out, E2.out] at k
          exact ⟨v1, v2, rfl, k.1, k.2, below_then hb3 (below_size hb3) HB4.out⟩
      · rw [if_neg hh] at h
        cases h
  · rw [if_neg c0] at h
    obtain ⟨rfl, rfl, rfl⟩ : r1 = [] ∧ r2 = [] ∧ r3 = q := by have := Option.some.inj h; simp only [Prod.mk.injEq] at this; exact ⟨this.1.symm, this.2.1.symm, this.2.2.symm⟩
    have d0 : (!(r3 == 0)) = true := by simp [c0]
    have d0' : (r3 == 0) = false := by simp [c0]
    clear h
    go_enter Tryd.func5, Tryd.ntmps5
    go_wp2_with (go_at_call 9; refine (newBed_calls (Kd.C_alloc (Kd.C_alloc HR.out _) _) hc0_1 (Kd.C_alloc (Kd.C_alloc HG.out _) _) hc1_0 HM.out).mono ?_; rw [HE.out]; rintro e w1 ⟨rfl, hb1⟩; obtain ⟨k3, hb⟩ := HF.out hb1; have HB := Aside0.mk hb; clear hb1 hb)
    go_ret3
    exact ⟨_, _, rfl, Kd.R_nil _ _ _ _ _, Kd.R_nil _ _ _ _ _, below_alloc HB.out _⟩
end Go.Proofs.YtmkhlgdgndnkbaaDoor.X
