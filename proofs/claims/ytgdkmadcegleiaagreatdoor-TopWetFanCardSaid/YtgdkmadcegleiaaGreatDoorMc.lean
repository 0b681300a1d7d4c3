/- Part 3 of this claim's texts, put together by a program of its author: PleF, PleH, TooA, PToox0, PToox1, PToox, TooG, TooB, TooC, TooD, PTobx0, PTobx1, PTobx2, PTobx, TooE, TooF, PBenx0, PBenx1, PBenx2, PBenx, TooP, TooQ, PSurx0. -/
import Derived.Test.YtgdkmadcegleiaaGreatDoorMb
import Derived.Test.YtgdkmadcegleiaaGreatDoorProg
import Derived.Below
import Derived.Deep.Draws
import Derived.Deep.AppendLies
import Derived.Maps.AppendAt
import Derived.OwnWalk
import Derived.Laws.BytesArg
import Derived.Laws.MakeOwn
import Derived.Laws.OwnMore
import Derived.Deep.OwnRows
import Derived.Tactics
import Derived.Lib.ConvBytes
import Derived.Laws.Slices
import Derived.WalkKit
import Derived.KernelRfl
import Derived.RowKit3
import Derived.Deep.LoopGhost
import Derived.Deep.QuietTactic
import Derived.BigQuiet
import Derived.WideLaws
import Derived.Deep.DeepCutAuto
import Derived.Deep.CutBlock
import Derived.Deep.RegionHeld3
import Derived.Laws.Rows
import Derived.Lib.AppendStr
import Derived.ArgAppend
import Derived.Laws.IdiomCopy
import Derived.OrdersHeld
import Derived.Laws.BitsLemmas
import Derived.RowKit
import Derived.Test.YtgdkmadcegleiaaGreatDoorMa
import Derived.Shelf.Abstract
import Derived.Shelf.RegionOpen
import Derived.Shelf.SlicesE.Clone
open Go.RowKit Go.Proofs.YtgdkmadcegleiaaGreatDoorW.PrintWords Go.Proofs.YtgdkmadcegleiaaGreatDoorW.PrintLast Go.Proofs.YtgdkmadcegleiaaGreatDoorW.PrintMore
set_option linter.unusedVariables false
set_option linter.unusedSimpArgs false
attribute [local go_sem] max2_int min2_int max_two min_two max_three min_three max_four min_four
namespace Go.Proofs.YtgdkmadcegleiaaGreatDoor
namespace X
open PPle PPlM
def hitsUp {α : Type} (p : α → Bool) (l : List α) (z : α) : Nat → List Int
  | 0 => []
  | k + 1 => if p (l.getD k z) = true then hitsUp p l z k ++ [(k : Int)] else hitsUp p l z k
theorem hitsUp_length {α : Type} (p : α → Bool) (l : List α) (z : α) (k : Nat) : (hitsUp p l z k).length ≤ k := by
  induction k with
  | zero => exact Nat.le_refl _
  | succ k ih =>
    unfold hitsUp
    split
    · rw [List.length_append]; simp; omega
    · omega
theorem info_int : (Tryz.prog.info? 3).map (fun i => (i.zero, i.size, i.bytes)) = some (some (.int .i64 0), 1, 8) := by kernel_rfl
set_option maxHeartbeats 4000000 in
theorem hits_calls {g k : Nat} {long half room play shift : Int} {A B : Option Addr} {c d : Nat} {l : List S55} {gr : List Int} {ta tb aw : S55 → Int} {w : World}
    (eg : ∀ args w, (callFunc g args).run Tryz.prog w = .ok (.enter g args) w)
    (hr : Kd.C k55 w A l.length l) (hc : l.length ≤ c) (hg : Kd.C (Kd.int .i64) w B gr.length gr) (hd : gr.length ≤ d) (hl : l.length ≤ 1000000)
    (htr : ∀ x ∈ l, ∀ W, Calls Tryz.prog g #[.agg #[.int .i64 x.f0.f0, .int .i64 x.f0.f1, .int .i64 x.f1.f0, .int .i64 x.f1.f1]] W fun e W' => e = .returned (.agg #[.int .i64 (ta x), .int .i64 (tb x)]) ∧ Below W.heap.size W W')
    (ha : ∀ x ∈ l, z36_.f k long l gr half room play shift (ta x) (tb x) = some (aw x)) :
    Calls Tryz.prog 38 #[.agg #[.int .i64 long, .slice A l.length c, .slice B gr.length d, .int .i64 half, .int .i64 room, .int .i64 play], .int .i64 shift, .func (.func g) #[] #[]] w fun e w' =>
      ∃ v, e = .returned v ∧ Kd.R (Kd.int .i64) 3 w' w.heap.size (fun _ => True) v (hitsUp (fun x => decide (aw x < 0)) l z55 l.length) ∧ Below w.heap.size w w' := by
  have eg33 := enters_spared1
  have HEG := Aside0.mk eg
  have HR := Aside0.mk hr
  have HG := Aside0.mk hg
  have HTR := Aside0.mk htr
  have HA := Aside0.mk ha
  obtain ⟨n, hn⟩ : ∃ n, l.length = n := ⟨_, rfl⟩
  have HN := Aside0.mk hn
  rw [hn] at hc hl HR ⊢
  clear hr hg htr ha eg hn
  have k1 : (w.alloc (.cells #[.int .i64 long, .slice A n c, .slice B gr.length d, .int .i64 half, .int .i64 room, .int .i64 play] 92 (0, 0))).cell? ⟨w.heap.size, 1, none⟩ = some (.slice A n c) := (blk_cell (blk_new w _) 1).trans rfl
  go_enter Tryz.func38, Tryz.ntmps38
  go_wp2_with (go_at_call 69; refine spared_calls.mono ?_; rintro e w1 ⟨rfl, hw1⟩; have z1 : w1.cell? ⟨w.heap.size, 1, none⟩ = some (.slice A n c) := by { rw [hw1]; exact pw_cell_below (sparedW_below _ _ _ _) k1 }; have HW1 := Aside0.mk hw1; clear hw1)
  have HBW : Aside0 (Below w.heap.size w w1) := ⟨by rw [HW1.out]; exact below_then (below_alloc (Below.refl _ _) _) (by simp) (sparedW_below _ _ _ _)⟩
  have B1 : Aside0 (w1.heap[w.heap.size + 1]? = some (.cells #[.int .i64 long, .slice A n c, .slice B gr.length d, .int .i64 half, .int .i64 room, .int .i64 play] 92 (0, 0))) := ⟨by rw [HW1.out]; exact blk_alloc (blk_alloc (one_blk _ _ (by simp)) _) _⟩
  have B2 : Aside0 (w1.heap[w.heap.size + 1 + 1]? = some (.cells #[.int .i64 shift] 3 (0, 0))) := ⟨by rw [HW1.out]; exact blk_alloc (one_blk _ _ (by simp)) _⟩
  have B3 : Aside0 (w1.heap[w.heap.size + 1 + 1 + 1]? = some (.cells #[.func (.func g) #[] #[]] 96 (0, 0))) := ⟨by rw [HW1.out]; exact one_blk _ _ (by simp)⟩
  have HR1 := Aside0.mk (Kd.C_below HR.out HBW.out)
  have HG1 := Aside0.mk (Kd.C_below HG.out HBW.out)
  clear k1 z1 HW1 HR HG
  generalize hsz : w.heap.size = s at B1 B2 B3 HBW ⊢
  have HS := Aside0.mk hsz
  clear hsz
  go_loopg [6, 18] n (fun gg v6 v18 wr => ∃ kk : Nat, kk ≤ n ∧ n - kk ≤ gg ∧ v18 = .int .i64 kk ∧ Aside0 (Kd.R (Kd.int .i64) 3 wr w1.heap.size (fun _ => True) v6 (hitsUp (fun x => decide (aw x < 0)) l z55 kk)) ∧ Aside0 (Below w1.heap.size w1 wr))
  case atStart => exact ⟨0, Nat.zero_le _, by omega, rfl, ⟨Kd.R_nil _ _ _ _ _⟩, ⟨Below.refl _ _⟩⟩
  case round =>
    obtain ⟨kk, hkk, hgg, rfl, HO, HB⟩ := hrel
    by_cases hlt : kk < n
    · have hltz : (kk : Int) < (n : Int) := by omega
      obtain ⟨ad, c1, rfl, hl1, hK, hcell⟩ := Kd.C_get (Kd.C_below HR1.out HB.out) z55 (kk : Int) (by omega) hltz
      rw [Int.toNat_natCast] at hK hcell
      have e1 := k55_open hK
      subst e1
      have hx := getD_mem (z := z55) HN.out hlt
      have HTR1 := Aside0.mk (HTR.out _ hx)
      have HA1 := Aside0.mk (HA.out _ hx)
      have HUP : Aside0 (hitsUp (fun x => decide (aw x < 0)) l z55 (kk + 1) = if decide (aw (l.getD kk z55) < 0) = true then hitsUp (fun x => decide (aw x < 0)) l z55 kk ++ [(kk : Int)] else hitsUp (fun x => decide (aw x < 0)) l z55 kk) := ⟨rfl⟩
      clear hx hK
      generalize l.getD kk z55 = x at hcell HTR1 HA1 HUP
      have hcc : ∀ j u, [Value.int .i64 x.f0.f0, Value.int .i64 x.f0.f1, Value.int .i64 x.f1.f0, Value.int .i64 x.f1.f1][j]? = some u → wr.cell? (ad.add (kk * 4 + j)) = some u := fun j u hu => hcell j u hu
      have hc0 : wr.cell? (ad.add (kk * 4)) = some (.int .i64 x.f0.f0) := hcc 0 _ rfl
      have hc1 : wr.cell? ⟨(ad.add (kk * 4)).block, (ad.add (kk * 4)).off + 1, none⟩ = some (.int .i64 x.f0.f1) := by rw [← add_field _ _ 1 (by omega)]; exact hcc 1 _ rfl
      have hc2 : wr.cell? ⟨(ad.add (kk * 4)).block, (ad.add (kk * 4)).off + 2, none⟩ = some (.int .i64 x.f1.f0) := by rw [← add_field _ _ 2 (by omega)]; exact hcc 2 _ rfl
      have hc3 : wr.cell? ⟨(ad.add (kk * 4)).block, (ad.add (kk * 4)).off + 3, none⟩ = some (.int .i64 x.f1.f1) := by rw [← add_field _ _ 3 (by omega)]; exact hcc 3 _ rfl
      clear hcell hl1 hcc
      cases q : decide (aw x < 0) with
      | true =>
        have dq : decide (0 ≤ aw x) = false := by have := of_decide_eq_true q; exact decide_eq_false (by omega)
        rw [q, if_pos rfl] at HUP
        go_wp2_with fail
        have hn' := HN.out
        subst hn'
        have hbx : Below w1.heap.size w1 (wr.alloc (.cells #[.int .i64 x.f0.f0, .int .i64 x.f0.f1, .int .i64 x.f1.f0, .int .i64 x.f1.f1] 55 (0, 0))) := below_alloc HB.out _
        refine (spared1_calls (k := k) (shift := shift) HEG.out (blk_below B1.out hbx) (blk_below B2.out hbx) (blk_below B3.out hbx) (Kd.C_below HR1.out hbx) hc (Kd.C_below HG1.out hbx) hd HTR1.out HA1.out).mono ?_
        rw [dq]
        rintro e w2 ⟨rfl, hb2⟩
        have HB2 := Aside0.mk (later_below hbx hb2)
        have HO2 := Aside0.mk (Kd.R_below (Kd.R_alloc HO.out _) hb2)
        clear hb2 hbx
        have HLEN : Aside0 ((hitsUp (fun x => decide (aw x < 0)) l z55 kk).length ≤ kk) := ⟨hitsUp_length _ _ _ _⟩
        clear q dq
        go_wp2_with (at_builtin; refine Kd.R_append (Kd.int .i64) (w0 := w1) w1.heap.size rfl (.tmp 27) (.tmp 29) 51 3 (.int .i64 0) 8 rfl Tryz.underlying51 info_int rfl (by decide) (by omega) _ _ (kk : Int) [.int .i64 kk] (fun _ => True) (fun _ => False) rfl rfl rfl (fun _ hk => hk.elim) (fun _ _ => trivial) HO2.out HB2.out (below_size HB2.out) (by have := HLEN.out; omega) ?_; intro v1 w5 ho hb hg5 hat; have HO5 := Aside0.mk ho; have HB5 := Aside0.mk hb; clear ho hb hg5 hat)
        go_roundg (l.length - (kk + 1))
        case measure => omega
        case rel => exact ⟨kk + 1, by omega, by omega, by go_num, ⟨by rw [HUP.out]; exact HO5.out⟩, ⟨HB5.out⟩⟩
      | false =>
        have dq : decide (0 ≤ aw x) = true := by have := of_decide_eq_false q; exact decide_eq_true (by omega)
        rw [q, if_neg (by decide)] at HUP
        go_wp2_with fail
        have hn' := HN.out
        subst hn'
        have hbx : Below w1.heap.size w1 (wr.alloc (.cells #[.int .i64 x.f0.f0, .int .i64 x.f0.f1, .int .i64 x.f1.f0, .int .i64 x.f1.f1] 55 (0, 0))) := below_alloc HB.out _
        refine (spared1_calls (k := k) (shift := shift) HEG.out (blk_below B1.out hbx) (blk_below B2.out hbx) (blk_below B3.out hbx) (Kd.C_below HR1.out hbx) hc (Kd.C_below HG1.out hbx) hd HTR1.out HA1.out).mono ?_
        rw [dq]
        rintro e w2 ⟨rfl, hb2⟩
        have HB2 := Aside0.mk (later_below hbx hb2)
        have HO2 := Aside0.mk (Kd.R_below (Kd.R_alloc HO.out _) hb2)
        clear hb2 hbx
        clear q dq
        go_wp2
        go_roundg (l.length - (kk + 1))
        case measure => omega
        case rel => exact ⟨kk + 1, by omega, by omega, by go_num, ⟨by rw [HUP.out]; exact HO2.out⟩, ⟨HB2.out⟩⟩
    · have hltz : ¬ (kk : Int) < (n : Int) := by omega
      obtain rfl : kk = n := by omega
      go_wp2
      go_ret
      have hs := HS.out
      subst hs
      exact ⟨_, rfl, Kd.R_of_own (own_less (Kd.own_of_R HO.out) (below_size HBW.out)) (fun _ _ => trivial), below_then HBW.out (below_size HBW.out) HB.out⟩
end X
end Go.Proofs.YtgdkmadcegleiaaGreatDoor
namespace Go.Proofs.YtgdkmadcegleiaaGreatDoor
namespace X
open PPle PPlM
theorem enters_least : ∀ args w, (callFunc 39 args).run Tryz.prog w = .ok (.enter 39 args) w := enters_of Tryz.func39 (by kernel_rfl) rfl
theorem enters_most : ∀ args w, (callFunc 40 args).run Tryz.prog w = .ok (.enter 40 args) w := enters_of Tryz.func40 (by kernel_rfl) rfl
def awO (long : Int) (l : List S55) (gr : List Int) (half room play shift a b : Int) : Option Int := z36_.f 100 long l gr half room play shift a b
def hitP (long : Int) (l : List S55) (gr : List Int) (half room play shift : Int) (t : S55 → Int × Int) (x : S55) : Bool := decide ((awO long l gr half room play shift (t x).1 (t x).2).getD 0 < 0)
def leastT (x : S55) : Int × Int := (x.f0.f1, x.f1.f0)
def mostT (x : S55) : Int × Int := (x.f0.f0, x.f1.f1)
def fineT (long : Int) (l : List S55) (gr : List Int) (half room play shift : Int) (t : S55 → Int × Int) : Bool := l.all fun x => (awO long l gr half room play shift (t x).1 (t x).2).isSome
def hitsT (long : Int) (l : List S55) (gr : List Int) (half room play shift : Int) (t : S55 → Int × Int) : List Int := hitsUp (hitP long l gr half room play shift t) l z55 l.length
def z52_.f (a0_0 : Int) (l0_1 : List S55) (l1_0 : List Int) (a1_1 : Int) (a1_2 : Int) (a1_3 : Int) (a2 : Int) : Option (List Int × List Int × Int) :=
  (z7_.f 100 l1_0 a1_1 a1_2 a1_3).bind fun m =>
    if (if pcheckF a0_0 l0_1 = 0 then m else pcheckF a0_0 l0_1) = 0 then
      if (decide (0 ≤ a2) && decide (a2 ≤ a1_3)) = true then
        if l0_1.length ≤ 1000000 ∧ fineT a0_0 l0_1 l1_0 a1_1 a1_2 a1_3 a2 leastT = true ∧ fineT a0_0 l0_1 l1_0 a1_1 a1_2 a1_3 a2 mostT = true then
          some (hitsT a0_0 l0_1 l1_0 a1_1 a1_2 a1_3 a2 leastT, hitsT a0_0 l0_1 l1_0 a1_1 a1_2 a1_3 a2 mostT, 0)
        else none
      else some ([], [], 3)
    else some ([], [], if pcheckF a0_0 l0_1 = 0 then m else pcheckF a0_0 l0_1)
theorem hitsLeast_calls {long half room play shift : Int} {A B : Option Addr} {c d : Nat} {l : List S55} {gr : List Int} {w : World}
    (hr : Kd.C k55 w A l.length l) (hc : l.length ≤ c) (hg : Kd.C (Kd.int .i64) w B gr.length gr) (hd : gr.length ≤ d) (hl : l.length ≤ 1000000) (hf : fineT long l gr half room play shift leastT = true) :
    Calls Tryz.prog 38 #[.agg #[.int .i64 long, .slice A l.length c, .slice B gr.length d, .int .i64 half, .int .i64 room, .int .i64 play], .int .i64 shift, .func (.func 39) #[] #[]] w fun e w' =>
      ∃ v, e = .returned v ∧ Kd.R (Kd.int .i64) 3 w' w.heap.size (fun _ => True) v (hitsT long l gr half room play shift leastT) ∧ Below w.heap.size w w' :=
  hits_calls (k := 100) (ta := fun x => (leastT x).1) (tb := fun x => (leastT x).2) (aw := fun x => (awO long l gr half room play shift (leastT x).1 (leastT x).2).getD 0) enters_least hr hc hg hd hl
    (fun x _ W => pleat_least.calls x.f0.f0 x.f0.f1 x.f1.f0 x.f1.f1 x.f0.f1 x.f1.f0 W rfl)
    (fun x hx => by
      have h := List.all_eq_true.1 hf x hx
      show awO long l gr half room play shift (leastT x).1 (leastT x).2 = _
      cases e : awO long l gr half room play shift (leastT x).1 (leastT x).2 with
      | none => rw [e] at h; cases h
      | some r => rfl)
theorem hitsMost_calls {long half room play shift : Int} {A B : Option Addr} {c d : Nat} {l : List S55} {gr : List Int} {w : World}
    (hr : Kd.C k55 w A l.length l) (hc : l.length ≤ c) (hg : Kd.C (Kd.int .i64) w B gr.length gr) (hd : gr.length ≤ d) (hl : l.length ≤ 1000000) (hf : fineT long l gr half room play shift mostT = true) :
    Calls Tryz.prog 38 #[.agg #[.int .i64 long, .slice A l.length c, .slice B gr.length d, .int .i64 half, .int .i64 room, .int .i64 play], .int .i64 shift, .func (.func 40) #[] #[]] w fun e w' =>
      ∃ v, e = .returned v ∧ Kd.R (Kd.int .i64) 3 w' w.heap.size (fun _ => True) v (hitsT long l gr half room play shift mostT) ∧ Below w.heap.size w w' :=
  hits_calls (k := 100) (ta := fun x => (mostT x).1) (tb := fun x => (mostT x).2) (aw := fun x => (awO long l gr half room play shift (mostT x).1 (mostT x).2).getD 0) enters_most hr hc hg hd hl
    (fun x _ W => pleat_most.calls x.f0.f0 x.f0.f1 x.f1.f0 x.f1.f1 x.f0.f0 x.f1.f1 W rfl)
    (fun x hx => by
      have h := List.all_eq_true.1 hf x hx
      show awO long l gr half room play shift (mostT x).1 (mostT x).2 = _
      cases e : awO long l gr half room play shift (mostT x).1 (mostT x).2 with
      | none => rw [e] at h; cases h
      | some r => rfl)
theorem two_rows {w3 w4 : World} {b b1 : Nat} {v1 v2 : Value} {r1 r2 : List Int} {ok1 ok2 : Nat → Prop} (h1 : Kd.R (Kd.int .i64) 3 w3 b1 ok1 v1 r1) (hb : Below w3.heap.size w3 w4) (h2 : Kd.R (Kd.int .i64) 3 w4 w3.heap.size ok2 v2 r2) (hb1 : b ≤ b1) (hb2 : b ≤ w3.heap.size) :
    Kd.R (Kd.int .i64) 3 w4 b (fun k_ => some k_ ≠ (v2 : Value).ownBlock) v1 r1 ∧ Kd.R (Kd.int .i64) 3 w4 b (fun k_ => some k_ ≠ (v1 : Value).ownBlock) v2 r2 :=
  ⟨Kd.R_of_own (own_less (Kd.own_of_R (Kd.R_below h1 hb)) hb1) (fun k hk e => absurd (Kd.R_lt h1 k hk) (by have := Kd.R_base h2 k e.symm; omega)),
   Kd.R_of_own (own_less (Kd.own_of_R h2) hb2) (fun k hk e => absurd (Kd.R_lt h1 k e.symm) (by have := Kd.R_base h2 k hk; omega))⟩
set_option maxHeartbeats 4000000 in
theorem z52_.calls (a0_0 : Int) (A0_1 : Option Addr) (c0_1 : Nat) (l0_1 : List S55) (A1_0 : Option Addr) (c1_0 : Nat) (l1_0 : List Int) (a1_1 : Int) (a1_2 : Int) (a1_3 : Int) (a2 : Int) (r1 : List Int) (r2 : List Int) (r3 : Int) (w : World) (hr0_1 : Kd.C k55 w A0_1 l0_1.length l0_1) (hc0_1 : l0_1.length ≤ c0_1) (hr1_0 : Kd.C (Kd.int .i64) w A1_0 l1_0.length l1_0) (hc1_0 : l1_0.length ≤ c1_0) (h : z52_.f a0_0 l0_1 l1_0 a1_1 a1_2 a1_3 a2 = some (r1, r2, r3)) :
    Calls Tryz.prog 16 #[.agg #[.int .i64 a0_0, .slice A0_1 l0_1.length c0_1], .agg #[.slice A1_0 l1_0.length c1_0, .int .i64 a1_1, .int .i64 a1_2, .int .i64 a1_3], .int .i64 a2] w fun e w' => ∃ v0_ v1_ : Value, e = .returned (.tuple #[v0_, v1_, .int .i64 r3]) ∧ Kd.R (Kd.int .i64) 3 w' w.heap.size (fun k_ => some k_ ≠ (v1_ : Value).ownBlock) v0_ r1 ∧ Kd.R (Kd.int .i64) 3 w' w.heap.size (fun k_ => some k_ ≠ (v0_ : Value).ownBlock) v1_ r2 ∧ Below w.heap.size w w' := by
  unfold z52_.f at h
  obtain ⟨m, hm, h⟩ := Option.bind_eq_some_iff.1 h
  have HR := Aside0.mk hr0_1
  have HG := Aside0.mk hr1_0
  have HM := Aside0.mk hm
  generalize he : (if pcheckF a0_0 l0_1 = 0 then m else pcheckF a0_0 l0_1) = q at h
  have HE := Aside0.mk he
  have HF : Aside0 (∀ {w1 : World}, Below ((w.alloc (.cells #[.int .i64 a0_0, .slice A0_1 l0_1.length c0_1] 58 (0, 0))).alloc (.cells #[.slice A1_0 l1_0.length c1_0, .int .i64 a1_1, .int .i64 a1_2, .int .i64 a1_3] 53 (0, 0))).heap.size ((w.alloc (.cells #[.int .i64 a0_0, .slice A0_1 l0_1.length c0_1] 58 (0, 0))).alloc (.cells #[.slice A1_0 l1_0.length c1_0, .int .i64 a1_1, .int .i64 a1_2, .int .i64 a1_3] 53 (0, 0))) w1 →
      w1.cell? ⟨w.heap.size + 1, 3, none⟩ = some (.int .i64 a1_3) ∧ Below w.heap.size w w1) := ⟨fun hb => ⟨(blk_cell (blk_below (one_blk _ _ (by simp)) hb) 3).trans rfl, below_then (below_alloc (below_alloc (Below.refl _ _) _) _) (by simp; omega) hb⟩⟩
  clear hr0_1 hr1_0 hm he
  by_cases c0 : q = 0
  · subst c0
    rw [if_pos rfl] at h
    have hw : z2_.f 0 a1_3 [a2] = some (decide (0 ≤ a2) && decide (a2 ≤ a1_3)) := by unfold z2_.f; simp
    cases qw : (decide (0 ≤ a2) && decide (a2 ≤ a1_3)) with
    | false =>
      rw [qw] at hw
      have HW := Aside0.mk hw
      rw [qw, if_neg (by decide)] at h
      obtain ⟨rfl, rfl, rfl⟩ : r1 = [] ∧ r2 = [] ∧ r3 = 3 := by have := Option.some.inj h; simp only [Prod.mk.injEq] at this; exact ⟨this.1.symm, this.2.1.symm, this.2.2.symm⟩
      clear h hw qw
      go_enter Tryz.func16, Tryz.ntmps16
      go_wp2_with (first | (go_at_call 36; refine (newBed_calls (Kd.C_alloc (Kd.C_alloc HR.out _) _) hc0_1 (Kd.C_alloc (Kd.C_alloc HG.out _) _) hc1_0 HM.out).mono ?_; rw [HE.out]; rintro e w1 ⟨rfl, hb1⟩; obtain ⟨k3, hb⟩ := HF.out hb1; have HB := Aside0.mk hb; have k3' := fun o => keep_cell o k3; clear hb1 hb) | (go_at_call 37; refine (z2_.calls 0 a1_3 _ _ [a2] false _ (C_lit1 _ .i64 _ a2 (by simp)) (Nat.le_refl 1) HW.out).mono ?_; rintro e w2 ⟨rfl, hb2⟩; have HB2 := Aside0.mk (below_then (below_alloc (below_alloc HB.out _) _) (by have := below_size HB.out; simp; omega) hb2); clear hb2))
      go_ret3
      exact ⟨_, _, rfl, Kd.R_nil _ _ _ _ _, Kd.R_nil _ _ _ _ _, HB2.out⟩
    | true =>
      rw [qw] at hw
      have HW := Aside0.mk hw
      rw [qw, if_pos rfl] at h
      by_cases hh : l0_1.length ≤ 1000000 ∧ fineT a0_0 l0_1 l1_0 a1_1 a1_2 a1_3 a2 leastT = true ∧ fineT a0_0 l0_1 l1_0 a1_1 a1_2 a1_3 a2 mostT = true
      · rw [if_pos hh] at h
        have HH := Aside0.mk hh
        obtain ⟨e1, e2, rfl⟩ : hitsT a0_0 l0_1 l1_0 a1_1 a1_2 a1_3 a2 leastT = r1 ∧ hitsT a0_0 l0_1 l1_0 a1_1 a1_2 a1_3 a2 mostT = r2 ∧ (0 : Int) = r3 := by have := Option.some.inj h; simp only [Prod.mk.injEq] at this; exact this
        have E1 := Aside0.mk e1
        have E2 := Aside0.mk e2
        clear h hw qw hh e1 e2
        go_enter Tryz.func16, Tryz.ntmps16
        go_wp2_with (first | (go_at_call 36; refine (newBed_calls (Kd.C_alloc (Kd.C_alloc HR.out _) _) hc0_1 (Kd.C_alloc (Kd.C_alloc HG.out _) _) hc1_0 HM.out).mono ?_; rw [HE.out]; rintro e w1 ⟨rfl, hb1⟩; obtain ⟨k3, hb⟩ := HF.out hb1; have HB := Aside0.mk hb; have k3' := fun o => keep_cell o k3; clear hb1 hb) | (go_at_call 37; refine (z2_.calls 0 a1_3 _ _ [a2] true _ (C_lit1 _ .i64 _ a2 (by simp)) (Nat.le_refl 1) HW.out).mono ?_; rintro e w2 ⟨rfl, hb2⟩; have HB2 := Aside0.mk (below_then (below_alloc (below_alloc HB.out _) _) (by have := below_size HB.out; simp; omega) hb2); have b9 := blk_below (blk_alloc (blk_new w1 _) _) hb2; clear hb2))
        have HR2 := Aside0.mk (Kd.C_below HR.out HB2.out)
        have HG2 := Aside0.mk (Kd.C_below HG.out HB2.out)
        have B9 := Aside0.mk b9
        have y0 := (blk_cell b9 0).trans rfl
        have y1 := (blk_cell b9 1).trans rfl
        have y2 := (blk_cell b9 2).trans rfl
        have y3 := (blk_cell b9 3).trans rfl
        have y4 := (blk_cell b9 4).trans rfl
        have y5 := (blk_cell b9 5).trans rfl
        clear b9 k3 k3'
        go_region_with (first
          | (go_at_call 38; with_reducible refine (hitsLeast_calls (Kd.C_below HR2.out (below_drew (Below.refl _ _))) hc0_1 (Kd.C_below HG2.out (below_drew (Below.refl _ _))) hc1_0 HH.out.1 HH.out.2.1).mono ?_; rintro e w3 ⟨v1, rfl, hv1, hb3⟩; have HV1 := Aside0.mk hv1; have HB3 := Aside0.mk hb3; have x0 := (blk_cell (blk_below B9.out (below_then (below_drew (Below.refl _ _)) (Nat.le_refl _) hb3)) 0).trans rfl; have x1 := (blk_cell (blk_below B9.out (below_then (below_drew (Below.refl _ _)) (Nat.le_refl _) hb3)) 1).trans rfl; have x2 := (blk_cell (blk_below B9.out (below_then (below_drew (Below.refl _ _)) (Nat.le_refl _) hb3)) 2).trans rfl; have x3 := (blk_cell (blk_below B9.out (below_then (below_drew (Below.refl _ _)) (Nat.le_refl _) hb3)) 3).trans rfl; have x4 := (blk_cell (blk_below B9.out (below_then (below_drew (Below.refl _ _)) (Nat.le_refl _) hb3)) 4).trans rfl; have x5 := (blk_cell (blk_below B9.out (below_then (below_drew (Below.refl _ _)) (Nat.le_refl _) hb3)) 5).trans rfl; clear hv1 hb3)
          | (go_at_call 38; with_reducible refine (hitsMost_calls (Kd.C_below HR2.out (below_then (below_drew (Below.refl _ _)) (Nat.le_refl _) HB3.out)) hc0_1 (Kd.C_below HG2.out (below_then (below_drew (Below.refl _ _)) (Nat.le_refl _) HB3.out)) hc1_0 HH.out.1 HH.out.2.2).mono ?_; rintro e w4 ⟨v2, rfl, hv2, hb4⟩; have HV2 := Aside0.mk hv2; have HB4 := Aside0.mk hb4; clear hv2 hb4))
        all_goals
          go_wp2
          go_ret3
          have hbd := below_drew HB2.out
          have hb3 := below_then hbd (below_size hbd) HB3.out
          have k := two_rows HV1.out HB4.out HV2.out (below_size hbd) (below_size hb3)
          rw [E1.out, E2.out] at k
          exact ⟨v1, v2, rfl, k.1, k.2, below_then hb3 (below_size hb3) HB4.out⟩
      · rw [if_neg hh] at h
        cases h
  · rw [if_neg c0] at h
    obtain ⟨rfl, rfl, rfl⟩ : r1 = [] ∧ r2 = [] ∧ r3 = q := by have := Option.some.inj h; simp only [Prod.mk.injEq] at this; exact ⟨this.1.symm, this.2.1.symm, this.2.2.symm⟩
    have d0 : (!(r3 == 0)) = true := by simp [c0]
    have d0' : (r3 == 0) = false := by simp [c0]
    clear h
    go_enter Tryz.func16, Tryz.ntmps16
    go_wp2_with (go_at_call 36; refine (newBed_calls (Kd.C_alloc (Kd.C_alloc HR.out _) _) hc0_1 (Kd.C_alloc (Kd.C_alloc HG.out _) _) hc1_0 HM.out).mono ?_; rw [HE.out]; rintro e w1 ⟨rfl, hb1⟩; obtain ⟨k3, hb⟩ := HF.out hb1; have HB := Aside0.mk hb; clear hb1 hb)
    go_ret3
    exact ⟨_, _, rfl, Kd.R_nil _ _ _ _ _, Kd.R_nil _ _ _ _ _, below_alloc HB.out _⟩
end X
end Go.Proofs.YtgdkmadcegleiaaGreatDoor
namespace Go.Proofs.YtgdkmadcegleiaaGreatDoor
namespace X
theorem enters_towithin1 : ∀ args w, (callFunc 111 args).run Tryz.prog w = .ok (.enter 111 args) w := enters_of Tryz.func111 (by kernel_rfl) rfl
def toOutside (least most n : Int) : Bool := decide (n < least) || decide (most < n)
theorem towithin1_pred {g1 g2 : Nat} {least most : Int} {xs : List Int} {w : World} (h1 : w.cell? ⟨g1, 0, none⟩ = some (.int .i64 least)) (h2 : w.cell? ⟨g2, 0, none⟩ = some (.int .i64 most)) :
    PredK 111 #[.pointer (some ⟨g1, 0, none⟩), .pointer (some ⟨g2, 0, none⟩)] (Kd.int .i64) cell1 xs (toOutside least most) w := by
  intro x _ W cs hb hK
  have e : cs = [.int .i64 x] := hK
  subst e
  have k1 : W.cell? ⟨g1, 0, none⟩ = some (.int .i64 least) := pw_cell_below hb h1
  have k2 : W.cell? ⟨g2, 0, none⟩ = some (.int .i64 most) := pw_cell_below hb h2
  simp only [cell1, List.getD_cons_zero]
  show Calls Tryz.prog 111 #[.int .i64 x, .pointer (some ⟨g1, 0, none⟩), .pointer (some ⟨g2, 0, none⟩)] W _
  clear hb h1 h2 hK
  by_cases c1 : x < least
  · have d1 : decide (x < least) = true := decide_eq_true c1
    have e1 : toOutside least most x = true := by simp [toOutside, d1]
    rw [e1]
    clear c1 e1
    go_enter Tryz.func111, Tryz.ntmps111
    go_wp2
    go_ret
    exact ⟨rfl, by first | exact Below.refl _ _ | exact pw_below_drewN (Below.refl _ _) _⟩
  · have d1 : decide (x < least) = false := decide_eq_false c1
    clear c1
    by_cases c2 : most < x
    · have d2 : decide (most < x) = true := decide_eq_true c2
      have e1 : toOutside least most x = true := by simp [toOutside, d2]
      rw [e1]
      clear c2 e1
      go_enter Tryz.func111, Tryz.ntmps111
      go_wp2
      go_ret
      exact ⟨rfl, by first | exact Below.refl _ _ | exact pw_below_drewN (Below.refl _ _) _⟩
    · have d2 : decide (most < x) = false := decide_eq_false c2
      have e1 : toOutside least most x = false := by simp [toOutside, d1, d2]
      rw [e1]
      clear c2 e1
      go_enter Tryz.func111, Tryz.ntmps111
      go_wp2
      go_ret
      exact ⟨rfl, by first | exact Below.refl _ _ | exact pw_below_drewN (Below.refl _ _) _⟩
def z11_.f (a0 a1 : Int) (l2 : List Int) : Option Bool := some (l2.all fun n => decide (a0 ≤ n) && decide (n ≤ a1))
theorem any_toOutside (a0 a1 : Int) (l : List Int) : (!(l.any (toOutside a0 a1))) = l.all fun n => decide (a0 ≤ n) && decide (n ≤ a1) := by
  induction l with
  | nil => rfl
  | cons x l ih =>
    simp only [List.any_cons, List.all_cons, Bool.not_or, ih]
    congr 1
    simp only [toOutside, Bool.not_or]
    by_cases h1 : a0 ≤ x <;> by_cases h2 : x ≤ a1 <;> simp [h1, h2] <;> omega
set_option maxHeartbeats 1000000 in
theorem z11_.calls (a0 : Int) (a1 : Int) (A2 : Option Addr) (c2 : Nat) (l2 : List Int) (r : Bool) (w : World) (hr2 : Kd.C (Kd.int .i64) w A2 l2.length l2) (_hc2 : l2.length ≤ c2) (h : z11_.f a0 a1 l2 = some r) :
    Calls Tryz.prog 101 #[.int .i64 a0, .int .i64 a1, .slice A2 l2.length c2] w fun e w' => e = .returned (.bool r) ∧ Below w.heap.size w w' := by
  obtain rfl := Option.some.inj h
  rw [← any_toOutside]
  have HR := Aside0.mk hr2
  clear hr2 h
  go_enter Tryz.func101, Tryz.ntmps101
  go_wp2_with fail
  refine (contains_int (p := toOutside a0 a1) enters_towithin1 (Kd.C_alloc (Kd.C_alloc HR.out _) _) (towithin1_pred (by simp) (by simp))).mono ?_
  rintro e w' ⟨rfl, hb⟩
  have HB := Aside0.mk (below_then (below_alloc (below_alloc (Below.refl _ _) _) _) (by simp; omega) hb)
  clear hb
  go_wp2
  go_ret
  exact ⟨rfl, HB.out⟩
theorem z56_ (a0 a1 x : Int) (q : Bool) (W : World) (e : TypeId) {g : Nat} (h : z11_.f a0 a1 [x] = some q) (hg : g = W.heap.size) :
    Calls Tryz.prog 101 #[.int .i64 a0, .int .i64 a1, .slice (some ⟨g, 0, none⟩) 1 1] (W.alloc (.cells #[.int .i64 x] e)) fun e w' => e = .returned (.bool q) ∧ Below W.heap.size W w' := by
  refine (z11_.calls a0 a1 _ 1 [x] q _ (C_lit1 W .i64 e x hg) (Nat.le_refl 1) h).mono ?_
  rintro e w' ⟨rfl, hb⟩
  exact ⟨rfl, below_then (below_alloc (Below.refl _ _) _) (by simp) hb⟩
end X
end Go.Proofs.YtgdkmadcegleiaaGreatDoor
namespace Go.Proofs.YtgdkmadcegleiaaGreatDoor
namespace PToo
open X
attribute [local go_sem] max2_int min2_int max_two min_two max_three min_three max_four min_four   -- for this text's walks alone
def errW : Option Int → Value
  | none => .nilIface
  | some c => .iface 0 (.int .i64 c)
theorem errW_none : errW none = .nilIface := rfl
theorem errW_some (c : Int) : errW (some c) = .iface 0 (.int .i64 c) := rfl
theorem info3 : (Tryz.prog.info? 3).map (fun i => (i.zero, i.size, i.bytes)) = some (some (.int .i64 0), 1, 8) := by kernel_rfl
end PToo
end Go.Proofs.YtgdkmadcegleiaaGreatDoor
namespace Go.Proofs.YtgdkmadcegleiaaGreatDoor
namespace PToo
open Sq X
attribute [local go_sem] max2_int min2_int max_two min_two max_three min_three max_four min_four   -- for this text's walks alone
def z44_.f (a0_0 : Int) (a0_1 : Int) (a1 : Int) (a2 : Int) : Option (Bool) := (z11_.f a1 a2 (([a0_0, a0_1] : List Int))).bind fun t105 => (if t105 = true then (some (decide (a0_0 ≤ a0_1))) else (some false))
set_option maxHeartbeats 8000000 in
set_option maxRecDepth 100000 in
theorem z44_.calls (a0_0 : Int) (a0_1 : Int) (a1 : Int) (a2 : Int) (r : Bool) (w : World) (h : z44_.f a0_0 a0_1 a1 a2 = some r) :
  Calls Tryz.prog 125 #[.agg #[.int .i64 a0_0, .int .i64 a0_1], .int .i64 a1, .int .i64 a2] w fun e w' => e = .returned (.bool r) ∧ Below w.heap.size w w' := by
 have hu30 := Tryz.underlying30
 have HB := Aside0.mk (Below.refl w.heap.size w)
 have H : ((z11_.f a1 a2 (([a0_0, a0_1] : List Int))).bind fun t105 => (if t105 = true then (some (decide (a0_0 ≤ a0_1))) else (some false))) = some r := h
 clear h
 obtain ⟨y102, hy102⟩ : ∃ y_ : List Int, y_ = (([a0_0, a0_1] : List Int)) := ⟨_, rfl⟩
 replace H : ((z11_.f a1 a2 y102).bind fun t105 => (if t105 = true then (some (decide (a0_0 ≤ a0_1))) else (some false))) = some r := by first | (rw [hy102]; with_reducible exact H) | (have H2_ := (Option.bind_some _ _).symm.trans H; rw [hy102]; with_reducible exact H2_) | (have H2_ := (Option.bind_some _ _).symm.trans H; with_reducible exact H2_) | with_reducible exact H | (rw [hy102]; exact H) | exact H
 have Ny102 := Aside0.mk hy102
 clear hy102
 replace H := bindA H
 obtain ⟨t105, A4, H⟩ := H
 try dsimp only at H
 by_cases c5 : t105 = true
 ·subst c5
  have H1 : (some (decide (a0_0 ≤ a0_1))) = some r := by rw [if_pos rfl] at H; exact H
  clear H
  have H := H1
  clear H1
  obtain rfl := Option.some.inj H
  go_enter Tryz.func125, Tryz.ntmps125
  go_wp2_with (first | ((with_reducible refine gate_dst (N := 3) rfl ?_); refine boxA (N := 3) (cs := #[.int .i64 a0_0, .int .i64 a0_1]) (t := 30) ?_; intro gb101 hg w6 hbox hb; have BK101 := Aside0.mk (hbox); have GE101 := bG HB hg; replace HB := bS HB hb; clear hb hbox hg; obtain ⟨hcz7_0, hcz7_1, hfz7_0, hfz7_1⟩ := cc2 BK101) | ((with_reducible refine gate_dst (N := 13) rfl ?_); refine Kd.R_lit (Kd.int .i64) _ 3 ?hg (N := 13) ?hd (xs := ([a0_0, a0_1] : List Int)) (inner := [.int .i64 a0_0, .int .i64 a0_1]) (ok := fun _ => True) (okp := fun _ => True) ?hr ?hp (fun _ hk => hk) trivial (Below.refl _ _) (Nat.le_refl _) (by simp) ?_; (case hd => rfl); (case hg => rfl); (case hr => first | (go_simp; done) | (go_simp; rfl)); (case hp => exact (Reps.one (show Kd.M (Kd.int .i64) _ _ _ a0_0 [.int .i64 a0_0] from rfl) (Reps.one (show Kd.M (Kd.int .i64) _ _ _ a0_1 [.int .i64 a0_1] from rfl) (Reps.none _ _)))); intro v103 w8 ho9 hb hg_ hnew_; clear hg_ hnew_; (first | rw [← Ny102.out] at ho9 | (simp only [Int.reduceToNat] at ho9; rw [← Ny102.out] at ho9)); have HO104 := Aside0.mk (Kd.R_lower ho9 (below_size (bX HB))); replace BK101 := kB BK101 hb; replace HB := bS HB hb; clear hb ho9; obtain ⟨Ao10, co10, eo10⟩ := Kd.R_slice HO104.out; subst eo10) | ((with_reducible refine gate_callee (f := 101) rfl ?_); refine goesA (some 14) Tryz.func101 #[.int .i64 a1, .int .i64 a2, .slice Ao10 y102.length co10] ?_; (with_reducible refine (z11_.calls a1 a2 _ _ y102 true _ ?side1 ?side2 A4.out).mono ?_); (case side1 => exact sX (Kd.R_reads' HO104.out).2.2); (case side2 => exact (Kd.R_reads' HO104.out).2.1); rintro e w11 ⟨rfl, hb⟩; refine ⟨_, rfl, ?_⟩; replace HO104 := rB HO104 hb; replace BK101 := kB BK101 hb; replace HB := bS HB hb; obtain ⟨hcz12_0, hcz12_1, hfz12_0, hfz12_1⟩ := cc2 BK101))
  go_ret
  exact ⟨eqA, bX HB⟩
 ·replace c5 := Bool.eq_false_iff.mpr c5
  subst c5
  have H1 : (some false) = some r := by rw [if_neg (show ¬ (false = true) by decide)] at H; exact H
  clear H
  have H := H1
  clear H1
  obtain rfl := Option.some.inj H
  go_enter Tryz.func125, Tryz.ntmps125
  go_wp2_with (first | ((with_reducible refine gate_dst (N := 3) rfl ?_); refine boxA (N := 3) (cs := #[.int .i64 a0_0, .int .i64 a0_1]) (t := 30) ?_; intro gb101 hg w13 hbox hb; have BK101 := Aside0.mk (hbox); have GE101 := bG HB hg; replace HB := bS HB hb; clear hb hbox hg; obtain ⟨hcz14_0, hcz14_1, hfz14_0, hfz14_1⟩ := cc2 BK101) | ((with_reducible refine gate_dst (N := 13) rfl ?_); refine Kd.R_lit (Kd.int .i64) _ 3 ?hg (N := 13) ?hd (xs := ([a0_0, a0_1] : List Int)) (inner := [.int .i64 a0_0, .int .i64 a0_1]) (ok := fun _ => True) (okp := fun _ => True) ?hr ?hp (fun _ hk => hk) trivial (Below.refl _ _) (Nat.le_refl _) (by simp) ?_; (case hd => rfl); (case hg => rfl); (case hr => first | (go_simp; done) | (go_simp; rfl)); (case hp => exact (Reps.one (show Kd.M (Kd.int .i64) _ _ _ a0_0 [.int .i64 a0_0] from rfl) (Reps.one (show Kd.M (Kd.int .i64) _ _ _ a0_1 [.int .i64 a0_1] from rfl) (Reps.none _ _)))); intro v103 w15 ho16 hb hg_ hnew_; clear hg_ hnew_; (first | rw [← Ny102.out] at ho16 | (simp only [Int.reduceToNat] at ho16; rw [← Ny102.out] at ho16)); have HO104 := Aside0.mk (Kd.R_lower ho16 (below_size (bX HB))); replace BK101 := kB BK101 hb; replace HB := bS HB hb; clear hb ho16; obtain ⟨Ao17, co17, eo17⟩ := Kd.R_slice HO104.out; subst eo17) | ((with_reducible refine gate_callee (f := 101) rfl ?_); refine goesA (some 14) Tryz.func101 #[.int .i64 a1, .int .i64 a2, .slice Ao17 y102.length co17] ?_; (with_reducible refine (z11_.calls a1 a2 _ _ y102 false _ ?side1 ?side2 A4.out).mono ?_); (case side1 => exact sX (Kd.R_reads' HO104.out).2.2); (case side2 => exact (Kd.R_reads' HO104.out).2.1); rintro e w18 ⟨rfl, hb⟩; refine ⟨_, rfl, ?_⟩; replace HO104 := rB HO104 hb; replace BK101 := kB BK101 hb; replace HB := bS HB hb))
  go_ret
  exact ⟨eqA, bX HB⟩
def z38_.f (a0_0 : Int) (a0_1 : Int) : Option (Bool) := (z44_.f a0_0 a0_1 0 300).bind fun t107 => (some t107)
set_option maxHeartbeats 8000000 in
set_option maxRecDepth 100000 in
theorem z38_.calls (a0_0 : Int) (a0_1 : Int) (r : Bool) (w : World) (h : z38_.f a0_0 a0_1 = some r) :
  Calls Tryz.prog 126 #[.agg #[.int .i64 a0_0, .int .i64 a0_1]] w fun e w' => e = .returned (.bool r) ∧ Below w.heap.size w w' := by
 have hu30 := Tryz.underlying30
 have HB := Aside0.mk (Below.refl w.heap.size w)
 have H : ((z44_.f a0_0 a0_1 0 300).bind fun t107 => (some t107)) = some r := h
 clear h
 replace H := bindA H
 obtain ⟨t107, A2, H⟩ := H
 try dsimp only at H
 obtain rfl := Option.some.inj H
 go_enter Tryz.func126, Tryz.ntmps126
 go_wp2_with (first | ((with_reducible refine gate_dst (N := 1) rfl ?_); refine boxA (N := 1) (cs := #[.int .i64 a0_0, .int .i64 a0_1]) (t := 30) ?_; intro gb106 hg w3 hbox hb; have BK106 := Aside0.mk (hbox); have GE106 := bG HB hg; replace HB := bS HB hb; clear hb hbox hg; obtain ⟨hcz4_0, hcz4_1, hfz4_0, hfz4_1⟩ := cc2 BK106) | ((with_reducible refine gate_callee (f := 125) rfl ?_); refine goesA (some 4) Tryz.func125 #[.agg #[.int .i64 a0_0, .int .i64 a0_1], .int .i64 0, .int .i64 300] ?_; (with_reducible refine (z44_.calls a0_0 a0_1 0 300 t107 _ A2.out).mono ?_); rintro e w5 ⟨rfl, hb⟩; refine ⟨_, rfl, ?_⟩; replace BK106 := kB BK106 hb; replace HB := bS HB hb))
 go_ret
 exact ⟨eqA, bX HB⟩
def z41_.f (a0_0 : Int) (a0_1 : Int) (a1_0 : Int) (a1_1 : Int) : Option (Bool) := (z38_.f a0_0 a0_1).bind fun t110 => (if t110 = true then ((z38_.f a1_0 a1_1).bind fun t111 => (if t111 = true then (some (decide (a0_1 ≤ a1_0))) else (some false))) else (some false))
set_option maxHeartbeats 8000000 in
set_option maxRecDepth 100000 in
theorem z41_.calls (a0_0 : Int) (a0_1 : Int) (a1_0 : Int) (a1_1 : Int) (r : Bool) (w : World) (h : z41_.f a0_0 a0_1 a1_0 a1_1 = some r) :
  Calls Tryz.prog 120 #[.agg #[.int .i64 a0_0, .int .i64 a0_1], .agg #[.int .i64 a1_0, .int .i64 a1_1]] w fun e w' => e = .returned (.bool r) ∧ Below w.heap.size w w' := by
 have hu30 := Tryz.underlying30
 have HB := Aside0.mk (Below.refl w.heap.size w)
 have H : ((z38_.f a0_0 a0_1).bind fun t110 => (if t110 = true then ((z38_.f a1_0 a1_1).bind fun t111 => (if t111 = true then (some (decide (a0_1 ≤ a1_0))) else (some false))) else (some false))) = some r := h
 clear h
 replace H := bindA H
 obtain ⟨t110, A3, H⟩ := H
 try dsimp only at H
 by_cases c4 : t110 = true
 ·subst c4
  have H1 : ((z38_.f a1_0 a1_1).bind fun t111 => (if t111 = true then (some (decide (a0_1 ≤ a1_0))) else (some false))) = some r := by rw [if_pos rfl] at H; exact H
  clear H
  have H := H1
  clear H1
  replace H := bindA H
  obtain ⟨t111, A5, H⟩ := H
  try dsimp only at H
  by_cases c6 : t111 = true
  ·subst c6
   have H1 : (some (decide (a0_1 ≤ a1_0))) = some r := by rw [if_pos rfl] at H; exact H
   clear H
   have H := H1
   clear H1
   obtain rfl := Option.some.inj H
   go_enter Tryz.func120, Tryz.ntmps120
   go_wp2_with (first | ((with_reducible refine gate_dst (N := 2) rfl ?_); refine boxA (N := 2) (cs := #[.int .i64 a0_0, .int .i64 a0_1]) (t := 30) ?_; intro gb108 hg w7 hbox hb; have BK108 := Aside0.mk (hbox); have GE108 := bG HB hg; replace HB := bS HB hb; clear hb hbox hg) | ((with_reducible refine gate_dst (N := 3) rfl ?_); refine boxA (N := 3) (cs := #[.int .i64 a1_0, .int .i64 a1_1]) (t := 30) ?_; intro gb109 hg w8 hbox hb; have BK109 := Aside0.mk (hbox); have GE109 := bG HB hg; have NB108_109 := kN BK108 hg; have NB109_108 := kM BK108 hg; replace BK108 := kB BK108 hb; replace HB := bS HB hb; clear hb hbox hg; obtain ⟨hnb9, hnc9⟩ := nn NB108_109; obtain ⟨hcz10_0, hcz10_1, hfz10_0, hfz10_1⟩ := cc2 BK108) | ((with_reducible refine gate_callee (f := 126) rfl ?_); refine goesA (some 6) Tryz.func126 #[.agg #[.int .i64 a0_0, .int .i64 a0_1]] ?_; (with_reducible refine (z38_.calls a0_0 a0_1 true _ A3.out).mono ?_); rintro e w11 ⟨rfl, hb⟩; refine ⟨_, rfl, ?_⟩; replace BK108 := kB BK108 hb; replace BK109 := kB BK109 hb; replace HB := bS HB hb; obtain ⟨hcz12_0, hcz12_1, hfz12_0, hfz12_1⟩ := cc2 BK109) | (go_at_call 126; (with_reducible refine (z38_.calls a1_0 a1_1 true _ A5.out).mono ?_); rintro e w13 ⟨rfl, hb⟩; replace BK108 := kB BK108 hb; replace BK109 := kB BK109 hb; replace HB := bS HB hb; obtain ⟨hcz14_0, hcz14_1, hfz14_0, hfz14_1⟩ := cc2 BK108; obtain ⟨hcz15_0, hcz15_1, hfz15_0, hfz15_1⟩ := cc2 BK109))
   go_ret
   exact ⟨eqA, bX HB⟩
  ·replace c6 := Bool.eq_false_iff.mpr c6
   subst c6
   have H1 : (some false) = some r := by rw [if_neg (show ¬ (false = true) by decide)] at H; exact H
   clear H
   have H := H1
   clear H1
   obtain rfl := Option.some.inj H
   go_enter Tryz.func120, Tryz.ntmps120
   go_wp2_with (first | ((with_reducible refine gate_dst (N := 2) rfl ?_); refine boxA (N := 2) (cs := #[.int .i64 a0_0, .int .i64 a0_1]) (t := 30) ?_; intro gb108 hg w16 hbox hb; have BK108 := Aside0.mk (hbox); have GE108 := bG HB hg; replace HB := bS HB hb; clear hb hbox hg) | ((with_reducible refine gate_dst (N := 3) rfl ?_); refine boxA (N := 3) (cs := #[.int .i64 a1_0, .int .i64 a1_1]) (t := 30) ?_; intro gb109 hg w17 hbox hb; have BK109 := Aside0.mk (hbox); have GE109 := bG HB hg; have NB108_109 := kN BK108 hg; have NB109_108 := kM BK108 hg; replace BK108 := kB BK108 hb; replace HB := bS HB hb; clear hb hbox hg; obtain ⟨hnb18, hnc18⟩ := nn NB108_109; obtain ⟨hcz19_0, hcz19_1, hfz19_0, hfz19_1⟩ := cc2 BK108) | ((with_reducible refine gate_callee (f := 126) rfl ?_); refine goesA (some 6) Tryz.func126 #[.agg #[.int .i64 a0_0, .int .i64 a0_1]] ?_; (with_reducible refine (z38_.calls a0_0 a0_1 true _ A3.out).mono ?_); rintro e w20 ⟨rfl, hb⟩; refine ⟨_, rfl, ?_⟩; replace BK108 := kB BK108 hb; replace BK109 := kB BK109 hb; replace HB := bS HB hb; obtain ⟨hcz21_0, hcz21_1, hfz21_0, hfz21_1⟩ := cc2 BK109) | (go_at_call 126; (with_reducible refine (z38_.calls a1_0 a1_1 false _ A5.out).mono ?_); rintro e w22 ⟨rfl, hb⟩; replace BK108 := kB BK108 hb; replace BK109 := kB BK109 hb; replace HB := bS HB hb))
   go_ret
   exact ⟨eqA, bX HB⟩
 ·replace c4 := Bool.eq_false_iff.mpr c4
  subst c4
  have H1 : (some false) = some r := by rw [if_neg (show ¬ (false = true) by decide)] at H; exact H
  clear H
  have H := H1
  clear H1
  obtain rfl := Option.some.inj H
  go_enter Tryz.func120, Tryz.ntmps120
  go_wp2_with (first | ((with_reducible refine gate_dst (N := 2) rfl ?_); refine boxA (N := 2) (cs := #[.int .i64 a0_0, .int .i64 a0_1]) (t := 30) ?_; intro gb108 hg w23 hbox hb; have BK108 := Aside0.mk (hbox); have GE108 := bG HB hg; replace HB := bS HB hb; clear hb hbox hg) | ((with_reducible refine gate_dst (N := 3) rfl ?_); refine boxA (N := 3) (cs := #[.int .i64 a1_0, .int .i64 a1_1]) (t := 30) ?_; intro gb109 hg w24 hbox hb; have BK109 := Aside0.mk (hbox); have GE109 := bG HB hg; have NB108_109 := kN BK108 hg; have NB109_108 := kM BK108 hg; replace BK108 := kB BK108 hb; replace HB := bS HB hb; clear hb hbox hg; obtain ⟨hnb25, hnc25⟩ := nn NB108_109; obtain ⟨hcz26_0, hcz26_1, hfz26_0, hfz26_1⟩ := cc2 BK108) | ((with_reducible refine gate_callee (f := 126) rfl ?_); refine goesA (some 6) Tryz.func126 #[.agg #[.int .i64 a0_0, .int .i64 a0_1]] ?_; (with_reducible refine (z38_.calls a0_0 a0_1 false _ A3.out).mono ?_); rintro e w27 ⟨rfl, hb⟩; refine ⟨_, rfl, ?_⟩; replace BK108 := kB BK108 hb; replace BK109 := kB BK109 hb; replace HB := bS HB hb))
  go_ret
  exact ⟨eqA, bX HB⟩
def z61_.f (a0_0 : Int) (a0_1 : Int) (a0_2 : Int) (a0_3 : Int) (a0_4 : Int) (a0_5 : Int) (a1 : Int) : Option (Bool) := (z44_.f a0_0 a0_1 0 (wrap64 (a1 - 1))).bind fun t113 => (if t113 = true then (if (wrap64 (a0_1 - a0_0)) < 5 then ((z41_.f a0_2 a0_3 a0_4 a0_5).bind fun t114 => (some t114)) else (some false)) else (some false))
set_option maxHeartbeats 8000000 in
set_option maxRecDepth 100000 in
theorem z61_.calls (a0_0 : Int) (a0_1 : Int) (a0_2 : Int) (a0_3 : Int) (a0_4 : Int) (a0_5 : Int) (a1 : Int) (r : Bool) (w : World) (h : z61_.f a0_0 a0_1 a0_2 a0_3 a0_4 a0_5 a1 = some r) :
  Calls Tryz.prog 119 #[.agg #[.int .i64 a0_0, .int .i64 a0_1, .int .i64 a0_2, .int .i64 a0_3, .int .i64 a0_4, .int .i64 a0_5], .int .i64 a1] w fun e w' => e = .returned (.bool r) ∧ Below w.heap.size w w' := by
 have hu171 := Tryz.underlying171
 have hu30 := Tryz.underlying30
 have HB := Aside0.mk (Below.refl w.heap.size w)
 have H : ((z44_.f a0_0 a0_1 0 (wrap64 (a1 - 1))).bind fun t113 => (if t113 = true then (if (wrap64 (a0_1 - a0_0)) < 5 then ((z41_.f a0_2 a0_3 a0_4 a0_5).bind fun t114 => (some t114)) else (some false)) else (some false))) = some r := h
 clear h
 replace H := bindA H
 obtain ⟨t113, A3, H⟩ := H
 try dsimp only at H
 by_cases c4 : t113 = true
 ·subst c4
  have H1 : (if (wrap64 (a0_1 - a0_0)) < 5 then ((z41_.f a0_2 a0_3 a0_4 a0_5).bind fun t114 => (some t114)) else (some false)) = some r := by rw [if_pos rfl] at H; exact H
  clear H
  have H := H1
  clear H1
  by_cases c5 : (wrap64 (a0_1 - a0_0)) < 5
  ·rw [if_pos c5] at H
   have c5b0 : decide ((wrap64 (a0_1 - a0_0)) < 5) = true := decide_eq_true c5
   clear c5
   replace H := bindA H
   obtain ⟨t114, A6, H⟩ := H
   try dsimp only at H
   obtain rfl := Option.some.inj H
   go_enter Tryz.func119, Tryz.ntmps119
   go_wp2_with (first | ((with_reducible refine gate_dst (N := 2) rfl ?_); refine boxA (N := 2) (cs := #[.int .i64 a0_0, .int .i64 a0_1, .int .i64 a0_2, .int .i64 a0_3, .int .i64 a0_4, .int .i64 a0_5]) (t := 171) ?_; intro gb112 hg w7 hbox hb; have BK112 := Aside0.mk (hbox); have GE112 := bG HB hg; replace HB := bS HB hb; clear hb hbox hg; obtain ⟨hcz8_0, hcz8_1, hcz8_2, hcz8_3, hcz8_4, hcz8_5, hfz8_0, hfz8_1, hfz8_2, hfz8_3, hfz8_4, hfz8_5⟩ := cc6 BK112) | ((with_reducible refine gate_callee (f := 125) rfl ?_); refine goesA (some 9) Tryz.func125 #[.agg #[.int .i64 a0_0, .int .i64 a0_1], .int .i64 0, .int .i64 (wrap64 (a1 - 1))] ?_; (with_reducible refine (z44_.calls a0_0 a0_1 0 (wrap64 (a1 - 1)) true _ A3.out).mono ?_); rintro e w9 ⟨rfl, hb⟩; refine ⟨_, rfl, ?_⟩; replace BK112 := kB BK112 hb; replace HB := bS HB hb; obtain ⟨hcz10_0, hcz10_1, hcz10_2, hcz10_3, hcz10_4, hcz10_5, hfz10_0, hfz10_1, hfz10_2, hfz10_3, hfz10_4, hfz10_5⟩ := cc6 BK112) | (go_at_call 120; (with_reducible refine (z41_.calls a0_2 a0_3 a0_4 a0_5 t114 _ A6.out).mono ?_); rintro e w11 ⟨rfl, hb⟩; replace BK112 := kB BK112 hb; replace HB := bS HB hb))
   go_ret
   exact ⟨eqA, bX HB⟩
  ·rw [if_neg c5] at H
   have c5b0 : decide ((wrap64 (a0_1 - a0_0)) < 5) = false := decide_eq_false c5
   clear c5
   obtain rfl := Option.some.inj H
   go_enter Tryz.func119, Tryz.ntmps119
   go_wp2_with (first | ((with_reducible refine gate_dst (N := 2) rfl ?_); refine boxA (N := 2) (cs := #[.int .i64 a0_0, .int .i64 a0_1, .int .i64 a0_2, .int .i64 a0_3, .int .i64 a0_4, .int .i64 a0_5]) (t := 171) ?_; intro gb112 hg w12 hbox hb; have BK112 := Aside0.mk (hbox); have GE112 := bG HB hg; replace HB := bS HB hb; clear hb hbox hg; obtain ⟨hcz13_0, hcz13_1, hcz13_2, hcz13_3, hcz13_4, hcz13_5, hfz13_0, hfz13_1, hfz13_2, hfz13_3, hfz13_4, hfz13_5⟩ := cc6 BK112) | ((with_reducible refine gate_callee (f := 125) rfl ?_); refine goesA (some 9) Tryz.func125 #[.agg #[.int .i64 a0_0, .int .i64 a0_1], .int .i64 0, .int .i64 (wrap64 (a1 - 1))] ?_; (with_reducible refine (z44_.calls a0_0 a0_1 0 (wrap64 (a1 - 1)) true _ A3.out).mono ?_); rintro e w14 ⟨rfl, hb⟩; refine ⟨_, rfl, ?_⟩; replace BK112 := kB BK112 hb; replace HB := bS HB hb; obtain ⟨hcz15_0, hcz15_1, hcz15_2, hcz15_3, hcz15_4, hcz15_5, hfz15_0, hfz15_1, hfz15_2, hfz15_3, hfz15_4, hfz15_5⟩ := cc6 BK112))
   go_ret
   exact ⟨eqA, bX HB⟩
 ·replace c4 := Bool.eq_false_iff.mpr c4
  subst c4
  have H1 : (some false) = some r := by rw [if_neg (show ¬ (false = true) by decide)] at H; exact H
  clear H
  have H := H1
  clear H1
  obtain rfl := Option.some.inj H
  go_enter Tryz.func119, Tryz.ntmps119
  go_wp2_with (first | ((with_reducible refine gate_dst (N := 2) rfl ?_); refine boxA (N := 2) (cs := #[.int .i64 a0_0, .int .i64 a0_1, .int .i64 a0_2, .int .i64 a0_3, .int .i64 a0_4, .int .i64 a0_5]) (t := 171) ?_; intro gb112 hg w16 hbox hb; have BK112 := Aside0.mk (hbox); have GE112 := bG HB hg; replace HB := bS HB hb; clear hb hbox hg; obtain ⟨hcz17_0, hcz17_1, hcz17_2, hcz17_3, hcz17_4, hcz17_5, hfz17_0, hfz17_1, hfz17_2, hfz17_3, hfz17_4, hfz17_5⟩ := cc6 BK112) | ((with_reducible refine gate_callee (f := 125) rfl ?_); refine goesA (some 9) Tryz.func125 #[.agg #[.int .i64 a0_0, .int .i64 a0_1], .int .i64 0, .int .i64 (wrap64 (a1 - 1))] ?_; (with_reducible refine (z44_.calls a0_0 a0_1 0 (wrap64 (a1 - 1)) false _ A3.out).mono ?_); rintro e w18 ⟨rfl, hb⟩; refine ⟨_, rfl, ?_⟩; replace BK112 := kB BK112 hb; replace HB := bS HB hb))
  go_ret
  exact ⟨eqA, bX HB⟩
def z45_.f (a0_0 : Int) (a0_1 : Int) : Option (Int) := some a0_0
set_option maxHeartbeats 8000000 in
set_option maxRecDepth 100000 in
theorem z45_.calls (a0_0 : Int) (a0_1 : Int) (r : Int) (w : World) (h : z45_.f a0_0 a0_1 = some r) :
  Calls Tryz.prog 104 #[.agg #[.int .i64 a0_0, .int .i64 a0_1]] w fun e w' => e = .returned (.int .i64 r) ∧ Below w.heap.size w w' := by
 have hu30 := Tryz.underlying30
 have HB := Aside0.mk (Below.refl w.heap.size w)
 have H : (some a0_0) = some r := h
 clear h
 obtain rfl := Option.some.inj H
 go_enter Tryz.func104, Tryz.ntmps104
 go_wp2_with (first | ((with_reducible refine gate_dst (N := 1) rfl ?_); refine boxA (N := 1) (cs := #[.int .i64 a0_0, .int .i64 a0_1]) (t := 30) ?_; intro gb115 hg w2 hbox hb; have BK115 := Aside0.mk (hbox); have GE115 := bG HB hg; replace HB := bS HB hb; clear hb hbox hg; obtain ⟨hcz3_0, hcz3_1, hfz3_0, hfz3_1⟩ := cc2 BK115))
 go_ret
 exact ⟨eqA, bX HB⟩
def z48_.f (a0_0 : Int) (a0_1 : Int) : Option (Int) := some a0_1
set_option maxHeartbeats 8000000 in
set_option maxRecDepth 100000 in
theorem z48_.calls (a0_0 : Int) (a0_1 : Int) (r : Int) (w : World) (h : z48_.f a0_0 a0_1 = some r) :
  Calls Tryz.prog 103 #[.agg #[.int .i64 a0_0, .int .i64 a0_1]] w fun e w' => e = .returned (.int .i64 r) ∧ Below w.heap.size w w' := by
 have hu30 := Tryz.underlying30
 have HB := Aside0.mk (Below.refl w.heap.size w)
 have H : (some a0_1) = some r := h
 clear h
 obtain rfl := Option.some.inj H
 go_enter Tryz.func103, Tryz.ntmps103
 go_wp2_with (first | ((with_reducible refine gate_dst (N := 1) rfl ?_); refine boxA (N := 1) (cs := #[.int .i64 a0_0, .int .i64 a0_1]) (t := 30) ?_; intro gb116 hg w2 hbox hb; have BK116 := Aside0.mk (hbox); have GE116 := bG HB hg; replace HB := bS HB hb; clear hb hbox hg; obtain ⟨hcz3_0, hcz3_1, hfz3_0, hfz3_1⟩ := cc2 BK116))
 go_ret
 exact ⟨eqA, bX HB⟩
def z34_.f (a0_0 : Int) (a0_1 : Int) (a1_0 : Int) (a1_1 : Int) : Option (Int × Int) := some (mx a0_0 a1_0, mn a0_1 a1_1)
set_option maxHeartbeats 8000000 in
set_option maxRecDepth 100000 in
theorem z34_.calls (a0_0 : Int) (a0_1 : Int) (a1_0 : Int) (a1_1 : Int) (r1 : Int) (r2 : Int) (w : World) (h : z34_.f a0_0 a0_1 a1_0 a1_1 = some (r1, r2)) :
  Calls Tryz.prog 114 #[.agg #[.int .i64 a0_0, .int .i64 a0_1], .agg #[.int .i64 a1_0, .int .i64 a1_1]] w fun e w' => e = .returned (.agg #[.int .i64 r1, .int .i64 r2]) ∧ Below w.heap.size w w' := by
 have hu30 := Tryz.underlying30
 have HB := Aside0.mk (Below.refl w.heap.size w)
 have H : (some (mx a0_0 a1_0, mn a0_1 a1_1)) = some (r1, r2) := h
 clear h
 obtain ⟨ji3, hji3⟩ : ∃ j_ : Int, (mx a0_0 a1_0) = j_ := ⟨_, rfl⟩
 replace H : (some (ji3, mn a0_1 a1_1)) = some (r1, r2) := by first | (rw [hji3] at H; exact H) | (simp only [hji3] at H ⊢; exact H)
 have hji3_ : (if a0_0 < a1_0 then a1_0 else a0_0) = ji3 := hji3
 obtain ⟨ji4, hji4⟩ : ∃ j_ : Int, (mn a0_1 a1_1) = j_ := ⟨_, rfl⟩
 replace H : (some (ji3, ji4)) = some (r1, r2) := by first | (rw [hji4] at H; exact H) | (simp only [hji4] at H ⊢; exact H)
 have hji4_ : (if a1_1 < a0_1 then a1_1 else a0_1) = ji4 := hji4
 simp only [Option.some.injEq, Prod.mk.injEq] at H
 obtain ⟨rfl, rfl⟩ := H
 go_enter Tryz.func114, Tryz.ntmps114
 go_wp2_with (first | ((with_reducible refine gate_dst (N := 2) rfl ?_); refine boxA (N := 2) (cs := #[.int .i64 a0_0, .int .i64 a0_1]) (t := 30) ?_; intro gb117 hg w5 hbox hb; have BK117 := Aside0.mk (hbox); have GE117 := bG HB hg; replace HB := bS HB hb; clear hb hbox hg) | ((with_reducible refine gate_dst (N := 3) rfl ?_); refine boxA (N := 3) (cs := #[.int .i64 a1_0, .int .i64 a1_1]) (t := 30) ?_; intro gb118 hg w6 hbox hb; have BK118 := Aside0.mk (hbox); have GE118 := bG HB hg; have NB117_118 := kN BK117 hg; have NB118_117 := kM BK117 hg; replace BK117 := kB BK117 hb; replace HB := bS HB hb; clear hb hbox hg) | ((with_reducible refine gate_dst (N := 4) rfl ?_); refine boxA (N := 4) (cs := #[.int .i64 0, .int .i64 0]) (t := 30) ?_; intro gb119 hg w7 hbox hb; have BK119 := Aside0.mk (hbox); have GE119 := bG HB hg; have NB117_119 := kN BK117 hg; have NB119_117 := kM BK117 hg; have NB118_119 := kN BK118 hg; have NB119_118 := kM BK118 hg; replace BK117 := kB BK117 hb; replace BK118 := kB BK118 hb; replace HB := bS HB hb; clear hb hbox hg; obtain ⟨hnb8, hnc8⟩ := nn NB117_118; obtain ⟨hnb9, hnc9⟩ := nn NB117_119; obtain ⟨hcz10_0, hcz10_1, hfz10_0, hfz10_1⟩ := cc2 BK117; obtain ⟨hnb11, hnc11⟩ := nn NB118_119; obtain ⟨hcz12_0, hcz12_1, hfz12_0, hfz12_1⟩ := cc2 BK118; obtain ⟨hcz13_0, hcz13_1, hfz13_0, hfz13_1⟩ := cc2 BK119))
 refine bodyPost_ret (results_cell_row rfl _ _ gb119 30 #[.int .i64 ji3, .int .i64 ji4] (0, 0) _ rfl (kP BK119) Tryz.underlying30 rfl (by kernel_rfl)) rfl ?_
 exact ⟨by first | rfl | (simp [errW_none, errW_some] <;> rfl) | (simp only [← hji3, ← hji4]; first | rfl | (simp [errW_none, errW_some] <;> rfl)) | (simp [*, errW_none, errW_some] <;> rfl), bX HB⟩
end PToo
end Go.Proofs.YtgdkmadcegleiaaGreatDoor
namespace Go.Proofs.YtgdkmadcegleiaaGreatDoor
namespace PToo
open X
attribute [local go_sem] max2_int min2_int max_two min_two max_three min_three max_four min_four   -- for this text's walks alone
end PToo
end Go.Proofs.YtgdkmadcegleiaaGreatDoor
namespace Go.Proofs.YtgdkmadcegleiaaGreatDoor
namespace X
set_option maxHeartbeats 2000000 in
theorem index_crack' {g : Nat} {lb : Array Value} {xs : List (S171)} {p : S171 → Bool} {w : World} {A : Option Addr} {n c : Nat} (eg : ∀ args w, (callFunc g args).run Tryz.prog w = .ok (.enter g args) w)
    (hn : xs.length = n) (hr : Kd.C (k171) w A n xs) (hp : PredK g lb (k171) cellN xs p w) :
    Calls Tryz.prog 124 #[.slice A n c, .func (.func g) #[] lb] w fun e w' => e = .returned (.int .i64 (idxI p xs)) ∧ Below w.heap.size w w' := by
  have hm : n ≤ 9223372036854775807 := Kd.C_max hr
  have HN := Aside0.mk hn
  have HR := Aside0.mk hr
  have HP := Aside0.mk hp
  clear hr hp hn
  go_enter Tryz.func124, Tryz.ntmps124
  go_wp2
  go_loopg [5, 8] n (fun gg _ s8 wr => ∃ kk : Nat, kk ≤ n ∧ n - kk ≤ gg ∧ s8 = .int .i64 kk ∧ Aside0 (Below w.heap.size w wr) ∧ Aside0 (∀ j, j < kk → p (xs.getD j z171) = false))
  case atStart => exact ⟨0, Nat.zero_le _, by omega, rfl, ⟨Below.refl _ w⟩, ⟨fun j h0 => absurd h0 (Nat.not_lt_zero _)⟩⟩
  case round =>
    obtain ⟨kk, hkk, hg, rfl, BW, HA⟩ := hrel
    by_cases hlt : kk < n
    · have hltz : (kk : Int) < (n : Int) := by omega
      obtain ⟨ad, c1, rfl, hl1, hK, hcell⟩ := Kd.C_get (Kd.C_below HR.out BW.out) z171 (kk : Int) (by omega) hltz
      rw [Int.toNat_natCast] at hK hcell
      have hcall := HP.out _ (getD_mem HN.out hlt) wr _ BW.out hK
      have e1 := k171_open hK
      subst e1
      have hc : ∀ j u, [Value.int .i64 (xs.getD kk z171).f0.f0, Value.int .i64 (xs.getD kk z171).f0.f1, Value.int .i64 (xs.getD kk z171).f1.f0, Value.int .i64 (xs.getD kk z171).f1.f1, Value.int .i64 (xs.getD kk z171).f2.f0, Value.int .i64 (xs.getD kk z171).f2.f1][j]? = some u → wr.cell? (ad.add (kk * 6 + j)) = some u := fun j u hu => hcell j u hu
      have hc0 : wr.cell? (ad.add (kk * 6)) = some (.int .i64 (xs.getD kk z171).f0.f0) := hc 0 _ rfl
      have hc1 : wr.cell? ⟨(ad.add (kk * 6)).block, (ad.add (kk * 6)).off + 1, none⟩ = some (.int .i64 (xs.getD kk z171).f0.f1) := by rw [← add_field _ _ 1 (by omega)]; exact hc 1 _ rfl
      have hc2 : wr.cell? ⟨(ad.add (kk * 6)).block, (ad.add (kk * 6)).off + 2, none⟩ = some (.int .i64 (xs.getD kk z171).f1.f0) := by rw [← add_field _ _ 2 (by omega)]; exact hc 2 _ rfl
      have hc3 : wr.cell? ⟨(ad.add (kk * 6)).block, (ad.add (kk * 6)).off + 3, none⟩ = some (.int .i64 (xs.getD kk z171).f1.f1) := by rw [← add_field _ _ 3 (by omega)]; exact hc 3 _ rfl
      have hc4 : wr.cell? ⟨(ad.add (kk * 6)).block, (ad.add (kk * 6)).off + 4, none⟩ = some (.int .i64 (xs.getD kk z171).f2.f0) := by rw [← add_field _ _ 4 (by omega)]; exact hc 4 _ rfl
      have hc5 : wr.cell? ⟨(ad.add (kk * 6)).block, (ad.add (kk * 6)).off + 5, none⟩ = some (.int .i64 (xs.getD kk z171).f2.f1) := by rw [← add_field _ _ 5 (by omega)]; exact hc 5 _ rfl
      clear hc
      simp only [cellN] at hcall
      clear hcell hl1
      have hxx : xs.getD kk z171 = xs.getD kk z171 := rfl
      generalize hy : xs.getD kk z171 = y at hcall hc0 hc1 hc2 hc3 hc4 hc5 hK
      have HY := Aside0.mk hy
      clear hy hxx hK
      cases hq : p y with
      | true =>
        rw [hq] at hcall
        have HQ := Aside0.mk hq
        have HC := Aside0.mk hcall
        clear hq hcall
        go_wp2_with (go_at_fn g; refine HC.out.mono ?_; rintro e w' ⟨rfl, hb'⟩)
        go_ret
        refine ⟨?_, later_below BW.out hb'⟩; rw [idxI_hitD p xs z171 n kk HN.out hlt (by rw [HY.out]; exact HQ.out) HA.out]; rfl
      | false =>
        rw [hq] at hcall
        have HQ := Aside0.mk hq
        have HC := Aside0.mk hcall
        clear hq hcall
        go_wp2_with (go_at_fn g; refine HC.out.mono ?_; rintro e w' ⟨rfl, hb'⟩)
        go_roundg (n - (kk + 1))
        case measure => omega
        case rel =>
          refine ⟨kk + 1, by omega, by omega, by go_num, ⟨later_below BW.out hb'⟩, ⟨fun j h1 => ?_⟩⟩
          by_cases e : j = kk
          · subst e; rw [HY.out]; exact HQ.out
          · exact HA.out j (by omega)
    · have hltz : ¬ (kk : Int) < (n : Int) := by omega
      have e : kk = n := by omega
      subst e
      go_wp2
      go_ret
      refine ⟨?_, BW.out⟩; rw [idxI_missD p xs z171 kk HN.out HA.out]; rfl
theorem index_crack {g : Nat} {lb : Array Value} {xs : List (S171)} {p : S171 → Bool} {w : World} {A : Option Addr} {c : Nat} (eg : ∀ args w, (callFunc g args).run Tryz.prog w = .ok (.enter g args) w)
    (hr : Kd.C (k171) w A xs.length xs) (hp : PredK g lb (k171) cellN xs p w) :
    Calls Tryz.prog 124 #[.slice A xs.length c, .func (.func g) #[] lb] w fun e w' => e = .returned (.int .i64 (idxI p xs)) ∧ Below w.heap.size w w' := index_crack' eg rfl hr hp
theorem contains_crack {g : Nat} {lb : Array Value} {xs : List (S171)} {p : S171 → Bool} {w : World} {A : Option Addr} {c : Nat} (eg : ∀ args w, (callFunc g args).run Tryz.prog w = .ok (.enter g args) w)
    (hr : Kd.C (k171) w A xs.length xs) (hp : PredK g lb (k171) cellN xs p w) :
    Calls Tryz.prog 117 #[.slice A xs.length c, .func (.func g) #[] lb] w fun e w' => e = .returned (.bool (xs.any p)) ∧ Below w.heap.size w w' := by
  rw [← idxI_any p xs]
  have HR := Aside0.mk hr
  have HP := Aside0.mk hp
  have HE := Aside0.mk eg
  clear hr hp eg
  go_enter Tryz.func117, Tryz.ntmps117
  go_wp2_with (go_at_call 124; refine (index_crack HE.out HR.out HP.out).mono ?_; rintro e w' ⟨rfl, hb'⟩)
  go_ret
  exact ⟨rfl, hb'⟩
end X
end Go.Proofs.YtgdkmadcegleiaaGreatDoor
namespace Go.Proofs.YtgdkmadcegleiaaGreatDoor
namespace X
open PToo
theorem isHeight_some (a b : Int) : ∃ q, z38_.f a b = some q := by
  unfold z38_.f z44_.f z11_.f
  simp only [Option.bind_some]
  split <;> exact ⟨_, rfl⟩
theorem isEdges_some (a b c d : Int) : ∃ q, z41_.f a b c d = some q := by
  unfold z41_.f
  obtain ⟨q1, h1⟩ := isHeight_some a b
  obtain ⟨q2, h2⟩ := isHeight_some c d
  rw [h1, h2]
  cases q1 <;> cases q2 <;> exact ⟨_, rfl⟩
theorem isCrack_some (a b c d e f n : Int) : ∃ q, z61_.f a b c d e f n = some q := by
  unfold z61_.f z44_.f z11_.f
  obtain ⟨q1, h1⟩ := isEdges_some c d e f
  simp only [Option.bind_some, h1]
  split
  · simp only [Option.bind_some]
    split
    · split <;> exact ⟨_, rfl⟩
    · exact ⟨_, rfl⟩
  · exact ⟨_, rfl⟩
def edgesB (a b : S30) : Bool := (z41_.f a.f0 a.f1 b.f0 b.f1).getD false
theorem edges_eq (a b : S30) : z41_.f a.f0 a.f1 b.f0 b.f1 = some (edgesB a b) := by
  obtain ⟨q, h⟩ := isEdges_some a.f0 a.f1 b.f0 b.f1
  unfold edgesB; rw [h]; rfl
def crackB (n : Int) (c : S171) : Bool := (z61_.f c.f0.f0 c.f0.f1 c.f1.f0 c.f1.f1 c.f2.f0 c.f2.f1 n).getD false
theorem crack_eq (n : Int) (c : S171) : z61_.f c.f0.f0 c.f0.f1 c.f1.f0 c.f1.f1 c.f2.f0 c.f2.f1 n = some (crackB n c) := by
  obtain ⟨q, h⟩ := isCrack_some c.f0.f0 c.f0.f1 c.f1.f0 c.f1.f1 c.f2.f0 c.f2.f1 n
  unfold crackB; rw [h]; rfl
theorem enters_form1 : ∀ args w, (callFunc 118 args).run Tryz.prog w = .ok (.enter 118 args) w := enters_of Tryz.func118 (by kernel_rfl) rfl
set_option maxHeartbeats 1000000 in
theorem form1_pred {g : Nat} {n : Int} {xs : List S171} {w : World} (h1 : w.cell? ⟨g, 0, none⟩ = some (.int .i64 n)) :
    PredK 118 #[.pointer (some ⟨g, 0, none⟩)] k171 cellN xs (fun c => !(crackB n c)) w := by
  intro x _ W cs hb hK
  have e := k171_open hK
  subst e
  simp only [cellN]
  show Calls Tryz.prog 118 #[.agg #[.int .i64 x.f0.f0, .int .i64 x.f0.f1, .int .i64 x.f1.f0, .int .i64 x.f1.f1, .int .i64 x.f2.f0, .int .i64 x.f2.f1], .pointer (some ⟨g, 0, none⟩)] W _
  have k0 : W.cell? ⟨g, 0, none⟩ = some (.int .i64 n) := pw_cell_below hb h1
  have k1 : ∀ o, (W.alloc o).cell? ⟨g, 0, none⟩ = some (.int .i64 n) := fun o => keep_cell o k0
  have HS := Aside0.mk (crack_eq n x)
  obtain ⟨q, hq⟩ : ∃ q, crackB n x = q := ⟨_, rfl⟩
  rw [hq] at HS ⊢
  clear hb h1 hK hq
  go_enter Tryz.func118, Tryz.ntmps118
  go_wp2_with (go_at_call 119; refine (z61_.calls x.f0.f0 x.f0.f1 x.f1.f0 x.f1.f1 x.f2.f0 x.f2.f1 n q _ HS.out).mono ?_; rintro e w1 ⟨rfl, hb1⟩; have HB1 := Aside0.mk (below_then (below_alloc (Below.refl W.heap.size W) _) (by simp) hb1); clear hb1)
  go_ret
  exact ⟨rfl, HB1.out⟩
end X
end Go.Proofs.YtgdkmadcegleiaaGreatDoor
namespace Go.Proofs.YtgdkmadcegleiaaGreatDoor
namespace X
open PToo
def edgesUp (bot top : List S30) : Nat → Bool
  | 0 => true
  | k + 1 => edgesUp bot top k && edgesB (bot.getD k z30) (top.getD k z30)
theorem edgesUp_false {bot top : List S30} {j : Nat} (h : edgesB (bot.getD j z30) (top.getD j z30) = false) : ∀ n, j < n → edgesUp bot top n = false
  | 0, hj => absurd hj (Nat.not_lt_zero _)
  | n + 1, hj => by
    unfold edgesUp
    by_cases e : j = n
    · subst e; rw [h, Bool.and_false]
    · rw [edgesUp_false h n (by omega), Bool.false_and]
def formF (bot top : List S30) (bend : Int) (cr : List S171) : Int :=
  if bot.length = top.length then
    if (decide (1 ≤ (bot.length : Int)) && decide ((bot.length : Int) ≤ 30)) = true then
      if 4 < cr.length then 5
      else if (decide (0 ≤ bend) && decide (bend ≤ 300)) = true then
        if cr.any (fun c => !(crackB bot.length c)) = true then 2 else if edgesUp bot top bot.length = true then 0 else 2
      else 2
    else 4
  else 4
def z62_.f (l0_0 : List S30) (l0_1 : List S30) (a0_2 : Int) (l0_3 : List S171) : Option Int := some (formF l0_0 l0_1 a0_2 l0_3)
abbrev formW (w : World) (v : Array Value) (n : Int) : World := (w.alloc (.cells v 126 (0, 0))).alloc (.cells #[.int .i64 n] 3 (0, 0))
theorem formW_facts {w w1 : World} {v0 v1 v2 v3 : Value} {n : Int} (hb : Below (formW w #[v0, v1, v2, v3] n).heap.size (formW w #[v0, v1, v2, v3] n) w1) :
    (w1.cell? ⟨w.heap.size, 0, none⟩ = some v0 ∧ w1.cell? ⟨w.heap.size, 1, none⟩ = some v1 ∧ w1.cell? ⟨w.heap.size, 2, none⟩ = some v2 ∧ w1.cell? ⟨w.heap.size, 3, none⟩ = some v3) ∧ w1.cell? ⟨w.heap.size + 1, 0, none⟩ = some (.int .i64 n) ∧ Below w.heap.size w w1 := by
  have b1 := blk_below (g := w.heap.size) (o := .cells #[v0, v1, v2, v3] 126 (0, 0)) (blk_alloc (blk_new w _) _) hb
  have b2 := blk_below (g := w.heap.size + 1) (o := .cells #[.int .i64 n] 3 (0, 0)) (one_blk _ _ (by simp)) hb
  exact ⟨⟨(blk_cell b1 0).trans rfl, (blk_cell b1 1).trans rfl, (blk_cell b1 2).trans rfl, (blk_cell b1 3).trans rfl⟩, (blk_cell b2 0).trans rfl, below_then (below_alloc (below_alloc (Below.refl _ _) _) _) (by simp; omega) hb⟩
set_option maxHeartbeats 4000000 in
theorem z62_.calls (A0_0 : Option Addr) (c0_0 : Nat) (l0_0 : List S30) (A0_1 : Option Addr) (c0_1 : Nat) (l0_1 : List S30) (a0_2 : Int) (A0_3 : Option Addr) (c0_3 : Nat) (l0_3 : List S171) (r : Int) (w : World) (hr0_0 : Kd.C k30 w A0_0 l0_0.length l0_0) (_hc0_0 : l0_0.length ≤ c0_0) (hr0_1 : Kd.C k30 w A0_1 l0_1.length l0_1) (_hc0_1 : l0_1.length ≤ c0_1) (hr0_3 : Kd.C k171 w A0_3 l0_3.length l0_3) (_hc0_3 : l0_3.length ≤ c0_3) (h : z62_.f l0_0 l0_1 a0_2 l0_3 = some r) :
    Calls Tryz.prog 109 #[.agg #[.slice A0_0 l0_0.length c0_0, .slice A0_1 l0_1.length c0_1, .int .i64 a0_2, .slice A0_3 l0_3.length c0_3]] w fun e w' => e = .returned (.int .i64 r) ∧ Below w.heap.size w w' := by
  obtain rfl := Option.some.inj h
  have HR0 := Aside0.mk hr0_0
  have HR1 := Aside0.mk hr0_1
  have HR3 := Aside0.mk hr0_3
  clear hr0_0 hr0_1 hr0_3 h
  unfold formF
  by_cases cn : l0_0.length = l0_1.length
  · rw [if_pos cn]
    have HL := Aside0.mk cn
    rw [← cn] at HR1 _hc0_1 ⊢
    have HF : Aside0 (∀ {w1 : World}, Below (formW w #[.slice A0_0 l0_0.length c0_0, .slice A0_1 l0_0.length c0_1, .int .i64 a0_2, .slice A0_3 l0_3.length c0_3] l0_0.length).heap.size (formW w #[.slice A0_0 l0_0.length c0_0, .slice A0_1 l0_0.length c0_1, .int .i64 a0_2, .slice A0_3 l0_3.length c0_3] l0_0.length) w1 → _) := ⟨fun hb => formW_facts hb⟩
    clear cn
    have hw : z11_.f 1 30 [(l0_0.length : Int)] = some (decide (1 ≤ (l0_0.length : Int)) && decide ((l0_0.length : Int) ≤ 30)) := by unfold z11_.f; simp
    cases q0 : (decide (1 ≤ (l0_0.length : Int)) && decide ((l0_0.length : Int) ≤ 30)) with
    | false =>
      rw [q0] at hw
      have HW := Aside0.mk hw
      clear hw q0
      rw [if_neg (by decide)]
      go_enter Tryz.func109, Tryz.ntmps109
      go_wp2_with (go_at_call 101; refine (z11_.calls 1 30 _ 1 [(l0_0.length : Int)] false _ (C_lit1 _ _ _ _ (by simp)) (Nat.le_refl 1) HW.out).mono ?_; rintro e w1 ⟨rfl, hb1⟩; obtain ⟨⟨z0, z1, z2, z3⟩, zn, hb⟩ := HF.out (below_then (below_alloc (Below.refl _ (formW w #[.slice A0_0 l0_0.length c0_0, .slice A0_1 l0_0.length c0_1, .int .i64 a0_2, .slice A0_3 l0_3.length c0_3] l0_0.length)) _) (by simp) hb1); have HB := Aside0.mk hb; clear hb hb1)
      go_ret
      exact ⟨rfl, HB.out⟩
    | true =>
      rw [q0] at hw
      have HW := Aside0.mk hw
      clear hw q0
      rw [if_pos rfl]
      by_cases c4 : 4 < l0_3.length
      · have d4 : decide ((4 : Int) < (l0_3.length : Int)) = true := decide_eq_true (by omega)
        have d4' : decide (4 < l0_3.length) = true := decide_eq_true c4
        rw [if_pos c4]
        clear c4
        go_enter Tryz.func109, Tryz.ntmps109
        go_wp2_with ((go_at_call 101; with_reducible refine (z56_ 1 30 _ true _ _ HW.out ?side).mono ?_; (case side => simp); rintro e w1 ⟨rfl, hb1⟩; have hbw := hb1; obtain ⟨⟨z0, z1, z2, z3⟩, zn, hb⟩ := HF.out hbw; have HB := Aside0.mk hb; have HBW := Aside0.mk hbw; clear hb hb1 hbw))
        go_ret
        exact ⟨rfl, HB.out⟩
      · have d4 : decide ((4 : Int) < (l0_3.length : Int)) = false := decide_eq_false (by omega)
        have d4' : decide (4 < l0_3.length) = false := decide_eq_false c4
        rw [if_neg c4]
        clear c4
        have hw2 : z11_.f 0 300 [a0_2] = some (decide (0 ≤ a0_2) && decide (a0_2 ≤ 300)) := by unfold z11_.f; simp
        cases q2 : (decide (0 ≤ a0_2) && decide (a0_2 ≤ 300)) with
        | false =>
          rw [q2] at hw2
          have HW2 := Aside0.mk hw2
          clear hw2 q2
          rw [if_neg (by decide)]
          go_enter Tryz.func109, Tryz.ntmps109
          go_wp2_with (first | (go_at_call 101; with_reducible refine (z56_ 1 30 _ true _ _ HW.out ?side).mono ?_; (case side => simp); rintro e w1 ⟨rfl, hb1⟩; have hbw := hb1; obtain ⟨⟨z0, z1, z2, z3⟩, zn, hb⟩ := HF.out hbw; have HB := Aside0.mk hb; have HBW := Aside0.mk hbw; clear hb hb1 hbw) | (go_at_call 101; with_reducible refine (z56_ 0 300 _ false _ _ HW2.out ?side).mono ?_; (case side => simp); rintro e w2 ⟨rfl, hb2⟩; have hbw2 := later_below HBW.out hb2; obtain ⟨⟨y0, y1, y2, y3⟩, yn, hb⟩ := HF.out hbw2; have HB2 := Aside0.mk hb; have HBW2 := Aside0.mk hbw2; clear hb hb2 hbw2))
          go_ret
          exact ⟨rfl, HB2.out⟩
        | true =>
          rw [q2] at hw2
          have HW2 := Aside0.mk hw2
          clear hw2 q2
          rw [if_pos rfl]
          obtain ⟨q3, hq3⟩ : ∃ q, l0_3.any (fun c => !(crackB l0_0.length c)) = q := ⟨_, rfl⟩
          rw [hq3]
          have HQ3 := Aside0.mk hq3
          clear hq3
          cases q3 with
          | true =>
            rw [if_pos rfl]
            go_enter Tryz.func109, Tryz.ntmps109
            go_wp2_with (first | (go_at_call 101; with_reducible refine (z56_ 1 30 _ true _ _ HW.out ?side).mono ?_; (case side => simp); rintro e w1 ⟨rfl, hb1⟩; have hbw := hb1; obtain ⟨⟨z0, z1, z2, z3⟩, zn, hb⟩ := HF.out hbw; have HB := Aside0.mk hb; have HBW := Aside0.mk hbw; clear hb hb1 hbw) | (go_at_call 101; with_reducible refine (z56_ 0 300 _ true _ _ HW2.out ?side).mono ?_; (case side => simp); rintro e w2 ⟨rfl, hb2⟩; have hbw2 := later_below HBW.out hb2; obtain ⟨⟨y0, y1, y2, y3⟩, yn, hb⟩ := HF.out hbw2; have HB2 := Aside0.mk hb; have HBW2 := Aside0.mk hbw2; clear hb hb2 hbw2) | (go_at_call 117; refine (contains_crack (p := fun c => !(crackB l0_0.length c)) enters_form1 (Kd.C_below HR3.out HB2.out) (form1_pred yn)).mono ?_; rw [HQ3.out]; rintro e w3 ⟨rfl, hb3⟩; have hbw3 := later_below HBW2.out hb3; obtain ⟨⟨x0, x1, x2, x3⟩, xn, hb⟩ := HF.out hbw3; have HB3 := Aside0.mk hb; have HBW3 := Aside0.mk hbw3; clear hb hb3 hbw3))
            go_ret
            exact ⟨rfl, HB3.out⟩
          | false =>
            rw [if_neg (by decide)]
            generalize hrv : (if edgesUp l0_0 l0_1 l0_0.length = true then (0 : Int) else 2) = rv
            have HRV := Aside0.mk hrv
            clear hrv
            go_enter Tryz.func109, Tryz.ntmps109
            go_wp2_with (first | (go_at_call 101; with_reducible refine (z56_ 1 30 _ true _ _ HW.out ?side).mono ?_; (case side => simp); rintro e w1 ⟨rfl, hb1⟩; have hbw := hb1; obtain ⟨⟨z0, z1, z2, z3⟩, zn, hb⟩ := HF.out hbw; have HB := Aside0.mk hb; have HBW := Aside0.mk hbw; clear hb hb1 hbw) | (go_at_call 101; with_reducible refine (z56_ 0 300 _ true _ _ HW2.out ?side).mono ?_; (case side => simp); rintro e w2 ⟨rfl, hb2⟩; have hbw2 := later_below HBW.out hb2; obtain ⟨⟨y0, y1, y2, y3⟩, yn, hb⟩ := HF.out hbw2; have HB2 := Aside0.mk hb; have HBW2 := Aside0.mk hbw2; clear hb hb2 hbw2) | (go_at_call 117; refine (contains_crack (p := fun c => !(crackB l0_0.length c)) enters_form1 (Kd.C_below HR3.out HB2.out) (form1_pred yn)).mono ?_; rw [HQ3.out]; rintro e w3 ⟨rfl, hb3⟩; have hbw3 := later_below HBW2.out hb3; obtain ⟨⟨x0, x1, x2, x3⟩, xn, hb⟩ := HF.out hbw3; have HB3 := Aside0.mk hb; have HBW3 := Aside0.mk hbw3; clear hb hb3 hbw3))
            have hmax : l0_0.length ≤ 9223372036854775807 := Kd.C_max HR0.out
            go_loopg [34] l0_0.length (fun gg v34 wr => ∃ k : Nat, k ≤ l0_0.length ∧ l0_0.length - k ≤ gg ∧ v34 = .int .i64 k ∧ Aside0 (edgesUp l0_0 l0_1 k = true) ∧ Aside0 (Below (formW w #[.slice A0_0 l0_0.length c0_0, .slice A0_1 l0_0.length c0_1, .int .i64 a0_2, .slice A0_3 l0_3.length c0_3] l0_0.length).heap.size (formW w #[.slice A0_0 l0_0.length c0_0, .slice A0_1 l0_0.length c0_1, .int .i64 a0_2, .slice A0_3 l0_3.length c0_3] l0_0.length) wr))
            case atStart => exact ⟨0, Nat.zero_le _, by omega, rfl, ⟨rfl⟩, HBW3⟩
            case round =>
              clear HBW HBW2 HBW3 HB HB2 HB3
              obtain ⟨k, hk, hg, rfl, HE, HBR⟩ := hrel
              by_cases hlt : k < l0_0.length
              · have hltz : (k : Int) < (l0_0.length : Int) := by omega
                have hbw := (HF.out HBR.out).2.2
                obtain ⟨ad0, e0, rfl, _, hK0, hcell0⟩ := Kd.C_get (Kd.C_below HR0.out hbw) z30 (k : Int) (by omega) hltz
                obtain ⟨ad1, e1, rfl, _, hK1, hcell1⟩ := Kd.C_get (Kd.C_below HR1.out hbw) z30 (k : Int) (by omega) hltz
                rw [Int.toNat_natCast] at hK0 hcell0 hK1 hcell1
                have o0 := k30_open hK0
                have o1 := k30_open hK1
                subst o0 o1
                have HUP : Aside0 (edgesUp l0_0 l0_1 (k + 1) = (edgesUp l0_0 l0_1 k && edgesB (l0_0.getD k z30) (l0_1.getD k z30))) := ⟨rfl⟩
                have HNO : Aside0 (edgesB (l0_0.getD k z30) (l0_1.getD k z30) = false → edgesUp l0_0 l0_1 l0_0.length = false) := ⟨fun h => edgesUp_false h _ hlt⟩
                clear hK0 hK1
                generalize l0_0.getD k z30 = x at hcell0 HUP HNO
                generalize l0_1.getD k z30 = y at hcell1 HUP HNO
                have hc0 : ∀ j u, [Value.int .i64 x.f0, Value.int .i64 x.f1][j]? = some u → wr.cell? (ad0.add (k * 2 + j)) = some u := fun j u hu => hcell0 j u hu
                have hc1 : ∀ j u, [Value.int .i64 y.f0, Value.int .i64 y.f1][j]? = some u → wr.cell? (ad1.add (k * 2 + j)) = some u := fun j u hu => hcell1 j u hu
                have s0 : wr.cell? (ad0.add (k * 2)) = some (.int .i64 x.f0) := hc0 0 _ rfl
                have s1 : wr.cell? ⟨(ad0.add (k * 2)).block, (ad0.add (k * 2)).off + 1, none⟩ = some (.int .i64 x.f1) := by rw [← add_field _ _ 1 (by omega)]; exact hc0 1 _ rfl
                have t0 : wr.cell? (ad1.add (k * 2)) = some (.int .i64 y.f0) := hc1 0 _ rfl
                have t1 : wr.cell? ⟨(ad1.add (k * 2)).block, (ad1.add (k * 2)).off + 1, none⟩ = some (.int .i64 y.f1) := by rw [← add_field _ _ 1 (by omega)]; exact hc1 1 _ rfl
                have z0 := (HF.out HBR.out).1.1
                have z1 := (HF.out HBR.out).1.2.1
                obtain ⟨q, hq⟩ : ∃ q, edgesB x y = q := ⟨_, rfl⟩
                have HQ : Aside0 (z41_.f x.f0 x.f1 y.f0 y.f1 = some q) := ⟨by rw [← hq]; exact edges_eq x y⟩
                rw [hq] at HUP HNO
                clear hcell0 hcell1 hc0 hc1 hq hbw
                have KEEP : Aside0 (∀ {w' : World}, Below wr.heap.size wr w' → w'.cell? ⟨w.heap.size, 0, none⟩ = some (.slice (some ad0) l0_0.length c0_0) ∧ w'.cell? ⟨w.heap.size, 1, none⟩ = some (.slice (some ad1) l0_0.length c0_1) ∧ w'.cell? (ad0.add (k * 2)) = some (.int .i64 x.f0) ∧ w'.cell? ⟨(ad0.add (k * 2)).block, (ad0.add (k * 2)).off + 1, none⟩ = some (.int .i64 x.f1) ∧ w'.cell? (ad1.add (k * 2)) = some (.int .i64 y.f0) ∧ w'.cell? ⟨(ad1.add (k * 2)).block, (ad1.add (k * 2)).off + 1, none⟩ = some (.int .i64 y.f1)) := ⟨fun hb => ⟨pw_cell_below hb z0, pw_cell_below hb z1, pw_cell_below hb s0, pw_cell_below hb s1, pw_cell_below hb t0, pw_cell_below hb t1⟩⟩
                have fin : ∀ (b : Bool), q = b → True := fun _ _ => trivial
                clear fin
                cases q with
                | true =>
                  go_wp2
                  go_region_held3 (fun w' => Aside0 (Below wr.heap.size wr w') ∧ w'.cell? ⟨w.heap.size, 0, none⟩ = some (.slice (some ad0) l0_0.length c0_0) ∧ w'.cell? ⟨w.heap.size, 1, none⟩ = some (.slice (some ad1) l0_0.length c0_1) ∧ w'.cell? (ad0.add (k * 2)) = some (.int .i64 x.f0) ∧ w'.cell? ⟨(ad0.add (k * 2)).block, (ad0.add (k * 2)).off + 1, none⟩ = some (.int .i64 x.f1) ∧ w'.cell? (ad1.add (k * 2)) = some (.int .i64 y.f0) ∧ w'.cell? ⟨(ad1.add (k * 2)).block, (ad1.add (k * 2)).off + 1, none⟩ = some (.int .i64 y.f1))
                    (first | exact ⟨⟨below_drew (Below.refl _ _)⟩, KEEP.out (below_drew (Below.refl _ _))⟩ | (go_split_ands; exact ⟨⟨later_below (Aside0.out ‹Aside0 (Below wr.heap.size wr _)›) hb1⟩, KEEP.out (later_below (Aside0.out ‹Aside0 (Below wr.heap.size wr _)›) hb1)⟩))
                    ((go_at_call 120; refine (z41_.calls x.f0 x.f1 y.f0 y.f1 true _ HQ.out).mono ?_; rintro e w1 ⟨rfl, hb1⟩))
                  rename_i hh
                  obtain ⟨hh1, hh2⟩ := hh
                  clear hb1
                  have HBN := Aside0.mk (later_below HBR.out hh1.out)
                  go_wp2
                  go_roundg (l0_0.length - (k + 1))
                  case measure => omega
                  case rel => exact ⟨k + 1, by omega, by omega, by go_num, ⟨by rw [HUP.out, HE.out]; rfl⟩, HBN⟩
                | false =>
                  go_wp2
                  go_region_held3 (fun w' => Aside0 (Below wr.heap.size wr w') ∧ w'.cell? ⟨w.heap.size, 0, none⟩ = some (.slice (some ad0) l0_0.length c0_0) ∧ w'.cell? ⟨w.heap.size, 1, none⟩ = some (.slice (some ad1) l0_0.length c0_1) ∧ w'.cell? (ad0.add (k * 2)) = some (.int .i64 x.f0) ∧ w'.cell? ⟨(ad0.add (k * 2)).block, (ad0.add (k * 2)).off + 1, none⟩ = some (.int .i64 x.f1) ∧ w'.cell? (ad1.add (k * 2)) = some (.int .i64 y.f0) ∧ w'.cell? ⟨(ad1.add (k * 2)).block, (ad1.add (k * 2)).off + 1, none⟩ = some (.int .i64 y.f1))
                    (first | exact ⟨⟨below_drew (Below.refl _ _)⟩, KEEP.out (below_drew (Below.refl _ _))⟩ | (go_split_ands; exact ⟨⟨later_below (Aside0.out ‹Aside0 (Below wr.heap.size wr _)›) hb1⟩, KEEP.out (later_below (Aside0.out ‹Aside0 (Below wr.heap.size wr _)›) hb1)⟩))
                    ((go_at_call 120; refine (z41_.calls x.f0 x.f1 y.f0 y.f1 false _ HQ.out).mono ?_; rintro e w1 ⟨rfl, hb1⟩))
                  rename_i hh
                  obtain ⟨hh1, hh2⟩ := hh
                  clear hb1
                  have HBN := Aside0.mk (later_below HBR.out hh1.out)
                  go_wp2
                  go_ret
                  refine ⟨?_, (HF.out HBN.out).2.2⟩
                  rw [← HRV.out, HNO.out (by trivial)]
                  rfl
              · have hltz : ¬ (k : Int) < (l0_0.length : Int) := by omega
                obtain rfl : k = l0_0.length := by omega
                go_wp2
                go_ret
                refine ⟨?_, (HF.out HBR.out).2.2⟩
                rw [← HRV.out, if_pos HE.out]
                rfl
  · rw [if_neg cn]
    have dn : ((l0_0.length : Int) == (l0_1.length : Int)) = false := beq_eq_false_iff_ne.mpr (by omega)
    have dn' : (l0_0.length == l0_1.length) = false := beq_eq_false_iff_ne.mpr cn
    go_enter Tryz.func109, Tryz.ntmps109
    go_wp2
    go_ret
    exact ⟨rfl, below_alloc (below_alloc (Below.refl _ _) _) _⟩
end X
end Go.Proofs.YtgdkmadcegleiaaGreatDoor
namespace Go.Proofs.YtgdkmadcegleiaaGreatDoor
namespace X
theorem info_span : (Tryz.prog.info? 30).map (fun i => (i.zero, i.size, i.bytes)) = some (some (.agg #[(.int .i64 0), (.int .i64 0)]), 2, 16) := by kernel_rfl
theorem slice_some_nil (ad : Addr) (n c : Nat) (W : World) : (binOp BinOp.eql 123 (Value.slice (some ad) n c) (Value.slice none 0 0)).run Tryz.prog W = .ok (.bool false) W :=
  Lib.run_eql_slice_nil W _ _ (some ad) n c 0 0 Tryz.underlying123
theorem slice_none_nil (n c : Nat) (W : World) : (binOp BinOp.eql 123 (Value.slice none n c) (Value.slice none 0 0)).run Tryz.prog W = .ok (.bool true) W :=
  Lib.run_eql_slice_nil W _ _ none n c 0 0 Tryz.underlying123
def z49_.g (l0 : List S30) : Option (List S30) := (some (([] : List (S30)) : List (S30))).bind fun y101 => (if y101.length + l0.length < 8796093022208 then (some (y101 ++ l0)) else (none))
set_option maxHeartbeats 8000000 in
set_option maxRecDepth 100000 in
theorem clone_some (ad0 : Addr) (c0 : Nat) (l0 : List (S30)) (r : List (S30)) (w : World) (hr0 : Kd.C k30 w (some ad0) l0.length l0) (hc0 : l0.length ≤ c0) (h : z49_.g l0 = some r) :
    Calls Tryz.prog 121 #[.slice (some ad0) l0.length c0] w fun e w' => ∃ v0_ : Value, e = .returned (v0_) ∧ Kd.R k30 30 w' w.heap.size (fun _ => True) v0_ r ∧ Below w.heap.size w w' := by
  have HR0 := Aside0.mk hr0
  have HC0 := Aside0.mk hc0
  clear hr0 hc0
  have HB := Aside0.mk (Below.refl w.heap.size w)
  have H : ((some (([] : List (S30)) : List (S30))).bind fun y101 => (if y101.length + l0.length < 8796093022208 then (some (y101 ++ l0)) else (none))) = some r := h
  clear h
  obtain ⟨y101, hy101⟩ : ∃ y_ : List (S30), y_ = (([] : List (S30))) := ⟨_, rfl⟩
  replace H : (if y101.length + l0.length < 8796093022208 then (some (y101 ++ l0)) else (none)) = some r := by first | (rw [hy101]; with_reducible exact H) | (have H2_ := (Option.bind_some _ _).symm.trans H; rw [hy101]; with_reducible exact H2_) | (have H2_ := (Option.bind_some _ _).symm.trans H; with_reducible exact H2_) | with_reducible exact H | (rw [hy101]; exact H) | exact H
  have Ny101 := Aside0.mk hy101
  clear hy101
  by_cases c2 : y101.length + l0.length < 8796093022208
  · rw [if_pos c2] at H
    have LMc2 := Aside0.mk c2
    clear c2
    obtain ⟨y104, hy104⟩ : ∃ y_ : List (S30), y_ = (y101 ++ l0) := ⟨_, rfl⟩
    replace H : (some y104) = some r := by first | (rw [hy104]; with_reducible exact H) | (have H2_ := (Option.bind_some _ _).symm.trans H; rw [hy104]; with_reducible exact H2_) | (have H2_ := (Option.bind_some _ _).symm.trans H; with_reducible exact H2_) | with_reducible exact H | (rw [hy104]; exact H) | exact H
    have Ny104 := Aside0.mk hy104
    clear hy104
    obtain rfl := Option.some.inj H
    have hne := slice_some_nil ad0 l0.length c0
    go_enter Tryz.func121, Tryz.ntmps121
    go_wp2_with (first | ((with_reducible refine gate_dst (N := 5) rfl ?_); refine Kd.R_lit k30 _ 30 ?hg (N := 5) ?hd (xs := ([] : List (S30))) (inner := []) (ok := fun _ => True) (okp := fun _ => True) ?hr ?hp (fun _ hk => hk) trivial (Below.refl _ _) (Nat.le_refl _) (by simp) ?_; (case hd => rfl); (case hg => rfl); (case hr => first | (go_simp; done) | (go_simp; rfl)); (case hp => exact (Reps.none _ _)); intro v102 w3 ho4 hb hg_ hnew_; clear hg_ hnew_; (first | rw [← Ny101.out] at ho4 | (simp only [Int.reduceToNat] at ho4; rw [← Ny101.out] at ho4)); have n0_ := Aside0.mk (Kd.R_lower ho4 (below_size (by repeat (first | (with_reducible first | exact HB.out | apply below_alloc | apply pw_below_drewN | apply below_drew1) | exact HB.out)))); have n1_ := Aside0.mk (below_step (by repeat (first | (with_reducible first | exact HB.out | apply below_alloc | apply pw_below_drewN | apply below_drew1) | exact HB.out)) hb); clear HB; have HO103 := n0_; have HB := n1_; clear n0_ n1_; clear hb ho4) | ((with_reducible refine gate_builtin (b := .append) (xs := #[.tmp 5, .tmp 6]) rfl ?_); at_builtin; refine Kd.R_append_rows k30 (w0 := w) w.heap.size rfl (.tmp 5) (.tmp 6) 123 30 (.agg #[(.int .i64 0), (.int .i64 0)]) 16 rfl Tryz.underlying123 info_span rfl (by decide) (by omega) v102 y101 l0 _ _ _ (fun _ => True) (fun _ => False) rfl rfl ?aO ?aR (fun _ _ h => h) (fun _ h => h.elim) ?aF ?aB ?aS ?aL ?_; (case aR => repeat (first | exact (Kd.C_below HR0.out HB.out) | (with_reducible refine Kd.C_alloc ?_ _) | (with_reducible refine Kd.C_drewN ?_ _) | (with_reducible refine Kd.C_drew ?_))); (case aB => exact (by repeat (first | (with_reducible first | exact HB.out | apply below_alloc | apply pw_below_drewN | apply below_drew1) | exact HB.out))); (case aF => exact (fun _ _ => trivial)); (case aO => exact (by (with_reducible repeat (first | apply Kd.R_alloc | apply Kd.R_drewN | apply Kd.R_drew)); exact HO103.out)); (case aS => exact (below_size (by repeat (first | (with_reducible first | exact HB.out | apply below_alloc | apply pw_below_drewN | apply below_drew1) | exact HB.out)))); (case aL => have := LMc2.out; omega); intro v105 w5 ho hb hg hat; rw [← Ny104.out] at ho; have n0_ := Aside0.mk (hb); have n1_ := Aside0.mk (ho); clear HB; clear HO103; have HB := n0_; have HO106 := n1_; clear n0_ n1_; clear ho hb hg hat))
    go_ret
    exact ⟨_, by first | rfl | (simp [errW_none, errW_some] <;> rfl) | (simp [*, errW_none, errW_some] <;> rfl), by (with_reducible repeat (first | apply Kd.R_alloc | apply Kd.R_drewN | apply Kd.R_drew)); exact HO106.out, by repeat (first | (with_reducible first | exact HB.out | apply below_alloc | apply pw_below_drewN | apply below_drew1) | exact HB.out)⟩
  · rw [if_neg c2] at H
    exact absurd H (by simp)
def z49_.f (l0 : List S30) : Option (List S30) := if l0.length < 8796093022208 then some l0 else none
theorem z49_.calls (A0 : Option Addr) (c0 : Nat) (l0 : List S30) (r : List S30) (w : World) (hr0 : Kd.C k30 w A0 l0.length l0) (hc0 : l0.length ≤ c0) (h : z49_.f l0 = some r) :
    Calls Tryz.prog 121 #[.slice A0 l0.length c0] w fun e w' => ∃ v0_ : Value, e = .returned (v0_) ∧ Kd.R k30 30 w' w.heap.size (fun _ => True) v0_ r ∧ Below w.heap.size w w' := by
  have hg : z49_.g l0 = some r := by
    unfold z49_.f at h
    unfold z49_.g
    simp only [Option.bind_some, List.length_nil, Nat.zero_add, List.nil_append]
    exact h
  cases A0 with
  | some ad0 => exact clone_some ad0 c0 l0 r w hr0 hc0 hg
  | none =>
    have hl : l0 = [] := by
      cases l0 with
      | nil => rfl
      | cons x xs =>
        obtain ⟨ad, _, e, _⟩ := Kd.C_get hr0 z30 0 (Int.le_refl _) (by simp)
        cases e
    subst hl
    have hr : r = [] := by
      unfold z49_.f at h
      rw [if_pos (by simp)] at h
      exact (Option.some.inj h).symm
    subst hr
    clear hr0 hc0 h hg
    have hne := slice_none_nil 0 c0
    go_enter Tryz.func121, Tryz.ntmps121
    go_wp2
    go_ret
    exact ⟨_, rfl, Kd.R_nil _ _ _ _ _, Below.refl _ _⟩
end X
end Go.Proofs.YtgdkmadcegleiaaGreatDoor
namespace Go.Proofs.YtgdkmadcegleiaaGreatDoor
namespace PTob
open X
attribute [local go_sem] max2_int min2_int max_two min_two max_three min_three max_four min_four   -- for this text's walks alone
def errW : Option Int → Value
  | none => .nilIface
  | some c => .iface 0 (.int .i64 c)
theorem errW_none : errW none = .nilIface := rfl
theorem errW_some (c : Int) : errW (some c) = .iface 0 (.int .i64 c) := rfl
theorem info3 : (Tryz.prog.info? 3).map (fun i => (i.zero, i.size, i.bytes)) = some (some (.int .i64 0), 1, 8) := by kernel_rfl
end PTob
end Go.Proofs.YtgdkmadcegleiaaGreatDoor
namespace Go.Proofs.YtgdkmadcegleiaaGreatDoor
namespace PTob
open Sq X
attribute [local go_sem] max2_int min2_int max_two min_two max_three min_three max_four min_four   -- for this text's walks alone
mutual
def z25_.j0 : Nat → List Int → Option (Int)
 | 0, _ => none
 | k + 1, x0 => if 0 < (x0.length : Int) then (z25_.l0 k x0 (rd x0 0) 1) else (none)
def z25_.l0 : Nat → List Int → Int → Int → Option (Int)
 | 0, _, _, _ => none
 | k + 1, x0, x3, x4 => if x4 < (x0.length : Int) then (if 0 ≤ x4 then (z25_.l0 k x0 (mx x3 (rd x0 x4)) (wrap64 (x4 + 1))) else (none)) else (some x3)
end
def z25_.f (k : Nat) (l0 : List Int) : Option (Int) := if (l0.length : Int) < 1 then (if (-0) = 0 then (none) else (z25_.j0 k l0)) else (z25_.j0 k l0)
set_option maxHeartbeats 8000000 in
set_option maxRecDepth 100000 in
theorem z25_.calls (k : Nat) (A0 : Option Addr) (c0 : Nat) (l0 : List Int) (r : Int) (w : World) (hr0 : Kd.C (Kd.int .i64) w A0 l0.length l0) (hc0 : l0.length ≤ c0) (h : z25_.f k l0 = some r) :
  Calls Tryz.prog 112 #[.slice A0 l0.length c0] w fun e w' => e = .returned (.int .i64 r) ∧ Below w.heap.size w w' := by
 have HR0 := Aside0.mk hr0
 have HC0 := Aside0.mk hc0
 clear hr0 hc0
 have HB := Aside0.mk (Below.refl w.heap.size w)
 have H : (if (l0.length : Int) < 1 then (if (-0) = 0 then (none) else (z25_.j0 k l0)) else (z25_.j0 k l0)) = some r := h
 clear h
 have HC2 := Aside0.mk H
 clear H
 go_enter Tryz.func112, Tryz.ntmps112
 go_upto_if 7 with (fail)
 go_cut [] (fun wc => ∃ (kq : Nat), Aside0 (z25_.j0 kq l0 = some r) ∧ Aside0 (kq ≤ k) ∧ Aside0 (Below w.heap.size w wc))
 case first =>
  have H := HC2.out
  clear HC2
  by_cases c3 : (l0.length : Int) < 1
  ·rw [if_pos c3] at H
   have c3b0 : decide ((l0.length : Int) < 1) = true := decide_eq_true c3
   have c3b1 : decide (l0.length < 1) = true := decide_eq_true (by omega)
   clear c3
   (first | rw [c3b0] | (simp only [i64_w, i32_w]; rw [c3b0]) | skip)
   by_cases c4 : (-0) = 0
   ·rw [if_pos c4] at H
    exact absurd H (by simp)
   ·exact absurd rfl c4
  ·rw [if_neg c3] at H
   have c3b0 : decide ((l0.length : Int) < 1) = false := decide_eq_false c3
   have c3b1 : decide (l0.length < 1) = false := decide_eq_false (by omega)
   clear c3
   (first | rw [c3b0] | (simp only [i64_w, i32_w]; rw [c3b0]) | skip)
   have H' := Aside0.mk H
   clear H
   go_wp2
   go_meet
   case rel => exact ⟨_, H', ⟨by first | omega | exact Nat.le_refl _⟩, ⟨bX HB⟩⟩
 case rest =>
  clear HC2
  try clear p2
  try clear c3b0
  try clear c3b1
  try clear c4b0
  try clear c4b1
  obtain ⟨kq, HA, HJ1, HB⟩ := hcut
  cases kq with
  | zero => exact absurd HA.out (by simp [z25_.j0])
  | succ kj1 =>
   have H := HA.out
   clear HA
   simp only [z25_.j0] at H
   by_cases c5 : 0 < (l0.length : Int)
   ·rw [if_pos c5] at H
    have c5b0 : decide (0 < (l0.length : Int)) = true := decide_eq_true c5
    have c5b1 : decide (0 < l0.length) = true := decide_eq_true (by omega)
    clear c5
    have H' := Aside0.mk H
    clear H
    have p101 : 0 ≤ (0 : Int) := (by omega)
    have q101 : 0 < (l0.length : Int) := of_decide_eq_true (by first | (with_reducible assumption) | assumption)
    obtain ⟨ad101, e101, hx101_0⟩ := Kd.at_int HR0.out 0 p101 q101
    cases e101
    have qi101 : (0 < l0.length) = True := eq_true (by omega)
    (try rw [show ((0 : Int)).toNat = 0 from rfl] at hx101_0)
    (try rw [Addr.add_zero'] at hx101_0)
    replace hx101_0 := (HB.out.cell (World.block_lt_of_cell? w _ hx101_0)).trans hx101_0
    replace p101 := eq_true p101
    replace q101 := eq_true q101
    go_wp2
    go_loopg [3, 4] kj1 (fun kq v3 v4 w' => ∃ (x3_2 : Int) (x4_2 : Int), v3 = .int .i64 x3_2 ∧ v4 = .int .i64 x4_2 ∧ Aside0 (z25_.l0 kq l0 x3_2 x4_2 = some r) ∧ Aside0 (kq ≤ kj1) ∧ Aside0 (Below w.heap.size w w'))
    case atStart => exact ⟨(rd l0 0), (1), eR, eR, H', ⟨Nat.le_refl _⟩, ⟨bX HB⟩⟩
    case round =>
     clear H'
     try clear p1
     try clear q1
     try clear hx1
     try clear qi1
     try clear p2
     try clear c3b0
     try clear c3b1
     try clear c4b0
     try clear c4b1
     try clear c5b0
     try clear c5b1
     try clear hx101_0
     try clear p101
     try clear p2
     try clear q101
     obtain ⟨x3_2, x4_2, rfl, rfl, HA, HK2, HB⟩ := hrel
     cases gk with
     | zero => exact absurd HA.out (by simp [z25_.l0])
     | succ k2 =>
      have H := HA.out
      clear HA
      simp only [z25_.l0] at H
      by_cases c6 : x4_2 < (l0.length : Int)
      ·rw [if_pos c6] at H
       have c6b0 : decide (x4_2 < (l0.length : Int)) = true := decide_eq_true c6
       clear c6
       by_cases c7 : 0 ≤ x4_2
       ·rw [if_pos c7] at H
        have c7b0 : decide (0 ≤ x4_2) = true := decide_eq_true c7
        clear c7
        obtain ⟨ji8, hji8⟩ : ∃ j_ : Int, (mx x3_2 (rd l0 x4_2)) = j_ := ⟨_, rfl⟩
        replace H : (z25_.l0 k2 l0 ji8 (wrap64 (x4_2 + 1))) = some r := by first | (rw [hji8] at H; exact H) | (simp only [hji8] at H ⊢; exact H)
        have hji8_ : (if x3_2 < (rd l0 x4_2) then (rd l0 x4_2) else x3_2) = ji8 := hji8
        have H' := Aside0.mk H
        clear H
        have p102 : 0 ≤ (x4_2 : Int) := of_decide_eq_true (by first | (with_reducible assumption) | assumption)
        have q102 : x4_2 < (l0.length : Int) := of_decide_eq_true (by first | (with_reducible assumption) | assumption)
        obtain ⟨ad102, e102, hx102_0⟩ := Kd.at_int HR0.out x4_2 p102 q102
        obtain rfl : ad101 = ad102 := (by injection e102)
        replace hx102_0 := (HB.out.cell (World.block_lt_of_cell? w _ hx102_0)).trans hx102_0
        replace p102 := eq_true p102
        replace q102 := eq_true q102
        go_wp2
        go_roundg k2
        case measure => have := HJ1.out; have := HK2.out; omega
        case rel => exact ⟨(ji8), (wrap64 (x4_2 + 1)), (by first | rfl | (simp; done) | (simp only [← hji8] <;> (first | rfl | simp)) | (simp [*]; done)), eR, H', ⟨by have := HJ1.out; have := HK2.out; omega⟩, ⟨bX HB⟩⟩
       ·rw [if_neg c7] at H
        exact absurd H (by simp)
      ·rw [if_neg c6] at H
       have c6b0 : decide (x4_2 < (l0.length : Int)) = false := decide_eq_false c6
       clear c6
       obtain rfl := Option.some.inj H
       go_wp2
       go_ret
       exact ⟨eqA, bX HB⟩
   ·rw [if_neg c5] at H
    exact absurd H (by simp)
mutual
def z26_.j0 : Nat → List Int → Option (Int)
 | 0, _ => none
 | k + 1, x0 => if 0 < (x0.length : Int) then (z26_.l0 k x0 (rd x0 0) 1) else (none)
def z26_.l0 : Nat → List Int → Int → Int → Option (Int)
 | 0, _, _, _ => none
 | k + 1, x0, x3, x4 => if x4 < (x0.length : Int) then (if 0 ≤ x4 then (z26_.l0 k x0 (mn x3 (rd x0 x4)) (wrap64 (x4 + 1))) else (none)) else (some x3)
end
def z26_.f (k : Nat) (l0 : List Int) : Option (Int) := if (l0.length : Int) < 1 then (if (-0) = 0 then (none) else (z26_.j0 k l0)) else (z26_.j0 k l0)
set_option maxHeartbeats 8000000 in
set_option maxRecDepth 100000 in
theorem z26_.calls (k : Nat) (A0 : Option Addr) (c0 : Nat) (l0 : List Int) (r : Int) (w : World) (hr0 : Kd.C (Kd.int .i64) w A0 l0.length l0) (hc0 : l0.length ≤ c0) (h : z26_.f k l0 = some r) :
  Calls Tryz.prog 113 #[.slice A0 l0.length c0] w fun e w' => e = .returned (.int .i64 r) ∧ Below w.heap.size w w' := by
 have HR0 := Aside0.mk hr0
 have HC0 := Aside0.mk hc0
 clear hr0 hc0
 have HB := Aside0.mk (Below.refl w.heap.size w)
 have H : (if (l0.length : Int) < 1 then (if (-0) = 0 then (none) else (z26_.j0 k l0)) else (z26_.j0 k l0)) = some r := h
 clear h
 have HC2 := Aside0.mk H
 clear H
 go_enter Tryz.func113, Tryz.ntmps113
 go_upto_if 7 with (fail)
 go_cut [] (fun wc => ∃ (kq : Nat), Aside0 (z26_.j0 kq l0 = some r) ∧ Aside0 (kq ≤ k) ∧ Aside0 (Below w.heap.size w wc))
 case first =>
  have H := HC2.out
  clear HC2
  by_cases c3 : (l0.length : Int) < 1
  ·rw [if_pos c3] at H
   have c3b0 : decide ((l0.length : Int) < 1) = true := decide_eq_true c3
   have c3b1 : decide (l0.length < 1) = true := decide_eq_true (by omega)
   clear c3
   (first | rw [c3b0] | (simp only [i64_w, i32_w]; rw [c3b0]) | skip)
   by_cases c4 : (-0) = 0
   ·rw [if_pos c4] at H
    exact absurd H (by simp)
   ·exact absurd rfl c4
  ·rw [if_neg c3] at H
   have c3b0 : decide ((l0.length : Int) < 1) = false := decide_eq_false c3
   have c3b1 : decide (l0.length < 1) = false := decide_eq_false (by omega)
   clear c3
   (first | rw [c3b0] | (simp only [i64_w, i32_w]; rw [c3b0]) | skip)
   have H' := Aside0.mk H
   clear H
   go_wp2
   go_meet
   case rel => exact ⟨_, H', ⟨by first | omega | exact Nat.le_refl _⟩, ⟨bX HB⟩⟩
 case rest =>
  clear HC2
  try clear p2
  try clear c3b0
  try clear c3b1
  try clear c4b0
  try clear c4b1
  obtain ⟨kq, HA, HJ1, HB⟩ := hcut
  cases kq with
  | zero => exact absurd HA.out (by simp [z26_.j0])
  | succ kj1 =>
   have H := HA.out
   clear HA
   simp only [z26_.j0] at H
   by_cases c5 : 0 < (l0.length : Int)
   ·rw [if_pos c5] at H
    have c5b0 : decide (0 < (l0.length : Int)) = true := decide_eq_true c5
    have c5b1 : decide (0 < l0.length) = true := decide_eq_true (by omega)
    clear c5
    have H' := Aside0.mk H
    clear H
    have p103 : 0 ≤ (0 : Int) := (by omega)
    have q103 : 0 < (l0.length : Int) := of_decide_eq_true (by first | (with_reducible assumption) | assumption)
    obtain ⟨ad103, e103, hx103_0⟩ := Kd.at_int HR0.out 0 p103 q103
    cases e103
    have qi103 : (0 < l0.length) = True := eq_true (by omega)
    (try rw [show ((0 : Int)).toNat = 0 from rfl] at hx103_0)
    (try rw [Addr.add_zero'] at hx103_0)
    replace hx103_0 := (HB.out.cell (World.block_lt_of_cell? w _ hx103_0)).trans hx103_0
    replace p103 := eq_true p103
    replace q103 := eq_true q103
    go_wp2
    go_loopg [3, 4] kj1 (fun kq v3 v4 w' => ∃ (x3_2 : Int) (x4_2 : Int), v3 = .int .i64 x3_2 ∧ v4 = .int .i64 x4_2 ∧ Aside0 (z26_.l0 kq l0 x3_2 x4_2 = some r) ∧ Aside0 (kq ≤ kj1) ∧ Aside0 (Below w.heap.size w w'))
    case atStart => exact ⟨(rd l0 0), (1), eR, eR, H', ⟨Nat.le_refl _⟩, ⟨bX HB⟩⟩
    case round =>
     clear H'
     try clear p1
     try clear q1
     try clear hx1
     try clear qi1
     try clear p2
     try clear c3b0
     try clear c3b1
     try clear c4b0
     try clear c4b1
     try clear c5b0
     try clear c5b1
     try clear hx103_0
     try clear p103
     try clear p2
     try clear q103
     obtain ⟨x3_2, x4_2, rfl, rfl, HA, HK2, HB⟩ := hrel
     cases gk with
     | zero => exact absurd HA.out (by simp [z26_.l0])
     | succ k2 =>
      have H := HA.out
      clear HA
      simp only [z26_.l0] at H
      by_cases c6 : x4_2 < (l0.length : Int)
      ·rw [if_pos c6] at H
       have c6b0 : decide (x4_2 < (l0.length : Int)) = true := decide_eq_true c6
       clear c6
       by_cases c7 : 0 ≤ x4_2
       ·rw [if_pos c7] at H
        have c7b0 : decide (0 ≤ x4_2) = true := decide_eq_true c7
        clear c7
        obtain ⟨ji8, hji8⟩ : ∃ j_ : Int, (mn x3_2 (rd l0 x4_2)) = j_ := ⟨_, rfl⟩
        replace H : (z26_.l0 k2 l0 ji8 (wrap64 (x4_2 + 1))) = some r := by first | (rw [hji8] at H; exact H) | (simp only [hji8] at H ⊢; exact H)
        have hji8_ : (if (rd l0 x4_2) < x3_2 then (rd l0 x4_2) else x3_2) = ji8 := hji8
        have H' := Aside0.mk H
        clear H
        have p104 : 0 ≤ (x4_2 : Int) := of_decide_eq_true (by first | (with_reducible assumption) | assumption)
        have q104 : x4_2 < (l0.length : Int) := of_decide_eq_true (by first | (with_reducible assumption) | assumption)
        obtain ⟨ad104, e104, hx104_0⟩ := Kd.at_int HR0.out x4_2 p104 q104
        obtain rfl : ad103 = ad104 := (by injection e104)
        replace hx104_0 := (HB.out.cell (World.block_lt_of_cell? w _ hx104_0)).trans hx104_0
        replace p104 := eq_true p104
        replace q104 := eq_true q104
        go_wp2
        go_roundg k2
        case measure => have := HJ1.out; have := HK2.out; omega
        case rel => exact ⟨(ji8), (wrap64 (x4_2 + 1)), (by first | rfl | (simp; done) | (simp only [← hji8] <;> (first | rfl | simp)) | (simp [*]; done)), eR, H', ⟨by have := HJ1.out; have := HK2.out; omega⟩, ⟨bX HB⟩⟩
       ·rw [if_neg c7] at H
        exact absurd H (by simp)
      ·rw [if_neg c6] at H
       have c6b0 : decide (x4_2 < (l0.length : Int)) = false := decide_eq_false c6
       clear c6
       obtain rfl := Option.some.inj H
       go_wp2
       go_ret
       exact ⟨eqA, bX HB⟩
   ·rw [if_neg c5] at H
    exact absurd H (by simp)
def z39_.f (k : Nat) (l0_0 : List Int) (l0_1 : List Int) (l0_2 : List (S173)) (a1 : Int) (a2 : Int) : Option (Int × Int) := if 0 ≤ a1 then (if a1 ≤ (wrap64 (a1 + a2)) then (if (wrap64 (a1 + a2)) ≤ (l0_0.length : Int) then ((z25_.f k ((l0_0.take ((wrap64 (a1 + a2)) : Int).toNat).drop (a1 : Int).toNat)).bind fun t108 => (if (wrap64 (a1 + a2)) ≤ (l0_1.length : Int) then ((z26_.f k ((l0_1.take ((wrap64 (a1 + a2)) : Int).toNat).drop (a1 : Int).toNat)).bind fun t110 => (some (t108, t110))) else (none))) else (none)) else (none)) else (none)
def z39_.T1 : Bool × List (List Nat × List Nat) := (true, [([], []), ([0], [0]), ([], []), ([], []), ([], []), ([3, 4], [3, 4]), ([1, 2, 5], [1, 2, 5]), ([6], [6]), ([], []), ([8], [8]), ([], []), ([], []), ([], []), ([11, 12], [11, 12]), ([9, 10, 13], [9, 10, 13]), ([14, 7], [14]), ([7, 15], [7, 15]), ([16, 15, 0, 1, 2, 3, 4, 5, 6, 7, 8, 9, 10, 11, 12, 13, 14, 15, 16], [16])])
def z39_.B1 : List Nat := [0, 1, 0, 0, 0, 24, 63, 127, 0, 256, 0, 0, 0, 6144, 16128, 32767, 65535, 131071]
theorem z39_.tab1 : rtab .any (opsOf Tryz.f105 1) = z39_.T1 := by kernel_rfl
theorem z39_.bits1 : waitsOk z39_.T1.2 z39_.B1 = true := by kernel_rfl
set_option maxHeartbeats 8000000 in
set_option maxRecDepth 100000 in
theorem z39_.calls (k : Nat) (A0_0 : Option Addr) (c0_0 : Nat) (l0_0 : List Int) (A0_1 : Option Addr) (c0_1 : Nat) (l0_1 : List Int) (A0_2 : Option Addr) (c0_2 : Nat) (l0_2 : List (S173)) (a1 : Int) (a2 : Int) (r1 : Int) (r2 : Int) (w : World) (hr0_0 : Kd.C (Kd.int .i64) w A0_0 l0_0.length l0_0) (hc0_0 : l0_0.length ≤ c0_0) (hr0_1 : Kd.C (Kd.int .i64) w A0_1 l0_1.length l0_1) (hc0_1 : l0_1.length ≤ c0_1) (hr0_2 : Kd.C k173 w A0_2 l0_2.length l0_2) (hc0_2 : l0_2.length ≤ c0_2) (h : z39_.f k l0_0 l0_1 l0_2 a1 a2 = some (r1, r2)) :
  Calls Tryz.prog 105 #[.agg #[.slice A0_0 l0_0.length c0_0, .slice A0_1 l0_1.length c0_1, .slice A0_2 l0_2.length c0_2], .int .i64 a1, .int .i64 a2] w fun e w' => e = .returned (.agg #[.int .i64 r1, .int .i64 r2]) ∧ Below w.heap.size w w' := by
 have hu159 := Tryz.underlying159
 have hu30 := Tryz.underlying30
 have HR0_0 := Aside0.mk hr0_0
 have HC0_0 := Aside0.mk hc0_0
 clear hr0_0 hc0_0
 have HR0_1 := Aside0.mk hr0_1
 have HC0_1 := Aside0.mk hc0_1
 clear hr0_1 hc0_1
 have HR0_2 := Aside0.mk hr0_2
 have HC0_2 := Aside0.mk hc0_2
 clear hr0_2 hc0_2
 have HB := Aside0.mk (Below.refl w.heap.size w)
 have H : (if 0 ≤ a1 then (if a1 ≤ (wrap64 (a1 + a2)) then (if (wrap64 (a1 + a2)) ≤ (l0_0.length : Int) then ((z25_.f k ((l0_0.take ((wrap64 (a1 + a2)) : Int).toNat).drop (a1 : Int).toNat)).bind fun t108 => (if (wrap64 (a1 + a2)) ≤ (l0_1.length : Int) then ((z26_.f k ((l0_1.take ((wrap64 (a1 + a2)) : Int).toNat).drop (a1 : Int).toNat)).bind fun t110 => (some (t108, t110))) else (none))) else (none)) else (none)) else (none)) = some (r1, r2) := h
 clear h
 by_cases c4 : 0 ≤ a1
 ·rw [if_pos c4] at H
  have c4b0 := eq_true c4
  have c4b1 : decide (0 ≤ a1) = true := decide_eq_true c4
  clear c4
  by_cases c5 : a1 ≤ (wrap64 (a1 + a2))
  ·rw [if_pos c5] at H
   have c5b0 := eq_true c5
   have c5b1 : decide (a1 ≤ (wrap64 (a1 + a2))) = true := decide_eq_true c5
   by_cases c6 : (wrap64 (a1 + a2)) ≤ (l0_0.length : Int)
   ·rw [if_pos c6] at H
    have c6b0 := eq_true c6
    have c6b1 : decide ((wrap64 (a1 + a2)) ≤ (l0_0.length : Int)) = true := decide_eq_true c6
    replace H := bindA H
    obtain ⟨t108, A7, H⟩ := H
    try dsimp only at H
    have c8b0 := eq_true (of_decide_eq_true (by first | (with_reducible assumption) | assumption) : 0 ≤ a1)
    have c9b0 := eq_true (of_decide_eq_true (by first | (with_reducible assumption) | assumption) : a1 ≤ (wrap64 (a1 + a2)))
    by_cases c10 : (wrap64 (a1 + a2)) ≤ (l0_1.length : Int)
    ·rw [if_pos c10] at H
     have c10b0 := eq_true c10
     have c10b1 : decide ((wrap64 (a1 + a2)) ≤ (l0_1.length : Int)) = true := decide_eq_true c10
     replace H := bindA H
     obtain ⟨t110, A11, H⟩ := H
     try dsimp only at H
     simp only [Option.some.injEq, Prod.mk.injEq] at H
     obtain ⟨rfl, rfl⟩ := H
     go_enter Tryz.func105, Tryz.ntmps105
     try go_wp2_with (first | ((with_reducible refine gate_dst (N := 3) rfl ?_); refine boxA (N := 3) (cs := #[.slice A0_0 l0_0.length c0_0, .slice A0_1 l0_1.length c0_1, .slice A0_2 l0_2.length c0_2]) (t := 159) ?_; intro gb105 hg w12 hbox hb; have BK105 := Aside0.mk (hbox); have GE105 := bG HB hg; replace HB := bS HB hb; clear hb hbox hg) | ((with_reducible refine gate_dst (N := 6) rfl ?_); refine boxA (N := 6) (cs := #[.int .i64 0, .int .i64 0]) (t := 30) ?_; intro gb106 hg w13 hbox hb; have BK106 := Aside0.mk (hbox); have GE106 := bG HB hg; have NB105_106 := kN BK105 hg; have NB106_105 := kM BK105 hg; replace BK105 := kB BK105 hb; replace HB := bS HB hb; clear hb hbox hg))
     replace BK105 := Aside0.mk (blk_drew BK105.out)
     replace BK106 := Aside0.mk (blk_drew BK106.out)
     replace HB := Aside0.mk (below_drew1 HB.out)
     obtain ⟨i015, hi015, _, hsz15, _⟩ := info_parts info3
     obtain ⟨A15, hcut15, hA15, hC15⟩ := print_mid_of (P := Tryz.prog) (Value.int .i64) 0 51 3 .i64 .i64 Tryz.underlying51 hi015 hsz15 A0_0 c0_0 l0_0 a1 (wrap64 (a1 + a2)) (of_decide_eq_true (by first | (with_reducible assumption) | assumption)) (by first | omega | exact of_decide_eq_true (by first | (with_reducible assumption) | assumption)) (of_decide_eq_true (by first | (with_reducible assumption) | assumption)) HC0_0.out
     have HR107 := Aside0.mk (Kd.C_of_reads (h1 := fun _ => rfl) (hA15 _ (Kd.reads_of_C HR0_0.out)))
     have HC107 := Aside0.mk hC15
     clear hA15 hC15 hi015 hsz15
     obtain ⟨i016, hi016, _, hsz16, _⟩ := info_parts info3
     obtain ⟨A16, hcut16, hA16, hC16⟩ := print_mid_of (P := Tryz.prog) (Value.int .i64) 0 51 3 .i64 .i64 Tryz.underlying51 hi016 hsz16 A0_1 c0_1 l0_1 a1 (wrap64 (a1 + a2)) (of_decide_eq_true (by first | (with_reducible assumption) | assumption)) (by first | omega | exact of_decide_eq_true (by first | (with_reducible assumption) | assumption)) (of_decide_eq_true (by first | (with_reducible assumption) | assumption)) HC0_1.out
     have HR109 := Aside0.mk (Kd.C_of_reads (h1 := fun _ => rfl) (hA16 _ (Kd.reads_of_C HR0_1.out)))
     have HC109 := Aside0.mk hC16
     clear hA16 hC16 hi016 hsz16
     refine start_ (n := 18) (S := fun w' => w'.cell? ⟨gb105, 0, none⟩ = some (.slice A0_0 l0_0.length c0_0) ∧ w'.cell? ⟨gb105, 1, none⟩ = some (.slice A0_1 l0_1.length c0_1) ∧ w'.cell? ⟨gb105, 2, none⟩ = some (.slice A0_2 l0_2.length c0_2)) (ds := []) #[false, false, false, false, false, false, false, false, false, false, false, false, false, false, false, false, false, false] (by kernel_rfl) rfl rfl ⟨bc BK105 0, bc BK105 1, bc BK105 2⟩ (fun hHeld => ?_); refine with_tabW z39_.tab1 z39_.bits1 (fun HT_ HW_ => ?_)
     generalize w13.drew = w14 at BK105 BK106 HB HR107 HR109 hHeld ⊢
     refine pA 0 7 HT_ ?_
     refine pA 2 9 HT_ ?_
     refine pA 3 10 HT_ ?_
     refine pA 4 11 HT_ ?_
     refine pA 5 12 HT_ ?_
     refine pA 8 15 HT_ ?_
     refine pA 10 17 HT_ ?_
     refine pA 11 18 HT_ ?_
     refine pA 12 19 HT_ ?_
     refine pA 13 20 HT_ ?_
     refine tA 1 8 HT_ HW_ hHeld ?_
     refine pA 6 13 HT_ ?_
     refine tA 9 16 HT_ HW_ hHeld ?_
     refine pA 14 21 HT_ ?_
     refine oneA (i := 7) (N := some 14) HT_ (fun K hK => ?_)
     refine goes_ Tryz.func112 (by kernel_rfl) rfl #[.slice A15 ((l0_0.take ((wrap64 (a1 + a2)) : Int).toNat).drop (a1 : Int).toNat).length (c0_0 - a1.toNat)] (by rfl) rfl rfl (by (try simp only [List.map_toArray, List.map_cons, List.map_nil]); first | done | (rw [show ((l0_0.take ((wrap64 (a1 + a2)) : Int).toNat).drop (a1 : Int).toNat).length = ((wrap64 (a1 + a2)).toNat - a1.toNat) from (by rw [List.length_drop, List.length_take]; have h_ : ((wrap64 (a1 + a2)) : Int) ≤ (l0_0.length : Int) := of_decide_eq_true (by first | (with_reducible assumption) | assumption); omega)] <;> rfl) | rfl | (simp only [List.length_drop, List.length_take]; rfl)) ?_
     with_reducible refine (z25_.calls k _ _ ((l0_0.take ((wrap64 (a1 + a2)) : Int).toNat).drop (a1 : Int).toNat) t108 _ ?side1 ?side2 A7.out).mono ?_
     (case side1 => exact sX (Kd.C_below HR107.out HB.out))
     (case side2 => exact HC107.out)
     rintro e w17 ⟨rfl, hb⟩
     refine ⟨_, rfl, ?_⟩
     replace BK105 := kB BK105 hb
     replace BK106 := kB BK106 hb
     replace HB := bS HB hb
     refine hK.out _ _ ⟨bc BK105 0, bc BK105 1, bc BK105 2⟩ (fun hHeld => ?_)
     clear hK K
     refine normA (N := some 14) ?_
     refine oneA (i := 15) (N := some 22) HT_ (fun K hK => ?_)
     refine goes_ Tryz.func113 (by kernel_rfl) rfl #[.slice A16 ((l0_1.take ((wrap64 (a1 + a2)) : Int).toNat).drop (a1 : Int).toNat).length (c0_1 - a1.toNat)] (by rfl) rfl rfl (by (try simp only [List.map_toArray, List.map_cons, List.map_nil]); first | done | (rw [show ((l0_1.take ((wrap64 (a1 + a2)) : Int).toNat).drop (a1 : Int).toNat).length = ((wrap64 (a1 + a2)).toNat - a1.toNat) from (by rw [List.length_drop, List.length_take]; have h_ : ((wrap64 (a1 + a2)) : Int) ≤ (l0_1.length : Int) := of_decide_eq_true (by first | (with_reducible assumption) | assumption); omega)] <;> rfl) | rfl | (simp only [List.length_drop, List.length_take]; rfl)) ?_
     with_reducible refine (z26_.calls k _ _ ((l0_1.take ((wrap64 (a1 + a2)) : Int).toNat).drop (a1 : Int).toNat) t110 _ ?side1 ?side2 A11.out).mono ?_
     (case side1 => exact sX (Kd.C_below HR109.out HB.out))
     (case side2 => exact HC109.out)
     rintro e w18 ⟨rfl, hb⟩
     refine ⟨_, rfl, ?_⟩
     replace BK105 := kB BK105 hb
     replace BK106 := kB BK106 hb
     replace HB := bS HB hb
     refine hK.out _ _ ⟨bc BK105 0, bc BK105 1, bc BK105 2⟩ (fun hHeld => ?_)
     clear hK K
     refine normA (N := some 22) ?_
     refine pA 16 23 HT_ ?_
     refine one_ (i := 17) (N := none) #[true, true, true, true, true, true, true, true, true, true, true, true, true, true, true, true, true, true] rfl rfl (one_of HT_.out (by kernel_rfl)) (by decide) (fun K hK => ?_)
     have hs19 : w18.cell? ⟨gb106, 0, none⟩ = some (.int .i64 0) := bc BK106 0
     have hfs19 := blk_frozen BK106.out 0
     have hns19_0 := NB105_106.out
     have hms19_0 := NB106_105.out
     have hs20 : w18.cell? ⟨gb106, 1, none⟩ = some (.int .i64 0) := bc BK106 1
     have hfs20 := blk_frozen BK106.out 1
     have hns20_0 := NB105_106.out
     have hms20_0 := NB106_105.out
     refine skip_ (w1 := ?_) (by rfl) rfl ?_ ?_
     rotate_left
     ·go_simp
      rfl
     refine hK.out _ _ ⟨((cell_far (p := ⟨gb106, _, none⟩) NB105_106.out _).trans (((cell_far (p := ⟨gb106, _, none⟩) NB105_106.out _).trans (hHeld.1)))), ((cell_far (p := ⟨gb106, _, none⟩) NB105_106.out _).trans (((cell_far (p := ⟨gb106, _, none⟩) NB105_106.out _).trans (hHeld.2.1)))), ((cell_far (p := ⟨gb106, _, none⟩) NB105_106.out _).trans (((cell_far (p := ⟨gb106, _, none⟩) NB105_106.out _).trans (hHeld.2.2))))⟩ (fun hHeld => ?_)
     clear hK K
     refine done_ (done_of HT_.out (by kernel_rfl)) ?_
     try go_wp2
     refine bodyPost_ret (results_cell_row rfl _ _ gb106 30 #[.int .i64 t108, .int .i64 t110] (0, 0) _ rfl (kP BK106) Tryz.underlying30 rfl (by kernel_rfl)) rfl ?_
     exact ⟨eqA, bX HB⟩
    ·rw [if_neg c10] at H
     exact absurd H (by simp)
   ·rw [if_neg c6] at H
    exact absurd H (by simp)
  ·rw [if_neg c5] at H
   exact absurd H (by simp)
 ·rw [if_neg c4] at H
  exact absurd H (by simp)
def z34_.f (a0_0 : Int) (a0_1 : Int) (a1_0 : Int) (a1_1 : Int) : Option (Int × Int) := some (mx a0_0 a1_0, mn a0_1 a1_1)
set_option maxHeartbeats 8000000 in
set_option maxRecDepth 100000 in
theorem z34_.calls (a0_0 : Int) (a0_1 : Int) (a1_0 : Int) (a1_1 : Int) (r1 : Int) (r2 : Int) (w : World) (h : z34_.f a0_0 a0_1 a1_0 a1_1 = some (r1, r2)) :
  Calls Tryz.prog 114 #[.agg #[.int .i64 a0_0, .int .i64 a0_1], .agg #[.int .i64 a1_0, .int .i64 a1_1]] w fun e w' => e = .returned (.agg #[.int .i64 r1, .int .i64 r2]) ∧ Below w.heap.size w w' := by
 have hu30 := Tryz.underlying30
 have HB := Aside0.mk (Below.refl w.heap.size w)
 have H : (some (mx a0_0 a1_0, mn a0_1 a1_1)) = some (r1, r2) := h
 clear h
 obtain ⟨ji3, hji3⟩ : ∃ j_ : Int, (mx a0_0 a1_0) = j_ := ⟨_, rfl⟩
 replace H : (some (ji3, mn a0_1 a1_1)) = some (r1, r2) := by first | (rw [hji3] at H; exact H) | (simp only [hji3] at H ⊢; exact H)
 have hji3_ : (if a0_0 < a1_0 then a1_0 else a0_0) = ji3 := hji3
 obtain ⟨ji4, hji4⟩ : ∃ j_ : Int, (mn a0_1 a1_1) = j_ := ⟨_, rfl⟩
 replace H : (some (ji3, ji4)) = some (r1, r2) := by first | (rw [hji4] at H; exact H) | (simp only [hji4] at H ⊢; exact H)
 have hji4_ : (if a1_1 < a0_1 then a1_1 else a0_1) = ji4 := hji4
 simp only [Option.some.injEq, Prod.mk.injEq] at H
 obtain ⟨rfl, rfl⟩ := H
 go_enter Tryz.func114, Tryz.ntmps114
 go_wp2_with (first | ((with_reducible refine gate_dst (N := 2) rfl ?_); refine boxA (N := 2) (cs := #[.int .i64 a0_0, .int .i64 a0_1]) (t := 30) ?_; intro gb111 hg w5 hbox hb; have BK111 := Aside0.mk (hbox); have GE111 := bG HB hg; replace HB := bS HB hb; clear hb hbox hg) | ((with_reducible refine gate_dst (N := 3) rfl ?_); refine boxA (N := 3) (cs := #[.int .i64 a1_0, .int .i64 a1_1]) (t := 30) ?_; intro gb112 hg w6 hbox hb; have BK112 := Aside0.mk (hbox); have GE112 := bG HB hg; have NB111_112 := kN BK111 hg; have NB112_111 := kM BK111 hg; replace BK111 := kB BK111 hb; replace HB := bS HB hb; clear hb hbox hg) | ((with_reducible refine gate_dst (N := 4) rfl ?_); refine boxA (N := 4) (cs := #[.int .i64 0, .int .i64 0]) (t := 30) ?_; intro gb113 hg w7 hbox hb; have BK113 := Aside0.mk (hbox); have GE113 := bG HB hg; have NB111_113 := kN BK111 hg; have NB113_111 := kM BK111 hg; have NB112_113 := kN BK112 hg; have NB113_112 := kM BK112 hg; replace BK111 := kB BK111 hb; replace BK112 := kB BK112 hb; replace HB := bS HB hb; clear hb hbox hg; obtain ⟨hnb8, hnc8⟩ := nn NB111_112; obtain ⟨hnb9, hnc9⟩ := nn NB111_113; obtain ⟨hcz10_0, hcz10_1, hfz10_0, hfz10_1⟩ := cc2 BK111; obtain ⟨hnb11, hnc11⟩ := nn NB112_113; obtain ⟨hcz12_0, hcz12_1, hfz12_0, hfz12_1⟩ := cc2 BK112; obtain ⟨hcz13_0, hcz13_1, hfz13_0, hfz13_1⟩ := cc2 BK113))
 refine bodyPost_ret (results_cell_row rfl _ _ gb113 30 #[.int .i64 ji3, .int .i64 ji4] (0, 0) _ rfl (kP BK113) Tryz.underlying30 rfl (by kernel_rfl)) rfl ?_
 exact ⟨by first | rfl | (simp [errW_none, errW_some] <;> rfl) | (simp only [← hji3, ← hji4]; first | rfl | (simp [errW_none, errW_some] <;> rfl)) | (simp [*, errW_none, errW_some] <;> rfl), bX HB⟩
end PTob
end Go.Proofs.YtgdkmadcegleiaaGreatDoor
namespace Go.Proofs.YtgdkmadcegleiaaGreatDoor
namespace PTob
open Sq X
attribute [local go_sem] max2_int min2_int max_two min_two max_three min_three max_four min_four   -- for this text's walks alone
def z40_.l0 : Nat → Int → Int → Int → Int → List (S173) → Int → Int → Option (Int × Bool)
 | 0, _, _, _, _, _, _, _ => none
 | k + 1, x1, x2, x3, x4, x16, x17, x18 => if x18 < x17 then (if 0 ≤ x18 then (if x18 < (x16.length : Int) then ((z34_.f ((rd_T173 x16 x18).f0.f0) ((rd_T173 x16 x18).f0.f1) x1 (wrap64 ((wrap64 (x1 + x2)) - 1))).bind fun bt117 => (if bt117.1 ≤ bt117.2 then (if ((rd_T173 x16 x18).f1.f1) > x3 then (if ((rd_T173 x16 x18).f1.f0) < (wrap64 (x3 + x4)) then (some ((rd_T173 x16 x18).f1.f1, true)) else (z40_.l0 k x1 x2 x3 x4 x16 x17 (wrap64 (x18 + 1)))) else (z40_.l0 k x1 x2 x3 x4 x16 x17 (wrap64 (x18 + 1)))) else (z40_.l0 k x1 x2 x3 x4 x16 x17 (wrap64 (x18 + 1))))) else (none)) else (none)) else (some (0, false))
def z40_.f (k : Nat) (l0_0 : List Int) (l0_1 : List Int) (l0_2 : List (S173)) (a1 : Int) (a2 : Int) (a3 : Int) (a4 : Int) : Option (Int × Bool) := z40_.l0 k a1 a2 a3 a4 l0_2 (l0_2.length : Int) 0
set_option maxHeartbeats 8000000 in
set_option maxRecDepth 100000 in
theorem z40_.calls (k : Nat) (A0_0 : Option Addr) (c0_0 : Nat) (l0_0 : List Int) (A0_1 : Option Addr) (c0_1 : Nat) (l0_1 : List Int) (A0_2 : Option Addr) (c0_2 : Nat) (l0_2 : List (S173)) (a1 : Int) (a2 : Int) (a3 : Int) (a4 : Int) (r1 : Int) (r2 : Bool) (w : World) (hr0_0 : Kd.C (Kd.int .i64) w A0_0 l0_0.length l0_0) (hc0_0 : l0_0.length ≤ c0_0) (hr0_1 : Kd.C (Kd.int .i64) w A0_1 l0_1.length l0_1) (hc0_1 : l0_1.length ≤ c0_1) (hr0_2 : Kd.C k173 w A0_2 l0_2.length l0_2) (hc0_2 : l0_2.length ≤ c0_2) (h : z40_.f k l0_0 l0_1 l0_2 a1 a2 a3 a4 = some (r1, r2)) :
  Calls Tryz.prog 106 #[.agg #[.slice A0_0 l0_0.length c0_0, .slice A0_1 l0_1.length c0_1, .slice A0_2 l0_2.length c0_2], .int .i64 a1, .int .i64 a2, .int .i64 a3, .int .i64 a4] w fun e w' => e = .returned (.tuple #[.int .i64 r1, .bool r2]) ∧ Below w.heap.size w w' := by
 have hu159 := Tryz.underlying159
 have hu173 := Tryz.underlying173
 have hu30 := Tryz.underlying30
 have HR0_0 := Aside0.mk hr0_0
 have HC0_0 := Aside0.mk hc0_0
 clear hr0_0 hc0_0
 have HR0_1 := Aside0.mk hr0_1
 have HC0_1 := Aside0.mk hc0_1
 clear hr0_1 hc0_1
 have HR0_2 := Aside0.mk hr0_2
 have HC0_2 := Aside0.mk hc0_2
 clear hr0_2 hc0_2
 have HB := Aside0.mk (Below.refl w.heap.size w)
 have H : (z40_.l0 k a1 a2 a3 a4 l0_2 (l0_2.length : Int) 0) = some (r1, r2) := h
 clear h
 have H' := Aside0.mk H
 clear H
 go_enter Tryz.func106, Tryz.ntmps106
 go_wp2_with (first | ((with_reducible refine gate_dst (N := 5) rfl ?_); refine boxA (N := 5) (cs := #[.slice A0_0 l0_0.length c0_0, .slice A0_1 l0_1.length c0_1, .slice A0_2 l0_2.length c0_2]) (t := 159) ?_; intro gb114 hg w6 hbox hb; have BK114 := Aside0.mk (hbox); have GE114 := bG HB hg; replace HB := bS HB hb; clear hb hbox hg; obtain ⟨hcz7_0, hcz7_1, hcz7_2, hfz7_0, hfz7_1, hfz7_2⟩ := cc3 BK114))
 go_loopg [18] k (fun kq v18 w' => ∃ (x18_1 : Int), v18 = .int .i64 x18_1 ∧ Aside0 (z40_.l0 kq a1 a2 a3 a4 l0_2 (l0_2.length : Int) x18_1 = some (r1, r2)) ∧ Aside0 (kq ≤ k) ∧ Aside0 (w'.heap[gb114]? = some (.cells #[(.slice A0_0 l0_0.length c0_0), (.slice A0_1 l0_1.length c0_1), (.slice A0_2 l0_2.length c0_2)] 159 (0, 0))) ∧ Aside0 (Below w.heap.size w w'))
 case atStart => exact ⟨(0), eR, H', ⟨Nat.le_refl _⟩, ⟨kX BK114.out⟩, ⟨bX HB⟩⟩
 case round =>
  clear H'
  try clear p2
  try clear hcz7_0 hcz7_1 hcz7_2 hfz7_0 hfz7_1 hfz7_2
  obtain ⟨x18_1, rfl, HA, HK1, BK114, HB⟩ := hrel
  cases gk with
  | zero => exact absurd HA.out (by simp [z40_.l0])
  | succ k1 =>
   have H := HA.out
   clear HA
   simp only [z40_.l0] at H
   by_cases c8 : x18_1 < (l0_2.length : Int)
   ·rw [if_pos c8] at H
    have c8b0 : decide (x18_1 < (l0_2.length : Int)) = true := decide_eq_true c8
    clear c8
    by_cases c9 : 0 ≤ x18_1
    ·rw [if_pos c9] at H
     have c9b0 : decide (0 ≤ x18_1) = true := decide_eq_true c9
     clear c9
     by_cases c10 : x18_1 < (l0_2.length : Int)
     ·rw [if_pos c10] at H
      have c10b0 : decide (x18_1 < (l0_2.length : Int)) = true := decide_eq_true c10
      clear c10
      replace H := bindA H
      obtain ⟨⟨t117, t118⟩, A11, H⟩ := H
      try dsimp only at H
      by_cases c12 : t117 ≤ t118
      ·rw [if_pos c12] at H
       have c12b0 : decide (t117 ≤ t118) = true := decide_eq_true c12
       clear c12
       by_cases c13 : ((rd_T173 l0_2 x18_1).f1.f1) > a3
       ·rw [if_pos c13] at H
        have c13b0 : decide (a3 < ((rd_T173 l0_2 x18_1).f1.f1)) = true := decide_eq_true c13
        clear c13
        by_cases c14 : ((rd_T173 l0_2 x18_1).f1.f0) < (wrap64 (a3 + a4))
        ·rw [if_pos c14] at H
         have c14b0 : decide (((rd_T173 l0_2 x18_1).f1.f0) < (wrap64 (a3 + a4))) = true := decide_eq_true c14
         clear c14
         simp only [Option.some.injEq, Prod.mk.injEq] at H
         obtain ⟨rfl, rfl⟩ := H
         have p115 : 0 ≤ (x18_1 : Int) := of_decide_eq_true (by first | (with_reducible assumption) | assumption)
         have q115 : x18_1 < (l0_2.length : Int) := of_decide_eq_true (by first | (with_reducible assumption) | assumption)
         obtain ⟨ad115, e115, hx115_0, hx115_1, hx115_2, hx115_3⟩ := at_T173 HR0_2.out x18_1 p115 q115
         cases e115
         replace hx115_0 := (HB.out.cell (World.block_lt_of_cell? w _ hx115_0)).trans hx115_0
         replace hx115_1 := (HB.out.cell (World.block_lt_of_cell? w _ hx115_1)).trans hx115_1
         replace hx115_2 := (HB.out.cell (World.block_lt_of_cell? w _ hx115_2)).trans hx115_2
         replace hx115_3 := (HB.out.cell (World.block_lt_of_cell? w _ hx115_3)).trans hx115_3
         replace p115 := eq_true p115
         replace q115 := eq_true q115
         go_wp2_with (first | ((with_reducible refine gate_dst (N := 13) rfl ?_); refine boxA (N := 13) (cs := #[.int .i64 0, .int .i64 0, .int .i64 0, .int .i64 0]) (t := 173) ?_; intro gb116 hg w15 hbox hb; have BK116 := Aside0.mk (hbox); have GE116 := bG HB hg; have NB114_116 := kN BK114 hg; have NB116_114 := kM BK114 hg; replace BK114 := kB BK114 hb; replace HB := bS HB hb; clear hb hbox hg; obtain ⟨hnb16, hnc16⟩ := nn NB116_114; obtain ⟨hcz17_0, hcz17_1, hcz17_2, hcz17_3, hfz17_0, hfz17_1, hfz17_2, hfz17_3⟩ := cc4 BK116) | ((with_reducible refine gate_callee (f := 114) rfl ?_); refine goesA (some 30) Tryz.func114 #[.agg #[.int .i64 ((rd_T173 l0_2 x18_1).f0.f0), .int .i64 ((rd_T173 l0_2 x18_1).f0.f1)], .agg #[.int .i64 a1, .int .i64 (wrap64 ((wrap64 (a1 + a2)) - 1))]] ?_; (with_reducible refine (z34_.calls ((rd_T173 l0_2 x18_1).f0.f0) ((rd_T173 l0_2 x18_1).f0.f1) a1 (wrap64 ((wrap64 (a1 + a2)) - 1)) t117 t118 _ A11.out).mono ?_); rintro e w18 ⟨rfl, hb⟩; refine ⟨_, rfl, ?_⟩; have n0_ := Aside0.mk (blk_below (kF BK114 NB114_116) hb); have n1_ := Aside0.mk (blk_below (g := gb116) (o := .cells #[.int .i64 ((rd_T173 l0_2 x18_1).f0.f0), .int .i64 ((rd_T173 l0_2 x18_1).f0.f1), .int .i64 ((rd_T173 l0_2 x18_1).f1.f0), .int .i64 ((rd_T173 l0_2 x18_1).f1.f1)] 173 (0, 0)) (by (with_reducible repeat (first | refine blk_drewN ?_ _ | refine blk_drew ?_ | refine blk_alloc ?_ _)); refine blk_put (cs := #[.int .i64 ((rd_T173 l0_2 x18_1).f0.f0), .int .i64 ((rd_T173 l0_2 x18_1).f0.f1), .int .i64 ((rd_T173 l0_2 x18_1).f1.f0), .int .i64 0]) ?_ 3 _ rfl; (with_reducible repeat (first | refine blk_drewN ?_ _ | refine blk_drew ?_ | refine blk_alloc ?_ _)); refine blk_put (cs := #[.int .i64 ((rd_T173 l0_2 x18_1).f0.f0), .int .i64 ((rd_T173 l0_2 x18_1).f0.f1), .int .i64 0, .int .i64 0]) ?_ 2 _ rfl; (with_reducible repeat (first | refine blk_drewN ?_ _ | refine blk_drew ?_ | refine blk_alloc ?_ _)); refine blk_put (cs := #[.int .i64 ((rd_T173 l0_2 x18_1).f0.f0), .int .i64 0, .int .i64 0, .int .i64 0]) ?_ 1 _ rfl; (with_reducible repeat (first | refine blk_drewN ?_ _ | refine blk_drew ?_ | refine blk_alloc ?_ _)); refine blk_put (cs := #[.int .i64 0, .int .i64 0, .int .i64 0, .int .i64 0]) ?_ 0 _ rfl; (with_reducible repeat (first | refine blk_drewN ?_ _ | refine blk_drew ?_ | refine blk_alloc ?_ _)); exact BK116.out) hb); have n2_ := bS HB hb; clear BK114; clear BK116; clear HB; have BK114 := n0_; have BK116 := n1_; have HB := n2_; clear n0_ n1_ n2_) | ((with_reducible refine gate_dst (N := 14) rfl ?_); refine boxA (N := 14) (cs := #[.int .i64 0, .int .i64 0]) (t := 30) ?_; intro gb119 hg w19 hbox hb; have BK119 := Aside0.mk (hbox); have GE119 := bG HB hg; have NB114_119 := kN BK114 hg; have NB119_114 := kM BK114 hg; have NB116_119 := kN BK116 hg; have NB119_116 := kM BK116 hg; replace BK114 := kB BK114 hb; replace BK116 := kB BK116 hb; replace HB := bS HB hb; clear hb hbox hg; obtain ⟨hnb20, hnc20⟩ := nn NB119_114; obtain ⟨hnb21, hnc21⟩ := nn NB119_116; obtain ⟨hcz22_0, hcz22_1, hfz22_0, hfz22_1⟩ := cc2 BK119; obtain ⟨hcz23_0, hcz23_1, hcz23_2, hcz23_3, hfz23_0, hfz23_1, hfz23_2, hfz23_3⟩ := cc4 BK116))
         go_ret2
         exact ⟨eqA, bX HB⟩
        ·rw [if_neg c14] at H
         have c14b0 : decide (((rd_T173 l0_2 x18_1).f1.f0) < (wrap64 (a3 + a4))) = false := decide_eq_false c14
         clear c14
         have H' := Aside0.mk H
         clear H
         have p115 : 0 ≤ (x18_1 : Int) := of_decide_eq_true (by first | (with_reducible assumption) | assumption)
         have q115 : x18_1 < (l0_2.length : Int) := of_decide_eq_true (by first | (with_reducible assumption) | assumption)
         obtain ⟨ad115, e115, hx115_0, hx115_1, hx115_2, hx115_3⟩ := at_T173 HR0_2.out x18_1 p115 q115
         cases e115
         replace hx115_0 := (HB.out.cell (World.block_lt_of_cell? w _ hx115_0)).trans hx115_0
         replace hx115_1 := (HB.out.cell (World.block_lt_of_cell? w _ hx115_1)).trans hx115_1
         replace hx115_2 := (HB.out.cell (World.block_lt_of_cell? w _ hx115_2)).trans hx115_2
         replace hx115_3 := (HB.out.cell (World.block_lt_of_cell? w _ hx115_3)).trans hx115_3
         replace p115 := eq_true p115
         replace q115 := eq_true q115
         go_wp2_with (first | ((with_reducible refine gate_dst (N := 13) rfl ?_); refine boxA (N := 13) (cs := #[.int .i64 0, .int .i64 0, .int .i64 0, .int .i64 0]) (t := 173) ?_; intro gb116 hg w24 hbox hb; have BK116 := Aside0.mk (hbox); have GE116 := bG HB hg; have NB114_116 := kN BK114 hg; have NB116_114 := kM BK114 hg; replace BK114 := kB BK114 hb; replace HB := bS HB hb; clear hb hbox hg; obtain ⟨hnb25, hnc25⟩ := nn NB116_114; obtain ⟨hcz26_0, hcz26_1, hcz26_2, hcz26_3, hfz26_0, hfz26_1, hfz26_2, hfz26_3⟩ := cc4 BK116) | ((with_reducible refine gate_callee (f := 114) rfl ?_); refine goesA (some 30) Tryz.func114 #[.agg #[.int .i64 ((rd_T173 l0_2 x18_1).f0.f0), .int .i64 ((rd_T173 l0_2 x18_1).f0.f1)], .agg #[.int .i64 a1, .int .i64 (wrap64 ((wrap64 (a1 + a2)) - 1))]] ?_; (with_reducible refine (z34_.calls ((rd_T173 l0_2 x18_1).f0.f0) ((rd_T173 l0_2 x18_1).f0.f1) a1 (wrap64 ((wrap64 (a1 + a2)) - 1)) t117 t118 _ A11.out).mono ?_); rintro e w27 ⟨rfl, hb⟩; refine ⟨_, rfl, ?_⟩; have n0_ := Aside0.mk (blk_below (kF BK114 NB114_116) hb); have n1_ := Aside0.mk (blk_below (g := gb116) (o := .cells #[.int .i64 ((rd_T173 l0_2 x18_1).f0.f0), .int .i64 ((rd_T173 l0_2 x18_1).f0.f1), .int .i64 ((rd_T173 l0_2 x18_1).f1.f0), .int .i64 ((rd_T173 l0_2 x18_1).f1.f1)] 173 (0, 0)) (by (with_reducible repeat (first | refine blk_drewN ?_ _ | refine blk_drew ?_ | refine blk_alloc ?_ _)); refine blk_put (cs := #[.int .i64 ((rd_T173 l0_2 x18_1).f0.f0), .int .i64 ((rd_T173 l0_2 x18_1).f0.f1), .int .i64 ((rd_T173 l0_2 x18_1).f1.f0), .int .i64 0]) ?_ 3 _ rfl; (with_reducible repeat (first | refine blk_drewN ?_ _ | refine blk_drew ?_ | refine blk_alloc ?_ _)); refine blk_put (cs := #[.int .i64 ((rd_T173 l0_2 x18_1).f0.f0), .int .i64 ((rd_T173 l0_2 x18_1).f0.f1), .int .i64 0, .int .i64 0]) ?_ 2 _ rfl; (with_reducible repeat (first | refine blk_drewN ?_ _ | refine blk_drew ?_ | refine blk_alloc ?_ _)); refine blk_put (cs := #[.int .i64 ((rd_T173 l0_2 x18_1).f0.f0), .int .i64 0, .int .i64 0, .int .i64 0]) ?_ 1 _ rfl; (with_reducible repeat (first | refine blk_drewN ?_ _ | refine blk_drew ?_ | refine blk_alloc ?_ _)); refine blk_put (cs := #[.int .i64 0, .int .i64 0, .int .i64 0, .int .i64 0]) ?_ 0 _ rfl; (with_reducible repeat (first | refine blk_drewN ?_ _ | refine blk_drew ?_ | refine blk_alloc ?_ _)); exact BK116.out) hb); have n2_ := bS HB hb; clear BK114; clear BK116; clear HB; have BK114 := n0_; have BK116 := n1_; have HB := n2_; clear n0_ n1_ n2_) | ((with_reducible refine gate_dst (N := 14) rfl ?_); refine boxA (N := 14) (cs := #[.int .i64 0, .int .i64 0]) (t := 30) ?_; intro gb119 hg w28 hbox hb; have BK119 := Aside0.mk (hbox); have GE119 := bG HB hg; have NB114_119 := kN BK114 hg; have NB119_114 := kM BK114 hg; have NB116_119 := kN BK116 hg; have NB119_116 := kM BK116 hg; replace BK114 := kB BK114 hb; replace BK116 := kB BK116 hb; replace HB := bS HB hb; clear hb hbox hg; obtain ⟨hnb29, hnc29⟩ := nn NB119_114; obtain ⟨hnb30, hnc30⟩ := nn NB119_116; obtain ⟨hcz31_0, hcz31_1, hfz31_0, hfz31_1⟩ := cc2 BK119; obtain ⟨hcz32_0, hcz32_1, hcz32_2, hcz32_3, hfz32_0, hfz32_1, hfz32_2, hfz32_3⟩ := cc4 BK116))
         go_roundg k1
         case measure => have := HK1.out; omega
         case rel => exact ⟨(wrap64 (x18_1 + 1)), eR, H', ⟨by have := HK1.out; omega⟩, ⟨by (with_reducible repeat (first | refine blk_drewN ?_ _ | refine blk_drew ?_ | refine blk_alloc ?_ _)); refine blk_far ?_ NB114_119.out _; (with_reducible repeat (first | refine blk_drewN ?_ _ | refine blk_drew ?_ | refine blk_alloc ?_ _)); refine blk_far ?_ NB114_119.out _; (with_reducible repeat (first | refine blk_drewN ?_ _ | refine blk_drew ?_ | refine blk_alloc ?_ _)); exact BK114.out⟩, ⟨bX HB⟩⟩
       ·rw [if_neg c13] at H
        have c13b0 : decide (a3 < ((rd_T173 l0_2 x18_1).f1.f1)) = false := decide_eq_false c13
        clear c13
        have H' := Aside0.mk H
        clear H
        have p115 : 0 ≤ (x18_1 : Int) := of_decide_eq_true (by first | (with_reducible assumption) | assumption)
        have q115 : x18_1 < (l0_2.length : Int) := of_decide_eq_true (by first | (with_reducible assumption) | assumption)
        obtain ⟨ad115, e115, hx115_0, hx115_1, hx115_2, hx115_3⟩ := at_T173 HR0_2.out x18_1 p115 q115
        cases e115
        replace hx115_0 := (HB.out.cell (World.block_lt_of_cell? w _ hx115_0)).trans hx115_0
        replace hx115_1 := (HB.out.cell (World.block_lt_of_cell? w _ hx115_1)).trans hx115_1
        replace hx115_2 := (HB.out.cell (World.block_lt_of_cell? w _ hx115_2)).trans hx115_2
        replace hx115_3 := (HB.out.cell (World.block_lt_of_cell? w _ hx115_3)).trans hx115_3
        replace p115 := eq_true p115
        replace q115 := eq_true q115
        go_wp2_with (first | ((with_reducible refine gate_dst (N := 13) rfl ?_); refine boxA (N := 13) (cs := #[.int .i64 0, .int .i64 0, .int .i64 0, .int .i64 0]) (t := 173) ?_; intro gb116 hg w33 hbox hb; have BK116 := Aside0.mk (hbox); have GE116 := bG HB hg; have NB114_116 := kN BK114 hg; have NB116_114 := kM BK114 hg; replace BK114 := kB BK114 hb; replace HB := bS HB hb; clear hb hbox hg; obtain ⟨hnb34, hnc34⟩ := nn NB116_114; obtain ⟨hcz35_0, hcz35_1, hcz35_2, hcz35_3, hfz35_0, hfz35_1, hfz35_2, hfz35_3⟩ := cc4 BK116) | ((with_reducible refine gate_callee (f := 114) rfl ?_); refine goesA (some 30) Tryz.func114 #[.agg #[.int .i64 ((rd_T173 l0_2 x18_1).f0.f0), .int .i64 ((rd_T173 l0_2 x18_1).f0.f1)], .agg #[.int .i64 a1, .int .i64 (wrap64 ((wrap64 (a1 + a2)) - 1))]] ?_; (with_reducible refine (z34_.calls ((rd_T173 l0_2 x18_1).f0.f0) ((rd_T173 l0_2 x18_1).f0.f1) a1 (wrap64 ((wrap64 (a1 + a2)) - 1)) t117 t118 _ A11.out).mono ?_); rintro e w36 ⟨rfl, hb⟩; refine ⟨_, rfl, ?_⟩; have n0_ := Aside0.mk (blk_below (kF BK114 NB114_116) hb); have n1_ := Aside0.mk (blk_below (g := gb116) (o := .cells #[.int .i64 ((rd_T173 l0_2 x18_1).f0.f0), .int .i64 ((rd_T173 l0_2 x18_1).f0.f1), .int .i64 ((rd_T173 l0_2 x18_1).f1.f0), .int .i64 ((rd_T173 l0_2 x18_1).f1.f1)] 173 (0, 0)) (by (with_reducible repeat (first | refine blk_drewN ?_ _ | refine blk_drew ?_ | refine blk_alloc ?_ _)); refine blk_put (cs := #[.int .i64 ((rd_T173 l0_2 x18_1).f0.f0), .int .i64 ((rd_T173 l0_2 x18_1).f0.f1), .int .i64 ((rd_T173 l0_2 x18_1).f1.f0), .int .i64 0]) ?_ 3 _ rfl; (with_reducible repeat (first | refine blk_drewN ?_ _ | refine blk_drew ?_ | refine blk_alloc ?_ _)); refine blk_put (cs := #[.int .i64 ((rd_T173 l0_2 x18_1).f0.f0), .int .i64 ((rd_T173 l0_2 x18_1).f0.f1), .int .i64 0, .int .i64 0]) ?_ 2 _ rfl; (with_reducible repeat (first | refine blk_drewN ?_ _ | refine blk_drew ?_ | refine blk_alloc ?_ _)); refine blk_put (cs := #[.int .i64 ((rd_T173 l0_2 x18_1).f0.f0), .int .i64 0, .int .i64 0, .int .i64 0]) ?_ 1 _ rfl; (with_reducible repeat (first | refine blk_drewN ?_ _ | refine blk_drew ?_ | refine blk_alloc ?_ _)); refine blk_put (cs := #[.int .i64 0, .int .i64 0, .int .i64 0, .int .i64 0]) ?_ 0 _ rfl; (with_reducible repeat (first | refine blk_drewN ?_ _ | refine blk_drew ?_ | refine blk_alloc ?_ _)); exact BK116.out) hb); have n2_ := bS HB hb; clear BK114; clear BK116; clear HB; have BK114 := n0_; have BK116 := n1_; have HB := n2_; clear n0_ n1_ n2_) | ((with_reducible refine gate_dst (N := 14) rfl ?_); refine boxA (N := 14) (cs := #[.int .i64 0, .int .i64 0]) (t := 30) ?_; intro gb119 hg w37 hbox hb; have BK119 := Aside0.mk (hbox); have GE119 := bG HB hg; have NB114_119 := kN BK114 hg; have NB119_114 := kM BK114 hg; have NB116_119 := kN BK116 hg; have NB119_116 := kM BK116 hg; replace BK114 := kB BK114 hb; replace BK116 := kB BK116 hb; replace HB := bS HB hb; clear hb hbox hg; obtain ⟨hnb38, hnc38⟩ := nn NB119_114; obtain ⟨hnb39, hnc39⟩ := nn NB119_116; obtain ⟨hcz40_0, hcz40_1, hfz40_0, hfz40_1⟩ := cc2 BK119; obtain ⟨hcz41_0, hcz41_1, hcz41_2, hcz41_3, hfz41_0, hfz41_1, hfz41_2, hfz41_3⟩ := cc4 BK116))
        go_roundg k1
        case measure => have := HK1.out; omega
        case rel => exact ⟨(wrap64 (x18_1 + 1)), eR, H', ⟨by have := HK1.out; omega⟩, ⟨by (with_reducible repeat (first | refine blk_drewN ?_ _ | refine blk_drew ?_ | refine blk_alloc ?_ _)); refine blk_far ?_ NB114_119.out _; (with_reducible repeat (first | refine blk_drewN ?_ _ | refine blk_drew ?_ | refine blk_alloc ?_ _)); refine blk_far ?_ NB114_119.out _; (with_reducible repeat (first | refine blk_drewN ?_ _ | refine blk_drew ?_ | refine blk_alloc ?_ _)); exact BK114.out⟩, ⟨bX HB⟩⟩
      ·rw [if_neg c12] at H
       have c12b0 : decide (t117 ≤ t118) = false := decide_eq_false c12
       clear c12
       have H' := Aside0.mk H
       clear H
       have p115 : 0 ≤ (x18_1 : Int) := of_decide_eq_true (by first | (with_reducible assumption) | assumption)
       have q115 : x18_1 < (l0_2.length : Int) := of_decide_eq_true (by first | (with_reducible assumption) | assumption)
       obtain ⟨ad115, e115, hx115_0, hx115_1, hx115_2, hx115_3⟩ := at_T173 HR0_2.out x18_1 p115 q115
       cases e115
       replace hx115_0 := (HB.out.cell (World.block_lt_of_cell? w _ hx115_0)).trans hx115_0
       replace hx115_1 := (HB.out.cell (World.block_lt_of_cell? w _ hx115_1)).trans hx115_1
       replace hx115_2 := (HB.out.cell (World.block_lt_of_cell? w _ hx115_2)).trans hx115_2
       replace hx115_3 := (HB.out.cell (World.block_lt_of_cell? w _ hx115_3)).trans hx115_3
       replace p115 := eq_true p115
       replace q115 := eq_true q115
       go_wp2_with (first | ((with_reducible refine gate_dst (N := 13) rfl ?_); refine boxA (N := 13) (cs := #[.int .i64 0, .int .i64 0, .int .i64 0, .int .i64 0]) (t := 173) ?_; intro gb116 hg w42 hbox hb; have BK116 := Aside0.mk (hbox); have GE116 := bG HB hg; have NB114_116 := kN BK114 hg; have NB116_114 := kM BK114 hg; replace BK114 := kB BK114 hb; replace HB := bS HB hb; clear hb hbox hg; obtain ⟨hnb43, hnc43⟩ := nn NB116_114; obtain ⟨hcz44_0, hcz44_1, hcz44_2, hcz44_3, hfz44_0, hfz44_1, hfz44_2, hfz44_3⟩ := cc4 BK116) | ((with_reducible refine gate_callee (f := 114) rfl ?_); refine goesA (some 30) Tryz.func114 #[.agg #[.int .i64 ((rd_T173 l0_2 x18_1).f0.f0), .int .i64 ((rd_T173 l0_2 x18_1).f0.f1)], .agg #[.int .i64 a1, .int .i64 (wrap64 ((wrap64 (a1 + a2)) - 1))]] ?_; (with_reducible refine (z34_.calls ((rd_T173 l0_2 x18_1).f0.f0) ((rd_T173 l0_2 x18_1).f0.f1) a1 (wrap64 ((wrap64 (a1 + a2)) - 1)) t117 t118 _ A11.out).mono ?_); rintro e w45 ⟨rfl, hb⟩; refine ⟨_, rfl, ?_⟩; have n0_ := Aside0.mk (blk_below (kF BK114 NB114_116) hb); have n1_ := Aside0.mk (blk_below (g := gb116) (o := .cells #[.int .i64 ((rd_T173 l0_2 x18_1).f0.f0), .int .i64 ((rd_T173 l0_2 x18_1).f0.f1), .int .i64 ((rd_T173 l0_2 x18_1).f1.f0), .int .i64 ((rd_T173 l0_2 x18_1).f1.f1)] 173 (0, 0)) (by (with_reducible repeat (first | refine blk_drewN ?_ _ | refine blk_drew ?_ | refine blk_alloc ?_ _)); refine blk_put (cs := #[.int .i64 ((rd_T173 l0_2 x18_1).f0.f0), .int .i64 ((rd_T173 l0_2 x18_1).f0.f1), .int .i64 ((rd_T173 l0_2 x18_1).f1.f0), .int .i64 0]) ?_ 3 _ rfl; (with_reducible repeat (first | refine blk_drewN ?_ _ | refine blk_drew ?_ | refine blk_alloc ?_ _)); refine blk_put (cs := #[.int .i64 ((rd_T173 l0_2 x18_1).f0.f0), .int .i64 ((rd_T173 l0_2 x18_1).f0.f1), .int .i64 0, .int .i64 0]) ?_ 2 _ rfl; (with_reducible repeat (first | refine blk_drewN ?_ _ | refine blk_drew ?_ | refine blk_alloc ?_ _)); refine blk_put (cs := #[.int .i64 ((rd_T173 l0_2 x18_1).f0.f0), .int .i64 0, .int .i64 0, .int .i64 0]) ?_ 1 _ rfl; (with_reducible repeat (first | refine blk_drewN ?_ _ | refine blk_drew ?_ | refine blk_alloc ?_ _)); refine blk_put (cs := #[.int .i64 0, .int .i64 0, .int .i64 0, .int .i64 0]) ?_ 0 _ rfl; (with_reducible repeat (first | refine blk_drewN ?_ _ | refine blk_drew ?_ | refine blk_alloc ?_ _)); exact BK116.out) hb); have n2_ := bS HB hb; clear BK114; clear BK116; clear HB; have BK114 := n0_; have BK116 := n1_; have HB := n2_; clear n0_ n1_ n2_) | ((with_reducible refine gate_dst (N := 14) rfl ?_); refine boxA (N := 14) (cs := #[.int .i64 0, .int .i64 0]) (t := 30) ?_; intro gb119 hg w46 hbox hb; have BK119 := Aside0.mk (hbox); have GE119 := bG HB hg; have NB114_119 := kN BK114 hg; have NB119_114 := kM BK114 hg; have NB116_119 := kN BK116 hg; have NB119_116 := kM BK116 hg; replace BK114 := kB BK114 hb; replace BK116 := kB BK116 hb; replace HB := bS HB hb; clear hb hbox hg; obtain ⟨hnb47, hnc47⟩ := nn NB119_114; obtain ⟨hnb48, hnc48⟩ := nn NB119_116; obtain ⟨hcz49_0, hcz49_1, hfz49_0, hfz49_1⟩ := cc2 BK119))
       go_roundg k1
       case measure => have := HK1.out; omega
       case rel => exact ⟨(wrap64 (x18_1 + 1)), eR, H', ⟨by have := HK1.out; omega⟩, ⟨by (with_reducible repeat (first | refine blk_drewN ?_ _ | refine blk_drew ?_ | refine blk_alloc ?_ _)); refine blk_far ?_ NB114_119.out _; (with_reducible repeat (first | refine blk_drewN ?_ _ | refine blk_drew ?_ | refine blk_alloc ?_ _)); refine blk_far ?_ NB114_119.out _; (with_reducible repeat (first | refine blk_drewN ?_ _ | refine blk_drew ?_ | refine blk_alloc ?_ _)); exact BK114.out⟩, ⟨bX HB⟩⟩
     ·rw [if_neg c10] at H
      exact absurd H (by simp)
    ·rw [if_neg c9] at H
     exact absurd H (by simp)
   ·rw [if_neg c8] at H
    have c8b0 : decide (x18_1 < (l0_2.length : Int)) = false := decide_eq_false c8
    clear c8
    simp only [Option.some.injEq, Prod.mk.injEq] at H
    obtain ⟨rfl, rfl⟩ := H
    go_wp2
    go_ret2
    exact ⟨eqA, bX HB⟩
def z35_.l0 : Nat → Int → List Int → Int → List Int → List Int → List (S173) → Int → Int → Int → Int → Int → Int → Option (List Int)
 | 0, _, _, _, _, _, _, _, _, _, _, _, _ => none
 | k + 1, x2, x6, x8, x121000, x121001, x121002, x122000, x122001, x122002, x122003, x125000, x125001 => if (wrap64 (x8 + x122001)) ≤ x125001 then ((z40_.f k x121000 x121001 x121002 x2 x122000 x8 x122001).bind fun bt125 => (if bt125.2 = true then (z35_.l0 k x2 x6 bt125.1 x121000 x121001 x121002 x122000 x122001 x122002 x122003 x125000 x125001) else (if x6.length < 17592186044416 then (z35_.l0 k x2 (x6 ++ [x8]) (wrap64 (x8 + (wrap64 (x122001 + x122002)))) x121000 x121001 x121002 x122000 x122001 x122002 x122003 x125000 x125001) else (none)))) else (some x6)
def z35_.f (k : Nat) (l0_0 : List Int) (l0_1 : List Int) (l0_2 : List (S173)) (a1_0 : Int) (a1_1 : Int) (a1_2 : Int) (a1_3 : Int) (a2 : Int) : Option (List Int) := (z39_.f k l0_0 l0_1 l0_2 a2 a1_0).bind fun bt122 => (z35_.l0 k a2 ([] : List Int) bt122.1 l0_0 l0_1 l0_2 a1_0 a1_1 a1_2 a1_3 bt122.1 bt122.2)
set_option maxHeartbeats 8000000 in
set_option maxRecDepth 100000 in
theorem z35_.calls (k : Nat) (A0_0 : Option Addr) (c0_0 : Nat) (l0_0 : List Int) (A0_1 : Option Addr) (c0_1 : Nat) (l0_1 : List Int) (A0_2 : Option Addr) (c0_2 : Nat) (l0_2 : List (S173)) (a1_0 : Int) (a1_1 : Int) (a1_2 : Int) (a1_3 : Int) (a2 : Int) (r : List Int) (w : World) (hr0_0 : Kd.C (Kd.int .i64) w A0_0 l0_0.length l0_0) (hc0_0 : l0_0.length ≤ c0_0) (hr0_1 : Kd.C (Kd.int .i64) w A0_1 l0_1.length l0_1) (hc0_1 : l0_1.length ≤ c0_1) (hr0_2 : Kd.C k173 w A0_2 l0_2.length l0_2) (hc0_2 : l0_2.length ≤ c0_2) (h : z35_.f k l0_0 l0_1 l0_2 a1_0 a1_1 a1_2 a1_3 a2 = some r) :
  Calls Tryz.prog 88 #[.agg #[.slice A0_0 l0_0.length c0_0, .slice A0_1 l0_1.length c0_1, .slice A0_2 l0_2.length c0_2], .agg #[.int .i64 a1_0, .int .i64 a1_1, .int .i64 a1_2, .int .i64 a1_3], .int .i64 a2] w fun e w' => ∃ v0_ : Value, e = .returned (v0_) ∧ Kd.R (Kd.int .i64) 3 w' w.heap.size (fun _ => True) v0_ r ∧ Below w.heap.size w w' := by
 have hu159 := Tryz.underlying159
 have hu130 := Tryz.underlying130
 have hu30 := Tryz.underlying30
 have HR0_0 := Aside0.mk hr0_0
 have HC0_0 := Aside0.mk hc0_0
 clear hr0_0 hc0_0
 have HR0_1 := Aside0.mk hr0_1
 have HC0_1 := Aside0.mk hc0_1
 clear hr0_1 hc0_1
 have HR0_2 := Aside0.mk hr0_2
 have HC0_2 := Aside0.mk hc0_2
 clear hr0_2 hc0_2
 have HB := Aside0.mk (Below.refl w.heap.size w)
 have H : ((z39_.f k l0_0 l0_1 l0_2 a2 a1_0).bind fun bt122 => (z35_.l0 k a2 ([] : List Int) bt122.1 l0_0 l0_1 l0_2 a1_0 a1_1 a1_2 a1_3 bt122.1 bt122.2)) = some r := h
 clear h
 replace H := bindA H
 obtain ⟨⟨t122, t123⟩, A4, H⟩ := H
 try dsimp only at H
 have H' := Aside0.mk H
 clear H
 go_enter Tryz.func88, Tryz.ntmps88
 go_wp2_with (first | ((with_reducible refine gate_dst (N := 3) rfl ?_); refine boxA (N := 3) (cs := #[.slice A0_0 l0_0.length c0_0, .slice A0_1 l0_1.length c0_1, .slice A0_2 l0_2.length c0_2]) (t := 159) ?_; intro gb120 hg w5 hbox hb; have BK120 := Aside0.mk (hbox); have GE120 := bG HB hg; replace HB := bS HB hb; clear hb hbox hg) | ((with_reducible refine gate_dst (N := 4) rfl ?_); refine boxA (N := 4) (cs := #[.int .i64 a1_0, .int .i64 a1_1, .int .i64 a1_2, .int .i64 a1_3]) (t := 130) ?_; intro gb121 hg w6 hbox hb; have BK121 := Aside0.mk (hbox); have GE121 := bG HB hg; have NB120_121 := kN BK120 hg; have NB121_120 := kM BK120 hg; replace BK120 := kB BK120 hb; replace HB := bS HB hb; clear hb hbox hg; obtain ⟨hnb7, hnc7⟩ := nn NB120_121; obtain ⟨hcz8_0, hcz8_1, hcz8_2, hfz8_0, hfz8_1, hfz8_2⟩ := cc3 BK120; obtain ⟨hcz9_0, hcz9_1, hcz9_2, hcz9_3, hfz9_0, hfz9_1, hfz9_2, hfz9_3⟩ := cc4 BK121) | ((with_reducible refine gate_callee (f := 105) rfl ?_); refine goesA (some 15) Tryz.func105 #[.agg #[.slice A0_0 l0_0.length c0_0, .slice A0_1 l0_1.length c0_1, .slice A0_2 l0_2.length c0_2], .int .i64 a2, .int .i64 a1_0] ?_; (with_reducible refine (z39_.calls k _ _ l0_0 _ _ l0_1 _ _ l0_2 a2 a1_0 t122 t123 _ ?side1 ?side2 ?side3 ?side4 ?side5 ?side6 A4.out).mono ?_); (case side1 => exact sX (Kd.C_below HR0_0.out HB.out)); (case side2 => exact HC0_0.out); (case side3 => exact sX (Kd.C_below HR0_1.out HB.out)); (case side4 => exact HC0_1.out); (case side5 => exact sX (Kd.C_below HR0_2.out HB.out)); (case side6 => exact HC0_2.out); rintro e w10 ⟨rfl, hb⟩; refine ⟨_, rfl, ?_⟩; replace BK120 := kB BK120 hb; replace BK121 := kB BK121 hb; replace HB := bS HB hb) | ((with_reducible refine gate_dst (N := 7) rfl ?_); refine boxA (N := 7) (cs := #[.int .i64 0, .int .i64 0]) (t := 30) ?_; intro gb124 hg w11 hbox hb; have BK124 := Aside0.mk (hbox); have GE124 := bG HB hg; have NB120_124 := kN BK120 hg; have NB124_120 := kM BK120 hg; have NB121_124 := kN BK121 hg; have NB124_121 := kM BK121 hg; replace BK120 := kB BK120 hb; replace BK121 := kB BK121 hb; replace HB := bS HB hb; clear hb hbox hg; obtain ⟨hnb12, hnc12⟩ := nn NB124_120; obtain ⟨hnb13, hnc13⟩ := nn NB124_121; obtain ⟨hcz14_0, hcz14_1, hfz14_0, hfz14_1⟩ := cc2 BK124))
 go_loopg [6, 8] k (fun kq v6 v8 w' => ∃ (x6_1 : List Int) (x8_1 : Int), v8 = .int .i64 x8_1 ∧ Aside0 (z35_.l0 kq a2 x6_1 x8_1 l0_0 l0_1 l0_2 a1_0 a1_1 a1_2 a1_3 t122 t123 = some r) ∧ Aside0 (kq ≤ k) ∧ Aside0 (Kd.R (Kd.int .i64) 3 w' w.heap.size (fun _ => True) v6 x6_1) ∧ Aside0 (w'.heap[gb120]? = some (.cells #[(.slice A0_0 l0_0.length c0_0), (.slice A0_1 l0_1.length c0_1), (.slice A0_2 l0_2.length c0_2)] 159 (0, 0))) ∧ Aside0 (w'.heap[gb121]? = some (.cells #[.int .i64 a1_0, .int .i64 a1_1, .int .i64 a1_2, .int .i64 a1_3] 130 (0, 0))) ∧ Aside0 (w'.heap[gb124]? = some (.cells #[.int .i64 t122, .int .i64 t123] 30 (0, 0))) ∧ Aside0 (Below w.heap.size w w'))
 case atStart => exact ⟨(([] : List Int)), (t122), eR, H', ⟨Nat.le_refl _⟩, ⟨by first | exact Kd.R_nil _ _ _ _ _ | exact Kd.N_nil _ _ _ _ _ | exact Kd.V_nil _ _ _ _ _ | exact Kd.Q_nil _ _ _ _ _ | exact Kd.S_nil _ _ _ _ _⟩, ⟨by (with_reducible repeat (first | refine blk_drewN ?_ _ | refine blk_drew ?_ | refine blk_alloc ?_ _)); refine blk_far ?_ NB120_124.out _; (with_reducible repeat (first | refine blk_drewN ?_ _ | refine blk_drew ?_ | refine blk_alloc ?_ _)); refine blk_far ?_ NB120_124.out _; (with_reducible repeat (first | refine blk_drewN ?_ _ | refine blk_drew ?_ | refine blk_alloc ?_ _)); exact BK120.out⟩, ⟨by (with_reducible repeat (first | refine blk_drewN ?_ _ | refine blk_drew ?_ | refine blk_alloc ?_ _)); refine blk_far ?_ NB121_124.out _; (with_reducible repeat (first | refine blk_drewN ?_ _ | refine blk_drew ?_ | refine blk_alloc ?_ _)); refine blk_far ?_ NB121_124.out _; (with_reducible repeat (first | refine blk_drewN ?_ _ | refine blk_drew ?_ | refine blk_alloc ?_ _)); exact BK121.out⟩, ⟨by (with_reducible repeat (first | refine blk_drewN ?_ _ | refine blk_drew ?_ | refine blk_alloc ?_ _)); refine blk_put (cs := #[.int .i64 t122, .int .i64 0]) ?_ 1 _ rfl; (with_reducible repeat (first | refine blk_drewN ?_ _ | refine blk_drew ?_ | refine blk_alloc ?_ _)); refine blk_put (cs := #[.int .i64 0, .int .i64 0]) ?_ 0 _ rfl; (with_reducible repeat (first | refine blk_drewN ?_ _ | refine blk_drew ?_ | refine blk_alloc ?_ _)); exact BK124.out⟩, ⟨bX HB⟩⟩
 case round =>
  clear H'
  try clear p2
  try clear hcz14_0 hcz14_1 hfz14_0 hfz14_1
  try clear hcz8_0 hcz8_1 hcz8_2 hfz8_0 hfz8_1 hfz8_2
  try clear hcz9_0 hcz9_1 hcz9_2 hcz9_3 hfz9_0 hfz9_1 hfz9_2 hfz9_3
  obtain ⟨x6_1, x8_1, rfl, HA, HK1, HO_6, BK120, BK121, BK124, HB⟩ := hrel
  cases gk with
  | zero => exact absurd HA.out (by simp [z35_.l0])
  | succ k1 =>
   have H := HA.out
   clear HA
   simp only [z35_.l0] at H
   by_cases c15 : (wrap64 (x8_1 + a1_1)) ≤ t123
   ·rw [if_pos c15] at H
    have c15b0 : decide ((wrap64 (x8_1 + a1_1)) ≤ t123) = true := decide_eq_true c15
    clear c15
    replace H := bindA H
    obtain ⟨⟨t125, t126⟩, A16, H⟩ := H
    try dsimp only at H
    by_cases c17 : t126 = true
    ·subst c17
     have H1 : (z35_.l0 k1 a2 x6_1 t125 l0_0 l0_1 l0_2 a1_0 a1_1 a1_2 a1_3 t122 t123) = some r := by rw [if_pos rfl] at H; exact H
     clear H
     have H := H1
     clear H1
     have H' := Aside0.mk H
     clear H
     obtain ⟨hnb18, hnc18⟩ := nn NB121_120
     obtain ⟨hnb19, hnc19⟩ := nn NB121_124
     obtain ⟨hcz20_0, hcz20_1, hcz20_2, hcz20_3, hfz20_0, hfz20_1, hfz20_2, hfz20_3⟩ := cc4 BK121
     obtain ⟨hnb21, hnc21⟩ := nn NB124_120
     obtain ⟨hcz22_0, hcz22_1, hfz22_0, hfz22_1⟩ := cc2 BK124
     obtain ⟨hcz23_0, hcz23_1, hcz23_2, hfz23_0, hfz23_1, hfz23_2⟩ := cc3 BK120
     go_wp2_with (first | ((with_reducible refine gate_callee (f := 106) rfl ?_); refine goesA (some 33) Tryz.func106 #[.agg #[.slice A0_0 l0_0.length c0_0, .slice A0_1 l0_1.length c0_1, .slice A0_2 l0_2.length c0_2], .int .i64 a2, .int .i64 a1_0, .int .i64 x8_1, .int .i64 a1_1] ?_; (with_reducible refine (z40_.calls k1 _ _ l0_0 _ _ l0_1 _ _ l0_2 a2 a1_0 x8_1 a1_1 t125 true _ ?side1 ?side2 ?side3 ?side4 ?side5 ?side6 A16.out).mono ?_); (case side1 => exact sX (Kd.C_below HR0_0.out HB.out)); (case side2 => exact HC0_0.out); (case side3 => exact sX (Kd.C_below HR0_1.out HB.out)); (case side4 => exact HC0_1.out); (case side5 => exact sX (Kd.C_below HR0_2.out HB.out)); (case side6 => exact HC0_2.out); rintro e w24 ⟨rfl, hb⟩; refine ⟨_, rfl, ?_⟩; replace HO_6 := rB HO_6 hb; replace BK120 := kB BK120 hb; replace BK121 := kB BK121 hb; replace BK124 := kB BK124 hb; replace HB := bS HB hb))
     go_roundg k1
     case measure => have := HK1.out; omega
     case rel => exact ⟨(x6_1), (t125), eR, H', ⟨by have := HK1.out; omega⟩, ⟨rX HO_6.out⟩, ⟨kX BK120.out⟩, ⟨kX BK121.out⟩, ⟨kX BK124.out⟩, ⟨bX HB⟩⟩
    ·replace c17 := Bool.eq_false_iff.mpr c17
     subst c17
     have H1 : (if x6_1.length < 17592186044416 then (z35_.l0 k1 a2 (x6_1 ++ [x8_1]) (wrap64 (x8_1 + (wrap64 (a1_1 + a1_2)))) l0_0 l0_1 l0_2 a1_0 a1_1 a1_2 a1_3 t122 t123) else (none)) = some r := by rw [if_neg (show ¬ (false = true) by decide)] at H; exact H
     clear H
     have H := H1
     clear H1
     by_cases c25 : x6_1.length < 17592186044416
     ·rw [if_pos c25] at H
      have LMc25 := Aside0.mk c25
      clear c25
      obtain ⟨y127, hy127⟩ : ∃ y_ : List Int, y_ = (x6_1 ++ [x8_1]) := ⟨_, rfl⟩
      replace H : (z35_.l0 k1 a2 y127 (wrap64 (x8_1 + (wrap64 (a1_1 + a1_2)))) l0_0 l0_1 l0_2 a1_0 a1_1 a1_2 a1_3 t122 t123) = some r := by first | (rw [hy127]; with_reducible exact H) | (have H2_ := (Option.bind_some _ _).symm.trans H; rw [hy127]; with_reducible exact H2_) | (have H2_ := (Option.bind_some _ _).symm.trans H; with_reducible exact H2_) | with_reducible exact H | (rw [hy127]; exact H) | exact H
      have Ny127 := Aside0.mk hy127
      clear hy127
      have H' := Aside0.mk H
      clear H
      obtain ⟨hnb26, hnc26⟩ := nn NB121_120
      obtain ⟨hnb27, hnc27⟩ := nn NB121_124
      obtain ⟨hcz28_0, hcz28_1, hcz28_2, hcz28_3, hfz28_0, hfz28_1, hfz28_2, hfz28_3⟩ := cc4 BK121
      obtain ⟨hnb29, hnc29⟩ := nn NB124_120
      obtain ⟨hcz30_0, hcz30_1, hfz30_0, hfz30_1⟩ := cc2 BK124
      obtain ⟨hcz31_0, hcz31_1, hcz31_2, hfz31_0, hfz31_1, hfz31_2⟩ := cc3 BK120
      go_wp2_with (first | ((with_reducible refine gate_callee (f := 106) rfl ?_); refine goesA (some 33) Tryz.func106 #[.agg #[.slice A0_0 l0_0.length c0_0, .slice A0_1 l0_1.length c0_1, .slice A0_2 l0_2.length c0_2], .int .i64 a2, .int .i64 a1_0, .int .i64 x8_1, .int .i64 a1_1] ?_; (with_reducible refine (z40_.calls k1 _ _ l0_0 _ _ l0_1 _ _ l0_2 a2 a1_0 x8_1 a1_1 t125 false _ ?side1 ?side2 ?side3 ?side4 ?side5 ?side6 A16.out).mono ?_); (case side1 => exact sX (Kd.C_below HR0_0.out HB.out)); (case side2 => exact HC0_0.out); (case side3 => exact sX (Kd.C_below HR0_1.out HB.out)); (case side4 => exact HC0_1.out); (case side5 => exact sX (Kd.C_below HR0_2.out HB.out)); (case side6 => exact HC0_2.out); rintro e w32 ⟨rfl, hb⟩; refine ⟨_, rfl, ?_⟩; replace HO_6 := rB HO_6 hb; replace BK120 := kB BK120 hb; replace BK121 := kB BK121 hb; replace BK124 := kB BK124 hb; replace HB := bS HB hb) | ((with_reducible refine gate_builtin (b := .append) (xs := #[.tmp 38, .tmp 40]) rfl ?_); at_builtin; refine Kd.R_append (Kd.int .i64) (w0 := w) w.heap.size rfl (.tmp 38) (.tmp 40) 51 3 (.int .i64 0) 8 rfl Tryz.underlying51 info3 rfl (by decide) (by omega) u6 x6_1 x8_1 [.int .i64 x8_1] (fun _ => True) (fun _ => False) rfl rfl ?aP (fun _ hk => hk.elim) ?aF ?aO ?aB ?aS ?aL ?_; (case aP => exact rfl); (case aB => exact (bX HB)); (case aF => exact (fun _ _ => trivial)); (case aO => exact (rX HO_6.out)); (case aS => exact (below_size (bX HB))); (case aL => have := LMc25.out; omega); intro v128 w33 ho hb hg hat; rw [← Ny127.out] at ho; have n0_ := Aside0.mk (blk_grown (g := gb120) (o := .cells #[.slice A0_0 l0_0.length c0_0, .slice A0_1 l0_1.length c0_1, .slice A0_2 l0_2.length c0_2] 159 (0, 0)) (kX BK120.out) hg (Kd.R_ne HO_6.out BK120.out (by decide))); have n1_ := Aside0.mk (blk_grown (g := gb121) (o := .cells #[.int .i64 a1_0, .int .i64 a1_1, .int .i64 a1_2, .int .i64 a1_3] 130 (0, 0)) (kX BK121.out) hg (Kd.R_ne HO_6.out BK121.out (by decide))); have n2_ := Aside0.mk (blk_grown (g := gb124) (o := .cells #[.int .i64 t122, .int .i64 t123] 30 (0, 0)) (kX BK124.out) hg (Kd.R_ne HO_6.out BK124.out (by decide))); have n3_ := Aside0.mk (hb); have n4_ := Aside0.mk (ho); clear BK120; clear BK121; clear BK124; clear HB; clear HO_6; have BK120 := n0_; have BK121 := n1_; have BK124 := n2_; have HB := n3_; have HO129 := n4_; clear n0_ n1_ n2_ n3_ n4_; clear ho hb hg hat; obtain ⟨hcz34_0, hcz34_1, hcz34_2, hcz34_3, hfz34_0, hfz34_1, hfz34_2, hfz34_3⟩ := cc4 BK121))
      go_roundg k1
      case measure => have := HK1.out; omega
      case rel => exact ⟨(y127), (wrap64 (x8_1 + (wrap64 (a1_1 + a1_2)))), eR, H', ⟨by have := HK1.out; omega⟩, ⟨rX HO129.out⟩, ⟨kX BK120.out⟩, ⟨kX BK121.out⟩, ⟨kX BK124.out⟩, ⟨bX HB⟩⟩
     ·rw [if_neg c25] at H
      exact absurd H (by simp)
   ·rw [if_neg c15] at H
    have c15b0 : decide ((wrap64 (x8_1 + a1_1)) ≤ t123) = false := decide_eq_false c15
    clear c15
    obtain rfl := Option.some.inj H
    obtain ⟨hnb35, hnc35⟩ := nn NB121_120
    obtain ⟨hnb36, hnc36⟩ := nn NB121_124
    obtain ⟨hcz37_0, hcz37_1, hcz37_2, hcz37_3, hfz37_0, hfz37_1, hfz37_2, hfz37_3⟩ := cc4 BK121
    obtain ⟨hnb38, hnc38⟩ := nn NB124_120
    obtain ⟨hcz39_0, hcz39_1, hfz39_0, hfz39_1⟩ := cc2 BK124
    go_wp2
    go_ret
    exact ⟨_, eqA, rX HO_6.out, bX HB⟩
end PTob
end Go.Proofs.YtgdkmadcegleiaaGreatDoor
namespace Go.Proofs.YtgdkmadcegleiaaGreatDoor
namespace PTob
open X
attribute [local go_sem] max2_int min2_int max_two min_two max_three min_three max_four min_four   -- for this text's walks alone
end PTob
end Go.Proofs.YtgdkmadcegleiaaGreatDoor
namespace Go.Proofs.YtgdkmadcegleiaaGreatDoor
namespace X
open PToo
theorem enters_low : ∀ args w, (callFunc 104 args).run Tryz.prog w = .ok (.enter 104 args) w := enters_of Tryz.func104 (by kernel_rfl) rfl
theorem enters_high : ∀ args w, (callFunc 103 args).run Tryz.prog w = .ok (.enter 103 args) w := enters_of Tryz.func103 (by kernel_rfl) rfl
set_option maxHeartbeats 4000000 in
theorem edges_calls {g : Nat} {A : Option Addr} {c : Nat} {l : List S30} {en : S30 → Int} {w : World}
    (eg : ∀ args w, (callFunc g args).run Tryz.prog w = .ok (.enter g args) w)
    (hr : Kd.C k30 w A l.length l) (hl : l.length ≤ 1000000)
    (htr : ∀ x W, Calls Tryz.prog g #[.agg #[.int .i64 x.f0, .int .i64 x.f1]] W fun e W' => e = .returned (.int .i64 (en x)) ∧ Below W.heap.size W W') :
    Calls Tryz.prog 102 #[.slice A l.length c, .func (.func g) #[] #[]] w fun e w' =>
      ∃ v, e = .returned v ∧ Kd.R (Kd.int .i64) 3 w' w.heap.size (fun _ => True) v (l.map en) ∧ Below w.heap.size w w' := by
  have HR := Aside0.mk hr
  have HTR := Aside0.mk htr
  obtain ⟨n, hn⟩ : ∃ n, l.length = n := ⟨_, rfl⟩
  have HN := Aside0.mk hn
  rw [hn] at hl HR ⊢
  clear hr htr hn
  go_enter Tryz.func102, Tryz.ntmps102
  go_wp2
  go_loopg [4, 9] n (fun gg v4 v9 wr => ∃ kk : Nat, kk ≤ n ∧ n - kk ≤ gg ∧ v9 = .int .i64 kk ∧ Aside0 (Kd.R (Kd.int .i64) 3 wr w.heap.size (fun _ => True) v4 ((l.map en).take kk)) ∧ Aside0 (Below w.heap.size w wr))
  case atStart => exact ⟨0, Nat.zero_le _, by omega, rfl, ⟨by rw [List.take_zero]; exact Kd.R_nil _ _ _ _ _⟩, ⟨Below.refl _ _⟩⟩
  case round =>
    obtain ⟨kk, hkk, hgg, rfl, HO, HB⟩ := hrel
    by_cases hlt : kk < n
    · have hltz : (kk : Int) < (n : Int) := by omega
      obtain ⟨ad, c1, rfl, hl1, hK, hcell⟩ := Kd.C_get (Kd.C_below HR.out HB.out) z30 (kk : Int) (by omega) hltz
      rw [Int.toNat_natCast] at hK hcell
      have e1 := k30_open hK
      subst e1
      have HUP : Aside0 ((l.map en).take (kk + 1) = (l.map en).take kk ++ [en (l.getD kk z30)]) := ⟨by
        have h2 : kk < (l.map en).length := by rw [List.length_map, HN.out]; exact hlt
        rw [List.take_succ_eq_append_getElem h2]
        congr 2
        rw [List.getElem_map, List.getD_eq_getElem?_getD, List.getElem?_eq_getElem (by rw [HN.out]; exact hlt)]
        rfl⟩
      have HLEN : Aside0 (((l.map en).take kk).length ≤ kk) := ⟨by rw [List.length_take]; exact Nat.min_le_left _ _⟩
      clear hK
      generalize l.getD kk z30 = x at hcell HUP
      have hcc : ∀ j u, [Value.int .i64 x.f0, Value.int .i64 x.f1][j]? = some u → wr.cell? (ad.add (kk * 2 + j)) = some u := fun j u hu => hcell j u hu
      have hc0 : wr.cell? (ad.add (kk * 2)) = some (.int .i64 x.f0) := hcc 0 _ rfl
      have hc1 : wr.cell? ⟨(ad.add (kk * 2)).block, (ad.add (kk * 2)).off + 1, none⟩ = some (.int .i64 x.f1) := by rw [← add_field _ _ 1 (by omega)]; exact hcc 1 _ rfl
      clear hcell hl1 hcc
      go_wp2_with fail
      refine (HTR.out x _).mono ?_
      rintro e w2 ⟨rfl, hb2⟩
      have HO2 := Aside0.mk (Kd.R_below (Kd.R_alloc HO.out _) hb2)
      have HB2 := Aside0.mk (later_below (below_alloc HB.out _) hb2)
      clear hb2
      go_wp2_with (at_builtin; refine Kd.R_append (Kd.int .i64) (w0 := w) w.heap.size rfl (.tmp 13) (.tmp 17) 51 3 (.int .i64 0) 8 rfl Tryz.underlying51 info_int rfl (by decide) (by omega) _ _ (en x) [.int .i64 (en x)] (fun _ => True) (fun _ => False) rfl rfl rfl (fun _ hk => hk.elim) (fun _ _ => trivial) HO2.out HB2.out (below_size HB2.out) (by have := HLEN.out; omega) ?_; intro v1 w5 ho hb hg5 hat; have HO5 := Aside0.mk ho; have HB5 := Aside0.mk hb; clear ho hb hg5 hat)
      go_roundg (n - (kk + 1))
      case measure => omega
      case rel => exact ⟨kk + 1, by omega, by omega, by go_num, ⟨by rw [HUP.out]; exact HO5.out⟩, ⟨HB5.out⟩⟩
    · have hltz : ¬ (kk : Int) < (n : Int) := by omega
      obtain rfl : kk = n := by omega
      have HE : Aside0 ((l.map en).take kk = l.map en) := ⟨List.take_of_length_le (by rw [List.length_map, HN.out]; exact Nat.le_refl _)⟩
      go_wp2
      go_ret
      exact ⟨_, rfl, by rw [← HE.out]; exact HO.out, HB.out⟩
end X
end Go.Proofs.YtgdkmadcegleiaaGreatDoor
namespace Go.Proofs.YtgdkmadcegleiaaGreatDoor
namespace X
def z48_.f (l0 : List S30) : Option (List Int) := if l0.length ≤ 1000000 then some (l0.map fun x => x.f1) else none
def z45_.f (l0 : List S30) : Option (List Int) := if l0.length ≤ 1000000 then some (l0.map fun x => x.f0) else none
theorem z48_.calls (A0 : Option Addr) (c0 : Nat) (l0 : List S30) (r : List Int) (w : World) (hr0 : Kd.C k30 w A0 l0.length l0) (_hc0 : l0.length ≤ c0) (h : z48_.f l0 = some r) :
    Calls Tryz.prog 102 #[.slice A0 l0.length c0, .func (.func 103) #[] #[]] w fun e w' => ∃ v0_ : Value, e = .returned (v0_) ∧ Kd.R (Kd.int .i64) 3 w' w.heap.size (fun _ => True) v0_ r ∧ Below w.heap.size w w' := by
  unfold z48_.f at h
  by_cases c : l0.length ≤ 1000000
  · rw [if_pos c] at h
    obtain rfl := Option.some.inj h
    exact edges_calls enters_high hr0 c (fun x W => PToo.z48_.calls x.f0 x.f1 x.f1 W rfl)
  · rw [if_neg c] at h
    cases h
theorem z45_.calls (A0 : Option Addr) (c0 : Nat) (l0 : List S30) (r : List Int) (w : World) (hr0 : Kd.C k30 w A0 l0.length l0) (_hc0 : l0.length ≤ c0) (h : z45_.f l0 = some r) :
    Calls Tryz.prog 102 #[.slice A0 l0.length c0, .func (.func 104) #[] #[]] w fun e w' => ∃ v0_ : Value, e = .returned (v0_) ∧ Kd.R (Kd.int .i64) 3 w' w.heap.size (fun _ => True) v0_ r ∧ Below w.heap.size w w' := by
  unfold z45_.f at h
  by_cases c : l0.length ≤ 1000000
  · rw [if_pos c] at h
    obtain rfl := Option.some.inj h
    exact edges_calls enters_low hr0 c (fun x W => PToo.z45_.calls x.f0 x.f1 x.f0 W rfl)
  · rw [if_neg c] at h
    cases h
end X
end Go.Proofs.YtgdkmadcegleiaaGreatDoor
namespace Go.Proofs.YtgdkmadcegleiaaGreatDoor
namespace PBen
open X
attribute [local go_sem] max2_int min2_int max_two min_two max_three min_three max_four min_four   -- for this text's walks alone
def errW : Option Int → Value
  | none => .nilIface
  | some c => .iface 0 (.int .i64 c)
theorem errW_none : errW none = .nilIface := rfl
theorem errW_some (c : Int) : errW (some c) = .iface 0 (.int .i64 c) := rfl
end PBen
end Go.Proofs.YtgdkmadcegleiaaGreatDoor
namespace Go.Proofs.YtgdkmadcegleiaaGreatDoor
namespace PBen
open Sq X
attribute [local go_sem] max2_int min2_int max_two min_two max_three min_three max_four min_four   -- for this text's walks alone
def z34_.f (a0_0 : Int) (a0_1 : Int) (a1_0 : Int) (a1_1 : Int) : Option (Int × Int) := some (mx a0_0 a1_0, mn a0_1 a1_1)
set_option maxHeartbeats 8000000 in
set_option maxRecDepth 100000 in
theorem z34_.calls (a0_0 : Int) (a0_1 : Int) (a1_0 : Int) (a1_1 : Int) (r1 : Int) (r2 : Int) (w : World) (h : z34_.f a0_0 a0_1 a1_0 a1_1 = some (r1, r2)) :
  Calls Tryz.prog 114 #[.agg #[.int .i64 a0_0, .int .i64 a0_1], .agg #[.int .i64 a1_0, .int .i64 a1_1]] w fun e w' => e = .returned (.agg #[.int .i64 r1, .int .i64 r2]) ∧ Below w.heap.size w w' := by
 have hu30 := Tryz.underlying30
 have HB := Aside0.mk (Below.refl w.heap.size w)
 have H : (some (mx a0_0 a1_0, mn a0_1 a1_1)) = some (r1, r2) := h
 clear h
 obtain ⟨ji3, hji3⟩ : ∃ j_ : Int, (mx a0_0 a1_0) = j_ := ⟨_, rfl⟩
 replace H : (some (ji3, mn a0_1 a1_1)) = some (r1, r2) := by first | (rw [hji3] at H; exact H) | (simp only [hji3] at H ⊢; exact H)
 have hji3_ : (if a0_0 < a1_0 then a1_0 else a0_0) = ji3 := hji3
 obtain ⟨ji4, hji4⟩ : ∃ j_ : Int, (mn a0_1 a1_1) = j_ := ⟨_, rfl⟩
 replace H : (some (ji3, ji4)) = some (r1, r2) := by first | (rw [hji4] at H; exact H) | (simp only [hji4] at H ⊢; exact H)
 have hji4_ : (if a1_1 < a0_1 then a1_1 else a0_1) = ji4 := hji4
 simp only [Option.some.injEq, Prod.mk.injEq] at H
 obtain ⟨rfl, rfl⟩ := H
 go_enter Tryz.func114, Tryz.ntmps114
 go_wp2_with (first | ((with_reducible refine gate_dst (N := 2) rfl ?_); refine boxA (N := 2) (cs := #[.int .i64 a0_0, .int .i64 a0_1]) (t := 30) ?_; intro gb101 hg w5 hbox hb; have BK101 := Aside0.mk (hbox); have GE101 := bG HB hg; replace HB := bS HB hb; clear hb hbox hg) | ((with_reducible refine gate_dst (N := 3) rfl ?_); refine boxA (N := 3) (cs := #[.int .i64 a1_0, .int .i64 a1_1]) (t := 30) ?_; intro gb102 hg w6 hbox hb; have BK102 := Aside0.mk (hbox); have GE102 := bG HB hg; have NB101_102 := kN BK101 hg; have NB102_101 := kM BK101 hg; replace BK101 := kB BK101 hb; replace HB := bS HB hb; clear hb hbox hg) | ((with_reducible refine gate_dst (N := 4) rfl ?_); refine boxA (N := 4) (cs := #[.int .i64 0, .int .i64 0]) (t := 30) ?_; intro gb103 hg w7 hbox hb; have BK103 := Aside0.mk (hbox); have GE103 := bG HB hg; have NB101_103 := kN BK101 hg; have NB103_101 := kM BK101 hg; have NB102_103 := kN BK102 hg; have NB103_102 := kM BK102 hg; replace BK101 := kB BK101 hb; replace BK102 := kB BK102 hb; replace HB := bS HB hb; clear hb hbox hg; obtain ⟨hnb8, hnc8⟩ := nn NB101_102; obtain ⟨hnb9, hnc9⟩ := nn NB101_103; obtain ⟨hcz10_0, hcz10_1, hfz10_0, hfz10_1⟩ := cc2 BK101; obtain ⟨hnb11, hnc11⟩ := nn NB102_103; obtain ⟨hcz12_0, hcz12_1, hfz12_0, hfz12_1⟩ := cc2 BK102; obtain ⟨hcz13_0, hcz13_1, hfz13_0, hfz13_1⟩ := cc2 BK103))
 refine bodyPost_ret (results_cell_row rfl _ _ gb103 30 #[.int .i64 ji3, .int .i64 ji4] (0, 0) _ rfl (kP BK103) Tryz.underlying30 rfl (by kernel_rfl)) rfl ?_
 exact ⟨by first | rfl | (simp [errW_none, errW_some] <;> rfl) | (simp only [← hji3, ← hji4]; first | rfl | (simp [errW_none, errW_some] <;> rfl)) | (simp [*, errW_none, errW_some] <;> rfl), bX HB⟩
def z20_.l0 : Nat → List (S30) → Int → Int → Option ((List (S30)))
 | 0, _, _, _ => none
 | k + 1, x0, x2, x3 => if x2 < x3 then (if 0 ≤ x3 then (if x3 < (x0.length : Int) then (if 0 ≤ x2 then (if x2 < (x0.length : Int) then (z20_.l0 k ((x0.set (x2 : Int).toNat (⟨(rd_T30 x0 x3).f0, (rd_T30 x0 x3).f1⟩ : S30)).set (x3 : Int).toNat (⟨(rd_T30 x0 x2).f0, (rd_T30 x0 x2).f1⟩ : S30)) (wrap64 (x2 + 1)) (wrap64 (x3 - 1))) else (none)) else (none)) else (none)) else (none)) else (some x0)
def z20_.f (k : Nat) (l0 : List (S30)) : Option ((List (S30))) := z20_.l0 k l0 0 (wrap64 ((l0.length : Int) - 1))
def z20_.T3 : Bool × List (List Nat × List Nat) := (true, [([], []), ([], []), ([], []), ([], []), ([], []), ([], []), ([4, 5], [4, 5]), ([6], [6]), ([], []), ([], []), ([8, 9], [8, 9]), ([10], [10]), ([0, 1, 0, 1, 4, 5, 6, 7, 11], [0, 1]), ([12, 7, 0, 1, 4, 5, 6, 7, 11], [7, 12]), ([2, 3, 0, 1, 2, 3, 4, 5, 6, 7, 8, 9, 10, 11, 12, 13], [2, 3]), ([14, 11, 13, 0, 1, 2, 3, 4, 5, 6, 7, 8, 9, 10, 11, 12, 13], [11, 14])])
def z20_.B3 : List Nat := [0, 0, 0, 0, 0, 0, 48, 112, 0, 0, 768, 1792, 4083, 8179, 16383, 32767]
theorem z20_.tab3 : rtab .any (opsOf Tryz.f122 3) = z20_.T3 := by kernel_rfl
theorem z20_.bits3 : waitsOk z20_.T3.2 z20_.B3 = true := by kernel_rfl
set_option maxHeartbeats 8000000 in
set_option maxRecDepth 100000 in
theorem z20_.calls (k : Nat) (P0_ : Nat → Prop) (u9000_ : Value) (l0 : List (S30)) (r : List (S30)) (w0 w : World) (hB : Below w0.heap.size w0 w) (ho0 : Kd.R k30 30 w w0.heap.size P0_ u9000_ l0) (h : z20_.f k l0 = some r) :
  Calls Tryz.prog 122 #[u9000_] w fun e w' => e = .returned (.tuple #[]) ∧ Kd.R k30 30 w' w0.heap.size (fun k_ => (P0_ k_ ∨ w.heap.size ≤ k_)) u9000_ r ∧ Below w0.heap.size w0 w' ∧ Kept w w' (fun k_ => P0_ k_) := by
 have hu30 := Tryz.underlying30
 have HO0 := Aside0.mk (show Kd.R k30 30 w w0.heap.size (fun k_ => (P0_ k_ ∨ w.heap.size ≤ k_)) u9000_ l0 from Kd.R_mono ho0 (fun k_ hk => (.inl hk)))
 have HK := Aside0.mk (Kept.refl w (fun k_ => P0_ k_))
 have HW0 := Aside0.mk hB.size
 have HB := Aside0.mk hB
 clear hB
 have H : (z20_.l0 k l0 0 (wrap64 ((l0.length : Int) - 1))) = some r := h
 clear h
 have H' := Aside0.mk H
 clear H
 obtain ⟨Ao2, co2, eo2⟩ := Kd.R_slice HO0.out
 subst eo2
 go_enter Tryz.func122, Tryz.ntmps122
 go_wp2
 go_loopg [2, 3] k (fun kq v2 v3 w' => ∃ (x0_1 : List (S30)) (x2_1 : Int) (x3_1 : Int), v2 = .int .i64 x2_1 ∧ v3 = .int .i64 x3_1 ∧ Aside0 (z20_.l0 kq x0_1 x2_1 x3_1 = some r) ∧ Aside0 (kq ≤ k) ∧ Aside0 (Kd.R k30 30 w' w0.heap.size (fun k_ => (P0_ k_ ∨ w.heap.size ≤ k_)) (.slice Ao2 l0.length co2) x0_1) ∧ Aside0 (Kept w w' (fun k_ => P0_ k_)) ∧ Aside0 (Below w0.heap.size w0 w'))
 case atStart => exact ⟨(l0), (0), (wrap64 ((l0.length : Int) - 1)), eR, eR, H', ⟨Nat.le_refl _⟩, ⟨rX HO0.out⟩, ⟨by repeat (first | (with_reducible first | exact HK.out | apply Kept.alloc | apply Kept.drewN | apply Kept.drew) | exact HK.out)⟩, ⟨bX HB⟩⟩
 case round =>
  clear H'
  try clear p2
  obtain ⟨x0_1, x2_1, x3_1, rfl, rfl, HA, HK1, HO_0, HK, HB⟩ := hrel
  have hl0_1 := (Kd.R_reads' HO_0.out).1
  rw [hl0_1] at HO_0
  (try simp only [hl0_1])
  cases gk with
  | zero => exact absurd HA.out (by simp [z20_.l0])
  | succ k1 =>
   have H := HA.out
   clear HA
   simp only [z20_.l0] at H
   by_cases c3 : x2_1 < x3_1
   ·rw [if_pos c3] at H
    have c3b0 : decide (x2_1 < x3_1) = true := decide_eq_true c3
    clear c3
    by_cases c4 : 0 ≤ x3_1
    ·rw [if_pos c4] at H
     have c4b0 : decide (0 ≤ x3_1) = true := decide_eq_true c4
     clear c4
     by_cases c5 : x3_1 < (x0_1.length : Int)
     ·rw [if_pos c5] at H
      have c5b0 : decide (x3_1 < (x0_1.length : Int)) = true := decide_eq_true c5
      clear c5
      by_cases c6 : 0 ≤ x2_1
      ·rw [if_pos c6] at H
       have c6b0 : decide (0 ≤ x2_1) = true := decide_eq_true c6
       clear c6
       by_cases c7 : x2_1 < (x0_1.length : Int)
       ·rw [if_pos c7] at H
        have c7b0 : decide (x2_1 < (x0_1.length : Int)) = true := decide_eq_true c7
        clear c7
        obtain ⟨y106, hy106⟩ : ∃ y_ : List (S30), y_ = (x0_1.set (x2_1 : Int).toNat (⟨(rd_T30 x0_1 x3_1).f0, (rd_T30 x0_1 x3_1).f1⟩ : S30)) := ⟨_, rfl⟩
        replace H : (z20_.l0 k1 (y106.set (x3_1 : Int).toNat (⟨(rd_T30 x0_1 x2_1).f0, (rd_T30 x0_1 x2_1).f1⟩ : S30)) (wrap64 (x2_1 + 1)) (wrap64 (x3_1 - 1))) = some r := by first | (rw [hy106]; with_reducible exact H) | (have H2_ := (Option.bind_some _ _).symm.trans H; rw [hy106]; with_reducible exact H2_) | (have H2_ := (Option.bind_some _ _).symm.trans H; with_reducible exact H2_) | with_reducible exact H | (rw [hy106]; exact H) | exact H
        have Ny106 := Aside0.mk hy106
        clear hy106
        obtain ⟨y107, hy107⟩ : ∃ y_ : List (S30), y_ = (y106.set (x3_1 : Int).toNat (⟨(rd_T30 x0_1 x2_1).f0, (rd_T30 x0_1 x2_1).f1⟩ : S30)) := ⟨_, rfl⟩
        replace H : (z20_.l0 k1 y107 (wrap64 (x2_1 + 1)) (wrap64 (x3_1 - 1))) = some r := by first | (rw [hy107]; with_reducible exact H) | (have H2_ := (Option.bind_some _ _).symm.trans H; rw [hy107]; with_reducible exact H2_) | (have H2_ := (Option.bind_some _ _).symm.trans H; with_reducible exact H2_) | with_reducible exact H | (rw [hy107]; exact H) | exact H
        have Ny107 := Aside0.mk hy107
        clear hy107
        have H' := Aside0.mk H
        clear H
        try go_wp2
        replace HO_0 := Aside0.mk (Kd.R_drew HO_0.out)
        replace HK := Aside0.mk (Kept.drew HK.out)
        replace HB := Aside0.mk (below_drew1 HB.out)
        have p104 : 0 ≤ (x3_1 : Int) := of_decide_eq_true (by first | (with_reducible assumption) | assumption)
        have q104 : x3_1 < (x0_1.length : Int) := of_decide_eq_true (by first | (with_reducible assumption) | assumption)
        obtain ⟨ad104, e104, hx104_0, hx104_1⟩ := at_T30 (Kd.R_reads' HO_0.out).2.2 x3_1 p104 q104
        cases e104
        replace p104 := eq_true p104
        replace q104 := eq_true q104
        have p105 : 0 ≤ (x2_1 : Int) := of_decide_eq_true (by first | (with_reducible assumption) | assumption)
        have q105 : x2_1 < (x0_1.length : Int) := of_decide_eq_true (by first | (with_reducible assumption) | assumption)
        obtain ⟨ad105, e105, hx105_0, hx105_1⟩ := at_T30 (Kd.R_reads' HO_0.out).2.2 x2_1 p105 q105
        obtain rfl : ad104 = ad105 := (by injection e105)
        replace p105 := eq_true p105
        replace q105 := eq_true q105
        have p8 : 0 ≤ (x2_1 : Int) := of_decide_eq_true (by first | (with_reducible assumption) | assumption)
        have q8 : (x2_1 : Int) < ((x0_1.length : Int) : Int) := of_decide_eq_true (by first | (with_reducible assumption) | assumption)
        obtain ⟨go8, co8, eo8, gb8, gl8, cl8, HG8⟩ := Kd.R_form HO_0.out (by omega)
        (first | cases eo8 | (injection eo8 with ea_ en_ ec_; (first | subst ea_ | (injection ea_ with ea_; subst ea_)); subst ec_; clear en_))
        have GB8 := Aside0.mk gb8
        have GG8 := Aside0.mk HG8
        clear gb8 gl8 HG8
        have HMgo8 := Aside0.mk (show (P0_ go8 ∨ w.heap.size ≤ go8) from (HO_0.out.1 _ rfl))
        (first | simp only [add_plain] at hx104_0 | skip)
        (first | simp only [add_plain] at hx104_1 | skip)
        (first | simp only [add_plain] at hx105_0 | skip)
        (first | simp only [add_plain] at hx105_1 | skip)
        obtain ⟨ce8, hcl8, hM8, hcc8, hfr8⟩ := Kd.R_elem HO_0.out z30 (x2_1 : Int) p8 q8
        obtain rfl := k30_openM hM8
        have hx8_0 : World.cell? _ ⟨go8, (x2_1 : Int).toNat * 2, none⟩ = some (.int .i64 ((rd_T30 x0_1 x2_1).f0)) := hcc8 0 _ rfl
        have hx8_1 : World.cell? _ ⟨go8, (x2_1 : Int).toNat * 2 + 1, none⟩ = some (.int .i64 ((rd_T30 x0_1 x2_1).f1)) := hcc8 1 _ rfl
        have hf8_0 : World.frozen? _ ⟨go8, (x2_1 : Int).toNat * 2, none⟩ = false := hfr8 0
        have hf8_1 : World.frozen? _ ⟨go8, (x2_1 : Int).toNat * 2 + 1, none⟩ = false := hfr8 1
        clear hcl8 hcc8 hfr8 hM8
        replace p8 := eq_true p8
        replace q8 := eq_true q8
        obtain ⟨ce11, hcl11, hM11, hcc11, hfr11⟩ := Kd.R_elem HO_0.out z30 (x2_1 : Int) (of_decide_eq_true (by first | (with_reducible assumption) | assumption)) (by have h_ : (x2_1 : Int) < ((x0_1.length : Int) : Int) := of_decide_eq_true (by first | (with_reducible assumption) | assumption); first | exact h_ | (have e_ := (Kd.R_reads' HO_0.out).1; omega) | simpa using h_)
        obtain rfl := k30_openM hM11
        have HP11 := (Kd.R_seg HO_0.out (x2_1 : Int) (of_decide_eq_true (by first | (with_reducible assumption) | assumption)) (by have h_ : (x2_1 : Int) < ((x0_1.length : Int) : Int) := of_decide_eq_true (by first | (with_reducible assumption) | assumption); first | exact h_ | (have e_ := (Kd.R_reads' HO_0.out).1; omega) | simpa using h_) (seg := [.int .i64 ((rd_T30 x0_1 x3_1).f0), .int .i64 ((rd_T30 x0_1 x3_1).f1)]) (j := 0) hcl11 hcc11 (show 2 ≤ 2 from by decide) (x' := (⟨(rd_T30 x0_1 x3_1).f0, (rd_T30 x0_1 x3_1).f1⟩ : S30)) (k30_mkM _ _ _ (⟨(rd_T30 x0_1 x3_1).f0, (rd_T30 x0_1 x3_1).f1⟩ : S30) ) (fun _ hk => hk)).1
        rw [← Ny106.out] at HP11
        have HQ11 := Aside0.mk HP11
        clear hcl11 hcc11 hfr11 hM11 HP11
        have p9 : 0 ≤ (x3_1 : Int) := of_decide_eq_true (by first | (with_reducible assumption) | assumption)
        have q9 : (x3_1 : Int) < ((x0_1.length : Int) : Int) := of_decide_eq_true (by first | (with_reducible assumption) | assumption)
        obtain ⟨ce9, hcl9, hM9, hcc9, hfr9⟩ := Kd.R_elem HQ11.out z30 (x3_1 : Int) p9 q9
        obtain rfl := k30_openM hM9
        have hx9_0 : World.cell? _ ⟨go8, (x3_1 : Int).toNat * 2, none⟩ = some (.int .i64 ((rd_T30 y106 x3_1).f0)) := hcc9 0 _ rfl
        have hx9_1 : World.cell? _ ⟨go8, (x3_1 : Int).toNat * 2 + 1, none⟩ = some (.int .i64 ((rd_T30 y106 x3_1).f1)) := hcc9 1 _ rfl
        have hf9_0 : World.frozen? _ ⟨go8, (x3_1 : Int).toNat * 2, none⟩ = false := hfr9 0
        have hf9_1 : World.frozen? _ ⟨go8, (x3_1 : Int).toNat * 2 + 1, none⟩ = false := hfr9 1
        clear hcl9 hcc9 hfr9 hM9
        replace p9 := eq_true p9
        replace q9 := eq_true q9
        obtain ⟨ce12, hcl12, hM12, hcc12, hfr12⟩ := Kd.R_elem HQ11.out z30 (x3_1 : Int) (of_decide_eq_true (by first | (with_reducible assumption) | assumption)) (by have h_ : (x3_1 : Int) < ((x0_1.length : Int) : Int) := of_decide_eq_true (by first | (with_reducible assumption) | assumption); first | exact h_ | (have e_ := (Kd.R_reads' HO_0.out).1; omega) | simpa using h_)
        obtain rfl := k30_openM hM12
        have HP12 := (Kd.R_seg HQ11.out (x3_1 : Int) (of_decide_eq_true (by first | (with_reducible assumption) | assumption)) (by have h_ : (x3_1 : Int) < ((x0_1.length : Int) : Int) := of_decide_eq_true (by first | (with_reducible assumption) | assumption); first | exact h_ | (have e_ := (Kd.R_reads' HO_0.out).1; omega) | simpa using h_) (seg := [.int .i64 ((rd_T30 x0_1 x2_1).f0), .int .i64 ((rd_T30 x0_1 x2_1).f1)]) (j := 0) hcl12 hcc12 (show 2 ≤ 2 from by decide) (x' := (⟨(rd_T30 x0_1 x2_1).f0, (rd_T30 x0_1 x2_1).f1⟩ : S30)) (k30_mkM _ _ _ (⟨(rd_T30 x0_1 x2_1).f0, (rd_T30 x0_1 x2_1).f1⟩ : S30) ) (fun _ hk => hk)).1
        rw [← Ny107.out] at HP12
        have HQ12 := Aside0.mk HP12
        clear hcl12 hcc12 hfr12 hM12 HP12
        refine start_ (n := 16) (S := fun w' => w'.cell? ⟨go8, ((x3_1).toNat * 2), none⟩ = some (.int .i64 ((rd_T30 x0_1 x3_1).f0)) ∧ w'.cell? ⟨go8, ((x3_1).toNat * 2) + 1, none⟩ = some (.int .i64 ((rd_T30 x0_1 x3_1).f1)) ∧ w'.cell? ⟨go8, ((x2_1).toNat * 2), none⟩ = some (.int .i64 ((rd_T30 x0_1 x2_1).f0)) ∧ w'.cell? ⟨go8, ((x2_1).toNat * 2) + 1, none⟩ = some (.int .i64 ((rd_T30 x0_1 x2_1).f1))) (ds := [13, 15]) #[false, false, false, false, false, false, false, false, false, false, false, false, false, false, false, false] (by kernel_rfl) rfl rfl ⟨hx104_0, hx104_1, hx105_0, hx105_1⟩ (fun hHeld => ?_); refine with_tabW z20_.tab3 z20_.bits3 (fun HT_ HW_ => ?_)
        generalize wr.drew = w10 at HO_0 HK HB GG8 HQ11 HQ12 hf8_0 hf8_1 hf9_0 hf9_1 hx104_0 hx104_1 hx105_0 hx105_1 hx8_0 hx8_1 hx9_0 hx9_1 hHeld ⊢
        refine pA 0 14 HT_ ?_
        refine pA 1 15 HT_ ?_
        refine pA 2 16 HT_ ?_
        refine pA 3 17 HT_ ?_
        refine pA 4 18 HT_ ?_
        refine pA 5 19 HT_ ?_
        refine pA 6 20 HT_ ?_
        refine pA 8 22 HT_ ?_
        refine pA 9 23 HT_ ?_
        refine pA 10 24 HT_ ?_
        refine tA 7 21 HT_ HW_ hHeld ?_
        refine tA 11 25 HT_ HW_ hHeld ?_
        refine pA 12 26 HT_ ?_
        refine last_ (i := 13) (N := none) #[true, true, true, true, true, true, true, true, true, true, true, true, true, true, false, false] rfl rfl (one_of HT_.out (by kernel_rfl)) (by decide) (fun K hK => ?_)
        refine skip_ (w1 := ?_) (by rfl) rfl ?_ ?_
        rotate_left
        ·go_simp
         rfl
        refine hK.out _ _ ?_
        clear hK K
        refine pA 14 27 HT_ ?_
        refine last_ (i := 15) (N := none) #[true, true, true, true, true, true, true, true, true, true, true, true, true, true, true, true] rfl rfl (one_of HT_.out (by kernel_rfl)) (by decide) (fun K hK => ?_)
        simp only [World.setCells, show k30.sz = 2 from rfl, Nat.add_zero] at hf9_0 hf9_1 hx9_0 hx9_1
        refine skip_ (w1 := ?_) (by rfl) rfl ?_ ?_
        rotate_left
        ·go_simp
         rfl
        refine hK.out _ _ ?_
        clear hK K
        refine done_ (done_of HT_.out (by kernel_rfl)) ?_
        try go_wp2
        (try simp only [← hl0_1])
        go_roundg k1
        case measure => have := HK1.out; omega
        case rel => exact ⟨(y107), (wrap64 (x2_1 + 1)), (wrap64 (x3_1 - 1)), eR, eR, H', ⟨by have := HK1.out; omega⟩, ⟨by (try simp only [hl0_1]); (with_reducible repeat (first | apply Kd.R_alloc | apply Kd.R_drewN | apply Kd.R_drew)); exact HQ12.out⟩, ⟨by repeat (first | (with_reducible first | exact HK.out | apply Kept.alloc | apply Kept.drewN | apply Kept.drew | refine Kept.setCell ?_ HMgo8.out _ | refine Kept.setCell ?_ HMgo8.out _ | refine Kept.setCell ?_ HMgo8.out _ | refine Kept.setCell ?_ HMgo8.out _) | exact HK.out)⟩, ⟨bX HB⟩⟩
       ·rw [if_neg c7] at H
        exact absurd H (by simp)
      ·rw [if_neg c6] at H
       exact absurd H (by simp)
     ·rw [if_neg c5] at H
      exact absurd H (by simp)
    ·rw [if_neg c4] at H
     exact absurd H (by simp)
   ·rw [if_neg c3] at H
    have c3b0 : decide (x2_1 < x3_1) = false := decide_eq_false c3
    clear c3
    obtain rfl := Option.some.inj H
    go_wp2
    first | go_end0 | ((try simp only [Exit.inBlock, Exit.then]); refine bodyPost_ret (results_none rfl _ _ _) rfl ?_)
    exact ⟨eqA, (by first | exact (rX HO_0.out) | (simp only [hl0_1]; exact (rX HO_0.out))), bX HB, by repeat (first | (with_reducible first | exact HK.out | apply Kept.alloc | apply Kept.drewN | apply Kept.drew) | exact HK.out)⟩
end PBen
end Go.Proofs.YtgdkmadcegleiaaGreatDoor
namespace Go.Proofs.YtgdkmadcegleiaaGreatDoor
namespace PBen
open Sq X
attribute [local go_sem] max2_int min2_int max_two min_two max_three min_three max_four min_four   -- for this text's walks alone
mutual
def z9_.l0 : Nat → Int → List (S30) → Int → Option ((List (S30)) × Bool)
 | 0, _, _, _ => none
 | k + 1, x1, x4, x10 => if x10 < 2 then (z9_.l1 k x1 x4 1 x10) else (some (x4, true))
def z9_.l1 : Nat → Int → List (S30) → Int → Int → Option ((List (S30)) × Bool)
 | 0, _, _, _, _ => none
 | k + 1, x1, x4, x6, x10 => if x6 < (x4.length : Int) then (if 0 ≤ (wrap64 (x6 - 1)) then (if (wrap64 (x6 - 1)) < (x4.length : Int) then (if 0 ≤ x6 then ((z34_.f ((rd_T30 x4 x6).f0) ((rd_T30 x4 x6).f1) (wrap64 (((rd_T30 x4 (wrap64 (x6 - 1))).f0) - x1)) (wrap64 (((rd_T30 x4 (wrap64 (x6 - 1))).f1) + x1))).bind fun bt114 => ((some (x4.set (x6 : Int).toNat (⟨bt114.1, bt114.2⟩ : S30) : List (S30))).bind fun y116 => (if ((rd_T30 y116 x6).f0) > ((rd_T30 y116 x6).f1) then (some (([] : List (S30)), false)) else (z9_.l1 k x1 y116 (wrap64 (x6 + 1)) x10)))) else (none)) else (none)) else (none)) else ((z20_.f k x4).bind fun t119 => (z9_.l0 k x1 t119 (wrap64 (x10 + 1))))
end
def z9_.f (k : Nat) (l0 : List (S30)) (a1 : Int) : Option ((List (S30)) × Bool) := (z49_.f l0).bind fun t108 => (z9_.l0 k a1 t108 0)
def z9_.T8 : Bool × List (List Nat × List Nat) := (true, [([], []), ([], []), ([], []), ([], []), ([2, 3], [2, 3]), ([4], [4]), ([], []), ([6], [6]), ([], []), ([7, 8], [7, 8]), ([], []), ([10], [10]), ([], []), ([11, 12], [11, 12]), ([9, 13], [9, 13]), ([5, 14], [5, 14]), ([0, 1, 0, 1, 2, 3, 4, 5, 6, 7, 8, 9, 10, 11, 12, 13, 14, 15], [0, 1]), ([16, 15, 15, 0, 1, 2, 3, 4, 5, 6, 7, 8, 9, 10, 11, 12, 13, 14, 15], [15, 16])])
def z9_.B8 : List Nat := [0, 0, 0, 0, 12, 28, 0, 64, 0, 448, 0, 1024, 0, 7168, 16320, 32764, 65535, 131071]
theorem z9_.tab8 : rtab .any (opsOf Tryz.f110 8) = z9_.T8 := by kernel_rfl
theorem z9_.bits8 : waitsOk z9_.T8.2 z9_.B8 = true := by kernel_rfl
def z9_.T9 : Bool × List (List Nat × List Nat) := (true, [([], []), ([], []), ([0, 1], [0, 1]), ([2], [2]), ([3], [3]), ([], []), ([], []), ([5, 6], [5, 6]), ([7], [7]), ([8], [8]), ([4, 9], [4, 9])])
def z9_.B9 : List Nat := [0, 0, 3, 7, 15, 0, 0, 96, 224, 480, 1023]
theorem z9_.tab9 : rtab .any (opsOf Tryz.f110 9) = z9_.T9 := by kernel_rfl
theorem z9_.bits9 : waitsOk z9_.T9.2 z9_.B9 = true := by kernel_rfl
set_option maxHeartbeats 8000000 in
set_option maxRecDepth 100000 in
theorem z9_.calls (k : Nat) (A0 : Option Addr) (c0 : Nat) (l0 : List (S30)) (a1 : Int) (r1 : List (S30)) (r2 : Bool) (w : World) (hr0 : Kd.C k30 w A0 l0.length l0) (hc0 : l0.length ≤ c0) (h : z9_.f k l0 a1 = some (r1, r2)) :
  Calls Tryz.prog 110 #[.slice A0 l0.length c0, .int .i64 a1] w fun e w' => ∃ v0_ : Value, e = .returned (.tuple #[v0_, .bool r2]) ∧ Kd.R k30 30 w' w.heap.size (fun _ => True) v0_ r1 ∧ Below w.heap.size w w' := by
 have hu30 := Tryz.underlying30
 have HR0 := Aside0.mk hr0
 have HC0 := Aside0.mk hc0
 clear hr0 hc0
 have HB := Aside0.mk (Below.refl w.heap.size w)
 have H : ((z49_.f l0).bind fun t108 => (z9_.l0 k a1 t108 0)) = some (r1, r2) := h
 clear h
 replace H := bindA H
 obtain ⟨t108, A3, H⟩ := H
 try dsimp only at H
 have H' := Aside0.mk H
 clear H
 go_enter Tryz.func110, Tryz.ntmps110
 go_wp2_with (first | ((with_reducible refine gate_callee (f := 121) rfl ?_); refine goesA (some 9) Tryz.func121 #[.slice A0 l0.length c0] ?_; (with_reducible refine (z49_.calls _ _ l0 t108 _ ?side1 ?side2 A3.out).mono ?_); (case side1 => exact sX HR0.out); (case side2 => exact HC0.out); rintro e w4 ⟨v109, rfl, ho0, hb⟩; refine ⟨_, rfl, ?_⟩; have HO110 := Aside0.mk (Kd.R_lower ho0 (below_size (bX HB))); replace HB := bS HB hb; (try clear ho0)))
 go_loopg [4, 10] k (fun kq v4 v10 w' => ∃ (x4_1 : List (S30)) (x10_1 : Int), v10 = .int .i64 x10_1 ∧ Aside0 (z9_.l0 kq a1 x4_1 x10_1 = some (r1, r2)) ∧ Aside0 (kq ≤ k) ∧ Aside0 (Kd.R k30 30 w' w.heap.size (fun _ => True) v4 x4_1) ∧ Aside0 (Below w.heap.size w w'))
 case atStart => exact ⟨(t108), (0), eR, H', ⟨Nat.le_refl _⟩, ⟨rX HO110.out⟩, ⟨bX HB⟩⟩
 case round =>
  clear H'
  try clear p2
  obtain ⟨x4_1, x10_1, rfl, HA, HK1, HO_4, HB⟩ := hrel
  cases gk with
  | zero => exact absurd HA.out (by simp [z9_.l0])
  | succ k1 =>
   have H := HA.out
   clear HA
   simp only [z9_.l0] at H
   by_cases c5 : x10_1 < 2
   ·rw [if_pos c5] at H
    have c5b0 : decide (x10_1 < 2) = true := decide_eq_true c5
    clear c5
    have H' := Aside0.mk H
    clear H
    go_wp2
    go_loopg [4, 6] k1 (fun kq v4 v6 w' => ∃ (x4_2 : List (S30)) (x6_2 : Int), v6 = .int .i64 x6_2 ∧ Aside0 (z9_.l1 kq a1 x4_2 x6_2 x10_1 = some (r1, r2)) ∧ Aside0 (kq ≤ k1) ∧ Aside0 (Kd.R k30 30 w' w.heap.size (fun _ => True) v4 x4_2) ∧ Aside0 (Below w.heap.size w w'))
    case atStart => exact ⟨(x4_1), (1), eR, H', ⟨Nat.le_refl _⟩, ⟨rX HO_4.out⟩, ⟨bX HB⟩⟩
    case round =>
     clear H'
     try clear p2
     try clear c5b0
     try clear p2
     obtain ⟨x4_2, x6_2, rfl, HA, HK2, HO_4, HB⟩ := hrel
     cases gk with
     | zero => exact absurd HA.out (by simp [z9_.l1])
     | succ k2 =>
      have H := HA.out
      clear HA
      simp only [z9_.l1] at H
      by_cases c6 : x6_2 < (x4_2.length : Int)
      ·rw [if_pos c6] at H
       have c6b0 : decide (x6_2 < (x4_2.length : Int)) = true := decide_eq_true c6
       clear c6
       obtain ⟨ji7, hji7⟩ : ∃ j_ : Int, (wrap64 (x6_2 - 1)) = j_ := ⟨_, rfl⟩
       replace H : (if 0 ≤ (ji7) then (if (ji7) < (x4_2.length : Int) then (if 0 ≤ x6_2 then ((z34_.f ((rd_T30 x4_2 x6_2).f0) ((rd_T30 x4_2 x6_2).f1) (wrap64 (((rd_T30 x4_2 (ji7)).f0) - a1)) (wrap64 (((rd_T30 x4_2 (ji7)).f1) + a1))).bind fun bt114 => ((some (x4_2.set (x6_2 : Int).toNat (⟨bt114.1, bt114.2⟩ : S30) : List (S30))).bind fun y116 => (if ((rd_T30 y116 x6_2).f0) > ((rd_T30 y116 x6_2).f1) then (some (([] : List (S30)), false)) else (z9_.l1 k2 a1 y116 (wrap64 (x6_2 + 1)) x10_1)))) else (none)) else (none)) else (none)) = some (r1, r2) := by first | (rw [hji7] at H; exact H) | (simp only [hji7] at H ⊢; exact H)
       have hji7w : (IntKind.i64.wrap (x6_2 - 1)) = ji7 := (i64_w _).trans hji7
       by_cases c8 : 0 ≤ (ji7)
       ·rw [if_pos c8] at H
        have c8b0 : decide (0 ≤ (ji7)) = true := decide_eq_true c8
        clear c8
        by_cases c9 : (ji7) < (x4_2.length : Int)
        ·rw [if_pos c9] at H
         have c9b0 : decide ((ji7) < (x4_2.length : Int)) = true := decide_eq_true c9
         clear c9
         by_cases c10 : 0 ≤ x6_2
         ·rw [if_pos c10] at H
          have c10b0 : decide (0 ≤ x6_2) = true := decide_eq_true c10
          clear c10
          replace H := bindA H
          obtain ⟨⟨t114, t115⟩, A11, H⟩ := H
          try dsimp only at H
          obtain ⟨y116, hy116⟩ : ∃ y_ : List (S30), y_ = (x4_2.set (x6_2 : Int).toNat (⟨t114, t115⟩ : S30)) := ⟨_, rfl⟩
          replace H : (if ((rd_T30 y116 x6_2).f0) > ((rd_T30 y116 x6_2).f1) then (some (([] : List (S30)), false)) else (z9_.l1 k2 a1 y116 (wrap64 (x6_2 + 1)) x10_1)) = some (r1, r2) := by first | (rw [hy116]; with_reducible exact H) | (have H2_ := (Option.bind_some _ _).symm.trans H; rw [hy116]; with_reducible exact H2_) | (have H2_ := (Option.bind_some _ _).symm.trans H; with_reducible exact H2_) | with_reducible exact H | (rw [hy116]; exact H) | exact H
          have Ny116 := Aside0.mk hy116
          clear hy116
          by_cases c13 : ((rd_T30 y116 x6_2).f0) > ((rd_T30 y116 x6_2).f1)
          ·rw [if_pos c13] at H
           have c13b0 : decide (((rd_T30 y116 x6_2).f1) < ((rd_T30 y116 x6_2).f0)) = true := decide_eq_true c13
           clear c13
           simp only [Option.some.injEq, Prod.mk.injEq] at H
           obtain ⟨rfl, rfl⟩ := H
           obtain ⟨Ao14, co14, eo14⟩ := Kd.R_slice HO_4.out
           subst eo14
           have p111 : 0 ≤ ((ji7) : Int) := of_decide_eq_true (by first | (with_reducible assumption) | assumption)
           have q111 : (ji7) < (x4_2.length : Int) := of_decide_eq_true (by first | (with_reducible assumption) | assumption)
           obtain ⟨ad111, e111, hx111_0, hx111_1⟩ := at_T30 (Kd.R_reads' HO_4.out).2.2 (ji7) p111 q111
           cases e111
           replace p111 := eq_true p111
           replace q111 := eq_true q111
           try go_wp2_with (first | ((with_reducible refine gate_dst (N := 7) rfl ?_); refine boxA (N := 7) (cs := #[.int .i64 0, .int .i64 0]) (t := 30) ?_; intro gb112 hg w15 hbox hb; have BK112 := Aside0.mk (hbox); have GE112 := bG HB hg; replace HO_4 := Aside0.mk (Kd.R_below (Kd.R_elderB (rX HO_4.out) gb112 (Nat.le_of_eq hg.symm)) hb); replace HB := bS HB hb; clear hb hbox hg; obtain ⟨hcz16_0, hcz16_1, hfz16_0, hfz16_1⟩ := cc2 BK112))
           have n0_ : Aside0 (Kd.R k30 30 ((w15.setCell ⟨gb112, 0, none⟩ (.int .i64 ((rd_T30 x4_2 (ji7)).f0))).setCell ⟨gb112, 1, none⟩ (.int .i64 ((rd_T30 x4_2 (ji7)).f1))) w.heap.size (fun k_ => k_ ≠ gb112) (.slice (some ad111) x4_2.length co14) x4_2) := ⟨by (with_reducible repeat (first | apply Kd.R_alloc | apply Kd.R_drewN | apply Kd.R_drew)); exact Kd.R_mono (Kd.R_far (p := ⟨gb112, 1, none⟩) (Kd.R_far (p := ⟨gb112, 0, none⟩) (Kd.R_mono HO_4.out (fun k_ hk => (⟨hk, hk.2⟩ : _ ∧ k_ ≠ gb112))) (fun _ hk => hk.2) (.int .i64 ((rd_T30 x4_2 (ji7)).f0))) (fun _ hk => hk.2) (.int .i64 ((rd_T30 x4_2 (ji7)).f1))) (fun _ hk => hk.1.2)⟩
           have n1_ : Aside0 (((w15.setCell ⟨gb112, 0, none⟩ (.int .i64 ((rd_T30 x4_2 (ji7)).f0))).setCell ⟨gb112, 1, none⟩ (.int .i64 ((rd_T30 x4_2 (ji7)).f1))).heap[gb112]? = some (.cells #[.int .i64 ((rd_T30 x4_2 (ji7)).f0), .int .i64 ((rd_T30 x4_2 (ji7)).f1)] 30 (0, 0))) := ⟨by (with_reducible repeat (first | refine blk_drewN ?_ _ | refine blk_drew ?_ | refine blk_alloc ?_ _)); refine blk_put (cs := #[.int .i64 ((rd_T30 x4_2 (ji7)).f0), .int .i64 0]) ?_ 1 _ rfl; (with_reducible repeat (first | refine blk_drewN ?_ _ | refine blk_drew ?_ | refine blk_alloc ?_ _)); refine blk_put (cs := #[.int .i64 0, .int .i64 0]) ?_ 0 _ rfl; (with_reducible repeat (first | refine blk_drewN ?_ _ | refine blk_drew ?_ | refine blk_alloc ?_ _)); exact BK112.out⟩
           have n2_ : Aside0 (Below w.heap.size w ((w15.setCell ⟨gb112, 0, none⟩ (.int .i64 ((rd_T30 x4_2 (ji7)).f0))).setCell ⟨gb112, 1, none⟩ (.int .i64 ((rd_T30 x4_2 (ji7)).f1)))) := ⟨bX HB⟩
           (try clear HO_4)
           (try clear BK112)
           (try clear HB)
           generalize ((w15.setCell ⟨gb112, 0, none⟩ (.int .i64 ((rd_T30 x4_2 (ji7)).f0))).setCell ⟨gb112, 1, none⟩ (.int .i64 ((rd_T30 x4_2 (ji7)).f1))) = w17 at n0_ n1_ n2_ ⊢
           have HO_4 := n0_
           have BK112 := n1_
           have HB := n2_
           clear n0_ n1_ n2_
           replace HO_4 := Aside0.mk (Kd.R_drew HO_4.out)
           replace BK112 := Aside0.mk (blk_drew BK112.out)
           replace HB := Aside0.mk (below_drew1 HB.out)
           have p113 : 0 ≤ (x6_2 : Int) := of_decide_eq_true (by first | (with_reducible assumption) | assumption)
           have q113 : x6_2 < (x4_2.length : Int) := of_decide_eq_true (by first | (with_reducible assumption) | assumption)
           obtain ⟨ad113, e113, hx113_0, hx113_1⟩ := at_T30 (Kd.R_reads' HO_4.out).2.2 x6_2 p113 q113
           obtain rfl : ad111 = ad113 := (by injection e113)
           replace p113 := eq_true p113
           replace q113 := eq_true q113
           refine start_ (n := 18) (S := fun w' => w'.cell? ⟨gb112, 0, none⟩ = some (.int .i64 ((rd_T30 x4_2 (ji7)).f0)) ∧ w'.cell? ⟨gb112, 1, none⟩ = some (.int .i64 ((rd_T30 x4_2 (ji7)).f1)) ∧ w'.cell? (ad111.add ((x6_2).toNat * 2)) = some (.int .i64 ((rd_T30 x4_2 x6_2).f0)) ∧ w'.cell? ⟨(ad111.add ((x6_2).toNat * 2)).block, (ad111.add ((x6_2).toNat * 2)).off + 1, none⟩ = some (.int .i64 ((rd_T30 x4_2 x6_2).f1))) (ds := [17]) #[false, false, false, false, false, false, false, false, false, false, false, false, false, false, false, false, false, false] (by kernel_rfl) rfl rfl ⟨bc BK112 0, bc BK112 1, hx113_0, hx113_1⟩ (fun hHeld => ?_); refine with_tabW z9_.tab8 z9_.bits8 (fun HT_ HW_ => ?_)
           generalize w17.drew = w18 at HO_4 BK112 HB hx113_0 hx113_1 hHeld ⊢
           refine pA 0 23 HT_ ?_
           refine pA 1 24 HT_ ?_
           refine pA 2 25 HT_ ?_
           refine pA 3 26 HT_ ?_
           refine pA 4 27 HT_ ?_
           refine pA 6 29 HT_ ?_
           refine pA 8 31 HT_ ?_
           refine pA 10 33 HT_ ?_
           refine pA 12 35 HT_ ?_
           refine tA 5 28 HT_ HW_ hHeld ?_
           refine tA 7 30 HT_ HW_ hHeld ?_
           refine pA 9 32 HT_ ?_
           refine tA 11 34 HT_ HW_ hHeld ?_
           refine pA 13 36 HT_ ?_
           refine pA 14 37 HT_ ?_
           refine oneA (i := 15) (N := some 38) HT_ (fun K hK => ?_)
           refine goes_ Tryz.func114 (by kernel_rfl) rfl #[.agg #[.int .i64 ((rd_T30 x4_2 x6_2).f0), .int .i64 ((rd_T30 x4_2 x6_2).f1)], .agg #[.int .i64 (wrap64 (((rd_T30 x4_2 (ji7)).f0) - a1)), .int .i64 (wrap64 (((rd_T30 x4_2 (ji7)).f1) + a1))]] (by rfl) rfl rfl (by (try simp only [List.map_toArray, List.map_cons, List.map_nil]); first | done | (simp only [hji7]; rfl) | rfl | (simp only [List.length_drop, List.length_take]; rfl)) ?_
           with_reducible refine (z34_.calls ((rd_T30 x4_2 x6_2).f0) ((rd_T30 x4_2 x6_2).f1) (wrap64 (((rd_T30 x4_2 (ji7)).f0) - a1)) (wrap64 (((rd_T30 x4_2 (ji7)).f1) + a1)) t114 t115 _ A11.out).mono ?_
           rintro e w19 ⟨rfl, hb⟩
           have HS2_ := (hb.cell (World.block_lt_of_cell? _ _ (hHeld.2.2.1))).trans (hHeld.2.2.1)
           have HS3_ := (hb.cell (World.block_lt_of_cell? _ _ (hHeld.2.2.2))).trans (hHeld.2.2.2)
           refine ⟨_, rfl, ?_⟩
           replace HO_4 := rB HO_4 hb
           replace BK112 := kB BK112 hb
           replace HB := bS HB hb
           have p12 : 0 ≤ (x6_2 : Int) := of_decide_eq_true (by first | (with_reducible assumption) | assumption)
           have q12 : (x6_2 : Int) < ((x4_2.length : Int) : Int) := of_decide_eq_true (by first | (with_reducible assumption) | assumption)
           obtain ⟨go12, co12, eo12, gb12, gl12, cl12, HG12⟩ := Kd.R_form HO_4.out (by omega)
           (first | cases eo12 | (injection eo12 with ea_ en_ ec_; (first | subst ea_ | (injection ea_ with ea_; subst ea_)); subst ec_; clear en_))
           have GB12 := Aside0.mk gb12
           have GG12 := Aside0.mk HG12
           clear gb12 gl12 HG12
           (first | simp only [add_plain] at hx111_0 | skip)
           (first | simp only [add_plain] at hx111_1 | skip)
           (first | simp only [add_plain] at hx113_0 | skip)
           (first | simp only [add_plain] at hx113_1 | skip)
           obtain ⟨ce12, hcl12, hM12, hcc12, hfr12⟩ := Kd.R_elem HO_4.out z30 (x6_2 : Int) p12 q12
           obtain rfl := k30_openM hM12
           have hx12_0 : World.cell? _ ⟨go12, (x6_2 : Int).toNat * 2, none⟩ = some (.int .i64 ((rd_T30 x4_2 x6_2).f0)) := hcc12 0 _ rfl
           have hx12_1 : World.cell? _ ⟨go12, (x6_2 : Int).toNat * 2 + 1, none⟩ = some (.int .i64 ((rd_T30 x4_2 x6_2).f1)) := hcc12 1 _ rfl
           have hf12_0 : World.frozen? _ ⟨go12, (x6_2 : Int).toNat * 2, none⟩ = false := hfr12 0
           have hf12_1 : World.frozen? _ ⟨go12, (x6_2 : Int).toNat * 2 + 1, none⟩ = false := hfr12 1
           clear hcl12 hcc12 hfr12 hM12
           replace p12 := eq_true p12
           replace q12 := eq_true q12
           obtain ⟨ce20, hcl20, hM20, hcc20, hfr20⟩ := Kd.R_elem HO_4.out z30 (x6_2 : Int) (of_decide_eq_true (by first | (with_reducible assumption) | assumption)) (by have h_ : (x6_2 : Int) < ((x4_2.length : Int) : Int) := of_decide_eq_true (by first | (with_reducible assumption) | assumption); first | exact h_ | (have e_ := (Kd.R_reads' HO_4.out).1; omega) | simpa using h_)
           obtain rfl := k30_openM hM20
           have HP20 := (Kd.R_seg HO_4.out (x6_2 : Int) (of_decide_eq_true (by first | (with_reducible assumption) | assumption)) (by have h_ : (x6_2 : Int) < ((x4_2.length : Int) : Int) := of_decide_eq_true (by first | (with_reducible assumption) | assumption); first | exact h_ | (have e_ := (Kd.R_reads' HO_4.out).1; omega) | simpa using h_) (seg := [.int .i64 t114, .int .i64 t115]) (j := 0) hcl20 hcc20 (show 2 ≤ 2 from by decide) (x' := (⟨t114, t115⟩ : S30)) (k30_mkM _ _ _ (⟨t114, t115⟩ : S30) ) (fun _ hk => hk)).1
           rw [← Ny116.out] at HP20
           have HQ20 := Aside0.mk HP20
           clear hcl20 hcc20 hfr20 hM20 HP20
           refine hK.out _ _ ⟨bc BK112 0, bc BK112 1, HS2_, HS3_⟩ (fun hHeld => ?_)
           clear hK K
           refine normA (N := some 38) ?_
           refine pA 16 39 HT_ ?_
           refine last_ (i := 17) (N := none) #[true, true, true, true, true, true, true, true, true, true, true, true, true, true, true, true, true, true] rfl rfl (one_of HT_.out (by kernel_rfl)) (by decide) (fun K hK => ?_)
           refine skip_ (w1 := ?_) (by rfl) rfl ?_ ?_
           rotate_left
           ·go_simp
            rfl
           refine hK.out _ _ ?_
           clear hK K
           refine done_ (done_of HT_.out (by kernel_rfl)) ?_
           try go_wp2
           have n0_ : Aside0 (Kd.R k30 30 ((w19.setCell ⟨go12, (x6_2 : Int).toNat * 2, none⟩ (.int .i64 t114)).setCell ⟨go12, (x6_2 : Int).toNat * 2 + 1, none⟩ (.int .i64 t115)) w.heap.size (fun k_ => k_ ≠ gb112) (.slice (some ⟨go12, 0, none⟩) x4_2.length co14) y116) := ⟨rX HQ20.out⟩
           have n1_ : Aside0 (((w19.setCell ⟨go12, (x6_2 : Int).toNat * 2, none⟩ (.int .i64 t114)).setCell ⟨go12, (x6_2 : Int).toNat * 2 + 1, none⟩ (.int .i64 t115)).heap[gb112]? = some (.cells #[.int .i64 ((rd_T30 x4_2 (ji7)).f0), .int .i64 ((rd_T30 x4_2 (ji7)).f1)] 30 (0, 0))) := ⟨by (with_reducible repeat (first | refine blk_drewN ?_ _ | refine blk_drew ?_ | refine blk_alloc ?_ _)); refine blk_far ?_ (by have h_ := Kd.R_away HO_4.out (fun _ hk => hk); intro e_; exact h_ (by rw [e_]; rfl)) _; (with_reducible repeat (first | refine blk_drewN ?_ _ | refine blk_drew ?_ | refine blk_alloc ?_ _)); refine blk_far ?_ (by have h_ := Kd.R_away HO_4.out (fun _ hk => hk); intro e_; exact h_ (by rw [e_]; rfl)) _; (with_reducible repeat (first | refine blk_drewN ?_ _ | refine blk_drew ?_ | refine blk_alloc ?_ _)); exact BK112.out⟩
           have n2_ : Aside0 (Below w.heap.size w ((w19.setCell ⟨go12, (x6_2 : Int).toNat * 2, none⟩ (.int .i64 t114)).setCell ⟨go12, (x6_2 : Int).toNat * 2 + 1, none⟩ (.int .i64 t115))) := ⟨bX HB⟩
           (try clear HO_4)
           (try clear BK112)
           (try clear HB)
           generalize ((w19.setCell ⟨go12, (x6_2 : Int).toNat * 2, none⟩ (.int .i64 t114)).setCell ⟨go12, (x6_2 : Int).toNat * 2 + 1, none⟩ (.int .i64 t115)) = w21 at n0_ n1_ n2_ ⊢
           have HO_4 := n0_
           have BK112 := n1_
           have HB := n2_
           clear n0_ n1_ n2_
           replace HO_4 := Aside0.mk (Kd.R_drew HO_4.out)
           replace BK112 := Aside0.mk (blk_drew BK112.out)
           replace HB := Aside0.mk (below_drew1 HB.out)
           have p117 : 0 ≤ (x6_2 : Int) := of_decide_eq_true (by first | (with_reducible assumption) | assumption)
           have q117 : x6_2 < (y116.length : Int) := (by have h_ : (x6_2 : Int) < ((x4_2.length : Int) : Int) := of_decide_eq_true (by first | (with_reducible assumption) | assumption); first | (have e_ := (Kd.R_reads' HO_4.out).1; omega) | simpa only [Ny116.out, List.length_set] using h_)
           have ql117 : ((x6_2 : Int) < ((x4_2.length : Int) : Int)) = True := eq_true (of_decide_eq_true (by first | (with_reducible assumption) | assumption))
           obtain ⟨ad117, e117, hx117_0, hx117_1⟩ := at_T30 (Kd.R_reads' HO_4.out).2.2 x6_2 p117 q117
           obtain rfl : (⟨go12, 0, none⟩ : Addr) = ad117 := (by injection e117)
           (first | simp only [add_plain] at hx117_0 | simp only [add_at] at hx117_0 | simp only [Addr.add, Nat.zero_add] at hx117_0 | skip)
           (first | simp only [add_plain] at hx117_1 | simp only [add_at] at hx117_1 | simp only [Addr.add, Nat.zero_add] at hx117_1 | skip)
           replace p117 := eq_true p117
           replace q117 := eq_true q117
           have p118 : 0 ≤ (x6_2 : Int) := of_decide_eq_true (by first | (with_reducible assumption) | assumption)
           have q118 : x6_2 < (y116.length : Int) := (by have h_ : (x6_2 : Int) < ((x4_2.length : Int) : Int) := of_decide_eq_true (by first | (with_reducible assumption) | assumption); first | (have e_ := (Kd.R_reads' HO_4.out).1; omega) | simpa only [Ny116.out, List.length_set] using h_)
           have ql118 : ((x6_2 : Int) < ((x4_2.length : Int) : Int)) = True := eq_true (of_decide_eq_true (by first | (with_reducible assumption) | assumption))
           obtain ⟨ad118, e118, hx118_0, hx118_1⟩ := at_T30 (Kd.R_reads' HO_4.out).2.2 x6_2 p118 q118
           obtain rfl : (⟨go12, 0, none⟩ : Addr) = ad118 := (by injection e118)
           (first | simp only [add_plain] at hx118_0 | simp only [add_at] at hx118_0 | simp only [Addr.add, Nat.zero_add] at hx118_0 | skip)
           (first | simp only [add_plain] at hx118_1 | simp only [add_at] at hx118_1 | simp only [Addr.add, Nat.zero_add] at hx118_1 | skip)
           replace p118 := eq_true p118
           replace q118 := eq_true q118
           refine start_ (n := 11) (S := fun w' => w'.cell? ⟨go12, (x6_2).toNat * 2, none⟩ = some (.int .i64 ((rd_T30 y116 x6_2).f0)) ∧ w'.cell? ⟨go12, (x6_2).toNat * 2 + 1, none⟩ = some (.int .i64 ((rd_T30 y116 x6_2).f1)) ∧ w'.cell? ⟨go12, (x6_2).toNat * 2, none⟩ = some (.int .i64 ((rd_T30 y116 x6_2).f0)) ∧ w'.cell? ⟨go12, (x6_2).toNat * 2 + 1, none⟩ = some (.int .i64 ((rd_T30 y116 x6_2).f1))) (ds := []) #[false, false, false, false, false, false, false, false, false, false, false] (by kernel_rfl) rfl rfl ⟨hx117_0, hx117_1, hx118_0, hx118_1⟩ (fun hHeld => ?_); refine with_tabW z9_.tab9 z9_.bits9 (fun HT_ HW_ => ?_)
           generalize w21.drew = w22 at HO_4 BK112 HB HQ20 hx117_0 hx117_1 hx118_0 hx118_1 hHeld ⊢
           refine pA 0 40 HT_ ?_
           refine pA 1 41 HT_ ?_
           refine pA 2 42 HT_ ?_
           refine pA 3 43 HT_ ?_
           refine pA 5 45 HT_ ?_
           refine pA 6 46 HT_ ?_
           refine pA 7 47 HT_ ?_
           refine pA 8 48 HT_ ?_
           refine tA 4 44 HT_ HW_ hHeld ?_
           refine tA 9 49 HT_ HW_ hHeld ?_
           refine pA 10 50 HT_ ?_
           refine done_ (done_of HT_.out (by kernel_rfl)) ?_
           try go_wp2
           go_ret2
           exact ⟨_, by first | rfl | (simp [errW_none, errW_some] <;> rfl) | (simp only [← hji7]; first | rfl | (simp [errW_none, errW_some] <;> rfl)) | (simp [*, errW_none, errW_some] <;> rfl), by first | exact Kd.R_nil _ _ _ _ _ | exact Kd.N_nil _ _ _ _ _ | exact Kd.V_nil _ _ _ _ _ | exact Kd.Q_nil _ _ _ _ _ | exact Kd.S_nil _ _ _ _ _, bX HB⟩
          ·rw [if_neg c13] at H
           have c13b0 : decide (((rd_T30 y116 x6_2).f1) < ((rd_T30 y116 x6_2).f0)) = false := decide_eq_false c13
           clear c13
           have H' := Aside0.mk H
           clear H
           obtain ⟨Ao23, co23, eo23⟩ := Kd.R_slice HO_4.out
           subst eo23
           have p111 : 0 ≤ ((ji7) : Int) := of_decide_eq_true (by first | (with_reducible assumption) | assumption)
           have q111 : (ji7) < (x4_2.length : Int) := of_decide_eq_true (by first | (with_reducible assumption) | assumption)
           obtain ⟨ad111, e111, hx111_0, hx111_1⟩ := at_T30 (Kd.R_reads' HO_4.out).2.2 (ji7) p111 q111
           cases e111
           replace p111 := eq_true p111
           replace q111 := eq_true q111
           try go_wp2_with (first | ((with_reducible refine gate_dst (N := 7) rfl ?_); refine boxA (N := 7) (cs := #[.int .i64 0, .int .i64 0]) (t := 30) ?_; intro gb112 hg w24 hbox hb; have BK112 := Aside0.mk (hbox); have GE112 := bG HB hg; replace HO_4 := Aside0.mk (Kd.R_below (Kd.R_elderB (rX HO_4.out) gb112 (Nat.le_of_eq hg.symm)) hb); replace HB := bS HB hb; clear hb hbox hg; obtain ⟨hcz25_0, hcz25_1, hfz25_0, hfz25_1⟩ := cc2 BK112))
           have n0_ : Aside0 (Kd.R k30 30 ((w24.setCell ⟨gb112, 0, none⟩ (.int .i64 ((rd_T30 x4_2 (ji7)).f0))).setCell ⟨gb112, 1, none⟩ (.int .i64 ((rd_T30 x4_2 (ji7)).f1))) w.heap.size (fun k_ => k_ ≠ gb112) (.slice (some ad111) x4_2.length co23) x4_2) := ⟨by (with_reducible repeat (first | apply Kd.R_alloc | apply Kd.R_drewN | apply Kd.R_drew)); exact Kd.R_mono (Kd.R_far (p := ⟨gb112, 1, none⟩) (Kd.R_far (p := ⟨gb112, 0, none⟩) (Kd.R_mono HO_4.out (fun k_ hk => (⟨hk, hk.2⟩ : _ ∧ k_ ≠ gb112))) (fun _ hk => hk.2) (.int .i64 ((rd_T30 x4_2 (ji7)).f0))) (fun _ hk => hk.2) (.int .i64 ((rd_T30 x4_2 (ji7)).f1))) (fun _ hk => hk.1.2)⟩
           have n1_ : Aside0 (((w24.setCell ⟨gb112, 0, none⟩ (.int .i64 ((rd_T30 x4_2 (ji7)).f0))).setCell ⟨gb112, 1, none⟩ (.int .i64 ((rd_T30 x4_2 (ji7)).f1))).heap[gb112]? = some (.cells #[.int .i64 ((rd_T30 x4_2 (ji7)).f0), .int .i64 ((rd_T30 x4_2 (ji7)).f1)] 30 (0, 0))) := ⟨by (with_reducible repeat (first | refine blk_drewN ?_ _ | refine blk_drew ?_ | refine blk_alloc ?_ _)); refine blk_put (cs := #[.int .i64 ((rd_T30 x4_2 (ji7)).f0), .int .i64 0]) ?_ 1 _ rfl; (with_reducible repeat (first | refine blk_drewN ?_ _ | refine blk_drew ?_ | refine blk_alloc ?_ _)); refine blk_put (cs := #[.int .i64 0, .int .i64 0]) ?_ 0 _ rfl; (with_reducible repeat (first | refine blk_drewN ?_ _ | refine blk_drew ?_ | refine blk_alloc ?_ _)); exact BK112.out⟩
           have n2_ : Aside0 (Below w.heap.size w ((w24.setCell ⟨gb112, 0, none⟩ (.int .i64 ((rd_T30 x4_2 (ji7)).f0))).setCell ⟨gb112, 1, none⟩ (.int .i64 ((rd_T30 x4_2 (ji7)).f1)))) := ⟨bX HB⟩
           (try clear HO_4)
           (try clear BK112)
           (try clear HB)
           generalize ((w24.setCell ⟨gb112, 0, none⟩ (.int .i64 ((rd_T30 x4_2 (ji7)).f0))).setCell ⟨gb112, 1, none⟩ (.int .i64 ((rd_T30 x4_2 (ji7)).f1))) = w26 at n0_ n1_ n2_ ⊢
           have HO_4 := n0_
           have BK112 := n1_
           have HB := n2_
           clear n0_ n1_ n2_
           replace HO_4 := Aside0.mk (Kd.R_drew HO_4.out)
           replace BK112 := Aside0.mk (blk_drew BK112.out)
           replace HB := Aside0.mk (below_drew1 HB.out)
           have p113 : 0 ≤ (x6_2 : Int) := of_decide_eq_true (by first | (with_reducible assumption) | assumption)
           have q113 : x6_2 < (x4_2.length : Int) := of_decide_eq_true (by first | (with_reducible assumption) | assumption)
           obtain ⟨ad113, e113, hx113_0, hx113_1⟩ := at_T30 (Kd.R_reads' HO_4.out).2.2 x6_2 p113 q113
           obtain rfl : ad111 = ad113 := (by injection e113)
           replace p113 := eq_true p113
           replace q113 := eq_true q113
           refine start_ (n := 18) (S := fun w' => w'.cell? ⟨gb112, 0, none⟩ = some (.int .i64 ((rd_T30 x4_2 (ji7)).f0)) ∧ w'.cell? ⟨gb112, 1, none⟩ = some (.int .i64 ((rd_T30 x4_2 (ji7)).f1)) ∧ w'.cell? (ad111.add ((x6_2).toNat * 2)) = some (.int .i64 ((rd_T30 x4_2 x6_2).f0)) ∧ w'.cell? ⟨(ad111.add ((x6_2).toNat * 2)).block, (ad111.add ((x6_2).toNat * 2)).off + 1, none⟩ = some (.int .i64 ((rd_T30 x4_2 x6_2).f1))) (ds := [17]) #[false, false, false, false, false, false, false, false, false, false, false, false, false, false, false, false, false, false] (by kernel_rfl) rfl rfl ⟨bc BK112 0, bc BK112 1, hx113_0, hx113_1⟩ (fun hHeld => ?_); refine with_tabW z9_.tab8 z9_.bits8 (fun HT_ HW_ => ?_)
           generalize w26.drew = w27 at HO_4 BK112 HB hx113_0 hx113_1 hHeld ⊢
           refine pA 0 23 HT_ ?_
           refine pA 1 24 HT_ ?_
           refine pA 2 25 HT_ ?_
           refine pA 3 26 HT_ ?_
           refine pA 4 27 HT_ ?_
           refine pA 6 29 HT_ ?_
           refine pA 8 31 HT_ ?_
           refine pA 10 33 HT_ ?_
           refine pA 12 35 HT_ ?_
           refine tA 5 28 HT_ HW_ hHeld ?_
           refine tA 7 30 HT_ HW_ hHeld ?_
           refine pA 9 32 HT_ ?_
           refine tA 11 34 HT_ HW_ hHeld ?_
           refine pA 13 36 HT_ ?_
           refine pA 14 37 HT_ ?_
           refine oneA (i := 15) (N := some 38) HT_ (fun K hK => ?_)
           refine goes_ Tryz.func114 (by kernel_rfl) rfl #[.agg #[.int .i64 ((rd_T30 x4_2 x6_2).f0), .int .i64 ((rd_T30 x4_2 x6_2).f1)], .agg #[.int .i64 (wrap64 (((rd_T30 x4_2 (ji7)).f0) - a1)), .int .i64 (wrap64 (((rd_T30 x4_2 (ji7)).f1) + a1))]] (by rfl) rfl rfl (by (try simp only [List.map_toArray, List.map_cons, List.map_nil]); first | done | (simp only [hji7]; rfl) | rfl | (simp only [List.length_drop, List.length_take]; rfl)) ?_
           with_reducible refine (z34_.calls ((rd_T30 x4_2 x6_2).f0) ((rd_T30 x4_2 x6_2).f1) (wrap64 (((rd_T30 x4_2 (ji7)).f0) - a1)) (wrap64 (((rd_T30 x4_2 (ji7)).f1) + a1)) t114 t115 _ A11.out).mono ?_
           rintro e w28 ⟨rfl, hb⟩
           have HS2_ := (hb.cell (World.block_lt_of_cell? _ _ (hHeld.2.2.1))).trans (hHeld.2.2.1)
           have HS3_ := (hb.cell (World.block_lt_of_cell? _ _ (hHeld.2.2.2))).trans (hHeld.2.2.2)
           refine ⟨_, rfl, ?_⟩
           replace HO_4 := rB HO_4 hb
           replace BK112 := kB BK112 hb
           replace HB := bS HB hb
           have p12 : 0 ≤ (x6_2 : Int) := of_decide_eq_true (by first | (with_reducible assumption) | assumption)
           have q12 : (x6_2 : Int) < ((x4_2.length : Int) : Int) := of_decide_eq_true (by first | (with_reducible assumption) | assumption)
           obtain ⟨go12, co12, eo12, gb12, gl12, cl12, HG12⟩ := Kd.R_form HO_4.out (by omega)
           (first | cases eo12 | (injection eo12 with ea_ en_ ec_; (first | subst ea_ | (injection ea_ with ea_; subst ea_)); subst ec_; clear en_))
           have GB12 := Aside0.mk gb12
           have GG12 := Aside0.mk HG12
           clear gb12 gl12 HG12
           (first | simp only [add_plain] at hx111_0 | skip)
           (first | simp only [add_plain] at hx111_1 | skip)
           (first | simp only [add_plain] at hx113_0 | skip)
           (first | simp only [add_plain] at hx113_1 | skip)
           obtain ⟨ce12, hcl12, hM12, hcc12, hfr12⟩ := Kd.R_elem HO_4.out z30 (x6_2 : Int) p12 q12
           obtain rfl := k30_openM hM12
           have hx12_0 : World.cell? _ ⟨go12, (x6_2 : Int).toNat * 2, none⟩ = some (.int .i64 ((rd_T30 x4_2 x6_2).f0)) := hcc12 0 _ rfl
           have hx12_1 : World.cell? _ ⟨go12, (x6_2 : Int).toNat * 2 + 1, none⟩ = some (.int .i64 ((rd_T30 x4_2 x6_2).f1)) := hcc12 1 _ rfl
           have hf12_0 : World.frozen? _ ⟨go12, (x6_2 : Int).toNat * 2, none⟩ = false := hfr12 0
           have hf12_1 : World.frozen? _ ⟨go12, (x6_2 : Int).toNat * 2 + 1, none⟩ = false := hfr12 1
           clear hcl12 hcc12 hfr12 hM12
           replace p12 := eq_true p12
           replace q12 := eq_true q12
           obtain ⟨ce29, hcl29, hM29, hcc29, hfr29⟩ := Kd.R_elem HO_4.out z30 (x6_2 : Int) (of_decide_eq_true (by first | (with_reducible assumption) | assumption)) (by have h_ : (x6_2 : Int) < ((x4_2.length : Int) : Int) := of_decide_eq_true (by first | (with_reducible assumption) | assumption); first | exact h_ | (have e_ := (Kd.R_reads' HO_4.out).1; omega) | simpa using h_)
           obtain rfl := k30_openM hM29
           have HP29 := (Kd.R_seg HO_4.out (x6_2 : Int) (of_decide_eq_true (by first | (with_reducible assumption) | assumption)) (by have h_ : (x6_2 : Int) < ((x4_2.length : Int) : Int) := of_decide_eq_true (by first | (with_reducible assumption) | assumption); first | exact h_ | (have e_ := (Kd.R_reads' HO_4.out).1; omega) | simpa using h_) (seg := [.int .i64 t114, .int .i64 t115]) (j := 0) hcl29 hcc29 (show 2 ≤ 2 from by decide) (x' := (⟨t114, t115⟩ : S30)) (k30_mkM _ _ _ (⟨t114, t115⟩ : S30) ) (fun _ hk => hk)).1
           rw [← Ny116.out] at HP29
           have HQ29 := Aside0.mk HP29
           clear hcl29 hcc29 hfr29 hM29 HP29
           refine hK.out _ _ ⟨bc BK112 0, bc BK112 1, HS2_, HS3_⟩ (fun hHeld => ?_)
           clear hK K
           refine normA (N := some 38) ?_
           refine pA 16 39 HT_ ?_
           refine last_ (i := 17) (N := none) #[true, true, true, true, true, true, true, true, true, true, true, true, true, true, true, true, true, true] rfl rfl (one_of HT_.out (by kernel_rfl)) (by decide) (fun K hK => ?_)
           refine skip_ (w1 := ?_) (by rfl) rfl ?_ ?_
           rotate_left
           ·go_simp
            rfl
           refine hK.out _ _ ?_
           clear hK K
           refine done_ (done_of HT_.out (by kernel_rfl)) ?_
           try go_wp2
           have n0_ : Aside0 (Kd.R k30 30 ((w28.setCell ⟨go12, (x6_2 : Int).toNat * 2, none⟩ (.int .i64 t114)).setCell ⟨go12, (x6_2 : Int).toNat * 2 + 1, none⟩ (.int .i64 t115)) w.heap.size (fun k_ => k_ ≠ gb112) (.slice (some ⟨go12, 0, none⟩) x4_2.length co23) y116) := ⟨rX HQ29.out⟩
           have n1_ : Aside0 (((w28.setCell ⟨go12, (x6_2 : Int).toNat * 2, none⟩ (.int .i64 t114)).setCell ⟨go12, (x6_2 : Int).toNat * 2 + 1, none⟩ (.int .i64 t115)).heap[gb112]? = some (.cells #[.int .i64 ((rd_T30 x4_2 (ji7)).f0), .int .i64 ((rd_T30 x4_2 (ji7)).f1)] 30 (0, 0))) := ⟨by (with_reducible repeat (first | refine blk_drewN ?_ _ | refine blk_drew ?_ | refine blk_alloc ?_ _)); refine blk_far ?_ (by have h_ := Kd.R_away HO_4.out (fun _ hk => hk); intro e_; exact h_ (by rw [e_]; rfl)) _; (with_reducible repeat (first | refine blk_drewN ?_ _ | refine blk_drew ?_ | refine blk_alloc ?_ _)); refine blk_far ?_ (by have h_ := Kd.R_away HO_4.out (fun _ hk => hk); intro e_; exact h_ (by rw [e_]; rfl)) _; (with_reducible repeat (first | refine blk_drewN ?_ _ | refine blk_drew ?_ | refine blk_alloc ?_ _)); exact BK112.out⟩
           have n2_ : Aside0 (Below w.heap.size w ((w28.setCell ⟨go12, (x6_2 : Int).toNat * 2, none⟩ (.int .i64 t114)).setCell ⟨go12, (x6_2 : Int).toNat * 2 + 1, none⟩ (.int .i64 t115))) := ⟨bX HB⟩
           (try clear HO_4)
           (try clear BK112)
           (try clear HB)
           generalize ((w28.setCell ⟨go12, (x6_2 : Int).toNat * 2, none⟩ (.int .i64 t114)).setCell ⟨go12, (x6_2 : Int).toNat * 2 + 1, none⟩ (.int .i64 t115)) = w30 at n0_ n1_ n2_ ⊢
           have HO_4 := n0_
           have BK112 := n1_
           have HB := n2_
           clear n0_ n1_ n2_
           replace HO_4 := Aside0.mk (Kd.R_drew HO_4.out)
           replace BK112 := Aside0.mk (blk_drew BK112.out)
           replace HB := Aside0.mk (below_drew1 HB.out)
           have p117 : 0 ≤ (x6_2 : Int) := of_decide_eq_true (by first | (with_reducible assumption) | assumption)
           have q117 : x6_2 < (y116.length : Int) := (by have h_ : (x6_2 : Int) < ((x4_2.length : Int) : Int) := of_decide_eq_true (by first | (with_reducible assumption) | assumption); first | (have e_ := (Kd.R_reads' HO_4.out).1; omega) | simpa only [Ny116.out, List.length_set] using h_)
           have ql117 : ((x6_2 : Int) < ((x4_2.length : Int) : Int)) = True := eq_true (of_decide_eq_true (by first | (with_reducible assumption) | assumption))
           obtain ⟨ad117, e117, hx117_0, hx117_1⟩ := at_T30 (Kd.R_reads' HO_4.out).2.2 x6_2 p117 q117
           obtain rfl : (⟨go12, 0, none⟩ : Addr) = ad117 := (by injection e117)
           (first | simp only [add_plain] at hx117_0 | simp only [add_at] at hx117_0 | simp only [Addr.add, Nat.zero_add] at hx117_0 | skip)
           (first | simp only [add_plain] at hx117_1 | simp only [add_at] at hx117_1 | simp only [Addr.add, Nat.zero_add] at hx117_1 | skip)
           replace p117 := eq_true p117
           replace q117 := eq_true q117
           have p118 : 0 ≤ (x6_2 : Int) := of_decide_eq_true (by first | (with_reducible assumption) | assumption)
           have q118 : x6_2 < (y116.length : Int) := (by have h_ : (x6_2 : Int) < ((x4_2.length : Int) : Int) := of_decide_eq_true (by first | (with_reducible assumption) | assumption); first | (have e_ := (Kd.R_reads' HO_4.out).1; omega) | simpa only [Ny116.out, List.length_set] using h_)
           have ql118 : ((x6_2 : Int) < ((x4_2.length : Int) : Int)) = True := eq_true (of_decide_eq_true (by first | (with_reducible assumption) | assumption))
           obtain ⟨ad118, e118, hx118_0, hx118_1⟩ := at_T30 (Kd.R_reads' HO_4.out).2.2 x6_2 p118 q118
           obtain rfl : (⟨go12, 0, none⟩ : Addr) = ad118 := (by injection e118)
           (first | simp only [add_plain] at hx118_0 | simp only [add_at] at hx118_0 | simp only [Addr.add, Nat.zero_add] at hx118_0 | skip)
           (first | simp only [add_plain] at hx118_1 | simp only [add_at] at hx118_1 | simp only [Addr.add, Nat.zero_add] at hx118_1 | skip)
           replace p118 := eq_true p118
           replace q118 := eq_true q118
           refine start_ (n := 11) (S := fun w' => w'.cell? ⟨go12, (x6_2).toNat * 2, none⟩ = some (.int .i64 ((rd_T30 y116 x6_2).f0)) ∧ w'.cell? ⟨go12, (x6_2).toNat * 2 + 1, none⟩ = some (.int .i64 ((rd_T30 y116 x6_2).f1)) ∧ w'.cell? ⟨go12, (x6_2).toNat * 2, none⟩ = some (.int .i64 ((rd_T30 y116 x6_2).f0)) ∧ w'.cell? ⟨go12, (x6_2).toNat * 2 + 1, none⟩ = some (.int .i64 ((rd_T30 y116 x6_2).f1))) (ds := []) #[false, false, false, false, false, false, false, false, false, false, false] (by kernel_rfl) rfl rfl ⟨hx117_0, hx117_1, hx118_0, hx118_1⟩ (fun hHeld => ?_); refine with_tabW z9_.tab9 z9_.bits9 (fun HT_ HW_ => ?_)
           generalize w30.drew = w31 at HO_4 BK112 HB HQ29 hx117_0 hx117_1 hx118_0 hx118_1 hHeld ⊢
           refine pA 0 40 HT_ ?_
           refine pA 1 41 HT_ ?_
           refine pA 2 42 HT_ ?_
           refine pA 3 43 HT_ ?_
           refine pA 5 45 HT_ ?_
           refine pA 6 46 HT_ ?_
           refine pA 7 47 HT_ ?_
           refine pA 8 48 HT_ ?_
           refine tA 4 44 HT_ HW_ hHeld ?_
           refine tA 9 49 HT_ HW_ hHeld ?_
           refine pA 10 50 HT_ ?_
           refine done_ (done_of HT_.out (by kernel_rfl)) ?_
           try go_wp2
           go_roundg k2
           case measure => have := HK1.out; have := HK2.out; omega
           case rel => exact ⟨(y116), (wrap64 (x6_2 + 1)), eR, H', ⟨by have := HK1.out; have := HK2.out; omega⟩, ⟨by (with_reducible repeat (first | apply Kd.R_alloc | apply Kd.R_drewN | apply Kd.R_drew)); exact Kd.R_mono HO_4.out (fun _ hk => trivial)⟩, ⟨bX HB⟩⟩
         ·rw [if_neg c10] at H
          exact absurd H (by simp)
        ·rw [if_neg c9] at H
         exact absurd H (by simp)
       ·rw [if_neg c8] at H
        exact absurd H (by simp)
      ·rw [if_neg c6] at H
       have c6b0 : decide (x6_2 < (x4_2.length : Int)) = false := decide_eq_false c6
       clear c6
       replace H := bindA H
       obtain ⟨t119, A32, H⟩ := H
       try dsimp only at H
       have H' := Aside0.mk H
       clear H
       obtain ⟨Ao33, co33, eo33⟩ := Kd.R_slice HO_4.out
       subst eo33
       go_wp2_with (first | ((with_reducible refine gate_callee (f := 122) rfl ?_); refine goesA (some 52) Tryz.func122 #[.slice Ao33 x4_2.length co33] ?_; (with_reducible refine (z20_.calls k2 (fun k_ => some k_ = (.slice Ao33 x4_2.length co33 : Value).ownBlock) (.slice Ao33 x4_2.length co33) x4_2 t119 w _ ?side1 ?side2 A32.out).mono ?_); (case side1 => repeat (first | (with_reducible first | exact HB.out | apply below_alloc | apply pw_below_drewN | apply below_drew1) | exact HB.out)); (case side2 => exact Kd.R_tight rfl HO_4.out); rintro e w34 ⟨rfl, hy0, hb, hkp⟩; refine ⟨_, rfl, ?_⟩; replace HO_4 := Aside0.mk (Kd.R_reok rfl hy0 (fun k_ e_ => HO_4.out.1 k_ e_)); replace HB := Aside0.mk (hb); (try clear hkp); (try clear hy0)))
       go_roundg k2
       case measure => have := HK1.out; have := HK2.out; omega
       case rel => exact ⟨(t119), (wrap64 (x10_1 + 1)), eR, H', ⟨by have := HK1.out; have := HK2.out; omega⟩, ⟨rX HO_4.out⟩, ⟨bX HB⟩⟩
   ·rw [if_neg c5] at H
    have c5b0 : decide (x10_1 < 2) = false := decide_eq_false c5
    clear c5
    simp only [Option.some.injEq, Prod.mk.injEq] at H
    obtain ⟨rfl, rfl⟩ := H
    go_wp2
    go_ret2
    exact ⟨_, eqA, rX HO_4.out, bX HB⟩
end PBen
end Go.Proofs.YtgdkmadcegleiaaGreatDoor
namespace Go.Proofs.YtgdkmadcegleiaaGreatDoor
namespace PBen
open X
attribute [local go_sem] max2_int min2_int max_two min_two max_three min_three max_four min_four   -- for this text's walks alone
end PBen
end Go.Proofs.YtgdkmadcegleiaaGreatDoor
namespace Go.Proofs.YtgdkmadcegleiaaGreatDoor
namespace X
open PToo PBen
def twoW (w : World) (t1 t2 : TypeId) (v1 v2 : Array Value) : World := (w.alloc (.cells v1 t1 (0, 0))).alloc (.cells v2 t2 (0, 0))
theorem twoW_facts {w w1 : World} {t1 t2 : TypeId} {v1 v2 : Array Value} (hb : Below (twoW w t1 t2 v1 v2).heap.size (twoW w t1 t2 v1 v2) w1) :
    w1.heap[w.heap.size]? = some (.cells v1 t1 (0, 0)) ∧ w1.heap[w.heap.size + 1]? = some (.cells v2 t2 (0, 0)) ∧ Below w.heap.size w w1 :=
  ⟨blk_below (blk_alloc (blk_new _ _) _) hb, blk_below (one_blk _ _ (by simp)) hb, below_then (below_alloc (below_alloc (Below.refl _ _) _) _) (by show _ ≤ ((w.alloc _).alloc _).heap.size; simp; omega) hb⟩
theorem twoW_size {w w1 : World} {t1 t2 : TypeId} {v1 v2 : Array Value} (hb : Below (twoW w t1 t2 v1 v2).heap.size (twoW w t1 t2 v1 v2) w1) : w.heap.size + 2 ≤ w1.heap.size := by
  have h : ((w.alloc (.cells v1 t1 (0, 0))).alloc (.cells v2 t2 (0, 0))).heap.size ≤ w1.heap.size := hb.size
  simp at h
  omega
theorem R_new2 {α : Type} {d : Kd α} {e base b : Nat} {w : World} {v : Value} {xs : List α} (h : d.R e w b (fun _ => True) v xs) (hb : base + 2 ≤ b) : d.R e w base (fun k => base + 2 ≤ k) v xs :=
  Kd.R_lower (Kd.R_mono (Kd.R_bound h) fun k hk => Nat.le_trans hb hk.2.1) (by omega)
abbrev bladeV (A0 A1 A3 : Option Addr) (n0 c0 n1 c1 n3 c3 : Nat) (bend : Int) : Array Value := #[.slice A0 n0 c0, .slice A1 n1 c1, .int .i64 bend, .slice A3 n3 c3]
abbrev noBlade : Array Value := #[.slice none 0 0, .slice none 0 0, .int .i64 0, .slice none 0 0, .slice none 0 0, .slice none 0 0]
set_option maxHeartbeats 4000000 in
set_option maxRecDepth 8000 in
theorem newBlade_calls {A0 A1 A3 : Option Addr} {c0 c1 c3 k : Nat} {bot top : List S30} {bend : Int} {cr : List S171} {rb rt : List S30} {w : World}
    (hr0 : Kd.C k30 w A0 bot.length bot) (hc0 : bot.length ≤ c0) (hr1 : Kd.C k30 w A1 top.length top) (hc1 : top.length ≤ c1) (hr3 : Kd.C k171 w A3 cr.length cr) (hc3 : cr.length ≤ c3)
    (hf : z62_.f bot top bend cr = some 0) (hb : z9_.f k bot bend = some (rb, true)) (ht : z9_.f k top bend = some (rt, true)) :
    Calls Tryz.prog 100 #[.agg (bladeV A0 A1 A3 bot.length c0 top.length c1 cr.length c3 bend)] w fun e w' =>
      ∃ vb vt : Value, e = .returned (.tuple #[.agg #[.slice A0 bot.length c0, .slice A1 top.length c1, .int .i64 bend, .slice A3 cr.length c3, vb, vt], .int .i64 0]) ∧ Kd.R k30 30 w' w.heap.size (fun _ => True) vb rb ∧ Kd.R k30 30 w' w.heap.size (fun _ => True) vt rt ∧ Below w.heap.size w w' := by
  have HF : Aside0 (∀ {w1 : World}, Below (twoW w 126 152 (bladeV A0 A1 A3 bot.length c0 top.length c1 cr.length c3 bend) noBlade).heap.size (twoW w 126 152 (bladeV A0 A1 A3 bot.length c0 top.length c1 cr.length c3 bend) noBlade) w1 → _) := ⟨fun hb => twoW_facts hb⟩
  have CF : Aside0 (∀ W, Below w.heap.size w W → Calls Tryz.prog 109 #[.agg (bladeV A0 A1 A3 bot.length c0 top.length c1 cr.length c3 bend)] W _) := ⟨fun W h => z62_.calls A0 c0 bot A1 c1 top bend A3 c3 cr 0 W (Kd.C_below hr0 h) hc0 (Kd.C_below hr1 h) hc1 (Kd.C_below hr3 h) hc3 hf⟩
  have CB : Aside0 (∀ W, Below w.heap.size w W → Calls Tryz.prog 110 #[.slice A0 bot.length c0, .int .i64 bend] W _) := ⟨fun W h => z9_.calls k A0 c0 bot bend rb true W (Kd.C_below hr0 h) hc0 hb⟩
  have CT : Aside0 (∀ W, Below w.heap.size w W → Calls Tryz.prog 110 #[.slice A1 top.length c1, .int .i64 bend] W _) := ⟨fun W h => z9_.calls k A1 c1 top bend rt true W (Kd.C_below hr1 h) hc1 ht⟩
  have HS : Aside0 (Below w.heap.size w (twoW w 126 152 (bladeV A0 A1 A3 bot.length c0 top.length c1 cr.length c3 bend) noBlade)) := ⟨below_alloc (below_alloc (Below.refl _ _) _) _⟩
  clear hr0 hr1 hr3 hc0 hc1 hc3 hf hb ht
  go_enter Tryz.func100, Tryz.ntmps100
  go_wp2_with (first
    | (go_at_call 109; refine (CF.out _ HS.out).mono ?_; rintro e w1 ⟨rfl, hb1⟩; obtain ⟨b1, b2, hb⟩ := HF.out hb1; have HB1 := Aside0.mk hb1; have HBB := Aside0.mk hb; have y0 := (blk_cell b1 0).trans rfl; have y1 := (blk_cell b1 1).trans rfl; have y2 := (blk_cell b1 2).trans rfl; have y3 := (blk_cell b1 3).trans rfl; clear hb1 hb b1 b2)
    | (go_at_call 110; with_reducible refine (CB.out _ HBB.out).mono ?_; rintro e w2 ⟨vb, rfl, hvb, hb2⟩; have HVB := Aside0.mk (R_new2 hvb (twoW_size HB1.out)); obtain ⟨b1, b2, hb⟩ := HF.out (later_below HB1.out hb2); have HB2 := Aside0.mk (later_below HB1.out hb2); clear y0 y1 y2 y3; have HBB2 := Aside0.mk hb; have y0 := (blk_cell b1 0).trans rfl; have y1 := (blk_cell b1 1).trans rfl; have y2 := (blk_cell b1 2).trans rfl; have y3 := (blk_cell b1 3).trans rfl; clear hvb hb2 hb b1 b2)
    | (go_at_call 110; with_reducible refine (CT.out _ HBB2.out).mono ?_; rintro e w3 ⟨vt, rfl, hvt, hb3⟩; have HVT := Aside0.mk (R_new2 hvt (twoW_size HB2.out)); have HVB3 := Aside0.mk (Kd.R_below HVB.out hb3); obtain ⟨b1, b2, hb⟩ := HF.out (later_below HB2.out hb3); clear y0 y1 y2 y3; have HBB3 := Aside0.mk hb; have y0 := (blk_cell b1 0).trans rfl; have y1 := (blk_cell b1 1).trans rfl; have y2 := (blk_cell b1 2).trans rfl; have y3 := (blk_cell b1 3).trans rfl; have z0 := (blk_cell b2 0).trans rfl; have z1 := (blk_cell b2 1).trans rfl; have z2 := (blk_cell b2 2).trans rfl; have z3 := (blk_cell b2 3).trans rfl; have z4 := (blk_cell b2 4).trans rfl; have z5 := (blk_cell b2 5).trans rfl; have f0 := blk_frozen b2 0; have f1 := blk_frozen b2 1; have f2 := blk_frozen b2 2; have f3 := blk_frozen b2 3; have f4 := blk_frozen b2 4; have f5 := blk_frozen b2 5; have B4 := Aside0.mk b2; obtain ⟨Ab, cb, rfl⟩ := Kd.R_slice HVB.out; obtain ⟨At, ct, rfl⟩ := Kd.R_slice HVT.out; clear hvt hb3 hb b1 b2))
  refine bodyPost_ret (results_ct rfl _ _ _ 152 #[.slice A0 bot.length c0, .slice A1 top.length c1, .int .i64 bend, .slice A3 cr.length c3, .slice Ab rb.length cb, .slice At rt.length ct] (0, 0) _ rfl (blk_put (blk_put (blk_put (blk_put (blk_put (blk_put B4.out 0 _ rfl) 1 _ rfl) 2 _ rfl) 3 _ rfl) 4 _ rfl) 5 _ rfl) Tryz.underlying152 rfl (by kernel_rfl)) rfl ?_
  have ge : w.heap.size ≤ w.heap.size + 1 := by omega
  have hf : ∀ k, w.heap.size + 2 ≤ k → k ≠ w.heap.size + 1 := fun k h => by omega
  exact ⟨_, _, rfl, Kd.R_mono (Kd.R_far (Kd.R_far (Kd.R_far (Kd.R_far (Kd.R_far (Kd.R_far HVB3.out hf _) hf _) hf _) hf _) hf _) hf _) (fun _ _ => trivial), Kd.R_mono (Kd.R_far (Kd.R_far (Kd.R_far (Kd.R_far (Kd.R_far (Kd.R_far HVT.out hf _) hf _) hf _) hf _) hf _) hf _) (fun _ _ => trivial), below_set (below_set (below_set (below_set (below_set (below_set HBB3.out ge) ge) ge) ge) ge) ge⟩
end X
end Go.Proofs.YtgdkmadcegleiaaGreatDoor
namespace Go.Proofs.YtgdkmadcegleiaaGreatDoor
namespace X
open PToo PBen
theorem tooth_within_lit2 (a0 a1 x y : Int) (q : Bool) (W : World) (e : TypeId) {g : Nat} (h : z11_.f a0 a1 [x, y] = some q) (hg : g = W.heap.size) :
    Calls Tryz.prog 101 #[.int .i64 a0, .int .i64 a1, .slice (some ⟨g, 0, none⟩) 2 2] (W.alloc (.cells #[.int .i64 x, .int .i64 y] e)) fun e w' => e = .returned (.bool q) ∧ Below W.heap.size W w' := by
  refine (z11_.calls a0 a1 _ 2 [x, y] q _ (C_lit2 W .i64 e x y hg) (Nat.le_refl 2) h).mono ?_
  rintro e w' ⟨rfl, hb⟩
  exact ⟨rfl, below_then (below_alloc (Below.refl _ _) _) (by simp) hb⟩
def threeW (w : World) (t1 t2 t3 : TypeId) (v1 v2 v3 : Array Value) : World := ((w.alloc (.cells v1 t1 (0, 0))).alloc (.cells v2 t2 (0, 0))).alloc (.cells v3 t3 (0, 0))
theorem threeW_facts {w w1 : World} {t1 t2 t3 : TypeId} {v1 v2 v3 : Array Value} (hb : Below (threeW w t1 t2 t3 v1 v2 v3).heap.size (threeW w t1 t2 t3 v1 v2 v3) w1) :
    w1.heap[w.heap.size]? = some (.cells v1 t1 (0, 0)) ∧ w1.heap[w.heap.size + 1]? = some (.cells v2 t2 (0, 0)) ∧ w1.heap[w.heap.size + 1 + 1]? = some (.cells v3 t3 (0, 0)) ∧ Below w.heap.size w w1 ∧ w.heap.size + 3 ≤ w1.heap.size := by
  refine ⟨blk_below (blk_alloc (blk_alloc (blk_new _ _) _) _) hb, blk_below (blk_alloc (one_blk _ _ (by simp)) _) hb, blk_below (one_blk _ _ (by simp)) hb, below_then (below_alloc (below_alloc (below_alloc (Below.refl _ _) _) _) _) (by show _ ≤ (((w.alloc _).alloc _).alloc _).heap.size; simp; omega) hb, ?_⟩
  have h : (((w.alloc (.cells v1 t1 (0, 0))).alloc (.cells v2 t2 (0, 0))).alloc (.cells v3 t3 (0, 0))).heap.size ≤ w1.heap.size := hb.size
  simp at h
  omega
theorem after_alloc {w w1 : World} {o : Obj} (h : Below (w.alloc o).heap.size (w.alloc o) w1) : w1.heap[w.heap.size]? = some o ∧ Below w.heap.size w w1 :=
  ⟨blk_below (blk_new _ _) h, below_then (below_alloc (Below.refl _ _) _) (by simp) h⟩
theorem R_new3 {α : Type} {d : Kd α} {e base b : Nat} {w : World} {v : Value} {xs : List α} (h : d.R e w b (fun _ => True) v xs) (hb : base + 3 ≤ b) : d.R e w base (fun k => base + 3 ≤ k) v xs :=
  Kd.R_lower (Kd.R_mono (Kd.R_bound h) fun k hk => Nat.le_trans hb hk.2.1) (by omega)
theorem threeW_out {w : World} {t1 t2 t3 : TypeId} {v1 v2 v3 : Array Value} : w.heap.size + 3 ≤ (threeW w t1 t2 t3 v1 v2 v3).heap.size := by
  show _ ≤ (((w.alloc _).alloc _).alloc _).heap.size
  simp
theorem openW_facts {w w1 W : World} {t1 t2 t3 : TypeId} {v1 v2 v3 : Array Value} {o : Obj} (hb : Below (threeW w t1 t2 t3 v1 v2 v3).heap.size (threeW w t1 t2 t3 v1 v2 v3) w1) (h : Below (w1.alloc o).heap.size (w1.alloc o) W) :
    W.heap[w.heap.size + 1]? = some (.cells v2 t2 (0, 0)) ∧ W.heap[w.heap.size + 1 + 1]? = some (.cells v3 t3 (0, 0)) ∧ W.heap[w1.heap.size]? = some o ∧ Below w.heap.size w W ∧ Below w1.heap.size w1 W := by
  obtain ⟨_, b2, b3, hbw, _⟩ := threeW_facts hb
  obtain ⟨b6, h1⟩ := after_alloc h
  exact ⟨blk_below b2 h1, blk_below b3 h1, b6, later_below hbw h1, h1⟩
set_option maxHeartbeats 4000000 in
set_option maxRecDepth 8000 in
theorem open_calls {A0 A1 A3 : Option Addr} {c0 c1 c3 k : Nat} {bot top : List S30} {bend : Int} {cr : List S171} {rb rt : List S30} {long wide kerf across : Int} {w : World}
    (hr0 : Kd.C k30 w A0 bot.length bot) (hc0 : bot.length ≤ c0) (hr1 : Kd.C k30 w A1 top.length top) (hc1 : top.length ≤ c1) (hr3 : Kd.C k171 w A3 cr.length cr) (hc3 : cr.length ≤ c3)
    (hf : z62_.f bot top bend cr = some 0) (hb : z9_.f k bot bend = some (rb, true)) (ht : z9_.f k top bend = some (rt, true))
    (h1 : z11_.f 1 30 [long] = some true) (h2 : z11_.f 1 300 [wide] = some true) (h3 : z11_.f 0 50 [kerf, across] = some true) :
    Calls Tryz.prog 85 #[.agg (bladeV A0 A1 A3 bot.length c0 top.length c1 cr.length c3 bend), .agg #[.int .i64 long, .int .i64 wide, .int .i64 kerf, .int .i64 across]] w fun e w' =>
      ∃ vb vt : Value, e = .returned (.tuple #[.agg #[.slice A0 bot.length c0, .slice A1 top.length c1, .int .i64 bend, .slice A3 cr.length c3, vb, vt], .int .i64 0]) ∧ Kd.R k30 30 w' w.heap.size (fun _ => True) vb rb ∧ Kd.R k30 30 w' w.heap.size (fun _ => True) vt rt ∧ Below w.heap.size w w' := by
  have HF : Aside0 (∀ {w1 : World}, Below (threeW w 126 130 152 (bladeV A0 A1 A3 bot.length c0 top.length c1 cr.length c3 bend) #[.int .i64 long, .int .i64 wide, .int .i64 kerf, .int .i64 across] noBlade).heap.size (threeW w 126 130 152 (bladeV A0 A1 A3 bot.length c0 top.length c1 cr.length c3 bend) #[.int .i64 long, .int .i64 wide, .int .i64 kerf, .int .i64 across] noBlade) w1 → _) := ⟨fun hb => threeW_facts hb⟩
  have CN : Aside0 (∀ W, Below w.heap.size w W → Calls Tryz.prog 100 #[.agg (bladeV A0 A1 A3 bot.length c0 top.length c1 cr.length c3 bend)] W _) := ⟨fun W h => newBlade_calls (Kd.C_below hr0 h) hc0 (Kd.C_below hr1 h) hc1 (Kd.C_below hr3 h) hc3 hf hb ht⟩
  have HS : Aside0 (Below w.heap.size w (threeW w 126 130 152 (bladeV A0 A1 A3 bot.length c0 top.length c1 cr.length c3 bend) #[.int .i64 long, .int .i64 wide, .int .i64 kerf, .int .i64 across] noBlade)) := ⟨below_alloc (below_alloc (below_alloc (Below.refl _ _) _) _) _⟩
  have W1 := Aside0.mk h1
  have W2 := Aside0.mk h2
  have W3 := Aside0.mk h3
  clear hr0 hr1 hr3 hc0 hc1 hc3 hf hb ht h1 h2 h3
  go_enter Tryz.func85, Tryz.ntmps85
  go_upto_region 2 with (first
    | (go_at_call 100; refine (CN.out _ HS.out).mono ?_; rintro e w1 ⟨vb, vt, rfl, hvb, hvt, hb1⟩; obtain ⟨Ab, cb, rfl⟩ := Kd.R_slice hvb; obtain ⟨At, ct, rfl⟩ := Kd.R_slice hvt; obtain ⟨b1, b2, b3, hb, hsz⟩ := HF.out hb1; have HB1 := Aside0.mk hb1; have HVB := Aside0.mk (R_new3 hvb threeW_out); have HVT := Aside0.mk (R_new3 hvt threeW_out); have y0 := (blk_cell b2 0).trans rfl; have y1 := (blk_cell b2 1).trans rfl; have y2 := (blk_cell b2 2).trans rfl; have y3 := (blk_cell b2 3).trans rfl; clear hvb hvt hb1 hb b1 b2 b3))
  have HG : Aside0 (∀ {W : World}, Below (w1.alloc (.cells #[.slice A0 bot.length c0, .slice A1 top.length c1, .int .i64 bend, .slice A3 cr.length c3, .slice Ab rb.length cb, .slice At rt.length ct] 152 (0, 0))).heap.size (w1.alloc (.cells #[.slice A0 bot.length c0, .slice A1 top.length c1, .int .i64 bend, .slice A3 cr.length c3, .slice Ab rb.length cb, .slice At rt.length ct] 152 (0, 0))) W → _) := ⟨fun h => openW_facts HB1.out h⟩
  have H0 := Aside0.mk (Below.refl (w1.alloc (.cells #[.slice A0 bot.length c0, .slice A1 top.length c1, .int .i64 bend, .slice A3 cr.length c3, .slice Ab rb.length cb, .slice At rt.length ct] 152 (0, 0))).heap.size (w1.alloc (.cells #[.slice A0 bot.length c0, .slice A1 top.length c1, .int .i64 bend, .slice A3 cr.length c3, .slice Ab rb.length cb, .slice At rt.length ct] 152 (0, 0))))
  clear y0 y1 y2 y3 HF HS CN
  generalize w1.alloc (.cells #[.slice A0 bot.length c0, .slice A1 top.length c1, .int .i64 bend, .slice A3 cr.length c3, .slice Ab rb.length cb, .slice At rt.length ct] 152 (0, 0)) = wz at HG H0 ⊢
  obtain ⟨b2, b3, b6, hbw, hb11⟩ := HG.out H0.out
  have y0 := (blk_cell b2 0).trans rfl
  have y1 := (blk_cell b2 1).trans rfl
  have y2 := (blk_cell b2 2).trans rfl
  have y3 := (blk_cell b2 3).trans rfl
  clear b2 b3 b6 hbw hb11
  go_wp2_with (first
    | (go_at_call 101; with_reducible refine (z56_ _ _ _ true _ _ W1.out ?side).mono ?_; (case side => simp); rintro e wa ⟨rfl, hb1⟩; have HA := Aside0.mk (below_then H0.out (Nat.le_refl _) hb1); clear y0 y1 y2 y3; obtain ⟨b2, b3, b6, hbw, hb11⟩ := HG.out HA.out; have y0 := (blk_cell b2 0).trans rfl; have y1 := (blk_cell b2 1).trans rfl; have y2 := (blk_cell b2 2).trans rfl; have y3 := (blk_cell b2 3).trans rfl; clear hb1 b2 b3 b6 hbw hb11)
    | (go_at_call 101; with_reducible refine (z56_ _ _ _ true _ _ W2.out ?side).mono ?_; (case side => simp); rintro e wb ⟨rfl, hb1⟩; have HBx := Aside0.mk (below_then HA.out HA.out.size hb1); clear y0 y1 y2 y3; obtain ⟨b2, b3, b6, hbw, hb11⟩ := HG.out HBx.out; have y0 := (blk_cell b2 0).trans rfl; have y1 := (blk_cell b2 1).trans rfl; have y2 := (blk_cell b2 2).trans rfl; have y3 := (blk_cell b2 3).trans rfl; clear hb1 b2 b3 b6 hbw hb11)
    | (go_at_call 101; with_reducible refine (tooth_within_lit2 _ _ _ _ true _ _ W3.out ?side).mono ?_; (case side => simp); rintro e wc ⟨rfl, hb1⟩; have HC := Aside0.mk (below_then HBx.out HBx.out.size hb1); clear y0 y1 y2 y3; obtain ⟨b2, b3, b6, hbw, hb11⟩ := HG.out HC.out; have y0 := (blk_cell b2 0).trans rfl; have y1 := (blk_cell b2 1).trans rfl; have y2 := (blk_cell b2 2).trans rfl; have y3 := (blk_cell b2 3).trans rfl; have HBW := Aside0.mk hbw; have HB11 := Aside0.mk hb11; have x0 := (blk_cell b6 0).trans rfl; have x1 := (blk_cell b6 1).trans rfl; have x2 := (blk_cell b6 2).trans rfl; have x3 := (blk_cell b6 3).trans rfl; have x4 := (blk_cell b6 4).trans rfl; have x5 := (blk_cell b6 5).trans rfl; have z0 := (blk_cell b3 0).trans rfl; have z1 := (blk_cell b3 1).trans rfl; have z2 := (blk_cell b3 2).trans rfl; have z3 := (blk_cell b3 3).trans rfl; have z4 := (blk_cell b3 4).trans rfl; have z5 := (blk_cell b3 5).trans rfl; have f0 := blk_frozen b3 0; have f1 := blk_frozen b3 1; have f2 := blk_frozen b3 2; have f3 := blk_frozen b3 3; have f4 := blk_frozen b3 4; have f5 := blk_frozen b3 5; have B4 := Aside0.mk b3; clear hb1 b2 b3 b6 hbw hb11))
  refine bodyPost_ret (results_ct rfl _ _ _ 152 #[.slice A0 bot.length c0, .slice A1 top.length c1, .int .i64 bend, .slice A3 cr.length c3, .slice Ab rb.length cb, .slice At rt.length ct] (0, 0) _ rfl (blk_put (blk_put (blk_put (blk_put (blk_put (blk_put B4.out 0 _ rfl) 1 _ rfl) 2 _ rfl) 3 _ rfl) 4 _ rfl) 5 _ rfl) Tryz.underlying152 rfl (by kernel_rfl)) rfl ?_
  have ge : w.heap.size ≤ w.heap.size + 1 + 1 := by omega
  have hf : ∀ k, w.heap.size + 3 ≤ k → k ≠ w.heap.size + 1 + 1 := fun k h => by omega
  exact ⟨_, _, rfl, Kd.R_mono (Kd.R_far (Kd.R_far (Kd.R_far (Kd.R_far (Kd.R_far (Kd.R_far (Kd.R_below HVB.out HB11.out) hf _) hf _) hf _) hf _) hf _) hf _) (fun _ _ => trivial), Kd.R_mono (Kd.R_far (Kd.R_far (Kd.R_far (Kd.R_far (Kd.R_far (Kd.R_far (Kd.R_below HVT.out HB11.out) hf _) hf _) hf _) hf _) hf _) hf _) (fun _ _ => trivial), below_set (below_set (below_set (below_set (below_set (below_set HBW.out ge) ge) ge) ge) ge) ge⟩
end X
end Go.Proofs.YtgdkmadcegleiaaGreatDoor
namespace Go.Proofs.YtgdkmadcegleiaaGreatDoor
namespace PSur
open X
attribute [local go_sem] max2_int min2_int max_two min_two max_three min_three max_four min_four   -- for this text's walks alone
def errW : Option Int → Value
  | none => .nilIface
  | some c => .iface 0 (.int .i64 c)
theorem errW_none : errW none = .nilIface := rfl
theorem errW_some (c : Int) : errW (some c) = .iface 0 (.int .i64 c) := rfl
theorem info173 : (Tryz.prog.info? 173).map (fun i => (i.zero, i.size, i.bytes)) = some (some (.agg #[(.int .i64 0), (.int .i64 0), (.int .i64 0), (.int .i64 0)]), 4, 32) := by kernel_rfl
end PSur
end Go.Proofs.YtgdkmadcegleiaaGreatDoor
