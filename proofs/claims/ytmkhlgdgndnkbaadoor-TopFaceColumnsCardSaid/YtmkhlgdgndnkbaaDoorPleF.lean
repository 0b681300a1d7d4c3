/- Package pleat: hits: the numbers of the faces that are not spared. -/
import Derived.Test.YtmkhlgdgndnkbaaDoorPleE
namespace Go.Proofs.YtmkhlgdgndnkbaaDoor.X
open Go.RowKit Go.Proofs.YtmkhlgdgndnkbaaDoorW.PrintWords Go.Proofs.YtmkhlgdgndnkbaaDoorW.PrintLast Go.Proofs.YtmkhlgdgndnkbaaDoorW.PrintMore Go.Proofs.YtmkhlgdgndnkbaaDoor.PPle Go.Proofs.YtmkhlgdgndnkbaaDoor.PPlM

/-- The numbers below k of the elements for which p holds. -/
def hitsUp {α : Type} (p : α → Bool) (l : List α) (z : α) : Nat → List Int
  | 0 => []
  | k + 1 => if p (l.getD k z) = true then hitsUp p l z k ++ [(k : Int)] else hitsUp p l z k
theorem hitsUp_length {α : Type} (p : α → Bool) (l : List α) (z : α) (k : Nat) : (hitsUp p l z k).length ≤ k := by
  induction k with
  | zero => exact Nat.le_refl _
  | succ k ih =>
    unfold hitsUp
    split
    · rw [List.length_append]; simp; omega
    · omega
theorem info_int : (Tryd.prog.info? 3).map (fun i => (i.zero, i.size, i.bytes)) = some (some (.int .i64 0), 1, 8) := by kernel_rfl

set_option maxHeartbeats 4000000 in
theorem hits_calls {g k : Nat} {long half room play shift : Int} {A B : Option Addr} {c d : Nat} {l : List S33} {gr : List Int} {ta tb aw : S33 → Int} {w : World}
    (eg : ∀ args w, (callFunc g args).run Tryd.prog w = .ok (.enter g args) w)
    (hr : Kd.C k33 w A l.length l) (hc : l.length ≤ c) (hg : Kd.C (Kd.int .i64) w B gr.length gr) (hd : gr.length ≤ d) (hl : l.length ≤ 1000000)
    (htr : ∀ x ∈ l, ∀ W, Calls Tryd.prog g #[.agg #[.int .i64 x.f0.f0, .int .i64 x.f0.f1, .int .i64 x.f1.f0, .int .i64 x.f1.f1]] W fun e W' => e = .returned (.agg #[.int .i64 (ta x), .int .i64 (tb x)]) ∧ Below W.heap.size W W')
    (ha : ∀ x ∈ l, pleat_bed_away.f k long l gr half room play shift (ta x) (tb x) = some (aw x)) :
    Calls Tryd.prog 11 #[.agg #[.int .i64 long, .slice A l.length c, .slice B gr.length d, .int .i64 half, .int .i64 room, .int .i64 play], .int .i64 shift, .func (.func g) #[] #[]] w fun e w' =>
      ∃ v, e = .returned v ∧ Kd.R (Kd.int .i64) 3 w' w.heap.size (fun _ => True) v (hitsUp (fun x => decide (aw x < 0)) l z33 l.length) ∧ Below w.heap.size w w' := by
  have eg33 := enters_spared1
  have HEG := Aside0.mk eg
  have HR := Aside0.mk hr
  have HG := Aside0.mk hg
  have HTR := Aside0.mk htr
  have HA := Aside0.mk ha
  obtain ⟨n, hn⟩ : ∃ n, l.length = n := ⟨_, rfl⟩
  have HN := Aside0.mk hn
  rw [hn] at hc hl HR ⊢
  clear hr hg htr ha eg hn
  have k1 : (w.alloc (.cells #[.int .i64 long, .slice A n c, .slice B gr.length d, .int .i64 half, .int .i64 room, .int .i64 play] 42 (0, 0))).cell? ⟨w.heap.size, 1, none⟩ = some (.slice A n c) := (blk_cell (blk_new w _) 1).trans rfl
  go_enter Tryd.func11, Tryd.ntmps11
  go_wp2_with (go_at_call 19; refine spared_calls.mono ?_; rintro e w1 ⟨rfl, hw1⟩; have z1 : w1.cell? ⟨w.heap.size, 1, none⟩ = some (.slice A n c) := by { rw [hw1]; exact pw_cell_below (sparedW_below _ _ _ _) k1 }; have HW1 := Aside0.mk hw1; clear hw1)
  have HBW : Aside0 (Below w.heap.size w w1) := ⟨by rw [HW1.out]; exact below_then (below_alloc (Below.refl _ _) _) (by simp) (sparedW_below _ _ _ _)⟩
  have B1 : Aside0 (w1.heap[w.heap.size + 1]? = some (.cells #[.int .i64 long, .slice A n c, .slice B gr.length d, .int .i64 half, .int .i64 room, .int .i64 play] 42 (0, 0))) := ⟨by rw [HW1.out]; exact blk_alloc (blk_alloc (one_blk _ _ (by simp)) _) _⟩
  have B2 : Aside0 (w1.heap[w.heap.size + 1 + 1]? = some (.cells #[.int .i64 shift] 3 (0, 0))) := ⟨by rw [HW1.out]; exact blk_alloc (one_blk _ _ (by simp)) _⟩
  have B3 : Aside0 (w1.heap[w.heap.size + 1 + 1 + 1]? = some (.cells #[.func (.func g) #[] #[]] 47 (0, 0))) := ⟨by rw [HW1.out]; exact one_blk _ _ (by simp)⟩
  have HR1 := Aside0.mk (Kd.C_below HR.out HBW.out)
  have HG1 := Aside0.mk (Kd.C_below HG.out HBW.out)
  clear k1 z1 HW1 HR HG
  generalize hsz : w.heap.size = s at B1 B2 B3 HBW ⊢
  have HS := Aside0.mk hsz
  clear hsz
  go_loopg [6, 18] n (fun gg v6 v18 wr => ∃ kk : Nat, kk ≤ n ∧ n - kk ≤ gg ∧ v18 = .int .i64 kk ∧ Aside0 (Kd.R (Kd.int .i64) 3 wr w1.heap.size (fun _ => True) v6 (hitsUp (fun x => decide (aw x < 0)) l z33 kk)) ∧ Aside0 (Below w1.heap.size w1 wr))
  case atStart => exact ⟨0, Nat.zero_le _, by omega, rfl, ⟨Kd.R_nil _ _ _ _ _⟩, ⟨Below.refl _ _⟩⟩
  case round =>
    obtain ⟨kk, hkk, hgg, rfl, HO, HB⟩ := hrel
    by_cases hlt : kk < n
    · have hltz : (kk : Int) < (n : Int) := by omega
      obtain ⟨ad, c1, rfl, hl1, hK, hcell⟩ := Kd.C_get (Kd.C_below HR1.out HB.out) z33 (kk : Int) (by omega) hltz
      rw [Int.toNat_natCast] at hK hcell
      have e1 := k33_open hK
      subst e1
      have hx := getD_mem (z := z33) HN.out hlt
      have HTR1 := Aside0.mk (HTR.out _ hx)
      have HA1 := Aside0.mk (HA.out _ hx)
      have HUP : Aside0 (hitsUp (fun x => decide (aw x < 0)) l z33 (kk + 1) = if decide (aw (l.getD kk z33) < 0) = true then hitsUp (fun x => decide (aw x < 0)) l z33 kk ++ [(kk : Int)] else hitsUp (fun x => decide (aw x < 0)) l z33 kk) := ⟨rfl⟩
      clear hx hK
      generalize l.getD kk z33 = x at hcell HTR1 HA1 HUP
      have hcc : ∀ j u, [Value.int .i64 x.f0.f0, Value.int .i64 x.f0.f1, Value.int .i64 x.f1.f0, Value.int .i64 x.f1.f1][j]? = some u → wr.cell? (ad.add (kk * 4 + j)) = some u := fun j u hu => hcell j u hu
      have hc0 : wr.cell? (ad.add (kk * 4)) = some (.int .i64 x.f0.f0) := hcc 0 _ rfl
      have hc1 : wr.cell? ⟨(ad.add (kk * 4)).block, (ad.add (kk * 4)).off + 1, none⟩ = some (.int .i64 x.f0.f1) := by rw [← add_field _ _ 1 (by omega)]; exact hcc 1 _ rfl
      have hc2 : wr.cell? ⟨(ad.add (kk * 4)).block, (ad.add (kk * 4)).off + 2, none⟩ = some (.int .i64 x.f1.f0) := by rw [← add_field _ _ 2 (by omega)]; exact hcc 2 _ rfl
      have hc3 : wr.cell? ⟨(ad.add (kk * 4)).block, (ad.add (kk * 4)).off + 3, none⟩ = some (.int .i64 x.f1.f1) := by rw [← add_field _ _ 3 (by omega)]; exact hcc 3 _ rfl
      clear hcell hl1 hcc
      cases q : decide (aw x < 0) with
      | true =>
        have dq : decide (0 ≤ aw x) = false := by have := of_decide_eq_true q; exact decide_eq_false (by omega)
        rw [q, if_pos rfl] at HUP
        go_wp2_with fail
        have hn' := HN.out
        subst hn'
        have hbx : Below w1.heap.size w1 (wr.alloc (.cells #[.int .i64 x.f0.f0, .int .i64 x.f0.f1, .int .i64 x.f1.f0, .int .i64 x.f1.f1] 33 (0, 0))) := below_alloc HB.out _
        refine (spared1_calls (k := k) (shift := shift) HEG.out (blk_below B1.out hbx) (blk_below B2.out hbx) (blk_below B3.out hbx) (Kd.C_below HR1.out hbx) hc (Kd.C_below HG1.out hbx) hd HTR1.out HA1.out).mono ?_
        rw [dq]
        rintro e w2 ⟨rfl, hb2⟩
        have HB2 := Aside0.mk (later_below hbx hb2)
        have HO2 := Aside0.mk (Kd.R_below (Kd.R_alloc HO.out _) hb2)
        clear hb2 hbx
        have HLEN : Aside0 ((hitsUp (fun x => decide (aw x < 0)) l z33 kk).length ≤ kk) := ⟨hitsUp_length _ _ _ _⟩
        clear q dq
        go_wp2_with (at_builtin; refine Kd.R_append (Kd.int .i64) (w0 := w1) w1.heap.size rfl (.tmp 27) (.tmp 29) 26 3 (.int .i64 0) 8 rfl Tryd.underlying26 info_int rfl (by decide) (by omega) _ _ (kk : Int) [.int .i64 kk] (fun _ => True) (fun _ => False) rfl rfl rfl (fun _ hk => hk.elim) (fun _ _ => trivial) HO2.out HB2.out (below_size HB2.out) (by have := HLEN.out; omega) ?_; intro v1 w5 ho hb hg5 hat; have HO5 := Aside0.mk ho; have HB5 := Aside0.mk hb; clear ho hb hg5 hat)
        go_roundg (l.length - (kk + 1))
        case measure => omega
        case rel => exact ⟨kk + 1, by omega, by omega, by go_num, ⟨by rw [HUP.out]; exact HO5.out⟩, ⟨HB5.out⟩⟩
      | false =>
        have dq : decide (0 ≤ aw x) = true := by have := of_decide_eq_false q; exact decide_eq_true (by omega)
        rw [q, if_neg (by decide)] at HUP
        go_wp2_with fail
        have hn' := HN.out
        subst hn'
        have hbx : Below w1.heap.size w1 (wr.alloc (.cells #[.int .i64 x.f0.f0, .int .i64 x.f0.f1, .int .i64 x.f1.f0, .int .i64 x.f1.f1] 33 (0, 0))) := below_alloc HB.out _
        refine (spared1_calls (k := k) (shift := shift) HEG.out (blk_below B1.out hbx) (blk_below B2.out hbx) (blk_below B3.out hbx) (Kd.C_below HR1.out hbx) hc (Kd.C_below HG1.out hbx) hd HTR1.out HA1.out).mono ?_
        rw [dq]
        rintro e w2 ⟨rfl, hb2⟩
        have HB2 := Aside0.mk (later_below hbx hb2)
        have HO2 := Aside0.mk (Kd.R_below (Kd.R_alloc HO.out _) hb2)
        clear hb2 hbx
        clear q dq
        go_wp2
        go_roundg (l.length - (kk + 1))
        case measure => omega
        case rel => exact ⟨kk + 1, by omega, by omega, by go_num, ⟨by rw [HUP.out]; exact HO2.out⟩, ⟨HB2.out⟩⟩
    · have hltz : ¬ (kk : Int) < (n : Int) := by omega
      obtain rfl : kk = n := by omega
      go_wp2
      go_ret
      have hs := HS.out
      subst hs
      exact ⟨_, rfl, Kd.R_of_own (own_less (Kd.own_of_R HO.out) (below_size HBW.out)) (fun _ _ => trivial), below_then HBW.out (below_size HBW.out) HB.out⟩
end Go.Proofs.YtmkhlgdgndnkbaaDoor.X
