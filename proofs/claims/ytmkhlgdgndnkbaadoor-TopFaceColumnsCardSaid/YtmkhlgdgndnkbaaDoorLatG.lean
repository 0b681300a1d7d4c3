/- Package lattice: Show. -/
import Derived.Test.YtmkhlgdgndnkbaaDoorLatF
namespace Go.Proofs.YtmkhlgdgndnkbaaDoor.X
open Go.RowKit Go.Proofs.YtmkhlgdgndnkbaaDoorW.PrintWords Go.Proofs.YtmkhlgdgndnkbaaDoorW.PrintLast Go.Proofs.YtmkhlgdgndnkbaaDoorW.PrintMore Go.Proofs.YtmkhlgdgndnkbaaDoor.PLat

def checkE (p : List ByteArray) : Int := checkedF p 8 8 ⟨#[48, 49, 50, 51]⟩
def barsE (l : List ByteArray) : Int := checkedF l 4 4 ⟨#[46, 35]⟩
def seenE (p : List ByteArray) : Int := checkedF p 8 8 ⟨#[48, 49, 50, 51, 63]⟩

theorem enters_show1 : ∀ args w, (callFunc 21 args).run Tryd.prog w = .ok (.enter 21 args) w := enters_of Tryd.func21 (by kernel_rfl) rfl
theorem enters_show2 : ∀ args w, (callFunc 23 args).run Tryd.prog w = .ok (.enter 23 args) w := enters_of Tryd.func23 (by kernel_rfl) rfl
theorem enters_show3 : ∀ args w, (callFunc 25 args).run Tryd.prog w = .ok (.enter 25 args) w := enters_of Tryd.func25 (by kernel_rfl) rfl

theorem show1_calls {g : Nat} {A : Option Addr} {c : Nat} {p : List ByteArray} {w : World} (hc : w.cell? ⟨g, 0, none⟩ = some (.slice A p.length c)) (hr : Kd.C Kd.string w A p.length p) (hl : p.length ≤ c) (hT : Tabs w) :
    Calls Tryd.prog 21 #[.pointer (some ⟨g, 0, none⟩)] w fun e w' => e = .returned (.int .i64 (checkE p)) ∧ Below w.heap.size w w' := by
  have HR := Aside0.mk hr
  have HT := Aside0.mk hT
  clear hr hT
  go_enter Tryd.func21, Tryd.ntmps21
  go_wp2_with (go_at_call 22; refine (lattice_Check.calls A c p _ _ HR.out hl rfl HT.out).mono ?_; rintro e w' ⟨rfl, hb⟩)
  go_ret
  exact ⟨rfl, hb⟩
theorem show2_calls {g : Nat} {A : Option Addr} {c : Nat} {p : List ByteArray} {w : World} (hc : w.cell? ⟨g, 0, none⟩ = some (.slice A p.length c)) (hr : Kd.C Kd.string w A p.length p) (hl : p.length ≤ c) (hT : Tabs w) :
    Calls Tryd.prog 23 #[.pointer (some ⟨g, 0, none⟩)] w fun e w' => e = .returned (.int .i64 (barsE p)) ∧ Below w.heap.size w w' := by
  have HR := Aside0.mk hr
  have HT := Aside0.mk hT
  clear hr hT
  go_enter Tryd.func23, Tryd.ntmps23
  go_wp2_with (go_at_call 24; refine (lattice_Bars.calls A c p _ _ HR.out hl rfl HT.out).mono ?_; rintro e w' ⟨rfl, hb⟩)
  go_ret
  exact ⟨rfl, hb⟩
theorem show3_calls {g1 g2 : Nat} {A : Option Addr} {c : Nat} {l : List ByteArray} {sx sy : Int} {w : World} (hc : w.cell? ⟨g1, 0, none⟩ = some (.slice A l.length c)) (h2 : w.heap[g2]? = some (.cells #[.int .i64 sx, .int .i64 sy] 52 (0, 0))) (hr : Kd.C Kd.string w A l.length l) (hl : l.length ≤ c) (hb : barsE l = 0) :
    Calls Tryd.prog 25 #[.pointer (some ⟨g1, 0, none⟩), .pointer (some ⟨g2, 0, none⟩)] w fun e w' => e = .returned (.int .i64 (if shiftB l sx sy = true then 0 else 3)) ∧ Below w.heap.size w w' := by
  have HR := Aside0.mk hr
  have HS := Aside0.mk (isShift_f (rows_of (high := 4) (wide := 4) hb) sx sy)
  have hz0 : _ = some (Value.int .i64 sx) := (blk_cell h2 0).trans rfl
  have hz1 : _ = some (Value.int .i64 sy) := (blk_cell h2 1).trans rfl
  clear hr hb h2
  obtain ⟨q, hq⟩ : ∃ q, shiftB l sx sy = q := ⟨_, rfl⟩
  rw [hq] at HS ⊢
  clear hq
  cases q with
  | true =>
    go_enter Tryd.func25, Tryd.ntmps25
    go_wp2_with (first | (go_at_call 27; refine (lattice_grid_isShift.calls A c l sx sy true _ HR.out hl HS.out).mono ?_; rintro e w1 ⟨rfl, hb1⟩; have HB1 := Aside0.mk hb1; clear hb1) | (go_at_call 26; refine (lattice_unless.calls true 3 0 _ rfl).mono ?_; rintro e w2 ⟨rfl, hd⟩; have HB2 := Aside0.mk (later_below HB1.out hd.below); clear hd))
    go_ret
    exact ⟨rfl, HB2.out⟩
  | false =>
    go_enter Tryd.func25, Tryd.ntmps25
    go_wp2_with (first | (go_at_call 27; refine (lattice_grid_isShift.calls A c l sx sy false _ HR.out hl HS.out).mono ?_; rintro e w1 ⟨rfl, hb1⟩; have HB1 := Aside0.mk hb1; clear hb1) | (go_at_call 26; refine (lattice_unless.calls false 3 3 _ rfl).mono ?_; rintro e w2 ⟨rfl, hd⟩; have HB2 := Aside0.mk (later_below HB1.out hd.below); clear hd))
    go_ret
    exact ⟨rfl, HB2.out⟩

/-- Show. -/
def showE (p l : List ByteArray) (sx sy : Int) : Int := if checkE p = 0 then if barsE l = 0 then if shiftB l sx sy = true then 0 else 3 else barsE l else checkE p
def lattice_Show.f (l0 : List ByteArray) (l1 : List ByteArray) (a2_0 : Int) (a2_1 : Int) : Option (List ByteArray × Int) :=
  some (if showE l0 l1 a2_0 a2_1 = 0 then showRows (openB l1 a2_0 a2_1) l0 else [], showE l0 l1 a2_0 a2_1)

def show_fs : Nat → FuncId
  | 0 => 21
  | 1 => 23
  | _ => 25
def show_caps (g : Nat) : Nat → Array Value
  | 0 => #[.pointer (some ⟨g, 0, none⟩)]
  | 1 => #[.pointer (some ⟨g + 1, 0, none⟩)]
  | _ => #[.pointer (some ⟨g + 1, 0, none⟩), .pointer (some ⟨g + 1 + 1, 0, none⟩)]
def show_es (p l : List ByteArray) (sx sy : Int) : Nat → Int
  | 0 => checkE p
  | 1 => barsE l
  | _ => if shiftB l sx sy = true then 0 else 3
theorem show_first (p l : List ByteArray) (sx sy : Int) : firstErr (show_es p l sx sy) 3 = showE p l sx sy := by
  unfold showE
  simp only [firstErr, show_es, if_true]
  by_cases h1 : checkE p = 0
  · by_cases h2 : barsE l = 0 <;> simp [h1, h2]
  · simp [h1]
theorem rows_big {rows : List ByteArray} {high wide : Nat} {among : ByteArray} {n0 : Nat} (h : Rows rows high wide among n0) (hh : high ≤ 8) (hw : wide ≤ 8) : rows.length ≤ 1000000 ∧ ∀ y, y < rows.length → (rows.getD y ByteArray.empty).size ≤ 1000000 :=
  ⟨by have := h.len2; omega, fun y hy => by have := h.size y hy; have := h.w2; omega⟩
theorem open_all {p l : List ByteArray} {a1 a2 : ByteArray} {n0 n1 : Nat} {sx sy : Int} (hp : Rows p 8 8 a1 n0) (hl : Rows l 4 4 a2 n1) (hs : shiftB l sx sy = true) :
    ∀ y, y < p.length → ∀ x, x < (p.getD y ByteArray.empty).size → lattice_grid_open.f l sx sy (x : Int) (y : Int) = some (openB l sx sy x y) := by
  intro y hy x hx
  have h1 := hp.size y hy
  have h2 := hp.len2
  have h3 := hp.w2
  unfold shiftB at hs
  simp only [Bool.and_eq_true, decide_eq_true_eq] at hs
  have h0 := hl.size 0 (by have := hl.len1; omega)
  exact open_f hl hs.1.1 (by omega) hs.2.1 hs.2.2 (by omega) (by omega)

/-- The world behind Show's first two statements. -/
def showW (w : World) (A0 : Option Addr) (n0 c0 : Nat) (A1 : Option Addr) (n1 c1 : Nat) (sx sy : Int) : World :=
  (((w.alloc (.cells #[.slice A0 n0 c0] 48)).alloc (.cells #[.slice A1 n1 c1] 48)).alloc (.cells #[.int .i64 sx, .int .i64 sy] 52)).alloc
    (.cells #[.func (.func 21) #[] #[.pointer (some ⟨w.heap.size, 0, none⟩)], .func (.func 23) #[] #[.pointer (some ⟨w.heap.size + 1, 0, none⟩)],
      .func (.func 25) #[] #[.pointer (some ⟨w.heap.size + 1, 0, none⟩), .pointer (some ⟨w.heap.size + 1 + 1, 0, none⟩)]] 63)
section
variable (w : World) (A0 : Option Addr) (n0 c0 : Nat) (A1 : Option Addr) (n1 c1 : Nat) (sx sy : Int)
theorem showW_c0 : (showW w A0 n0 c0 A1 n1 c1 sx sy).cell? ⟨w.heap.size, 0, none⟩ = some (.slice A0 n0 c0) := keep_cell _ (keep_cell _ (keep_cell _ (box_cell _ _ _ rfl)))
theorem showW_c1 : (showW w A0 n0 c0 A1 n1 c1 sx sy).cell? ⟨w.heap.size + 1, 0, none⟩ = some (.slice A1 n1 c1) := keep_cell _ (keep_cell _ (box_cell _ _ _ (by simp)))
theorem showW_b2 : (showW w A0 n0 c0 A1 n1 c1 sx sy).heap[w.heap.size + 1 + 1]? = some (.cells #[.int .i64 sx, .int .i64 sy] 52 (0, 0)) := blk_alloc (one_blk _ _ (by simp)) _
theorem showW_below : Below w.heap.size w (showW w A0 n0 c0 A1 n1 c1 sx sy) := below_alloc (below_alloc (below_alloc (below_alloc (Below.refl _ _) _) _) _) _
theorem showW_f (i : Nat) (hi : i < 3) : (showW w A0 n0 c0 A1 n1 c1 sx sy).cell? ((⟨w.heap.size + 1 + 1 + 1, 0, none⟩ : Addr).add i) = some (.func (.func (show_fs i)) #[] (show_caps w.heap.size i)) := by
  rw [add_plain]
  have hb : (showW w A0 n0 c0 A1 n1 c1 sx sy).heap[w.heap.size + 1 + 1 + 1]? = _ := one_blk _ _ (by simp)
  rw [blk_cell hb i]
  match i, hi with
  | 0, _ => rfl
  | 1, _ => rfl
  | 2, _ => rfl
end

set_option maxHeartbeats 4000000 in
set_option maxRecDepth 100000 in
theorem lattice_Show.calls (A0 : Option Addr) (c0 : Nat) (l0 : List ByteArray) (A1 : Option Addr) (c1 : Nat) (l1 : List ByteArray) (a2_0 : Int) (a2_1 : Int) (r1 : List ByteArray) (r2 : Int) (w : World) (hr0 : Kd.C Kd.string w A0 l0.length l0) (hc0 : l0.length ≤ c0) (hr1 : Kd.C Kd.string w A1 l1.length l1) (hc1 : l1.length ≤ c1) (h : lattice_Show.f l0 l1 a2_0 a2_1 = some (r1, r2)) (hT : Tabs w) :
    Calls Tryd.prog 14 #[.slice A0 l0.length c0, .slice A1 l1.length c1, .agg #[.int .i64 a2_0, .int .i64 a2_1]] w fun e w' => ∃ v0_ : Value, e = .returned (.tuple #[v0_, .int .i64 r2]) ∧ Kd.R Kd.string 9 w' w.heap.size (fun _ => True) v0_ r1 ∧ Below w.heap.size w w' := by
  have h' := Option.some.inj h
  have e2 : showE l0 l1 a2_0 a2_1 = r2 := congrArg Prod.snd h'
  have e1 : (if showE l0 l1 a2_0 a2_1 = 0 then showRows (openB l1 a2_0 a2_1) l0 else []) = r1 := congrArg Prod.fst h'
  rw [e2] at e1
  have HR0 := Aside0.mk hr0
  have HR1 := Aside0.mk hr1
  have HT := Aside0.mk hT
  have HC0 := Aside0.mk hc0
  have HC1 := Aside0.mk hc1
  have HE1 := Aside0.mk e1
  have HE2 := Aside0.mk e2
  have HF := Aside0.mk ((show_first l0 l1 a2_0 a2_1).trans e2)
  clear hr0 hr1 hT h h' e1 e2 hc0 hc1
  go_enter Tryd.func14, Tryd.ntmps14
  go_wp2_with fail
  refine (first_calls 3 3 show_fs (show_caps w.heap.size) (show_es l0 l1 a2_0 a2_1) ⟨w.heap.size + 1 + 1 + 1, 0, none⟩ (showW w A0 l0.length c0 A1 l1.length c1 a2_0 a2_1) (by decide) (showW_f w A0 l0.length c0 A1 l1.length c1 a2_0 a2_1) ?_ ?_).mono ?_
  · intro i hi
    match i, hi with
    | 0, _ => exact enters_show1
    | 1, _ => exact enters_show2
    | 2, _ => exact enters_show3
  · intro i hi hz W hW
    have hW0 := later_below (showW_below w A0 l0.length c0 A1 l1.length c1 a2_0 a2_1) hW
    have k0 := pw_cell_below hW (showW_c0 w A0 l0.length c0 A1 l1.length c1 a2_0 a2_1)
    have k1 := pw_cell_below hW (showW_c1 w A0 l0.length c0 A1 l1.length c1 a2_0 a2_1)
    match i, hi, hz with
    | 0, _, _ => exact show1_calls k0 (Kd.C_below HR0.out hW0) HC0.out (HT.out.below hW0)
    | 1, _, _ => exact show2_calls k1 (Kd.C_below HR1.out hW0) HC1.out (HT.out.below hW0)
    | 2, _, hz => exact show3_calls k1 (blk_below (showW_b2 w A0 l0.length c0 A1 l1.length c1 a2_0 a2_1) hW) (Kd.C_below HR1.out hW0) HC1.out (hz 1 (by omega))
  rintro e w1 ⟨rfl, hb1⟩
  rw [HF.out]
  have HB1 := Aside0.mk (later_below (showW_below w A0 l0.length c0 A1 l1.length c1 a2_0 a2_1) hb1)
  have k0 := pw_cell_below hb1 (showW_c0 w A0 l0.length c0 A1 l1.length c1 a2_0 a2_1)
  have k1 := pw_cell_below hb1 (showW_c1 w A0 l0.length c0 A1 l1.length c1 a2_0 a2_1)
  have kb := blk_below (showW_b2 w A0 l0.length c0 A1 l1.length c1 a2_0 a2_1) hb1
  have k2 : _ = some (Value.int .i64 a2_0) := (blk_cell kb 0).trans rfl
  have k3 : _ = some (Value.int .i64 a2_1) := (blk_cell kb 1).trans rfl
  clear hb1 kb
  by_cases hz : r2 = 0
  · subst hz
    have HE : Aside0 (checkE l0 = 0 ∧ barsE l1 = 0 ∧ shiftB l1 a2_0 a2_1 = true) := ⟨by
      have := HE2.out
      unfold showE at this
      split at this
      · split at this
        · split at this
          · exact ⟨by assumption, by assumption, by assumption⟩
          · omega
        · omega
      · omega⟩
    have HG := Aside0.mk (show_calls A1 c1 l1 A0 c0 l0 a2_0 a2_1 (openB l1 a2_0 a2_1) w1 (Kd.C_below HR1.out HB1.out) HC1.out (Kd.C_below HR0.out HB1.out) HC0.out (rows_big (rows_of (high := 8) (wide := 8) HE.out.1) (by decide) (by decide)).1 (rows_big (rows_of (high := 8) (wide := 8) HE.out.1) (by decide) (by decide)).2
      (open_all (rows_of (high := 8) (wide := 8) HE.out.1) (rows_of (high := 4) (wide := 4) HE.out.2.1) HE.out.2.2))
    go_wp2_with (go_at_call 28; refine HG.out.mono ?_; rintro e w2 ⟨v, rfl, hv, hb2⟩; have HV := Aside0.mk hv; have HB2 := Aside0.mk (later_below HB1.out hb2); clear hv hb2)
    go_ret2
    exact ⟨_, rfl, by rw [← HE1.out]; exact Kd.R_lower HV.out HB1.out.size, HB2.out⟩
  · have hz1 : (r2 == 0) = false := beq_eq_false_iff_ne.2 hz
    have hz2 : (r2 != 0) = true := bne_iff_ne.2 hz
    have HN : Aside0 (r1 = []) := ⟨by rw [← HE1.out, if_neg hz]⟩
    clear hz
    go_wp2
    go_ret2
    exact ⟨_, rfl, by rw [HN.out]; exact Kd.R_nil _ _ _ _ _, HB1.out⟩
end Go.Proofs.YtmkhlgdgndnkbaaDoor.X
