/- Package lattice: checked; Check, Bars, checkSeen. -/
import Derived.Test.YtmkhlgdgndnkbaaDoorLatC
namespace Go.Proofs.YtmkhlgdgndnkbaaDoor.X
open Go.RowKit Go.Proofs.YtmkhlgdgndnkbaaDoorW.PrintWords Go.Proofs.YtmkhlgdgndnkbaaDoorW.PrintLast Go.Proofs.YtmkhlgdgndnkbaaDoorW.PrintMore

/-- A row that has not its form. -/
def isShort (wide : Int) (n0 : Nat) (row : ByteArray) : Bool := !(decide (1 ≤ (row.size : Int)) && decide ((row.size : Int) ≤ wide)) || !(row.size == n0)

theorem enters_checked1 : ∀ args w, (callFunc 39 args).run Tryd.prog w = .ok (.enter 39 args) w := enters_of Tryd.func39 (by kernel_rfl) rfl
theorem enters_checked2 : ∀ args w, (callFunc 40 args).run Tryd.prog w = .ok (.enter 40 args) w := enters_of Tryd.func40 (by kernel_rfl) rfl

set_option maxHeartbeats 1000000 in
theorem checked1_pred {g1 g2 : Nat} {wide : Int} {A : Option Addr} {c : Nat} {rows : List ByteArray} {w : World} (h1 : w.cell? ⟨g1, 0, none⟩ = some (.int .i64 wide)) (h2 : w.cell? ⟨g2, 0, none⟩ = some (.slice A rows.length c)) (hr : Kd.C Kd.string w A rows.length rows) :
    PredK 39 #[.pointer (some ⟨g1, 0, none⟩), .pointer (some ⟨g2, 0, none⟩)] Kd.string cell1 rows (isShort wide (rows.getD 0 ByteArray.empty).size) w := by
  intro x hx W cs hb hK
  have e : cs = [.string x] := hK
  subst e
  have hn : 0 < rows.length := List.length_pos_of_mem hx
  have HR := Aside0.mk (Kd.C_below hr hb)
  have k1 : W.cell? ⟨g1, 0, none⟩ = some (.int .i64 wide) := pw_cell_below hb h1
  have k2 : W.cell? ⟨g2, 0, none⟩ = some (.slice A rows.length c) := pw_cell_below hb h2
  simp only [cell1, List.getD_cons_zero]
  show Calls Tryd.prog 39 #[.string x, .pointer (some ⟨g1, 0, none⟩), .pointer (some ⟨g2, 0, none⟩)] W _
  obtain ⟨n, hn2⟩ : ∃ n, rows.length = n := ⟨_, rfl⟩
  rw [hn2] at k2 hn HR
  have HN := Aside0.mk hn
  clear hb h1 h2 hK hr hx hn2
  obtain ⟨ad, rfl, hcell⟩ := Kd.at_string HR.out 0 (Int.le_refl 0) (by omega)
  have hc0 : W.cell? ad = some (.string (rdOf ByteArray.empty rows 0)) := by rw [← hcell]; simp [Addr.add]
  have e0 : rdOf ByteArray.empty rows 0 = rows.getD 0 ByteArray.empty := rfl
  rw [e0] at hc0
  generalize hr0 : rows.getD 0 ByteArray.empty = r0 at hc0
  clear hcell e0 hr0
  have hni : (0 : Int) < (n : Int) := by omega
  cases hq : (decide (1 ≤ (x.size : Int)) && decide ((x.size : Int) ≤ wide)) with
  | false =>
    have hs : isShort wide r0.size x = true := by unfold isShort; rw [hq]; rfl
    rw [hs]
    have HQ := Aside0.mk hq
    clear hq hs
    go_enter Tryd.func39, Tryd.ntmps39
    go_wp2_with (go_at_call 36; refine (lattice_within.calls 1 wide _ 1 [(x.size : Int)] false _ (C_lit1 _ _ _ _ (by simp)) (Nat.le_refl 1) (by unfold lattice_within.f; rw [List.all_cons, HQ.out]; rfl)).mono ?_; rintro e w' ⟨rfl, hb1⟩; have HB1 := Aside0.mk (below_then (below_alloc (Below.refl _ _) _) (by simp) hb1); clear hb1)
    go_ret
    exact ⟨rfl, HB1.out⟩
  | true =>
    have HQ := Aside0.mk hq
    clear hq
    by_cases hxe : x.size = r0.size
    · have hs : isShort wide r0.size x = false := by unfold isShort; rw [HQ.out, hxe]; simp
      rw [hs]
      have hb1 : (x.size == r0.size) = true := beq_iff_eq.2 hxe
      have hb2 : ((x.size : Int) == (r0.size : Int)) = true := beq_iff_eq.2 (by omega)
      have hb3 : ((x.size : Int) != (r0.size : Int)) = false := bne_eq_false_iff_eq.2 (by omega)
      clear hs hxe
      go_enter Tryd.func39, Tryd.ntmps39
      go_wp2_with (go_at_call 36; refine (lattice_within.calls 1 wide _ 1 [(x.size : Int)] true _ (C_lit1 _ _ _ _ (by simp)) (Nat.le_refl 1) (by unfold lattice_within.f; rw [List.all_cons, HQ.out]; rfl)).mono ?_; rintro e w' ⟨rfl, hb1⟩; have HB1 := Aside0.mk (below_then (below_alloc (Below.refl _ _) _) (by simp) hb1); clear hb1; have k2' := pw_cell_below HB1.out k2; have hc0' := pw_cell_below HB1.out hc0)
      go_ret
      exact ⟨rfl, HB1.out⟩
    · have hs : isShort wide r0.size x = true := by unfold isShort; rw [beq_eq_false_iff_ne.2 hxe]; simp
      rw [hs]
      have hb1 : (x.size == r0.size) = false := beq_eq_false_iff_ne.2 hxe
      have hb2 : ((x.size : Int) == (r0.size : Int)) = false := beq_eq_false_iff_ne.2 (by omega)
      have hb3 : ((x.size : Int) != (r0.size : Int)) = true := bne_iff_ne.2 (by omega)
      clear hs hxe
      go_enter Tryd.func39, Tryd.ntmps39
      go_wp2_with (go_at_call 36; refine (lattice_within.calls 1 wide _ 1 [(x.size : Int)] true _ (C_lit1 _ _ _ _ (by simp)) (Nat.le_refl 1) (by unfold lattice_within.f; rw [List.all_cons, HQ.out]; rfl)).mono ?_; rintro e w' ⟨rfl, hb1⟩; have HB1 := Aside0.mk (below_then (below_alloc (Below.refl _ _) _) (by simp) hb1); clear hb1; have k2' := pw_cell_below HB1.out k2; have hc0' := pw_cell_below HB1.out hc0)
      go_ret
      exact ⟨rfl, HB1.out⟩

/-- Is a byte of the row not among some? -/
def isOther (among row : ByteArray) : Bool := !(row.data.toList.all fun b => inSet among b.toNat)

theorem cut_other (among row : ByteArray) : ((cutR among (cutL among row)).data.toList = []) ↔ isOther among row = false := by
  unfold cutR cutL isOther
  simp only [Bool.not_eq_false', List.reverse_eq_nil_iff]
  generalize row.data.toList = l
  constructor
  · intro h
    rw [List.all_eq_true]
    intro b hb
    induction l with
    | nil => cases hb
    | cons x l ih =>
      rw [List.dropWhile_cons] at h
      split at h
      · rename_i hx
        rcases List.mem_cons.1 hb with rfl | hb
        · exact hx
        · exact ih h hb
      · rename_i hx
        exfalso
        have hz : ∀ z ∈ (x :: l).reverse, inSet among z.toNat = true := by
          generalize (x :: l).reverse = m at h
          intro z hz
          induction m with
          | nil => cases hz
          | cons y m ih2 =>
            rw [List.dropWhile_cons] at h
            split at h
            · rename_i hy
              rcases List.mem_cons.1 hz with rfl | hz
              · exact hy
              · exact ih2 h hz
            · cases h
        exact hx (hz x (by simp))
  · intro h
    rw [List.all_eq_true] at h
    have : l.dropWhile (fun b => inSet among b.toNat) = [] := by
      induction l with
      | nil => rfl
      | cons x l ih =>
        rw [List.dropWhile_cons, if_pos (h x (by simp))]
        exact ih (fun y hy => h y (by simp [hy]))
    rw [this]
    rfl

theorem cutL_size (among row : ByteArray) : (cutL among row).size ≤ row.size := by
  unfold cutL
  show (List.toArray _).size ≤ _
  rw [List.size_toArray]
  refine Nat.le_trans (List.dropWhile_sublist _).length_le ?_
  rw [Array.length_toList]
  exact Nat.le_refl _

set_option maxHeartbeats 1000000 in
theorem checked2_pred {g1 : Nat} {among : ByteArray} (ha : ascii among) {rows : List ByteArray} {w : World} (h1 : w.cell? ⟨g1, 0, none⟩ = some (.string among)) (hT : Tabs w) (hsz : ∀ r ∈ rows, r.size ≤ 9223372036854775807) :
    PredK 40 #[.pointer (some ⟨g1, 0, none⟩)] Kd.string cell1 rows (isOther among) w := by
  intro x hx W cs hb hK
  have e : cs = [.string x] := hK
  subst e
  have HS := Aside0.mk (hsz x hx)
  have HT := Aside0.mk (hT.below hb)
  have HA := Aside0.mk ha
  have k1 : W.cell? ⟨g1, 0, none⟩ = some (.string among) := pw_cell_below hb h1
  simp only [cell1, List.getD_cons_zero]
  show Calls Tryd.prog 40 #[.string x, .pointer (some ⟨g1, 0, none⟩)] W _
  clear hb h1 hK hx hsz hT ha
  have HO := Aside0.mk (cut_other among x)
  have hbb : (cutR among (cutL among x)).toList.isEmpty = !(isOther among x) := by
    rw [Lib.toList_data]
    cases hq : isOther among x with
    | false => rw [HO.out.2 hq]; rfl
    | true =>
      have : (cutR among (cutL among x)).data.toList ≠ [] := fun e => by rw [HO.out.1 e] at hq; cases hq
      simpa using this
  go_enter Tryd.func40, Tryd.ntmps40
  go_wp2
  go_region_held3 (fun w' => w'.cell? ⟨g1, 0, none⟩ = some (.string among) ∧ Aside0 (Below W.heap.size W w'))
    (first | exact ⟨k1, ⟨below_drew (Below.refl _ _)⟩⟩ | (go_split_ands; exact ⟨pw_cell_below hb1 (by assumption), ⟨later_below (Aside0.out ‹_›) hb1⟩⟩))
    ((first
      | (go_at_call 42; refine (cutLeft_calls x among HA.out _ HS.out).mono ?_; rintro e w1 ⟨rfl, hb1⟩)
      | (go_at_call 41; refine (cutRight_calls (cutL among x) among HA.out _ (Nat.le_trans (cutL_size _ _) HS.out) (HT.out.below ((‹_ ∧ Aside0 (Below W.heap.size W _)› : _ ∧ _).2.out))).mono ?_; rintro e w1 ⟨rfl, hb1⟩)))
  rename_i hh
  obtain ⟨hh1, hh2⟩ := hh
  clear hb1
  go_wp2
  go_ret
  exact ⟨by simp, hh2.out⟩

/-- The error of rows. -/
def checkedF (rows : List ByteArray) (high wide : Int) (among : ByteArray) : Int :=
  if (decide (1 ≤ (rows.length : Int)) && decide ((rows.length : Int) ≤ high)) = false then 4
  else if rows.any (isShort wide (rows.getD 0 ByteArray.empty).size) = true then 4
  else if rows.any (isOther among) = true then 2 else 0

set_option maxHeartbeats 1000000 in
set_option maxRecDepth 100000 in
theorem checked_calls (A : Option Addr) (c : Nat) (rows : List ByteArray) (high wide : Int) (among : ByteArray) (ha : ascii among) (hw : wide ≤ 9223372036854775807) (w : World) (hr : Kd.C Kd.string w A rows.length rows) (hT : Tabs w) :
    Calls Tryd.prog 35 #[.slice A rows.length c, .int .i64 high, .int .i64 wide, .string among] w fun e w' => e = .returned (.int .i64 (checkedF rows high wide among)) ∧ Below w.heap.size w w' := by
  have HR := Aside0.mk hr
  have HT := Aside0.mk hT
  have HA := Aside0.mk ha
  have HW := Aside0.mk hw
  obtain ⟨r, hres⟩ : ∃ r, checkedF rows high wide among = r := ⟨_, rfl⟩
  rw [hres]
  have HRES := Aside0.mk hres
  clear hr hT ha hw hres
  cases hq : (decide (1 ≤ (rows.length : Int)) && decide ((rows.length : Int) ≤ high)) with
  | false =>
    have HQ := Aside0.mk hq
    obtain rfl : r = 4 := by rw [← HRES.out]; unfold checkedF; rw [if_pos hq]
    clear hq
    go_enter Tryd.func35, Tryd.ntmps35
    go_wp2_with (go_at_call 36; refine (lattice_within.calls 1 high _ 1 [(rows.length : Int)] false _ (C_lit1 _ _ _ _ (by simp)) (Nat.le_refl 1) (by unfold lattice_within.f; rw [List.all_cons, HQ.out]; rfl)).mono ?_; rintro e w' ⟨rfl, hb1⟩; have HB1 := Aside0.mk (below_then (below_alloc (below_alloc (below_alloc (below_alloc (Below.refl _ _) _) _) _) _) (by simp; omega) hb1); clear hb1)
    go_ret
    exact ⟨rfl, HB1.out⟩
  | true =>
    have HQ := Aside0.mk hq
    clear hq
    cases hs : rows.any (isShort wide (rows.getD 0 ByteArray.empty).size) with
    | true =>
      have HS := Aside0.mk hs
      obtain rfl : r = 4 := by rw [← HRES.out]; unfold checkedF; rw [if_neg (by rw [HQ.out]; decide), if_pos hs]
      clear hs
      go_enter Tryd.func35, Tryd.ntmps35
      go_wp2_with fail
      refine (lattice_within.calls 1 high _ 1 [(rows.length : Int)] true _ (C_lit1 _ _ _ _ (by simp)) (Nat.le_refl 1) (by unfold lattice_within.f; rw [List.all_cons, HQ.out]; rfl)).mono ?_
      rintro e w1 ⟨rfl, hb1⟩
      have k1 : w1.cell? ⟨w.heap.size, 0, none⟩ = some (.slice A rows.length c) := pw_cell_below hb1 (keep_cell _ (keep_cell _ (keep_cell _ (box_cell _ _ _ rfl))))
      have k2 : w1.cell? ⟨w.heap.size + 1, 0, none⟩ = some (.int .i64 wide) := pw_cell_below hb1 (keep_cell _ (keep_cell _ (box_cell _ _ _ (by simp))))
      have k3 : w1.cell? ⟨w.heap.size + 1 + 1, 0, none⟩ = some (.string among) := pw_cell_below hb1 (keep_cell _ (box_cell _ _ _ (by simp)))
      have HB1 := Aside0.mk (below_then (below_alloc (below_alloc (below_alloc (below_alloc (Below.refl _ _) _) _) _) _) (by simp; omega) hb1)
      clear hb1
      go_wp2_with fail
      refine (contains_str enters_checked1 (Kd.C_below HR.out HB1.out) (checked1_pred k2 k1 (Kd.C_below HR.out HB1.out))).mono ?_
      rintro e w2 ⟨rfl, hb2⟩
      rw [HS.out]
      have HB2 := Aside0.mk (later_below HB1.out hb2)
      clear hb2
      go_wp2
      go_ret
      exact ⟨rfl, HB2.out⟩
    | false =>
      have HS := Aside0.mk hs
      have HZ : Aside0 (∀ x ∈ rows, x.size ≤ 9223372036854775807) := ⟨fun x hx => by
        rw [List.any_eq_false] at hs
        have h1 := hs x hx
        unfold isShort at h1
        simp at h1
        have := HW.out
        omega⟩
      clear hs
      have hr3 : r = if rows.any (isOther among) = true then 2 else 0 := by rw [← HRES.out]; unfold checkedF; rw [if_neg (by rw [HQ.out]; decide), if_neg (by rw [HS.out]; decide)]
      cases ho : rows.any (isOther among) with
      | true =>
        have HO := Aside0.mk ho
        obtain rfl : r = 2 := by rw [hr3, if_pos ho]
        clear ho hr3
        go_enter Tryd.func35, Tryd.ntmps35
        go_wp2_with fail
        refine (lattice_within.calls 1 high _ 1 [(rows.length : Int)] true _ (C_lit1 _ _ _ _ (by simp)) (Nat.le_refl 1) (by unfold lattice_within.f; rw [List.all_cons, HQ.out]; rfl)).mono ?_
        rintro e w1 ⟨rfl, hb1⟩
        have k1 : w1.cell? ⟨w.heap.size, 0, none⟩ = some (.slice A rows.length c) := pw_cell_below hb1 (keep_cell _ (keep_cell _ (keep_cell _ (box_cell _ _ _ rfl))))
        have k2 : w1.cell? ⟨w.heap.size + 1, 0, none⟩ = some (.int .i64 wide) := pw_cell_below hb1 (keep_cell _ (keep_cell _ (box_cell _ _ _ (by simp))))
        have k3 : w1.cell? ⟨w.heap.size + 1 + 1, 0, none⟩ = some (.string among) := pw_cell_below hb1 (keep_cell _ (box_cell _ _ _ (by simp)))
        have HB1 := Aside0.mk (below_then (below_alloc (below_alloc (below_alloc (below_alloc (Below.refl _ _) _) _) _) _) (by simp; omega) hb1)
        clear hb1
        go_wp2_with fail
        refine (contains_str enters_checked1 (Kd.C_below HR.out HB1.out) (checked1_pred k2 k1 (Kd.C_below HR.out HB1.out))).mono ?_
        rintro e w2 ⟨rfl, hb2⟩
        rw [HS.out]
        have HB2 := Aside0.mk (later_below HB1.out hb2)
        have k1' := pw_cell_below hb2 k1
        have k3' := pw_cell_below hb2 k3
        clear hb2 k1 k2 k3
        go_wp2_with fail
        refine (contains_str enters_checked2 (Kd.C_below HR.out HB2.out) (checked2_pred HA.out k3' (HT.out.below HB2.out) HZ.out)).mono ?_
        rintro e w3 ⟨rfl, hb3⟩
        rw [HO.out]
        have HB3 := Aside0.mk (later_below HB2.out hb3)
        clear hb3
        go_wp2
        go_ret
        exact ⟨rfl, HB3.out⟩
      | false =>
        have HO := Aside0.mk ho
        obtain rfl : r = 0 := by rw [hr3, if_neg (by rw [ho]; decide)]
        clear ho hr3
        go_enter Tryd.func35, Tryd.ntmps35
        go_wp2_with fail
        refine (lattice_within.calls 1 high _ 1 [(rows.length : Int)] true _ (C_lit1 _ _ _ _ (by simp)) (Nat.le_refl 1) (by unfold lattice_within.f; rw [List.all_cons, HQ.out]; rfl)).mono ?_
        rintro e w1 ⟨rfl, hb1⟩
        have k1 : w1.cell? ⟨w.heap.size, 0, none⟩ = some (.slice A rows.length c) := pw_cell_below hb1 (keep_cell _ (keep_cell _ (keep_cell _ (box_cell _ _ _ rfl))))
        have k2 : w1.cell? ⟨w.heap.size + 1, 0, none⟩ = some (.int .i64 wide) := pw_cell_below hb1 (keep_cell _ (keep_cell _ (box_cell _ _ _ (by simp))))
        have k3 : w1.cell? ⟨w.heap.size + 1 + 1, 0, none⟩ = some (.string among) := pw_cell_below hb1 (keep_cell _ (box_cell _ _ _ (by simp)))
        have HB1 := Aside0.mk (below_then (below_alloc (below_alloc (below_alloc (below_alloc (Below.refl _ _) _) _) _) _) (by simp; omega) hb1)
        clear hb1
        go_wp2_with fail
        refine (contains_str enters_checked1 (Kd.C_below HR.out HB1.out) (checked1_pred k2 k1 (Kd.C_below HR.out HB1.out))).mono ?_
        rintro e w2 ⟨rfl, hb2⟩
        rw [HS.out]
        have HB2 := Aside0.mk (later_below HB1.out hb2)
        have k1' := pw_cell_below hb2 k1
        have k3' := pw_cell_below hb2 k3
        clear hb2 k1 k2 k3
        go_wp2_with fail
        refine (contains_str enters_checked2 (Kd.C_below HR.out HB2.out) (checked2_pred HA.out k3' (HT.out.below HB2.out) HZ.out)).mono ?_
        rintro e w3 ⟨rfl, hb3⟩
        rw [HO.out]
        have HB3 := Aside0.mk (later_below HB2.out hb3)
        clear hb3
        go_wp2
        go_ret
        exact ⟨rfl, HB3.out⟩

theorem ascii_colours : ascii ⟨#[48, 49, 50, 51]⟩ := by intro d hd; simp at hd; rcases hd with rfl | rfl | rfl | rfl <;> decide
theorem ascii_signs : ascii ⟨#[46, 35]⟩ := by intro d hd; simp at hd; rcases hd with rfl | rfl <;> decide
theorem ascii_seen : ascii ⟨#[48, 49, 50, 51, 63]⟩ := by intro d hd; simp at hd; rcases hd with rfl | rfl | rfl | rfl | rfl <;> decide

/-- Check. -/
def lattice_Check.f (l0 : List ByteArray) : Option Int := some (checkedF l0 8 8 ⟨#[48, 49, 50, 51]⟩)
theorem lattice_Check.calls (A0 : Option Addr) (c0 : Nat) (l0 : List ByteArray) (r : Int) (w : World) (hr0 : Kd.C Kd.string w A0 l0.length l0) (_hc0 : l0.length ≤ c0) (h : lattice_Check.f l0 = some r) (hT : Tabs w) :
    Calls Tryd.prog 22 #[.slice A0 l0.length c0] w fun e w' => e = .returned (.int .i64 r) ∧ Below w.heap.size w w' := by
  obtain rfl := Option.some.inj h
  have HR := Aside0.mk hr0
  have HT := Aside0.mk hT
  clear hr0 hT h
  go_enter Tryd.func22, Tryd.ntmps22
  go_wp2_with (go_at_call 35; refine (checked_calls A0 c0 l0 8 8 _ ascii_colours (by decide) _ HR.out HT.out).mono ?_; rintro e w' ⟨rfl, hb⟩)
  go_ret
  exact ⟨rfl, hb⟩
/-- Bars. -/
def lattice_Bars.f (l0 : List ByteArray) : Option Int := some (checkedF l0 4 4 ⟨#[46, 35]⟩)
theorem lattice_Bars.calls (A0 : Option Addr) (c0 : Nat) (l0 : List ByteArray) (r : Int) (w : World) (hr0 : Kd.C Kd.string w A0 l0.length l0) (_hc0 : l0.length ≤ c0) (h : lattice_Bars.f l0 = some r) (hT : Tabs w) :
    Calls Tryd.prog 24 #[.slice A0 l0.length c0] w fun e w' => e = .returned (.int .i64 r) ∧ Below w.heap.size w w' := by
  obtain rfl := Option.some.inj h
  have HR := Aside0.mk hr0
  have HT := Aside0.mk hT
  clear hr0 hT h
  go_enter Tryd.func24, Tryd.ntmps24
  go_wp2_with (go_at_call 35; refine (checked_calls A0 c0 l0 4 4 _ ascii_signs (by decide) _ HR.out HT.out).mono ?_; rintro e w' ⟨rfl, hb⟩)
  go_ret
  exact ⟨rfl, hb⟩
end Go.Proofs.YtmkhlgdgndnkbaaDoor.X
