/- Package lattice: first; Show. -/
import Derived.Test.YtmkhlgdgndnkbaaDoorLatE
namespace Go.Proofs.YtmkhlgdgndnkbaaDoor.X
open Go.RowKit Go.Proofs.YtmkhlgdgndnkbaaDoorW.PrintWords Go.Proofs.YtmkhlgdgndnkbaaDoorW.PrintLast Go.Proofs.YtmkhlgdgndnkbaaDoorW.PrintMore Go.Proofs.YtmkhlgdgndnkbaaDoor.PLat

/-- The first number of some that is not 0. -/
def firstErr (es : Nat → Int) : Nat → Int
  | 0 => 0
  | n + 1 => if firstErr es n = 0 then es n else firstErr es n
theorem firstErr_zero (es : Nat → Int) (n : Nat) (h : ∀ j, j < n → es j = 0) : firstErr es n = 0 := by
  induction n with
  | zero => rfl
  | succ n ih =>
    unfold firstErr
    rw [if_pos (ih fun j hj => h j (by omega))]
    exact h n (by omega)
theorem firstErr_hit (es : Nat → Int) (n k : Nat) (hk : k < n) (h : ∀ j, j < k → es j = 0) (hne : es k ≠ 0) : firstErr es n = es k := by
  induction n with
  | zero => omega
  | succ n ih =>
    unfold firstErr
    by_cases e : k = n
    · subst e
      rw [if_pos (firstErr_zero es k h)]
    · rw [ih (by omega), if_neg hne]

set_option maxHeartbeats 2000000 in
theorem first_calls (n c : Nat) (fs : Nat → FuncId) (caps : Nat → Array Value) (es : Nat → Int) (ad : Addr) (w : World) (hn : n ≤ 1000)
    (hcell : ∀ i, i < n → w.cell? (ad.add i) = some (.func (.func (fs i)) #[] (caps i)))
    (hent : ∀ i, i < n → ∀ args w, (callFunc (fs i) args).run Tryd.prog w = .ok (.enter (fs i) args) w)
    (hth : ∀ i, i < n → (∀ j, j < i → es j = 0) → ∀ W, Below w.heap.size w W → Calls Tryd.prog (fs i) (caps i) W fun e W' => e = .returned (.int .i64 (es i)) ∧ Below W.heap.size W W') :
    Calls Tryd.prog 20 #[.slice (some ad) n c] w fun e w' => e = .returned (.int .i64 (firstErr es n)) ∧ Below w.heap.size w w' := by
  have HC := Aside0.mk hcell
  have HE := Aside0.mk hent
  have HT := Aside0.mk hth
  clear hcell hent hth
  go_enter Tryd.func20, Tryd.ntmps20
  go_wp2
  go_loopg [8] n (fun gg v8 wr => ∃ k : Nat, k ≤ n ∧ n - k ≤ gg ∧ v8 = .int .i64 k ∧ Aside0 (Below w.heap.size w wr) ∧ Aside0 (∀ j, j < k → es j = 0))
  case atStart => exact ⟨0, Nat.zero_le _, by omega, rfl, ⟨Below.refl _ _⟩, ⟨fun j h => absurd h (Nat.not_lt_zero _)⟩⟩
  case round =>
    obtain ⟨k, hk, hg, rfl, HB, HZ⟩ := hrel
    by_cases hlt : k < n
    · have hlti : (k : Int) < (n : Int) := by omega
      have hc0 := pw_cell_below HB.out (HC.out k hlt)
      have heg := HE.out k hlt
      have hcall := HT.out k hlt HZ.out wr HB.out
      have HF : Aside0 (es k = es k) := ⟨rfl⟩
      obtain ⟨g, hgg⟩ : ∃ g, fs k = g := ⟨_, rfl⟩
      obtain ⟨cp, hcp⟩ : ∃ cp, caps k = cp := ⟨_, rfl⟩
      obtain ⟨ev, hev⟩ : ∃ ev, es k = ev := ⟨_, rfl⟩
      rw [hgg, hcp] at hc0 hcall
      rw [hgg] at heg
      rw [hev] at hcall
      have HEV := Aside0.mk hev
      have HCC := Aside0.mk hcall
      clear hgg hcp hev hcall HF
      by_cases hz : ev = 0
      · subst hz
        go_wp2_with (go_at_fn g; refine HCC.out.mono ?_; rintro e w1 ⟨rfl, hb1⟩)
        go_roundg (n - (k + 1))
        case measure => omega
        case rel =>
          refine ⟨k + 1, by omega, by omega, by go_num, ⟨later_below HB.out hb1⟩, ⟨fun j hj => ?_⟩⟩
          by_cases e : j = k
          · subst e; exact HEV.out
          · exact HZ.out j (by omega)
      · have hz1 : (ev == 0) = false := beq_eq_false_iff_ne.2 hz
        have hz2 : (ev != 0) = true := bne_iff_ne.2 hz
        have HH := Aside0.mk (firstErr_hit es n k hlt HZ.out (by rw [HEV.out]; exact hz))
        clear hz
        go_wp2_with (go_at_fn g; refine HCC.out.mono ?_; rintro e w1 ⟨rfl, hb1⟩)
        go_ret
        refine ⟨?_, later_below HB.out hb1⟩
        rw [HH.out, HEV.out]
        rfl
    · have hlti : ¬ (k : Int) < (n : Int) := by omega
      obtain rfl : k = n := by omega
      have HH := Aside0.mk (firstErr_zero es k HZ.out)
      go_wp2
      go_ret
      refine ⟨?_, HB.out⟩
      rw [HH.out]
      rfl

/-! ### Lattices, pictures -/
/-- What checked asks of rows, met. -/
structure Rows (rows : List ByteArray) (high wide : Nat) (among : ByteArray) (n0 : Nat) : Prop where
  len1 : 1 ≤ rows.length
  len2 : rows.length ≤ high
  w1 : 1 ≤ n0
  w2 : n0 ≤ wide
  size : ∀ y, y < rows.length → (rows.getD y ByteArray.empty).size = n0
  among : ∀ r ∈ rows, ∀ b ∈ r.data.toList, inSet among b.toNat = true
theorem rows_of {rows : List ByteArray} {high wide : Nat} {among : ByteArray} (h : checkedF rows high wide among = 0) : Rows rows high wide among (rows.getD 0 ByteArray.empty).size := by
  unfold checkedF at h
  split at h
  · omega
  · rename_i h1
    split at h
    · omega
    · rename_i h2
      split at h
      · omega
      · rename_i h3
        simp only [Bool.not_eq_false, Bool.and_eq_true, decide_eq_true_eq] at h1
        have hs : ∀ y, y < rows.length → isShort wide (rows.getD 0 ByteArray.empty).size (rows.getD y ByteArray.empty) = false := by
          intro y hy
          cases hq : isShort (wide : Int) (rows.getD 0 ByteArray.empty).size (rows.getD y ByteArray.empty) with
          | false => rfl
          | true => exact absurd (List.any_eq_true.2 ⟨_, getD_mem rfl hy, hq⟩) h2
        have hs2 : ∀ y, y < rows.length → 1 ≤ (rows.getD y ByteArray.empty).size ∧ (rows.getD y ByteArray.empty).size ≤ wide ∧ (rows.getD y ByteArray.empty).size = (rows.getD 0 ByteArray.empty).size := by
          intro y hy
          have := hs y hy
          unfold isShort at this
          simp only [Bool.or_eq_false_iff, Bool.not_eq_false', Bool.and_eq_true, decide_eq_true_eq, beq_iff_eq] at this
          omega
        refine ⟨by omega, by omega, (hs2 0 (by omega)).1, (hs2 0 (by omega)).2.1, fun y hy => (hs2 y hy).2.2, fun r hr b hb => ?_⟩
        cases hq : isOther among r with
        | true => exact absurd (List.any_eq_true.2 ⟨r, hr, hq⟩) h3
        | false =>
          unfold isOther at hq
          simp only [Bool.not_eq_false', List.all_eq_true] at hq
          exact hq b hb
theorem of_rows {rows : List ByteArray} {high wide : Nat} {among : ByteArray} {n0 : Nat} (h : Rows rows high wide among n0) : checkedF rows high wide among = 0 := by
  have h0 : (rows.getD 0 ByteArray.empty).size = n0 := h.size 0 (by have := h.len1; omega)
  unfold checkedF
  rw [if_neg, if_neg, if_neg]
  · rw [List.any_eq_true]
    rintro ⟨r, hr, hq⟩
    unfold isOther at hq
    simp only [Bool.not_eq_true', List.all_eq_false] at hq
    obtain ⟨b, hb, hq⟩ := hq
    exact hq (h.among r hr b hb)
  · rw [List.any_eq_true]
    rintro ⟨r, hr, hq⟩
    obtain ⟨y, hy, rfl⟩ := List.mem_iff_getElem.1 hr
    have hz := h.size y hy
    rw [List.getD_eq_getElem?_getD, List.getElem?_eq_getElem hy] at hz
    simp only [Option.getD_some] at hz
    unfold isShort at hq
    rw [h0, hz] at hq
    have := h.w1
    have := h.w2
    simp at hq
    omega
  · have := h.len1
    have := h.len2
    simp
    omega

theorem wrap_id {a : Int} (h1 : -1000000000000 ≤ a) (h2 : a ≤ 1000000000000) : wrap64 a = a := by unfold wrap64; omega
/-- A cell is open: the lattice has a gap there. -/
def openB (l : List ByteArray) (sx sy : Int) (x y : Nat) : Bool :=
  let row := l.getD ((((y : Int) + l.length - sy) % l.length).toNat) ByteArray.empty
  bt row (((x : Int) + row.size - sx) % row.size) == 46
theorem mod_part {x n s : Int} (hn : 0 < n) (hn2 : n ≤ 1000) (h0 : 0 ≤ s) (h1 : s < n) (hx : 0 ≤ x) (hx2 : x ≤ 1000) :
    ∃ i, (x + n - s) % n = i ∧ Int.tmod (wrap64 (wrap64 (x + n) - s)) n = i ∧ 0 ≤ i ∧ i < n := by
  refine ⟨_, rfl, ?_, Int.emod_nonneg _ (by omega), Int.emod_lt_of_pos _ hn⟩
  rw [wrap_id (a := x + n) (by omega) (by omega), wrap_id (a := x + n - s) (by omega) (by omega)]
  exact Int.tmod_eq_emod_of_nonneg (by omega)
theorem open_f {l : List ByteArray} {among : ByteArray} {n0 : Nat} (h : Rows l 4 4 among n0) {sx sy : Int} (hx0 : 0 ≤ sx) (hx1 : sx < n0) (hy0 : 0 ≤ sy) (hy1 : sy < l.length) {x y : Nat} (hx : x ≤ 1000) (hy : y ≤ 1000) :
    lattice_grid_open.f l sx sy (x : Int) (y : Int) = some (openB l sx sy x y) := by
  have h1 := h.len1
  have h2 := h.len2
  have h3 := h.w1
  have h4 := h.w2
  obtain ⟨iy, e1, e2, e3, e4⟩ := mod_part (x := (y : Int)) (n := (l.length : Int)) (s := sy) (by omega) (by omega) hy0 hy1 (by omega) (by omega)
  have hsz := h.size iy.toNat (by omega)
  obtain ⟨ix, g1, g2, g3, g4⟩ := mod_part (x := (x : Int)) (n := ((l.getD iy.toNat ByteArray.empty).size : Int)) (s := sx) (by omega) (by omega) hx0 (by omega) (by omega) (by omega)
  have hl0 : ¬ (l.length : Int) = 0 := by omega
  have hr0 : ¬ ((l.getD iy.toNat ByteArray.empty).size : Int) = 0 := by omega
  have er : rdOf ByteArray.empty l iy = l.getD iy.toNat ByteArray.empty := rfl
  unfold lattice_grid_open.f openB
  rw [if_neg hl0, e2, if_pos e3, if_pos e4, er, if_neg hr0, g2, if_pos g3, if_pos g4]
  simp only [e1, g1]

/-- A shift of a lattice. -/
def shiftB (l : List ByteArray) (sx sy : Int) : Bool := (decide (0 ≤ sx) && decide (sx < (l.getD 0 ByteArray.empty).size)) && (decide (0 ≤ sy) && decide (sy < l.length))
theorem isShift_f {l : List ByteArray} {among : ByteArray} {n0 : Nat} (h : Rows l 4 4 among n0) (sx sy : Int) : lattice_grid_isShift.f l sx sy = some (shiftB l sx sy) := by
  have h1 := h.len1
  have h2 := h.len2
  have h4 := h.w2
  have h0 : (l.getD 0 ByteArray.empty).size = n0 := h.size 0 (by omega)
  have er : rdOf ByteArray.empty l 0 = l.getD 0 ByteArray.empty := rfl
  have e1 : wrap64 ((n0 : Int) - 1) = (n0 : Int) - 1 := by unfold wrap64; omega
  have e2 : wrap64 ((l.length : Int) - 1) = (l.length : Int) - 1 := by unfold wrap64; omega
  unfold lattice_grid_isShift.f lattice_within.f shiftB
  rw [er, h0, e1, e2]
  rw [if_pos (by omega)]
  simp only [Option.bind_some, List.all_cons, List.all_nil, Bool.and_true]
  have a1 : decide (sx ≤ (n0 : Int) - 1) = decide (sx < (n0 : Int)) := by rw [decide_eq_decide]; omega
  have a2 : decide (sy ≤ (l.length : Int) - 1) = decide (sy < (l.length : Int)) := by rw [decide_eq_decide]; omega
  rw [a1, a2]
  cases (decide (0 ≤ sx) && decide (sx < (n0 : Int))) <;> simp
end Go.Proofs.YtmkhlgdgndnkbaaDoor.X
