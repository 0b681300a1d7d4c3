/- Package lattice: what is seen of a picture (grid.show). -/
import Derived.Test.YtmkhlgdgndnkbaaDoorLatD
import Derived.Test.YtmkhlgdgndnkbaaDoorPLatx
namespace Go.Proofs.YtmkhlgdgndnkbaaDoor.X
open Go.RowKit Go.Proofs.YtmkhlgdgndnkbaaDoorW.PrintWords Go.Proofs.YtmkhlgdgndnkbaaDoorW.PrintLast Go.Proofs.YtmkhlgdgndnkbaaDoorW.PrintMore Go.Proofs.YtmkhlgdgndnkbaaDoor.PLat

/-! ### A block of bytes that a conversion made -/
def BB (w : World) (g : Nat) (l : List UInt8) : Prop :=
  ∃ cells fr, w.heap[g]? = some (.cells cells 5 fr) ∧ (∀ j, j < l.length → cells[j]? = some (.int .u8 (l.getD j 0).toNat)) ∧ l.length ≤ fr.1
theorem BB.cell {w : World} {g : Nat} {l : List UInt8} (h : BB w g l) {j : Nat} (hj : j < l.length) : w.cell? ⟨g, j, none⟩ = some (.int .u8 (l.getD j 0).toNat) := by
  obtain ⟨cells, fr, hb, hc, _⟩ := h
  have := cell_of_row w g j cells _ fr hb
  rw [this, hc j hj]
theorem BB.free {w : World} {g : Nat} {l : List UInt8} (h : BB w g l) {j : Nat} (hj : j < l.length) : w.frozen? ⟨g, j, none⟩ = false := by
  obtain ⟨cells, fr, hb, _, hf⟩ := h
  simp only [World.frozen?, hb]
  simp
  omega
theorem BB.below {w w1 : World} {g : Nat} {l : List UInt8} (h : BB w g l) (hb : Below w.heap.size w w1) : BB w1 g l := by
  obtain ⟨cells, fr, hb0, hc, hf⟩ := h
  exact ⟨cells, fr, (hb.block g (Array.getElem?_eq_some_iff.1 hb0).1).trans hb0, hc, hf⟩
theorem BB.lt {w : World} {g : Nat} {l : List UInt8} (h : BB w g l) : g < w.heap.size := by
  obtain ⟨cells, fr, hb0, _⟩ := h
  exact (Array.getElem?_eq_some_iff.1 hb0).1
theorem BB.new (W : World) (s : ByteArray) : BB (Lib.bytesWorld W 5 s) W.heap.size s.data.toList := by
  have hl : s.data.toList.length = s.size := by rw [Array.length_toList]; rfl
  refine ⟨_, _, Lib.bytesWorld_at_new W 5 s, fun j hj => ?_, ?_⟩
  · have h1 := Lib.bytesWorld_cell W 5 s j (by omega)
    rw [cell_of_row _ _ _ _ _ _ (Lib.bytesWorld_at_new W 5 s)] at h1
    exact h1
  · show s.data.toList.length ≤ (Lib.bytesCells W 5 s).size
    have h1 : ∀ j, j < s.data.toList.length → j < (Lib.bytesCells W 5 s).size := fun j hj => by
      have h1 := Lib.bytesWorld_cell W 5 s j (by omega)
      rw [cell_of_row _ _ _ _ _ _ (Lib.bytesWorld_at_new W 5 s)] at h1
      exact (Array.getElem?_eq_some_iff.1 h1).1
    rcases Nat.eq_zero_or_pos s.data.toList.length with h0 | h0
    · omega
    · have := h1 (s.data.toList.length - 1) (by omega)
      omega
theorem BB.set {w : World} {g : Nat} {l : List UInt8} (h : BB w g l) (j : Nat) (x : UInt8) : BB (w.setCell ⟨g, j, none⟩ (.int .u8 x.toNat)) g (l.set j x) := by
  obtain ⟨cells, fr, hb, hc, hf⟩ := h
  refine ⟨cells.setIfInBounds j (.int .u8 x.toNat), fr, ?_, fun i hi => ?_, by rw [List.length_set]; exact hf⟩
  · have hlt := (Array.getElem?_eq_some_iff.1 hb).1
    simp [World.setCell, Array.getElem?_modify, hb]
  · rw [List.length_set] at hi
    have h1 := hc i hi
    have hlt := (Array.getElem?_eq_some_iff.1 h1).1
    by_cases e : i = j
    · subst e
      simp [hlt, List.getD_eq_getElem?_getD, hi]
    · rw [Array.getElem?_setIfInBounds_ne (Ne.symm e), h1]
      simp [List.getD_eq_getElem?_getD, List.getElem?_set_ne (Ne.symm e)]
theorem BB.string {w : World} {g c : Nat} {l : List UInt8} {src dst : TypeId} (hs : Tryd.prog.underlying src = some (.slice 5)) (hd : Tryd.prog.underlying dst = some .string) (h : BB w g l) :
    (convert src dst (.slice (some ⟨g, 0, none⟩) l.length c)).run Tryd.prog w = .ok (.string ⟨l.toArray⟩) w := by
  have hx : (l.map fun b => (b.toNat : Int)).length = l.length := List.length_map _
  have h1 := run_convert_bytes_arg (P := Tryd.prog) w src 5 hs Tryd.underlying5 g 0 l.length c (l.map fun b => (b.toNat : Int)) hx (fun i hi => by
    rw [Nat.zero_add, h.cell hi]
    simp [List.getD_eq_getElem?_getD, List.getElem?_eq_getElem hi]) dst hd
  have h2 : strOfNums (l.map fun b => (b.toNat : Int)) = ⟨l.toArray⟩ := by
    unfold strOfNums
    have : (l.map fun b => (b.toNat : Int)).map (fun n => UInt8.ofNat n.toNat) = l := by
      rw [List.map_map]
      conv => rhs; rw [← List.map_id l]
      apply List.map_congr_left
      intro b _
      simp
    rw [this]
  rw [h2] at h1
  exact h1

/-! ### What is seen -/
def showL (op : Nat → Bool) (l : List UInt8) : List UInt8 := l.mapIdx fun x b => if op x then b else 63
def partL (op : Nat → Bool) (l : List UInt8) (k : Nat) : List UInt8 := l.mapIdx fun x b => if x < k ∧ op x = false then 63 else b
theorem partL_zero (op : Nat → Bool) (l : List UInt8) : partL op l 0 = l := by
  unfold partL
  apply List.ext_getElem (by simp)
  intro i h1 h2
  simp
theorem partL_length (op : Nat → Bool) (l : List UInt8) (k : Nat) : (partL op l k).length = l.length := by unfold partL; simp
theorem partL_end (op : Nat → Bool) (l : List UInt8) : partL op l l.length = showL op l := by
  unfold partL showL
  apply List.ext_getElem (by simp)
  intro i h1 h2
  simp at h1
  simp only [List.getElem_mapIdx]
  cases op i <;> simp [h1]
theorem partL_open (op : Nat → Bool) (l : List UInt8) (k : Nat) (h : op k = true) : partL op l (k + 1) = partL op l k := by
  unfold partL
  apply List.ext_getElem (by simp)
  intro i h1 h2
  simp only [List.getElem_mapIdx]
  by_cases e : i = k
  · subst e; simp [h]
  · simp only [show (i < k + 1) = (i < k) from propext (by omega)]
theorem partL_shut (op : Nat → Bool) (l : List UInt8) (k : Nat) (hk : k < l.length) (h : op k = false) : partL op l (k + 1) = (partL op l k).set k 63 := by
  unfold partL
  apply List.ext_getElem (by simp)
  intro i h1 h2
  simp only [List.getElem_mapIdx, List.getElem_set]
  by_cases e : i = k
  · subst e; simp [h]
  · rw [if_neg (Ne.symm e)]
    simp only [show (i < k + 1) = (i < k) from propext (by omega)]
/-- The rows as they are seen, op telling which cells are open (column, row). -/
def showRows (op : Nat → Nat → Bool) (p : List ByteArray) : List ByteArray := p.mapIdx fun y row => ⟨(showL (fun x => op x y) row.data.toList).toArray⟩
theorem showRows_length (op : Nat → Nat → Bool) (p : List ByteArray) : (showRows op p).length = p.length := by unfold showRows; simp
theorem showRows_take (op : Nat → Nat → Bool) (p : List ByteArray) (k : Nat) (h : k < p.length) : (showRows op p).take (k + 1) = (showRows op p).take k ++ [⟨(showL (fun x => op x k) (p.getD k ByteArray.empty).data.toList).toArray⟩] := by
  have h2 : k < (showRows op p).length := by rw [showRows_length]; exact h
  have e : (showRows op p)[k]'h2 = ⟨(showL (fun x => op x k) (p.getD k ByteArray.empty).data.toList).toArray⟩ := by
    have : p.getD k ByteArray.empty = p[k] := by simp [List.getD_eq_getElem?_getD, List.getElem?_eq_getElem h]
    rw [this]
    simp only [showRows, List.getElem_mapIdx]
  rw [List.take_succ_eq_append_getElem h2, e]

theorem info9' : (Tryd.prog.info? 9).map (fun i => (i.zero, i.size, i.bytes)) = some (some (.string ⟨#[]⟩), 1, 16) := by kernel_rfl

set_option maxHeartbeats 4000000 in
set_option maxRecDepth 100000 in
theorem show_calls (A0 : Option Addr) (c0 : Nat) (l0 : List ByteArray) (A1 : Option Addr) (c1 : Nat) (p : List ByteArray) (sx sy : Int) (op : Nat → Nat → Bool) (w : World)
    (hr0 : Kd.C Kd.string w A0 l0.length l0) (hc0 : l0.length ≤ c0) (hr1 : Kd.C Kd.string w A1 p.length p) (hc1 : p.length ≤ c1) (hn : p.length ≤ 1000000) (hsz : ∀ y, y < p.length → (p.getD y ByteArray.empty).size ≤ 1000000)
    (hop : ∀ y, y < p.length → ∀ x, x < (p.getD y ByteArray.empty).size → lattice_grid_open.f l0 sx sy (x : Int) (y : Int) = some (op x y)) :
    Calls Tryd.prog 28 #[.slice A0 l0.length c0, .slice A1 p.length c1, .agg #[.int .i64 sx, .int .i64 sy]] w fun e w' => ∃ v, e = .returned v ∧ Kd.R Kd.string 9 w' w.heap.size (fun _ => True) v (showRows op p) ∧ Below w.heap.size w w' := by
  have HR0 := Aside0.mk hr0
  have HC0 := Aside0.mk hc0
  have HR1 := Aside0.mk hr1
  have HSZ := Aside0.mk hsz
  have HOP := Aside0.mk hop
  have HN := Aside0.mk hn
  obtain ⟨n, hnl⟩ : ∃ n, p.length = n := ⟨_, rfl⟩
  have HNL := Aside0.mk hnl
  rw [hnl] at hn HR1 hc1 ⊢
  clear hr0 hr1 hsz hop hnl hc0
  go_enter Tryd.func28, Tryd.ntmps28
  go_wp2
  go_loopg [6, 13] n (fun gg v6 v13 wr => ∃ k : Nat, k ≤ n ∧ n - k ≤ gg ∧ v13 = .int .i64 k ∧ Aside0 (Kd.R Kd.string 9 wr w.heap.size (fun _ => True) v6 ((showRows op p).take k)) ∧ Aside0 (Below w.heap.size w wr) ∧ Aside0 (wr.heap[w.heap.size]? = some (.cells #[.int .i64 sx, .int .i64 sy] 52 (0, 0))))
  case atStart => exact ⟨0, Nat.zero_le _, by omega, rfl, ⟨by rw [List.take_zero]; exact Kd.R_nil _ _ _ _ _⟩, ⟨below_alloc (Below.refl _ _) _⟩, ⟨blk_new w _⟩⟩
  case round =>
    obtain ⟨k, hk, hg, rfl, HO, HB, HK⟩ := hrel
    by_cases hlt : k < n
    · have hlti : (k : Int) < (n : Int) := by omega
      obtain ⟨ad, rfl, hcell⟩ := Kd.at_string (Kd.C_below HR1.out HB.out) (k : Int) (by omega) hlti
      rw [Int.toNat_natCast] at hcell
      have e0 : rdOf ByteArray.empty p (k : Int) = p.getD k ByteArray.empty := by unfold rdOf; rw [Int.toNat_natCast]
      rw [e0] at hcell
      have HSK := Aside0.mk (HSZ.out k (by rw [HNL.out]; exact hlt))
      have HOK := Aside0.mk (HOP.out k (by rw [HNL.out]; exact hlt))
      have HTK := Aside0.mk (showRows_take op p k (by rw [HNL.out]; exact hlt))
      generalize hrow : p.getD k ByteArray.empty = row at hcell HSK HOK HTK
      clear hrow e0
      have kb := fun W => print_bytes (P := Tryd.prog) 9 74 5 Tryd.underlying9 Tryd.underlying74 Tryd.underlying5 row W
      have hdl : row.data.toList.length = row.size := by rw [Array.length_toList]; rfl
      have HDL := Aside0.mk hdl
      clear hdl
      have hszk : row.size ≤ 1000000 := HSK.out
      obtain ⟨wo, rfl⟩ : ∃ wo : World, wo = wr := ⟨_, rfl⟩
      go_wp2
      go_loopg [22] row.size (fun gg2 v22 wr2 => ∃ x : Nat, x ≤ row.size ∧ row.size - x ≤ gg2 ∧ v22 = .int .i64 x ∧ Aside0 (BB wr2 wo.heap.size (partL (fun x => op x k) row.data.toList x)) ∧ Aside0 (Below wo.heap.size wo wr2))
      case atStart => exact ⟨0, Nat.zero_le _, by omega, rfl, ⟨by rw [partL_zero]; exact BB.new wo row⟩, ⟨bytes_below (Below.refl _ _) (Nat.le_refl _) _ row⟩⟩
      case round =>
        obtain ⟨x, hx, hg2, rfl, HBB, HB2⟩ := hrel
        clear kb hcell
        by_cases hxl : x < row.size
        · have hxi : (x : Int) < (row.size : Int) := by omega
          have HK2 := blk_below HK.out HB2.out
          have hz0 : _ = some (Value.int .i64 sx) := (blk_cell HK2 0).trans rfl
          have hz1 : _ = some (Value.int .i64 sy) := (blk_cell HK2 1).trans rfl
          have HRW := Aside0.mk (Kd.C_below HR0.out (later_below HB.out HB2.out))
          have HOX := Aside0.mk (HOK.out x hxl)
          have HXL : Aside0 (x < (partL (fun x => op x k) row.data.toList x).length) := ⟨by rw [partL_length, HDL.out]; exact hxl⟩
          clear HK2
          obtain ⟨q, hq⟩ : ∃ q, op x k = q := ⟨_, rfl⟩
          rw [hq] at HOX
          have HQ := Aside0.mk hq
          clear hq
          cases q with
          | true =>
            go_wp2_with (go_at_call 37; refine (lattice_grid_open.calls _ _ l0 sx sy (x : Int) (k : Int) true _ HRW.out HC0.out HOX.out).mono ?_; rintro e w3 ⟨rfl, hb3⟩; have HB3 := Aside0.mk hb3; clear hb3)
            go_roundg (row.size - (x + 1))
            case measure => omega
            case rel => exact ⟨x + 1, by omega, by omega, by go_num, ⟨by rw [partL_open (fun x => op x k) _ _ HQ.out]; exact HBB.out.below HB3.out⟩, ⟨later_below HB2.out HB3.out⟩⟩
          | false =>
            go_wp2_with (go_at_call 37; refine (lattice_grid_open.calls _ _ l0 sx sy (x : Int) (k : Int) false _ HRW.out HC0.out HOX.out).mono ?_; rintro e w3 ⟨rfl, hb3⟩; have HB3 := Aside0.mk hb3; have hc3 := (HBB.out.below hb3).cell HXL.out; have hf3 := (HBB.out.below hb3).free HXL.out; clear hb3)
            go_roundg (row.size - (x + 1))
            case measure => omega
            case rel => exact ⟨x + 1, by omega, by omega, by go_num, ⟨by rw [partL_shut (fun x => op x k) _ _ (by rw [HDL.out]; exact hxl) HQ.out]; exact (HBB.out.below HB3.out).set x 63⟩, ⟨(later_below HB2.out HB3.out).setCell (Nat.le_refl _) _⟩⟩
        · have hxi : ¬ (x : Int) < (row.size : Int) := by omega
          have hxd : decide (x < row.size) = false := decide_eq_false hxl
          obtain rfl : x = row.size := by omega
          have HEND : Aside0 (BB wr wo.heap.size (showL (fun x => op x k) row.data.toList)) := ⟨by have := HBB.out; rw [← HDL.out, partL_end] at this; exact this⟩
          have ks : ∀ c, (convert 74 9 (.slice (some ⟨wo.heap.size, 0, none⟩) row.size c)).run Tryd.prog wr = .ok (.string ⟨(showL (fun x => op x k) row.data.toList).toArray⟩) wr := fun c => by
            have := BB.string (c := c) Tryd.underlying74 Tryd.underlying9 HEND.out
            rwa [show (showL (fun x => op x k) row.data.toList).length = row.size from by unfold showL; rw [List.length_mapIdx, HDL.out]] at this
          have HOB := Aside0.mk (Kd.R_below HO.out HB2.out)
          have HBB' := Aside0.mk (later_below HB.out HB2.out)
          have HKB := Aside0.mk (blk_below HK.out HB2.out)
          have HLEN : Aside0 (((showRows op p).take k).length = k) := ⟨by rw [List.length_take, showRows_length, HNL.out]; omega⟩
          generalize hnew : (⟨(showL (fun x => op x k) row.data.toList).toArray⟩ : ByteArray) = nrow at ks HTK
          clear hnew hxi hxd hxl hx hg2 HBB HB2 HEND
          go_wp2_with (at_builtin; refine Kd.R_append Kd.string (w0 := w) w.heap.size rfl (.tmp 35) (.tmp 38) 48 9 (.string ⟨#[]⟩) 16 rfl Tryd.underlying48 info9' rfl (by decide) (by omega) _ _ nrow [.string nrow] (fun _ => True) (fun _ => False) rfl rfl rfl (fun _ hk => hk.elim) (fun _ _ => trivial) HOB.out HBB'.out (below_size HBB'.out) (by rw [HLEN.out]; omega) ?_; intro v1 w5 ho hb hg5 hat; have HO5 := Aside0.mk ho; have HB5 := Aside0.mk hb; have HK5 := Aside0.mk (blk_grown HKB.out hg5 (Kd.R_ne HOB.out HKB.out (by decide))); clear ho hb hg5 hat)
          go_roundg (n - (k + 1))
          case measure => omega
          case rel => exact ⟨k + 1, by omega, by omega, by go_num, ⟨by rw [HTK.out]; exact HO5.out⟩, ⟨HB5.out⟩, ⟨HK5.out⟩⟩
    · have hlti : ¬ (k : Int) < (n : Int) := by omega
      obtain rfl : k = n := by omega
      have HE : Aside0 ((showRows op p).take k = showRows op p) := ⟨List.take_of_length_le (by rw [showRows_length, HNL.out]; exact Nat.le_refl _)⟩
      go_wp2
      go_ret
      exact ⟨_, rfl, by rw [← HE.out]; exact HO.out, HB.out⟩
end Go.Proofs.YtmkhlgdgndnkbaaDoor.X
