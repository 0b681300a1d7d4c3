/- Package lattice: cutRight at a set of ASCII bytes; what checked's second test asks. -/
import Derived.Test.YtmkhlgdgndnkbaaDoorLatB
import Derived.Test.YtmkhlgdgndnkbaaDoorLatShelf
namespace Go.Proofs.YtmkhlgdgndnkbaaDoor.X
open Go.RowKit Go.Proofs.YtmkhlgdgndnkbaaDoorW.PrintWords Go.Proofs.YtmkhlgdgndnkbaaDoorW.PrintLast Go.Proofs.YtmkhlgdgndnkbaaDoorW.PrintMore
open Go.Lib (run_next_any_at run_next_ascii_at run_next_end_at iterAt_heap iterAt_size below_iterAt)

/-- The tables of package unicode/utf8 are as its text lays them. -/
def Tabs (w : World) : Prop := Lib.Utf8Tabs 0 1 w
theorem Tabs.below {w w1 : World} (h : Tabs w) (hb : Below w.heap.size w w1) : Tabs w1 :=
  ⟨fun c hc => pw_cell_below hb (h.1 c hc), fun i hi => ⟨pw_cell_below hb (h.2 i hi).1, pw_cell_below hb (h.2 i hi).2⟩⟩

theorem lastRune_low (l : List UInt8) (h : l ≠ []) (ha : (l.getLast h).toNat < 128) : Lib.decodeLastL l = ((l.getLast h).toNat, 1) := by
  have e : l.getD (l.length - 1) 0 = l.getLast h := by
    rw [List.getLast_eq_getElem, List.getD_eq_getElem?_getD, List.getElem?_eq_getElem (by have := List.length_pos_iff.2 h; omega)]
    rfl
  unfold Lib.decodeLastL
  rw [if_neg h, e, if_pos ha]
theorem lastRune_high (l : List UInt8) (h : l ≠ []) (ha : ¬ (l.getLast h).toNat < 128) : 128 ≤ (Lib.decodeLastL l).1 := by
  have hpos := List.length_pos_iff.2 h
  have e : l.getD (l.length - 1) 0 = l.getLast h := by
    rw [List.getLast_eq_getElem, List.getD_eq_getElem?_getD, List.getElem?_eq_getElem (by omega)]
    rfl
  have hlt := Lib.lastStart_lt l h
  generalize hst : Lib.lastStart l = st at hlt
  unfold Lib.decodeLastL
  rw [if_neg h, e, if_neg ha, hst]
  simp only
  split
  · rename_i hd
    have hsz : 0 < (⟨(l.drop st).toArray⟩ : ByteArray).size := by
      show 0 < (l.drop st).toArray.size
      rw [List.size_toArray, List.length_drop]; omega
    have hget : ((⟨(l.drop st).toArray⟩ : ByteArray)[0]'hsz) = l[st]'hlt := by
      show (l.drop st).toArray[0]'(by rw [List.size_toArray, List.length_drop]; omega) = _
      simp
    by_cases hb : (l[st]'hlt).toNat < 128
    · exfalso
      have hdec : Lib.decodeL (l.drop st) = ((l[st]'hlt).toNat, 1) := by
        unfold Lib.decodeL
        rw [decode_ascii _ 0 hsz (by rw [hget]; exact hb), hget]
      rw [hdec] at hd
      simp only at hd
      apply ha
      rw [List.getLast_eq_getElem]
      have : l.length - 1 = st := by omega
      simp only [this]
      exact hb
    · unfold Lib.decodeL
      exact (decode_high _ 0 hsz (by rw [hget]; omega)).1
  · decide

/-- A text without the bytes of a set at its end. -/
def cutR (set s : ByteArray) : ByteArray := ⟨((s.data.toList.reverse.dropWhile fun b => inSet set b.toNat).reverse).toArray⟩
theorem cutR_empty (set s : ByteArray) (h : ¬ 0 < s.size) : cutR set s = s := by
  have hl : s.data.toList = [] := by
    apply List.eq_nil_of_length_eq_zero
    rw [Array.length_toList]
    show s.size = 0
    omega
  unfold cutR
  rw [hl]
  cases s with
  | mk d =>
    have : d = #[] := by apply Array.ext'; simpa using hl
    subst this
    rfl
theorem toList_ne {s : ByteArray} (h : 0 < s.size) : s.data.toList ≠ [] := by
  intro e
  have : s.data.toList.length = s.size := by rw [Array.length_toList]; rfl
  rw [e] at this
  simp at this
  omega
theorem cutR_stop (set s : ByteArray) (h : 0 < s.size) (hl : inSet set (s.data.toList.getLast (toList_ne h)).toNat = false) : cutR set s = s := by
  have hne := toList_ne h
  have e : s.data.toList.reverse = s.data.toList.getLast hne :: s.data.toList.dropLast.reverse := by
    conv => lhs; rw [← List.dropLast_concat_getLast hne]
    rw [List.reverse_append]
    rfl
  unfold cutR
  rw [e, List.dropWhile_cons, if_neg (by rw [hl]; decide), ← e, List.reverse_reverse]
theorem cutR_step (set s : ByteArray) (h : 0 < s.size) (hl : inSet set (s.data.toList.getLast (toList_ne h)).toNat = true) : cutR set (s.extract 0 (s.size - 1)) = cutR set s := by
  have hne := toList_ne h
  have e : s.data.toList.reverse = s.data.toList.getLast hne :: s.data.toList.dropLast.reverse := by
    conv => lhs; rw [← List.dropLast_concat_getLast hne]
    rw [List.reverse_append]
    rfl
  have e2 : (s.extract 0 (s.size - 1)).data.toList = s.data.toList.dropLast := by
    rw [Lib.extract_data, List.drop_zero, List.dropLast_eq_take, Array.length_toList]
    rfl
  unfold cutR
  rw [e, e2, List.dropWhile_cons, if_pos hl]
/-- A rune at the end: in the set just if the last byte is; then it is one byte. -/
theorem lastRune_in {set s : ByteArray} (hset : ascii set) (h : 0 < s.size) :
    inSet set (Lib.decodeLastL s.data.toList).1 = inSet set (s.data.toList.getLast (toList_ne h)).toNat ∧ (inSet set (Lib.decodeLastL s.data.toList).1 = true → (Lib.decodeLastL s.data.toList).2 = 1) := by
  by_cases ha : (s.data.toList.getLast (toList_ne h)).toNat < 128
  · rw [lastRune_low _ (toList_ne h) ha]
    exact ⟨rfl, fun _ => rfl⟩
  · have hh := lastRune_high _ (toList_ne h) ha
    have e := high_not_in hset hh
    exact ⟨by rw [e, high_not_in hset (by omega)], fun h => by rw [e] at h; cases h⟩

set_option maxHeartbeats 2000000 in
theorem cutRight_calls (s set : ByteArray) (hset : ascii set) (w : World) (hs : s.size ≤ 9223372036854775807) (hT : Tabs w) :
    Calls Tryd.prog 41 #[.string s, .string set] w fun e w' => e = .returned (.string (cutR set s)) ∧ Below w.heap.size w w' := by
  have HS := Aside0.mk hset
  have HT := Aside0.mk hT
  clear hset hT
  go_enter Tryd.func41, Tryd.ntmps41
  go_wp2
  go_loopg [0, 7] s.size (fun gg v0 _ wr => ∃ cur : ByteArray, v0 = .string cur ∧ cur.size ≤ gg ∧ cur.size ≤ 9223372036854775807 ∧ Aside0 (cutR set cur = cutR set s) ∧ Aside0 (Below w.heap.size w wr))
  case atStart => exact ⟨s, rfl, Nat.le_refl _, hs, ⟨rfl⟩, ⟨Below.refl _ _⟩⟩
  case round =>
    obtain ⟨cur, rfl, hg, hsz, HR, HB⟩ := hrel
    by_cases hp : 0 < cur.size
    · have hpi : (0 : Int) < (cur.size : Int) := by omega
      have HL := Aside0.mk (lastRune_in HS.out hp)
      have hcall := Tryd.utf8_DecodeLastRuneInString cur wr hsz (HT.out.below HB.out)
      obtain ⟨c, hc⟩ : ∃ c, (Lib.decodeLastL cur.data.toList).1 = c := ⟨_, rfl⟩
      obtain ⟨wd, hwd⟩ : ∃ c, (Lib.decodeLastL cur.data.toList).2 = c := ⟨_, rfl⟩
      rw [hc, hwd] at hcall HL
      clear hc hwd
      have HC := Aside0.mk hcall
      clear hcall
      go_wp2_with (go_at_call 45; refine HC.out.mono ?_; rintro e w1 ⟨rfl, hb1⟩; have HB1 := Aside0.mk (later_below HB.out hb1); clear hb1 HC)
      go_loopg [7] set.size (fun gg v7 wr2 => ∃ m : Nat, m ≤ set.size ∧ set.size - m ≤ gg ∧ v7 = .bool (inTake set c m) ∧ wr2 = w1.iter set m)
      case atStart => exact ⟨0, Nat.zero_le _, by omega, rfl, rfl⟩
      case round =>
        obtain ⟨m, hm, hg2, rfl, rfl⟩ := hrel
        by_cases hm2 : m < set.size
        · have hnx2 : ∀ ty, (Instr.next (.pointer (some ⟨w1.heap.size, 0, none⟩)) true ty).run Tryd.prog (w1.iter set m) = _ := fun ty => run_next_ascii w1 set m ty hm2 (ascii_at HS.out m hm2)
          have HSU := Aside0.mk (inTake_succ set c m hm2)
          obtain ⟨d, hd⟩ : ∃ d, (set[m]'hm2).toNat = d := ⟨_, rfl⟩
          rw [hd] at hnx2 HSU
          clear hd
          obtain ⟨q, hq⟩ : ∃ q, inTake set c m = q := ⟨_, rfl⟩
          rw [hq] at HSU ⊢
          clear hq
          cases q with
          | true =>
            go_wp2
            go_roundg (set.size - (m + 1))
            case measure => omega
            case rel => exact ⟨m + 1, by omega, by omega, by rw [HSU.out]; rfl, rfl⟩
          | false =>
            by_cases hcd : c = d
            · have h1 : (c == d) = true := beq_iff_eq.2 hcd
              have h2 : ((c : Int) == (d : Int)) = true := beq_iff_eq.2 (by omega)
              have hsu : inTake set c (m + 1) = true := by rw [HSU.out, hcd]; simp
              have HSV := Aside0.mk hsu
              clear hcd hsu
              go_wp2
              go_roundg (set.size - (m + 1))
              case measure => omega
              case rel => exact ⟨m + 1, by omega, by omega, by rw [HSV.out], rfl⟩
            · have h1 : (c == d) = false := beq_eq_false_iff_ne.2 hcd
              have h2 : ((c : Int) == (d : Int)) = false := beq_eq_false_iff_ne.2 (by omega)
              have hsu : inTake set c (m + 1) = false := by rw [HSU.out, Bool.false_or]; exact beq_eq_false_iff_ne.2 (fun h => hcd h.symm)
              have HSV := Aside0.mk hsu
              clear hcd hsu
              go_wp2
              go_roundg (set.size - (m + 1))
              case measure => omega
              case rel => exact ⟨m + 1, by omega, by omega, by rw [HSV.out], rfl⟩
        · have hnx2 : ∀ ty, (Instr.next (.pointer (some ⟨w1.heap.size, 0, none⟩)) true ty).run Tryd.prog (w1.iter set m) = _ := fun ty => run_next_end w1 set m ty hm2
          obtain rfl : m = set.size := by omega
          rw [inTake_all]
          obtain ⟨q, hq⟩ : ∃ q, inSet set c = q := ⟨_, rfl⟩
          rw [hq]
          have HV := Aside0.mk hq
          clear hq
          cases q with
          | true =>
            have hw1 := HL.out.2 HV.out
            subst hw1
            have HX := Aside0.mk (cutR_step set cur hp (by rw [← HL.out.1]; exact HV.out))
            go_wp2
            go_roundg (cur.size - 1)
            case measure => omega
            case rel => exact ⟨_, rfl, by simp, by simp; omega, ⟨HX.out.trans HR.out⟩, ⟨below_alloc HB1.out _⟩⟩
          | false =>
            have HX := Aside0.mk (cutR_stop set cur hp (by rw [← HL.out.1]; exact HV.out))
            go_wp2
            go_ret
            refine ⟨?_, below_alloc HB1.out _⟩
            rw [← HR.out, HX.out]
            rfl
    · have hpi : ¬ (0 : Int) < (cur.size : Int) := by omega
      have hz : cur.size = 0 := by omega
      have HX := Aside0.mk (cutR_empty set cur hp)
      have hpi2 : decide ((0 : Int) < (cur.size : Int)) = false := decide_eq_false hpi
      have hpi3 : decide (0 < cur.size) = false := decide_eq_false hp
      clear hz
      go_wp2
      go_ret
      refine ⟨?_, HB.out⟩
      rw [← HR.out, HX.out]
      rfl
end Go.Proofs.YtmkhlgdgndnkbaaDoor.X
