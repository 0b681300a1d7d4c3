/- Package lattice: cutLeft and cutRight at a set of ASCII bytes. -/
import Derived.Test.YtmkhlgdgndnkbaaDoorLatA
import Derived.Lib.OthersKept
import Derived.Lib.Strings
namespace Go.Proofs.YtmkhlgdgndnkbaaDoor.X
open Go.RowKit Go.Proofs.YtmkhlgdgndnkbaaDoorW.PrintWords Go.Proofs.YtmkhlgdgndnkbaaDoorW.PrintLast Go.Proofs.YtmkhlgdgndnkbaaDoorW.PrintMore
open Go.Lib (run_next_any_at run_next_ascii_at run_next_end_at iterAt_heap iterAt_size below_iterAt)

/-- Is a number (a byte, or a rune) among the bytes of a text? -/
def inSet (set : ByteArray) (c : Nat) : Bool := set.data.toList.any fun d => d.toNat == c
def ascii (set : ByteArray) : Prop := ∀ d ∈ set.data.toList, d.toNat < 128
def inTake (set : ByteArray) (c m : Nat) : Bool := (set.data.toList.take m).any fun d => d.toNat == c
theorem inTake_zero (set : ByteArray) (c : Nat) : inTake set c 0 = false := rfl
theorem inTake_all (set : ByteArray) (c : Nat) : inTake set c set.size = inSet set c := by
  unfold inTake inSet
  rw [List.take_of_length_le (by rw [Array.length_toList]; exact Nat.le_refl _)]
theorem inTake_succ (set : ByteArray) (c m : Nat) (h : m < set.size) : inTake set c (m + 1) = (inTake set c m || ((set[m]'h).toNat == c)) := by
  unfold inTake
  have h' : m < set.data.toList.length := by rw [Array.length_toList]; exact h
  rw [List.take_succ_eq_append_getElem h', List.any_append]
  simp
  rfl
theorem ascii_at {set : ByteArray} (h : ascii set) (m : Nat) (hm : m < set.size) : (set[m]'hm).toNat < 128 := by
  refine h _ ?_
  rw [show (set[m]'hm) = set.data.toList[m]'(by rw [Array.length_toList]; exact hm) from by simp; rfl]
  exact List.getElem_mem _

/-- A text without the bytes of a set at its begin. -/
def cutL (set s : ByteArray) : ByteArray := ⟨(s.data.toList.dropWhile fun b => inSet set b.toNat).toArray⟩
theorem dropWhile_drop {α : Type} (p : α → Bool) (l : List α) (k : Nat) (hk : k ≤ l.length) (h : ∀ j, ∀ hj : j < l.length, j < k → p l[j] = true) (he : ∀ hk : k < l.length, p l[k] = false) : l.dropWhile p = l.drop k := by
  induction l generalizing k with
  | nil => simp
  | cons x l ih =>
    cases k with
    | zero =>
      have := he (by simp)
      simp only [List.getElem_cons_zero] at this
      simp [this]
    | succ k =>
      have hx := h 0 (by simp) (by omega)
      simp only [List.getElem_cons_zero] at hx
      rw [List.dropWhile_cons, if_pos hx, List.drop_succ_cons]
      exact ih k (by simpa using hk) (fun j hj hjk => by have := h (j + 1) (by simpa using hj) (by omega); simpa using this) (fun hk2 => by have := he (by simpa using hk2); simpa using this)
theorem cutL_at (set s : ByteArray) (k : Nat) (hk : k < s.size) (h : ∀ j, ∀ hj : j < s.size, j < k → inSet set (s[j]'hj).toNat = true) (he : inSet set (s[k]'hk).toNat = false) : cutL set s = s.extract k s.size := by
  have hl : s.data.toList.length = s.size := by rw [Array.length_toList]; rfl
  have e := dropWhile_drop (fun b => inSet set b.toNat) s.data.toList k (by omega) (fun j hj hjk => h j (by omega) hjk) (fun _ => he)
  unfold cutL
  rw [e, Lib.extract_eq, List.take_of_length_le (by simp [hl])]
theorem cutL_none (set s : ByteArray) (h : ∀ j, ∀ hj : j < s.size, inSet set (s[j]'hj).toNat = true) : cutL set s = ⟨#[]⟩ := by
  have hl : s.data.toList.length = s.size := by rw [Array.length_toList]; rfl
  have e := dropWhile_drop (fun b => inSet set b.toNat) s.data.toList s.size (by omega) (fun j hj _ => h j (by omega)) (fun hk => by omega)
  unfold cutL
  rw [e, List.drop_of_length_le (by omega)]

theorem high_not_in {set : ByteArray} (h : ascii set) {c : Nat} (hc : 128 ≤ c) : inSet set c = false := by
  unfold inSet
  rw [List.any_eq_false]
  intro d hd
  have := h d hd
  simp only [beq_iff_eq]
  omega

set_option maxHeartbeats 2000000 in
theorem cutLeft_calls (s set : ByteArray) (hset : ascii set) (w : World) (hs : s.size ≤ 9223372036854775807) :
    Calls Tryd.prog 42 #[.string s, .string set] w fun e w' => e = .returned (.string (cutL set s)) ∧ Below w.heap.size w w' := by
  have HS := Aside0.mk hset
  clear hset
  go_enter Tryd.func42, Tryd.ntmps42
  go_wp2
  go_loopg [7] s.size (fun gg _ wr => ∃ kk : Nat, kk ≤ s.size ∧ s.size - kk ≤ gg ∧ Aside0 (wr.heap[w.heap.size]? = some (.stringIter s kk)) ∧ Aside0 (Below w.heap.size w wr) ∧ Aside0 (∀ j, ∀ hj : j < s.size, j < kk → inSet set (s[j]'hj).toNat = true))
  case atStart => exact ⟨0, Nat.zero_le _, by omega, ⟨World.iter_heap w s 0⟩, ⟨below_alloc (Below.refl _ _) _⟩, ⟨fun j hj h0 => absurd h0 (Nat.not_lt_zero _)⟩⟩
  case round =>
    obtain ⟨kk, hkk, hg, HI, HB, HA⟩ := hrel
    by_cases hp : kk < s.size
    · obtain ⟨c, hc⟩ : ∃ c, (Utf8.decode s kk).1 = c := ⟨_, rfl⟩
      obtain ⟨wd, hwd⟩ : ∃ d, (Utf8.decode s kk).2 = d := ⟨_, rfl⟩
      have hnx : ∀ ty, (Instr.next (.pointer (some ⟨w.heap.size, 0, none⟩)) true ty).run Tryd.prog wr = _ := fun ty => run_next_any_at wr w.heap.size s kk ty HI.out hp
      rw [hc, hwd] at hnx
      obtain ⟨W1, hW1⟩ : ∃ W1, wr.iterAt w.heap.size s (kk + wd) = W1 := ⟨_, rfl⟩
      rw [hW1] at hnx
      have HI1 : Aside0 (W1.heap[w.heap.size]? = some (.stringIter s (kk + wd))) := ⟨by rw [← hW1]; exact iterAt_heap _ _ _ _ _ HI.out⟩
      have HB1 : Aside0 (Below w.heap.size w W1) := ⟨by rw [← hW1]; exact below_iterAt HB.out (Nat.le_refl _) _ _⟩
      have HQ : Aside0 (inSet set c = inSet set (s[kk]'hp).toNat ∧ (inSet set c = true → wd = 1)) := by
        refine ⟨?_⟩
        by_cases ha : (s[kk]'hp).toNat < 128
        · rw [decode_ascii s kk hp ha] at hc hwd
          exact ⟨by rw [← hc], fun _ => hwd.symm⟩
        · have hh := (decode_high s kk hp (by omega)).1
          rw [hc] at hh
          have e1 := high_not_in HS.out hh
          exact ⟨by rw [e1, high_not_in HS.out (by omega)], fun h => by rw [e1] at h; cases h⟩
      clear HI HB hW1 hc hwd
      go_wp2
      go_loopg [7] set.size (fun gg v7 wr2 => ∃ m : Nat, m ≤ set.size ∧ set.size - m ≤ gg ∧ v7 = .bool (inTake set c m) ∧ wr2 = W1.iter set m)
      case atStart => exact ⟨0, Nat.zero_le _, by omega, rfl, rfl⟩
      case round =>
        obtain ⟨m, hm, hg2, rfl, rfl⟩ := hrel
        by_cases hm2 : m < set.size
        · have hnx2 : ∀ ty, (Instr.next (.pointer (some ⟨W1.heap.size, 0, none⟩)) true ty).run Tryd.prog (W1.iter set m) = _ := fun ty => run_next_ascii W1 set m ty hm2 (ascii_at HS.out m hm2)
          have HSU := Aside0.mk (inTake_succ set c m hm2)
          obtain ⟨d, hd⟩ : ∃ d, (set[m]'hm2).toNat = d := ⟨_, rfl⟩
          rw [hd] at hnx2 HSU
          clear hd
          obtain ⟨q, hq⟩ : ∃ q, inTake set c m = q := ⟨_, rfl⟩
          rw [hq] at HSU ⊢
          clear hq
          cases q with
          | true =>
            go_wp2
            go_roundg (set.size - (m + 1))
            case measure => omega
            case rel => exact ⟨m + 1, by omega, by omega, by rw [HSU.out]; rfl, rfl⟩
          | false =>
            by_cases hcd : c = d
            · have h1 : (c == d) = true := beq_iff_eq.2 hcd
              have h2 : ((c : Int) == (d : Int)) = true := beq_iff_eq.2 (by omega)
              have hsu : inTake set c (m + 1) = true := by rw [HSU.out, hcd]; simp
              have HSV := Aside0.mk hsu
              clear hcd hsu
              go_wp2
              go_roundg (set.size - (m + 1))
              case measure => omega
              case rel => exact ⟨m + 1, by omega, by omega, by rw [HSV.out], rfl⟩
            · have h1 : (c == d) = false := beq_eq_false_iff_ne.2 hcd
              have h2 : ((c : Int) == (d : Int)) = false := beq_eq_false_iff_ne.2 (by omega)
              have hsu : inTake set c (m + 1) = false := by rw [HSU.out, Bool.false_or]; exact beq_eq_false_iff_ne.2 (fun h => hcd h.symm)
              have HSV := Aside0.mk hsu
              clear hcd hsu
              go_wp2
              go_roundg (set.size - (m + 1))
              case measure => omega
              case rel => exact ⟨m + 1, by omega, by omega, by rw [HSV.out], rfl⟩
        · have hnx2 : ∀ ty, (Instr.next (.pointer (some ⟨W1.heap.size, 0, none⟩)) true ty).run Tryd.prog (W1.iter set m) = _ := fun ty => run_next_end W1 set m ty hm2
          obtain rfl : m = set.size := by omega
          rw [inTake_all]
          have HE := Aside0.mk (rfl : inSet set c = inSet set c)
          obtain ⟨q, hq⟩ : ∃ q, inSet set c = q := ⟨_, rfl⟩
          rw [hq]
          have HV := Aside0.mk hq
          clear hq HE
          cases q with
          | true =>
            go_wp2
            go_roundg (s.size - (kk + 1))
            case measure => omega
            case rel =>
              have hw := HQ.out.2 HV.out
              refine ⟨kk + 1, by omega, by omega, ⟨by have := HI1.out; rw [hw] at this; exact Below.heap_alloc _ _ _ (by have := (Array.getElem?_eq_some_iff.1 HI1.out).1; exact this) |>.trans this⟩, ⟨below_alloc HB1.out _⟩, ⟨fun j hj h1 => ?_⟩⟩
              by_cases e : j = kk
              · subst e; rw [← HQ.out.1]; exact HV.out
              · exact HA.out j hj (by omega)
          | false =>
            go_wp2
            go_ret
            refine ⟨?_, below_alloc HB1.out _⟩
            rw [cutL_at set s kk hp HA.out (by rw [← HQ.out.1]; exact HV.out)]
            rfl
    · have hnx : ∀ ty, (Instr.next (.pointer (some ⟨w.heap.size, 0, none⟩)) true ty).run Tryd.prog wr = _ := fun ty => run_next_end_at wr w.heap.size s kk ty HI.out hp
      have HE : Aside0 (cutL set s = ⟨#[]⟩) := ⟨cutL_none set s (fun j hj => HA.out j hj (by omega))⟩
      go_wp2
      go_ret
      refine ⟨?_, HB.out⟩
      rw [HE.out]
      rfl
end Go.Proofs.YtmkhlgdgndnkbaaDoor.X
