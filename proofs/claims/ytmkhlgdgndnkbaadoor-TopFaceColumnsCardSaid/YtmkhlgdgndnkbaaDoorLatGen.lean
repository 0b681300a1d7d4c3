/- The library's slices.IndexFunc and slices.ContainsFunc at the element types of package lattice, at whatever function value that answers a plain predicate. -/
import Derived.Test.YtmkhlgdgndnkbaaDoorLatKinds
import Derived.Shelf.Abstract
namespace Go.Proofs.YtmkhlgdgndnkbaaDoor.X
open Go.RowKit Go.Proofs.YtmkhlgdgndnkbaaDoorW.PrintWords Go.Proofs.YtmkhlgdgndnkbaaDoorW.PrintLast Go.Proofs.YtmkhlgdgndnkbaaDoorW.PrintMore

/-- The first place at which p holds, or -1. -/
def idxI {α : Type} (p : α → Bool) (xs : List α) : Int := match xs.findIdx? p with
  | some i => (i : Int)
  | none => -1
theorem idxI_hit {α : Type} (p : α → Bool) (xs : List α) (k : Nat) (h : k < xs.length) (hp : p xs[k] = true) (hb : ∀ j, ∀ hj : j < k, p (xs[j]'(by omega)) = false) : idxI p xs = (k : Int) := by
  have e : xs.findIdx? p = some k := by
    rw [List.findIdx?_eq_some_iff_getElem]
    exact ⟨h, hp, fun j hj => by simpa using hb j hj⟩
  unfold idxI; rw [e]
theorem idxI_miss {α : Type} (p : α → Bool) (xs : List α) (hb : ∀ j, ∀ hj : j < xs.length, p xs[j] = false) : idxI p xs = -1 := by
  have e : xs.findIdx? p = none := by
    rw [List.findIdx?_eq_none_iff]
    intro x hx
    obtain ⟨j, hj, rfl⟩ := List.mem_iff_getElem.1 hx
    simpa using hb j hj
  unfold idxI; rw [e]
theorem idxI_hitD {α : Type} (p : α → Bool) (xs : List α) (z : α) (n k : Nat) (hn : xs.length = n) (h : k < n) (hp : p (xs.getD k z) = true) (hb : ∀ j, j < k → p (xs.getD j z) = false) : idxI p xs = (k : Int) := by
  have e : ∀ j, ∀ hj : j < xs.length, xs.getD j z = xs[j] := fun j hj => by simp [List.getD_eq_getElem?_getD, List.getElem?_eq_getElem hj]
  exact idxI_hit p xs k (by omega) (by rw [← e]; exact hp) (fun j hj => by rw [← e]; exact hb j hj)
theorem idxI_missD {α : Type} (p : α → Bool) (xs : List α) (z : α) (n : Nat) (hn : xs.length = n) (hb : ∀ j, j < n → p (xs.getD j z) = false) : idxI p xs = -1 := by
  have e : ∀ j, ∀ hj : j < xs.length, xs.getD j z = xs[j] := fun j hj => by simp [List.getD_eq_getElem?_getD, List.getElem?_eq_getElem hj]
  exact idxI_miss p xs (fun j hj => by rw [← e]; exact hb j (by omega))
theorem getD_mem {α : Type} {xs : List α} {z : α} {n k : Nat} (hn : xs.length = n) (h : k < n) : xs.getD k z ∈ xs := by
  rw [List.getD_eq_getElem?_getD, List.getElem?_eq_getElem (by omega)]
  exact List.getElem_mem _
theorem idxI_any {α : Type} (p : α → Bool) (xs : List α) : decide (0 ≤ idxI p xs) = xs.any p := by
  unfold idxI
  cases h : xs.findIdx? p with
  | none =>
    rw [List.findIdx?_eq_none_iff] at h
    simp only [show ¬ (0 : Int) ≤ -1 by decide, decide_false]
    symm
    rw [List.any_eq_false]
    intro x hx
    simpa using h x hx
  | some i =>
    rw [List.findIdx?_eq_some_iff_getElem] at h
    obtain ⟨hl, hp, _⟩ := h
    simp only [Int.natCast_nonneg, decide_true]
    symm
    rw [List.any_eq_true]
    exact ⟨_, List.getElem_mem hl, hp⟩

/-- What is asked of a function value: at each element of the list, in each later world, it answers p; it may make memory. -/
def PredK {α : Type} (g : Nat) (lb : Array Value) (d : Kd α) (mkv : List Value → Value) (xs : List α) (p : α → Bool) (w : World) : Prop :=
  ∀ x ∈ xs, ∀ (W : World) (cs : List Value), Below w.heap.size w W → d.K W x cs → Calls Tryd.prog g (#[mkv cs] ++ lb) W fun e W' => e = .returned (.bool (p x)) ∧ Below W.heap.size W W'
/-- A value of one cell. -/
def cell1 (cs : List Value) : Value := cs.getD 0 .nilIface
/-- A value of several cells. -/
def cellN (cs : List Value) : Value := .agg cs.toArray

theorem later_below {w W W' : World} (h : Below w.heap.size w W) (k : Below W.heap.size W W') : Below w.heap.size w W' := below_then h h.size k

theorem box_cell (w : World) (v : Value) (t : TypeId) {g : Nat} (h : g = w.heap.size) : (w.alloc (.cells #[v] t)).cell? ⟨g, 0, none⟩ = some v := by
  subst h; exact blk_cell (blk_new w _) 0
theorem keep_cell {w : World} {a : Addr} {v : Value} (o : Obj) (h : w.cell? a = some v) : (w.alloc o).cell? a = some v := pw_cell_below (below_alloc (Below.refl _ _) o) h
theorem one_blk (w : World) (o : Obj) {g : Nat} (h : g = w.heap.size) : (w.alloc o).heap[g]? = some o := by
  subst h; exact blk_new w o

theorem C_lit1 (W : World) (k : IntKind) (e : TypeId) (x : Int) {g : Nat} (h : g = W.heap.size) : Kd.C (Kd.int k) (W.alloc (.cells #[.int k x] e)) (some ⟨g, 0, none⟩) 1 [x] := by
  subst h
  exact Kd.C_of_reads (own_reads' (c := 1) (own_lit W 0 e k [x] (Nat.zero_le _) (by simp)))
theorem C_lit2 (W : World) (k : IntKind) (e : TypeId) (x y : Int) {g : Nat} (h : g = W.heap.size) : Kd.C (Kd.int k) (W.alloc (.cells #[.int k x, .int k y] e)) (some ⟨g, 0, none⟩) 2 [x, y] := by
  subst h
  exact Kd.C_of_reads (own_reads' (c := 2) (own_lit W 0 e k [x, y] (Nat.zero_le _) (by simp)))


set_option maxHeartbeats 2000000 in
theorem index_int' {g : Nat} {lb : Array Value} {xs : List (Int)} {p : Int → Bool} {w : World} {A : Option Addr} {n c : Nat} (eg : ∀ args w, (callFunc g args).run Tryd.prog w = .ok (.enter g args) w)
    (hn : xs.length = n) (hr : Kd.C (Kd.int .i64) w A n xs) (hp : PredK g lb (Kd.int .i64) cell1 xs p w) :
    Calls Tryd.prog 32 #[.slice A n c, .func (.func g) #[] lb] w fun e w' => e = .returned (.int .i64 (idxI p xs)) ∧ Below w.heap.size w w' := by
  have hm : n ≤ 9223372036854775807 := Kd.C_max hr
  have HN := Aside0.mk hn
  have HR := Aside0.mk hr
  have HP := Aside0.mk hp
  clear hr hp hn
  go_enter Tryd.func32, Tryd.ntmps32
  go_wp2
  go_loopg [5, 8] n (fun gg _ s8 wr => ∃ kk : Nat, kk ≤ n ∧ n - kk ≤ gg ∧ s8 = .int .i64 kk ∧ Aside0 (Below w.heap.size w wr) ∧ Aside0 (∀ j, j < kk → p (xs.getD j 0) = false))
  case atStart => exact ⟨0, Nat.zero_le _, by omega, rfl, ⟨Below.refl _ w⟩, ⟨fun j h0 => absurd h0 (Nat.not_lt_zero _)⟩⟩
  case round =>
    obtain ⟨kk, hkk, hg, rfl, BW, HA⟩ := hrel
    by_cases hlt : kk < n
    · have hltz : (kk : Int) < (n : Int) := by omega
      obtain ⟨ad, c1, rfl, hl1, hK, hcell⟩ := Kd.C_get (Kd.C_below HR.out BW.out) 0 (kk : Int) (by omega) hltz
      rw [Int.toNat_natCast] at hK hcell
      have hcall := HP.out _ (getD_mem HN.out hlt) wr _ BW.out hK
      have e1 : c1 = [Value.int .i64 (xs.getD kk 0)] := hK
      subst e1
      have hc0 : wr.cell? (ad.add kk) = some (Value.int .i64 (xs.getD kk 0)) := by
        have := hcell 0 _ rfl
        simpa [show (Kd.int .i64).sz = 1 from rfl] using this
      simp only [cell1, List.getD_cons_zero] at hcall
      clear hcell hl1
      have hxx : xs.getD kk 0 = xs.getD kk 0 := rfl
      generalize hy : xs.getD kk 0 = y at hcall hc0 hK
      have HY := Aside0.mk hy
      clear hy hxx hK
      cases hq : p y with
      | true =>
        rw [hq] at hcall
        have HQ := Aside0.mk hq
        have HC := Aside0.mk hcall
        clear hq hcall
        go_wp2_with (go_at_fn g; refine HC.out.mono ?_; rintro e w' ⟨rfl, hb'⟩)
        go_ret
        refine ⟨?_, later_below BW.out hb'⟩; rw [idxI_hitD p xs 0 n kk HN.out hlt (by rw [HY.out]; exact HQ.out) HA.out]; rfl
      | false =>
        rw [hq] at hcall
        have HQ := Aside0.mk hq
        have HC := Aside0.mk hcall
        clear hq hcall
        go_wp2_with (go_at_fn g; refine HC.out.mono ?_; rintro e w' ⟨rfl, hb'⟩)
        go_roundg (n - (kk + 1))
        case measure => omega
        case rel =>
          refine ⟨kk + 1, by omega, by omega, by go_num, ⟨later_below BW.out hb'⟩, ⟨fun j h1 => ?_⟩⟩
          by_cases e : j = kk
          · subst e; rw [HY.out]; exact HQ.out
          · exact HA.out j (by omega)
    · have hltz : ¬ (kk : Int) < (n : Int) := by omega
      have e : kk = n := by omega
      subst e
      go_wp2
      go_ret
      refine ⟨?_, BW.out⟩; rw [idxI_missD p xs 0 kk HN.out HA.out]; rfl
theorem index_int {g : Nat} {lb : Array Value} {xs : List (Int)} {p : Int → Bool} {w : World} {A : Option Addr} {c : Nat} (eg : ∀ args w, (callFunc g args).run Tryd.prog w = .ok (.enter g args) w)
    (hr : Kd.C (Kd.int .i64) w A xs.length xs) (hp : PredK g lb (Kd.int .i64) cell1 xs p w) :
    Calls Tryd.prog 32 #[.slice A xs.length c, .func (.func g) #[] lb] w fun e w' => e = .returned (.int .i64 (idxI p xs)) ∧ Below w.heap.size w w' := index_int' eg rfl hr hp
theorem contains_int {g : Nat} {lb : Array Value} {xs : List (Int)} {p : Int → Bool} {w : World} {A : Option Addr} {c : Nat} (eg : ∀ args w, (callFunc g args).run Tryd.prog w = .ok (.enter g args) w)
    (hr : Kd.C (Kd.int .i64) w A xs.length xs) (hp : PredK g lb (Kd.int .i64) cell1 xs p w) :
    Calls Tryd.prog 17 #[.slice A xs.length c, .func (.func g) #[] lb] w fun e w' => e = .returned (.bool (xs.any p)) ∧ Below w.heap.size w w' := by
  rw [← idxI_any p xs]
  have HR := Aside0.mk hr
  have HP := Aside0.mk hp
  have HE := Aside0.mk eg
  clear hr hp eg
  go_enter Tryd.func17, Tryd.ntmps17
  go_wp2_with (go_at_call 32; refine (index_int HE.out HR.out HP.out).mono ?_; rintro e w' ⟨rfl, hb'⟩)
  go_ret
  exact ⟨rfl, hb'⟩

set_option maxHeartbeats 2000000 in
theorem index_str' {g : Nat} {lb : Array Value} {xs : List (ByteArray)} {p : ByteArray → Bool} {w : World} {A : Option Addr} {n c : Nat} (eg : ∀ args w, (callFunc g args).run Tryd.prog w = .ok (.enter g args) w)
    (hn : xs.length = n) (hr : Kd.C (Kd.string) w A n xs) (hp : PredK g lb (Kd.string) cell1 xs p w) :
    Calls Tryd.prog 46 #[.slice A n c, .func (.func g) #[] lb] w fun e w' => e = .returned (.int .i64 (idxI p xs)) ∧ Below w.heap.size w w' := by
  have hm : n ≤ 9223372036854775807 := Kd.C_max hr
  have HN := Aside0.mk hn
  have HR := Aside0.mk hr
  have HP := Aside0.mk hp
  clear hr hp hn
  go_enter Tryd.func46, Tryd.ntmps46
  go_wp2
  go_loopg [5, 8] n (fun gg _ s8 wr => ∃ kk : Nat, kk ≤ n ∧ n - kk ≤ gg ∧ s8 = .int .i64 kk ∧ Aside0 (Below w.heap.size w wr) ∧ Aside0 (∀ j, j < kk → p (xs.getD j ByteArray.empty) = false))
  case atStart => exact ⟨0, Nat.zero_le _, by omega, rfl, ⟨Below.refl _ w⟩, ⟨fun j h0 => absurd h0 (Nat.not_lt_zero _)⟩⟩
  case round =>
    obtain ⟨kk, hkk, hg, rfl, BW, HA⟩ := hrel
    by_cases hlt : kk < n
    · have hltz : (kk : Int) < (n : Int) := by omega
      obtain ⟨ad, c1, rfl, hl1, hK, hcell⟩ := Kd.C_get (Kd.C_below HR.out BW.out) ByteArray.empty (kk : Int) (by omega) hltz
      rw [Int.toNat_natCast] at hK hcell
      have hcall := HP.out _ (getD_mem HN.out hlt) wr _ BW.out hK
      have e1 : c1 = [Value.string (xs.getD kk ByteArray.empty)] := hK
      subst e1
      have hc0 : wr.cell? (ad.add kk) = some (Value.string (xs.getD kk ByteArray.empty)) := by
        have := hcell 0 _ rfl
        simpa [show (Kd.string).sz = 1 from rfl] using this
      simp only [cell1, List.getD_cons_zero] at hcall
      clear hcell hl1
      have hxx : xs.getD kk ByteArray.empty = xs.getD kk ByteArray.empty := rfl
      generalize hy : xs.getD kk ByteArray.empty = y at hcall hc0 hK
      have HY := Aside0.mk hy
      clear hy hxx hK
      cases hq : p y with
      | true =>
        rw [hq] at hcall
        have HQ := Aside0.mk hq
        have HC := Aside0.mk hcall
        clear hq hcall
        go_wp2_with (go_at_fn g; refine HC.out.mono ?_; rintro e w' ⟨rfl, hb'⟩)
        go_ret
        refine ⟨?_, later_below BW.out hb'⟩; rw [idxI_hitD p xs ByteArray.empty n kk HN.out hlt (by rw [HY.out]; exact HQ.out) HA.out]; rfl
      | false =>
        rw [hq] at hcall
        have HQ := Aside0.mk hq
        have HC := Aside0.mk hcall
        clear hq hcall
        go_wp2_with (go_at_fn g; refine HC.out.mono ?_; rintro e w' ⟨rfl, hb'⟩)
        go_roundg (n - (kk + 1))
        case measure => omega
        case rel =>
          refine ⟨kk + 1, by omega, by omega, by go_num, ⟨later_below BW.out hb'⟩, ⟨fun j h1 => ?_⟩⟩
          by_cases e : j = kk
          · subst e; rw [HY.out]; exact HQ.out
          · exact HA.out j (by omega)
    · have hltz : ¬ (kk : Int) < (n : Int) := by omega
      have e : kk = n := by omega
      subst e
      go_wp2
      go_ret
      refine ⟨?_, BW.out⟩; rw [idxI_missD p xs ByteArray.empty kk HN.out HA.out]; rfl
theorem index_str {g : Nat} {lb : Array Value} {xs : List (ByteArray)} {p : ByteArray → Bool} {w : World} {A : Option Addr} {c : Nat} (eg : ∀ args w, (callFunc g args).run Tryd.prog w = .ok (.enter g args) w)
    (hr : Kd.C (Kd.string) w A xs.length xs) (hp : PredK g lb (Kd.string) cell1 xs p w) :
    Calls Tryd.prog 46 #[.slice A xs.length c, .func (.func g) #[] lb] w fun e w' => e = .returned (.int .i64 (idxI p xs)) ∧ Below w.heap.size w w' := index_str' eg rfl hr hp
theorem contains_str {g : Nat} {lb : Array Value} {xs : List (ByteArray)} {p : ByteArray → Bool} {w : World} {A : Option Addr} {c : Nat} (eg : ∀ args w, (callFunc g args).run Tryd.prog w = .ok (.enter g args) w)
    (hr : Kd.C (Kd.string) w A xs.length xs) (hp : PredK g lb (Kd.string) cell1 xs p w) :
    Calls Tryd.prog 43 #[.slice A xs.length c, .func (.func g) #[] lb] w fun e w' => e = .returned (.bool (xs.any p)) ∧ Below w.heap.size w w' := by
  rw [← idxI_any p xs]
  have HR := Aside0.mk hr
  have HP := Aside0.mk hp
  have HE := Aside0.mk eg
  clear hr hp eg
  go_enter Tryd.func43, Tryd.ntmps43
  go_wp2_with (go_at_call 46; refine (index_str HE.out HR.out HP.out).mono ?_; rintro e w' ⟨rfl, hb'⟩)
  go_ret
  exact ⟨rfl, hb'⟩

set_option maxHeartbeats 2000000 in
theorem index_face' {g : Nat} {lb : Array Value} {xs : List (S33)} {p : S33 → Bool} {w : World} {A : Option Addr} {n c : Nat} (eg : ∀ args w, (callFunc g args).run Tryd.prog w = .ok (.enter g args) w)
    (hn : xs.length = n) (hr : Kd.C (k33) w A n xs) (hp : PredK g lb (k33) cellN xs p w) :
    Calls Tryd.prog 38 #[.slice A n c, .func (.func g) #[] lb] w fun e w' => e = .returned (.int .i64 (idxI p xs)) ∧ Below w.heap.size w w' := by
  have hm : n ≤ 9223372036854775807 := Kd.C_max hr
  have HN := Aside0.mk hn
  have HR := Aside0.mk hr
  have HP := Aside0.mk hp
  clear hr hp hn
  go_enter Tryd.func38, Tryd.ntmps38
  go_wp2
  go_loopg [5, 8] n (fun gg _ s8 wr => ∃ kk : Nat, kk ≤ n ∧ n - kk ≤ gg ∧ s8 = .int .i64 kk ∧ Aside0 (Below w.heap.size w wr) ∧ Aside0 (∀ j, j < kk → p (xs.getD j z33) = false))
  case atStart => exact ⟨0, Nat.zero_le _, by omega, rfl, ⟨Below.refl _ w⟩, ⟨fun j h0 => absurd h0 (Nat.not_lt_zero _)⟩⟩
  case round =>
    obtain ⟨kk, hkk, hg, rfl, BW, HA⟩ := hrel
    by_cases hlt : kk < n
    · have hltz : (kk : Int) < (n : Int) := by omega
      obtain ⟨ad, c1, rfl, hl1, hK, hcell⟩ := Kd.C_get (Kd.C_below HR.out BW.out) z33 (kk : Int) (by omega) hltz
      rw [Int.toNat_natCast] at hK hcell
      have hcall := HP.out _ (getD_mem HN.out hlt) wr _ BW.out hK
      have e1 := k33_open hK
      subst e1
      have hc : ∀ j u, [Value.int .i64 (xs.getD kk z33).f0.f0, Value.int .i64 (xs.getD kk z33).f0.f1, Value.int .i64 (xs.getD kk z33).f1.f0, Value.int .i64 (xs.getD kk z33).f1.f1][j]? = some u → wr.cell? (ad.add (kk * 4 + j)) = some u := fun j u hu => hcell j u hu
      have hc0 : wr.cell? (ad.add (kk * 4)) = some (.int .i64 (xs.getD kk z33).f0.f0) := hc 0 _ rfl
      have hc1 : wr.cell? ⟨(ad.add (kk * 4)).block, (ad.add (kk * 4)).off + 1, none⟩ = some (.int .i64 (xs.getD kk z33).f0.f1) := by rw [← add_field _ _ 1 (by omega)]; exact hc 1 _ rfl
      have hc2 : wr.cell? ⟨(ad.add (kk * 4)).block, (ad.add (kk * 4)).off + 2, none⟩ = some (.int .i64 (xs.getD kk z33).f1.f0) := by rw [← add_field _ _ 2 (by omega)]; exact hc 2 _ rfl
      have hc3 : wr.cell? ⟨(ad.add (kk * 4)).block, (ad.add (kk * 4)).off + 3, none⟩ = some (.int .i64 (xs.getD kk z33).f1.f1) := by rw [← add_field _ _ 3 (by omega)]; exact hc 3 _ rfl
      clear hc
      simp only [cellN] at hcall
      clear hcell hl1
      have hxx : xs.getD kk z33 = xs.getD kk z33 := rfl
      generalize hy : xs.getD kk z33 = y at hcall hc0 hc1 hc2 hc3 hK
      have HY := Aside0.mk hy
      clear hy hxx hK
      cases hq : p y with
      | true =>
        rw [hq] at hcall
        have HQ := Aside0.mk hq
        have HC := Aside0.mk hcall
        clear hq hcall
        go_wp2_with (go_at_fn g; refine HC.out.mono ?_; rintro e w' ⟨rfl, hb'⟩)
        go_ret
        refine ⟨?_, later_below BW.out hb'⟩; rw [idxI_hitD p xs z33 n kk HN.out hlt (by rw [HY.out]; exact HQ.out) HA.out]; rfl
      | false =>
        rw [hq] at hcall
        have HQ := Aside0.mk hq
        have HC := Aside0.mk hcall
        clear hq hcall
        go_wp2_with (go_at_fn g; refine HC.out.mono ?_; rintro e w' ⟨rfl, hb'⟩)
        go_roundg (n - (kk + 1))
        case measure => omega
        case rel =>
          refine ⟨kk + 1, by omega, by omega, by go_num, ⟨later_below BW.out hb'⟩, ⟨fun j h1 => ?_⟩⟩
          by_cases e : j = kk
          · subst e; rw [HY.out]; exact HQ.out
          · exact HA.out j (by omega)
    · have hltz : ¬ (kk : Int) < (n : Int) := by omega
      have e : kk = n := by omega
      subst e
      go_wp2
      go_ret
      refine ⟨?_, BW.out⟩; rw [idxI_missD p xs z33 kk HN.out HA.out]; rfl
theorem index_face {g : Nat} {lb : Array Value} {xs : List (S33)} {p : S33 → Bool} {w : World} {A : Option Addr} {c : Nat} (eg : ∀ args w, (callFunc g args).run Tryd.prog w = .ok (.enter g args) w)
    (hr : Kd.C (k33) w A xs.length xs) (hp : PredK g lb (k33) cellN xs p w) :
    Calls Tryd.prog 38 #[.slice A xs.length c, .func (.func g) #[] lb] w fun e w' => e = .returned (.int .i64 (idxI p xs)) ∧ Below w.heap.size w w' := index_face' eg rfl hr hp
theorem contains_face {g : Nat} {lb : Array Value} {xs : List (S33)} {p : S33 → Bool} {w : World} {A : Option Addr} {c : Nat} (eg : ∀ args w, (callFunc g args).run Tryd.prog w = .ok (.enter g args) w)
    (hr : Kd.C (k33) w A xs.length xs) (hp : PredK g lb (k33) cellN xs p w) :
    Calls Tryd.prog 31 #[.slice A xs.length c, .func (.func g) #[] lb] w fun e w' => e = .returned (.bool (xs.any p)) ∧ Below w.heap.size w w' := by
  rw [← idxI_any p xs]
  have HR := Aside0.mk hr
  have HP := Aside0.mk hp
  have HE := Aside0.mk eg
  clear hr hp eg
  go_enter Tryd.func31, Tryd.ntmps31
  go_wp2_with (go_at_call 38; refine (index_face HE.out HR.out HP.out).mono ?_; rintro e w' ⟨rfl, hb'⟩)
  go_ret
  exact ⟨rfl, hb'⟩

end Go.Proofs.YtmkhlgdgndnkbaaDoor.X
