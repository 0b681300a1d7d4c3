/- Package pleat: spared: the function value that reports whether a face is spared. -/
import Derived.Test.YtmkhlgdgndnkbaaDoorPleD
namespace Go.Proofs.YtmkhlgdgndnkbaaDoor.X
open Go.RowKit Go.Proofs.YtmkhlgdgndnkbaaDoorW.PrintWords Go.Proofs.YtmkhlgdgndnkbaaDoorW.PrintLast Go.Proofs.YtmkhlgdgndnkbaaDoorW.PrintMore Go.Proofs.YtmkhlgdgndnkbaaDoor.PPle Go.Proofs.YtmkhlgdgndnkbaaDoor.PPlM

def sparedW (w : World) (bed : Array Value) (shift : Int) (fv : Value) : World := ((w.alloc (.cells bed 42 (0, 0))).alloc (.cells #[.int .i64 shift] 3 (0, 0))).alloc (.cells #[fv] 47 (0, 0))
theorem sparedW_below (w : World) (bed : Array Value) (shift : Int) (fv : Value) : Below w.heap.size w (sparedW w bed shift fv) := below_alloc (below_alloc (below_alloc (Below.refl _ _) _) _) _
theorem spared_calls {v1 v2 v3 v4 v5 v6 : Value} {shift : Int} {g : Nat} {w : World} :
    Calls Tryd.prog 19 #[.agg #[v1, v2, v3, v4, v5, v6], .int .i64 shift, .func (.func g) #[] #[]] w fun e w' =>
      e = .returned (.func (.func 33) #[] #[.pointer (some ⟨w.heap.size, 0, none⟩), .pointer (some ⟨w.heap.size + 1, 0, none⟩), .pointer (some ⟨w.heap.size + 1 + 1, 0, none⟩)]) ∧ w' = sparedW w #[v1, v2, v3, v4, v5, v6] shift (.func (.func g) #[] #[]) := by
  go_enter Tryd.func19, Tryd.ntmps19
  go_wp2
  go_ret
  exact ⟨rfl, rfl⟩

theorem enters_spared1 : ∀ args w, (callFunc 33 args).run Tryd.prog w = .ok (.enter 33 args) w := enters_of Tryd.func33 (by kernel_rfl) rfl
set_option maxHeartbeats 2000000 in
theorem spared1_calls {g1 g2 g3 g k : Nat} {long half room play shift ta tb r : Int} {A B : Option Addr} {c d : Nat} {l : List S33} {gr : List Int} {x : S33} {w : World}
    (eg : ∀ args w, (callFunc g args).run Tryd.prog w = .ok (.enter g args) w)
    (b1 : w.heap[g1]? = some (.cells #[.int .i64 long, .slice A l.length c, .slice B gr.length d, .int .i64 half, .int .i64 room, .int .i64 play] 42 (0, 0)))
    (b2 : w.heap[g2]? = some (.cells #[.int .i64 shift] 3 (0, 0))) (b3 : w.heap[g3]? = some (.cells #[.func (.func g) #[] #[]] 47 (0, 0)))
    (hr : Kd.C k33 w A l.length l) (hc : l.length ≤ c) (hg : Kd.C (Kd.int .i64) w B gr.length gr) (hd : gr.length ≤ d)
    (htr : ∀ W, Calls Tryd.prog g #[.agg #[.int .i64 x.f0.f0, .int .i64 x.f0.f1, .int .i64 x.f1.f0, .int .i64 x.f1.f1]] W fun e W' => e = .returned (.agg #[.int .i64 ta, .int .i64 tb]) ∧ Below W.heap.size W W')
    (ha : pleat_bed_away.f k long l gr half room play shift ta tb = some r) :
    Calls Tryd.prog 33 #[.agg #[.int .i64 x.f0.f0, .int .i64 x.f0.f1, .int .i64 x.f1.f0, .int .i64 x.f1.f1], .pointer (some ⟨g1, 0, none⟩), .pointer (some ⟨g2, 0, none⟩), .pointer (some ⟨g3, 0, none⟩)] w fun e w' => e = .returned (.bool (decide (0 ≤ r))) ∧ Below w.heap.size w w' := by
  have HR := Aside0.mk hr
  have HG := Aside0.mk hg
  have HTR := Aside0.mk htr
  have HA := Aside0.mk ha
  have HX : Aside0 (∀ {w1 : World}, Below (w.alloc (.cells #[.int .i64 x.f0.f0, .int .i64 x.f0.f1, .int .i64 x.f1.f0, .int .i64 x.f1.f1] 33 (0, 0))).heap.size (w.alloc (.cells #[.int .i64 x.f0.f0, .int .i64 x.f0.f1, .int .i64 x.f1.f0, .int .i64 x.f1.f1] 33 (0, 0))) w1 →
      (w1.cell? ⟨g1, 0, none⟩ = some (.int .i64 long) ∧ w1.cell? ⟨g1, 1, none⟩ = some (.slice A l.length c) ∧ w1.cell? ⟨g1, 2, none⟩ = some (.slice B gr.length d) ∧ w1.cell? ⟨g1, 3, none⟩ = some (.int .i64 half) ∧ w1.cell? ⟨g1, 4, none⟩ = some (.int .i64 room) ∧ w1.cell? ⟨g1, 5, none⟩ = some (.int .i64 play)) ∧
      (w1.cell? ⟨g2, 0, none⟩ = some (.int .i64 shift) ∧ w1.cell? ⟨g3, 0, none⟩ = some (.func (.func g) #[] #[])) ∧
      (w1.cell? ⟨w.heap.size, 0, none⟩ = some (.int .i64 x.f0.f0) ∧ w1.cell? ⟨w.heap.size, 1, none⟩ = some (.int .i64 x.f0.f1) ∧ w1.cell? ⟨w.heap.size, 2, none⟩ = some (.int .i64 x.f1.f0) ∧ w1.cell? ⟨w.heap.size, 3, none⟩ = some (.int .i64 x.f1.f1)) ∧ Aside0 (Below w.heap.size w w1)) := ⟨fun {w1} hb => by
    have hb0 : Below w.heap.size w w1 := below_then (below_alloc (Below.refl _ _) _) (by simp) hb
    have k1 := blk_below b1 hb0
    have k2 := blk_below b2 hb0
    have k3 := blk_below b3 hb0
    have k4 := blk_below (blk_new w _) hb
    exact ⟨⟨(blk_cell k1 0).trans rfl, (blk_cell k1 1).trans rfl, (blk_cell k1 2).trans rfl, (blk_cell k1 3).trans rfl, (blk_cell k1 4).trans rfl, (blk_cell k1 5).trans rfl⟩, ⟨(blk_cell k2 0).trans rfl, (blk_cell k3 0).trans rfl⟩, ⟨(blk_cell k4 0).trans rfl, (blk_cell k4 1).trans rfl, (blk_cell k4 2).trans rfl, (blk_cell k4 3).trans rfl⟩, ⟨hb0⟩⟩⟩
  clear hr hg htr ha b1 b2 b3
  go_enter Tryd.func33, Tryd.ntmps33
  go_wp2
  generalize hw0 : w.alloc (.cells #[.int .i64 x.f0.f0, .int .i64 x.f0.f1, .int .i64 x.f1.f0, .int .i64 x.f1.f1] 33 (0, 0)) = W at HX ⊢
  have HW0 := Aside0.mk hw0
  clear hw0
  go_region_held3 (fun w' => Aside0 (Below W.heap.size W w') ∧ (w'.cell? ⟨g1, 0, none⟩ = some (.int .i64 long) ∧ w'.cell? ⟨g1, 1, none⟩ = some (.slice A l.length c) ∧ w'.cell? ⟨g1, 2, none⟩ = some (.slice B gr.length d) ∧ w'.cell? ⟨g1, 3, none⟩ = some (.int .i64 half) ∧ w'.cell? ⟨g1, 4, none⟩ = some (.int .i64 room) ∧ w'.cell? ⟨g1, 5, none⟩ = some (.int .i64 play)) ∧
      (w'.cell? ⟨g2, 0, none⟩ = some (.int .i64 shift) ∧ w'.cell? ⟨g3, 0, none⟩ = some (.func (.func g) #[] #[])) ∧
      (w'.cell? ⟨w.heap.size, 0, none⟩ = some (.int .i64 x.f0.f0) ∧ w'.cell? ⟨w.heap.size, 1, none⟩ = some (.int .i64 x.f0.f1) ∧ w'.cell? ⟨w.heap.size, 2, none⟩ = some (.int .i64 x.f1.f0) ∧ w'.cell? ⟨w.heap.size, 3, none⟩ = some (.int .i64 x.f1.f1)) ∧ Aside0 (Below w.heap.size w w'))
    (first | exact ⟨⟨below_drew (Below.refl _ _)⟩, HX.out (below_drew (Below.refl _ _))⟩ | (go_split_ands; exact ⟨⟨later_below (Aside0.out ‹Aside0 (Below W.heap.size W _)›) hb1⟩, HX.out (later_below (Aside0.out ‹Aside0 (Below W.heap.size W _)›) hb1)⟩))
    ((first
      | (go_at_fn g; refine (HTR.out _).mono ?_; rintro e w1 ⟨rfl, hb1⟩)
      | (go_at_call 34; refine (pleat_bed_away.calls k long A c l B d gr half room play shift ta tb r _ (Kd.C_below HR.out (by go_split_ands; exact Aside0.out (by assumption))) hc (Kd.C_below HG.out (by go_split_ands; exact Aside0.out (by assumption))) hd HA.out).mono ?_; rintro e w1 ⟨rfl, hb1⟩)))
  rename_i hh
  obtain ⟨hh1, hh2, hh3, hh4, hh5⟩ := hh
  clear hb1
  go_wp2
  go_ret
  exact ⟨rfl, hh5.out⟩
end Go.Proofs.YtmkhlgdgndnkbaaDoor.X
