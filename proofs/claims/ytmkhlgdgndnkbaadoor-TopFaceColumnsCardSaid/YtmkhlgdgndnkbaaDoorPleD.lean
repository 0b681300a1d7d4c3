/- Package pleat: newBed: the leaf and the mould side by side, and the first error of both. -/
import Derived.Test.YtmkhlgdgndnkbaaDoorPPlMx
namespace Go.Proofs.YtmkhlgdgndnkbaaDoor.X
open Go.RowKit Go.Proofs.YtmkhlgdgndnkbaaDoorW.PrintWords Go.Proofs.YtmkhlgdgndnkbaaDoorW.PrintLast Go.Proofs.YtmkhlgdgndnkbaaDoorW.PrintMore Go.Proofs.YtmkhlgdgndnkbaaDoor.PPle Go.Proofs.YtmkhlgdgndnkbaaDoor.PPlM

def bedW (w : World) (v1 v2 : Array Value) : World := ((w.alloc (.cells v1 25 (0, 0))).alloc (.cells v2 28 (0, 0))).alloc (.cells #[.int .i64 0, .slice none 0 0, .slice none 0 0, .int .i64 0, .int .i64 0, .int .i64 0] 42 (0, 0))
theorem bedW_below (w : World) (v1 v2 : Array Value) : Below w.heap.size w (bedW w v1 v2) := below_alloc (below_alloc (below_alloc (Below.refl _ _) _) _) _
theorem bedW_facts {w w1 : World} {v1 v2 : Array Value} (hb : Below (bedW w v1 v2).heap.size (bedW w v1 v2) w1) :
    w1.heap[w.heap.size]? = some (.cells v1 25 (0, 0)) ∧ w1.heap[w.heap.size + 1]? = some (.cells v2 28 (0, 0)) ∧ w1.heap[w.heap.size + 1 + 1]? = some (.cells #[.int .i64 0, .slice none 0 0, .slice none 0 0, .int .i64 0, .int .i64 0, .int .i64 0] 42 (0, 0)) ∧ Below w.heap.size w w1 :=
  ⟨blk_below (blk_alloc (blk_alloc (blk_new _ _) _) _) hb, blk_below (blk_alloc (one_blk _ _ (by simp)) _) hb, blk_below (one_blk _ _ (by simp)) hb, below_then (bedW_below w v1 v2) (by unfold bedW; simp; omega) hb⟩

set_option maxHeartbeats 2000000 in
theorem newBed_calls {long half room play m : Int} {A B : Option Addr} {c d k : Nat} {l : List S33} {gr : List Int} {w : World} (hr : Kd.C k33 w A l.length l) (hc : l.length ≤ c) (hg : Kd.C (Kd.int .i64) w B gr.length gr) (hd : gr.length ≤ d) (hm : pleat_Mould.f k gr half room play = some m) :
    Calls Tryd.prog 9 #[.agg #[.int .i64 long, .slice A l.length c], .agg #[.slice B gr.length d, .int .i64 half, .int .i64 room, .int .i64 play]] w fun e w' =>
      e = .returned (.tuple #[.agg #[.int .i64 long, .slice A l.length c, .slice B gr.length d, .int .i64 half, .int .i64 room, .int .i64 play], .int .i64 (if pcheckF long l = 0 then m else pcheckF long l)]) ∧ Below w.heap.size w w' := by
  have HR := Aside0.mk hr
  have HG := Aside0.mk hg
  have HM := Aside0.mk hm
  have HF : Aside0 (∀ {w1 : World}, Below (bedW w #[.int .i64 long, .slice A l.length c] #[.slice B gr.length d, .int .i64 half, .int .i64 room, .int .i64 play]).heap.size (bedW w #[.int .i64 long, .slice A l.length c] #[.slice B gr.length d, .int .i64 half, .int .i64 room, .int .i64 play]) w1 → _) := ⟨fun hb => bedW_facts hb⟩
  obtain ⟨q, hq⟩ : ∃ q, pcheckF long l = q := ⟨_, rfl⟩
  have HC : Aside0 (pleat_Check.f long l = some q) := ⟨by unfold pleat_Check.f; rw [hq]⟩
  rw [hq]
  clear hr hg hm hq
  by_cases c0 : q = 0
  · subst c0
    rw [if_pos rfl]
    go_enter Tryd.func9, Tryd.ntmps9
    go_wp2_with (first | (go_at_call 15; refine (pleat_Check.calls long A c l 0 _ (Kd.C_alloc (Kd.C_alloc (Kd.C_alloc HR.out _) _) _) hc HC.out).mono ?_; rintro e w1 ⟨rfl, hb1⟩; obtain ⟨b2, b3, b4, hb⟩ := HF.out hb1; have HB1 := Aside0.mk hb1; have HBB := Aside0.mk hb; have y30 := (blk_cell b3 0).trans rfl; have y31 := (blk_cell b3 1).trans rfl; have y32 := (blk_cell b3 2).trans rfl; have y33 := (blk_cell b3 3).trans rfl; clear hb1 hb b2 b3 b4) | (go_at_call 16; refine (pleat_Mould.calls k B d gr half room play m _ (Kd.C_below HG.out HBB.out) hd HM.out).mono ?_; rintro e w2 ⟨rfl, hb2⟩; obtain ⟨b2, b3, b4, hb⟩ := HF.out (later_below HB1.out hb2); have HB := Aside0.mk hb; clear hb2 hb y30 y31 y32 y33; have z20 := (blk_cell b2 0).trans rfl; have z21 := (blk_cell b2 1).trans rfl; have z30 := (blk_cell b3 0).trans rfl; have z31 := (blk_cell b3 1).trans rfl; have z32 := (blk_cell b3 2).trans rfl; have z33 := (blk_cell b3 3).trans rfl; have z40 := (blk_cell b4 0).trans rfl; have z41 := (blk_cell b4 1).trans rfl; have z42 := (blk_cell b4 2).trans rfl; have z43 := (blk_cell b4 3).trans rfl; have z44 := (blk_cell b4 4).trans rfl; have z45 := (blk_cell b4 5).trans rfl; have f0 := blk_frozen b4 0; have f1 := blk_frozen b4 1; have f2 := blk_frozen b4 2; have f3 := blk_frozen b4 3; have f4 := blk_frozen b4 4; have f5 := blk_frozen b4 5; have B4 := Aside0.mk b4; clear b2 b3 b4))
    refine bodyPost_ret (results_ct rfl _ _ _ 42 #[.int .i64 long, .slice A l.length c, .slice B gr.length d, .int .i64 half, .int .i64 room, .int .i64 play] (0, 0) _ rfl (blk_put (blk_put (blk_put (blk_put (blk_put (blk_put B4.out 0 _ rfl) 1 _ rfl) 2 _ rfl) 3 _ rfl) 4 _ rfl) 5 _ rfl) Tryd.underlying42 rfl (by kernel_rfl)) rfl ?_
    have ge : w.heap.size ≤ w.heap.size + 1 + 1 := by omega
    exact ⟨rfl, below_set (below_set (below_set (below_set (below_set (below_set HB.out ge) ge) ge) ge) ge) ge⟩
  · have d0 : (q == 0) = false := beq_eq_false_iff_ne.mpr c0
    rw [if_neg c0]
    go_enter Tryd.func9, Tryd.ntmps9
    go_wp2_with (go_at_call 15; refine (pleat_Check.calls long A c l q _ (Kd.C_alloc (Kd.C_alloc (Kd.C_alloc HR.out _) _) _) hc HC.out).mono ?_; rintro e w1 ⟨rfl, hb1⟩; obtain ⟨b2, b3, b4, hb⟩ := HF.out hb1; have HB := Aside0.mk hb; clear hb1 hb; have z20 := (blk_cell b2 0).trans rfl; have z21 := (blk_cell b2 1).trans rfl; have z30 := (blk_cell b3 0).trans rfl; have z31 := (blk_cell b3 1).trans rfl; have z32 := (blk_cell b3 2).trans rfl; have z33 := (blk_cell b3 3).trans rfl; have z40 := (blk_cell b4 0).trans rfl; have z41 := (blk_cell b4 1).trans rfl; have z42 := (blk_cell b4 2).trans rfl; have z43 := (blk_cell b4 3).trans rfl; have z44 := (blk_cell b4 4).trans rfl; have z45 := (blk_cell b4 5).trans rfl; have f0 := blk_frozen b4 0; have f1 := blk_frozen b4 1; have f2 := blk_frozen b4 2; have f3 := blk_frozen b4 3; have f4 := blk_frozen b4 4; have f5 := blk_frozen b4 5; have B4 := Aside0.mk b4; clear b2 b3 b4)
    refine bodyPost_ret (results_ct rfl _ _ _ 42 #[.int .i64 long, .slice A l.length c, .slice B gr.length d, .int .i64 half, .int .i64 room, .int .i64 play] (0, 0) _ rfl (blk_put (blk_put (blk_put (blk_put (blk_put (blk_put B4.out 0 _ rfl) 1 _ rfl) 2 _ rfl) 3 _ rfl) 4 _ rfl) 5 _ rfl) Tryd.underlying42 rfl (by kernel_rfl)) rfl ?_
    have ge : w.heap.size ≤ w.heap.size + 1 + 1 := by omega
    exact ⟨rfl, below_set (below_set (below_set (below_set (below_set (below_set HB.out ge) ge) ge) ge) ge) ge⟩
end Go.Proofs.YtmkhlgdgndnkbaaDoor.X
