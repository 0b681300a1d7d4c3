/- The plain law of TopFaceColumns: what the law computes is true, whatever the four bytes are: it hangs on the bytes' rests alone. -/
import Derived.Test.YtmkhlgdgndnkbaaDoorTfcAll
import Derived.OpenShut
namespace Go.Proofs.YtmkhlgdgndnkbaaDoor.PureTfc
open Go.RowKit Go.Proofs.YtmkhlgdgndnkbaaDoor.PTopFaceColumns Go.Proofs.YtmkhlgdgndnkbaaDoor.X

theorem all4 {p : Nat → Nat → Nat → Nat → Bool} (h : ((List.range 4).all fun x0 => (List.range 3).all fun x1 => (List.range 9).all fun x2 => (List.range (2 + x1)).all fun x3 => p x0 x1 x2 x3) = true)
    {x0 x1 x2 x3 : Nat} (h0 : x0 < 4) (h1 : x1 < 3) (h2 : x2 < 9) (h3 : x3 < 2 + x1) : p x0 x1 x2 x3 = true := by
  simp only [List.all_eq_true, List.mem_range] at h
  exact h x0 h0 x1 h1 x2 h2 x3 h3
theorem good_of {x0 x1 x2 x3 : Nat} (h0 : x0 < 8) (h1 : x1 < 3) (h2 : x2 < 9) (h3 : x3 < 2 + x1) : good x0 x1 x2 x3 = true := by
  by_cases h : x0 < 4
  · exact all4 (p := good) all0 h h1 h2 h3
  · have := all4 (p := fun x0 x1 x2 x3 => good (4 + x0) x1 x2 x3) all1 (x0 := x0 - 4) (by omega) h1 h2 h3
    rwa [show 4 + (x0 - 4) = x0 from by omega] at this

theorem rest (n : Nat) (m : Int) (hn : n < 256) (hm : 0 < m) : Int.tmod (wrap64 (n : Int)) m = (n : Int) % m := by
  rw [wrap_id (by omega) (by omega)]
  exact Int.tmod_eq_emod_of_nonneg (by omega)
theorem same (k n0 n1 n2 n3 : Nat) (h0 : n0 < 256) (h1 : n1 < 256) (h2 : n2 < 256) (h3 : n3 < 256) (x0 x1 x2 x3 : Nat) (e0 : x0 = n0 % 8) (e1 : x1 = n1 % 3) (e2 : x2 = n2 % 9) (e3 : x3 = n3 % (2 + x1)) :
    panachetop_TopFaceColumns.f k n0 n1 n2 n3 = panachetop_TopFaceColumns.f k x0 x1 x2 x3 := by
  have hx0 : x0 < 8 := by omega
  have hx1 : x1 < 3 := by omega
  have hx2 : x2 < 9 := by omega
  have hx3 : x3 < 2 + x1 := by rw [e3]; exact Nat.mod_lt _ (by omega)
  have hx3' : x3 < 256 := by omega
  have c0 : (n0 : Int) % 8 = (x0 : Int) := by omega
  have c1 : (n1 : Int) % 3 = (x1 : Int) := by omega
  have c2 : (n2 : Int) % 9 = (x2 : Int) := by omega
  have c3 : (n3 : Int) % (2 + (x1 : Int)) = (x3 : Int) := by
    rw [e3, Int.natCast_emod, Int.natCast_add]
    rfl
  have d0 : (x0 : Int) % 8 = (x0 : Int) := by omega
  have d1 : (x1 : Int) % 3 = (x1 : Int) := by omega
  have d2 : (x2 : Int) % 9 = (x2 : Int) := by omega
  have d3 : (x3 : Int) % (2 + (x1 : Int)) = (x3 : Int) := Int.emod_eq_of_lt (by omega) (by omega)
  have hw : (0 : Int) < 2 + (x1 : Int) := by omega
  have h0' : x0 < 256 := by omega
  have h1' : x1 < 256 := by omega
  have h2' : x2 < 256 := by omega
  have ew : wrap64 (2 + (x1 : Int)) = 2 + (x1 : Int) := wrap_id (by omega) (by omega)
  have a0 : Int.tmod (wrap64 (n0 : Int)) 8 = (x0 : Int) := (rest n0 8 h0 (by decide)).trans c0
  have a1 : Int.tmod (wrap64 (n1 : Int)) 3 = (x1 : Int) := (rest n1 3 h1 (by decide)).trans c1
  have a2 : Int.tmod (wrap64 (n2 : Int)) 9 = (x2 : Int) := (rest n2 9 h2 (by decide)).trans c2
  have a3 : Int.tmod (wrap64 (n3 : Int)) (2 + (x1 : Int)) = (x3 : Int) := (rest n3 _ h3 hw).trans c3
  have b0 : Int.tmod (wrap64 (x0 : Int)) 8 = (x0 : Int) := (rest x0 8 h0' (by decide)).trans d0
  have b1 : Int.tmod (wrap64 (x1 : Int)) 3 = (x1 : Int) := (rest x1 3 h1' (by decide)).trans d1
  have b2 : Int.tmod (wrap64 (x2 : Int)) 9 = (x2 : Int) := (rest x2 9 h2' (by decide)).trans d2
  have b3 : Int.tmod (wrap64 (x3 : Int)) (2 + (x1 : Int)) = (x3 : Int) := (rest x3 _ hx3' hw).trans d3
  unfold panachetop_TopFaceColumns.f
  rw [a0, a1, a2, b0, b1, b2, ew, a3, b3]
theorem pure (a0 a1 a2 a3 : Int) (w0 : (Lit.int .u8 a0).wf = true) (w1 : (Lit.int .u8 a1).wf = true) (w2 : (Lit.int .u8 a2).wf = true) (w3 : (Lit.int .u8 a3).wf = true) : panachetop_TopFaceColumns.f 40 a0 a1 a2 a3 = some true := by
  have k0 := bounds_u8 w0
  have k1 := bounds_u8 w1
  have k2 := bounds_u8 w2
  have k3 := bounds_u8 w3
  obtain ⟨n0, rfl⟩ := Int.eq_ofNat_of_zero_le k0.1
  obtain ⟨n1, rfl⟩ := Int.eq_ofNat_of_zero_le k1.1
  obtain ⟨n2, rfl⟩ := Int.eq_ofNat_of_zero_le k2.1
  obtain ⟨n3, rfl⟩ := Int.eq_ofNat_of_zero_le k3.1
  rw [same 40 n0 n1 n2 n3 (by omega) (by omega) (by omega) (by omega) (n0 % 8) (n1 % 3) (n2 % 9) (n3 % (2 + n1 % 3)) rfl rfl rfl rfl]
  have h := good_of (x0 := n0 % 8) (x1 := n1 % 3) (x2 := n2 % 9) (x3 := n3 % (2 + n1 % 3)) (Nat.mod_lt _ (by decide)) (Nat.mod_lt _ (by decide)) (Nat.mod_lt _ (by decide)) (Nat.mod_lt _ (by omega))
  unfold good at h
  exact of_decide_eq_true h
end Go.Proofs.YtmkhlgdgndnkbaaDoor.PureTfc
