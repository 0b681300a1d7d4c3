/- TopFaceColumns: the tied card: for every four bytes the law returns true and its argument reads as before; what the two tables of package unicode/utf8 hold is tied to the program's text. -/
import Derived.Test.YtmkhlgdgndnkbaaDoorTfcRow
import Derived.Test.YtmkhlgdgndnkbaaDoorTie
import Derived.Test.YtmkhlgdgndnkbaaDoorCards
import Derived.SevenTiedAt
namespace Go.Proofs.YtmkhlgdgndnkbaaDoor
open Go

theorem topFaceColumns_card : Rows.TopFaceColumnsCardSaid :=
  Claim7.holds_tied_plain_at .later [] [.data, .pinned] true (true, "425da32430d23edb8a8f1749f8699d62f5cd739eda889269af4397e1671b357e") false
    topFaceColumns.over (fun _ h => by cases h) (by kernel_rfl) (fun _ h => by cases h) topFaceColumns_row_tie rfl ⟨rfl, rfl⟩ (by kernel_rfl) rfl
    (fun f fn hf hfn => by
      obtain rfl : f = 3 := Option.some.inj ((show Tryd.prog.funcNamed "panache/panachetop.TopFaceColumns" = some 3 by kernel_rfl).symm.trans hf) |>.symm
      obtain rfl : fn = Tryd.f3 := (Option.some.inj (Tryd.func3.symm.trans hfn)).symm
      exact ⟨by kernel_rfl, fun j t ht => by
        rw [Tryd.params3] at ht
        have h3 : t = 22 := by
          rcases j with _ | j
          · simpa using ht.symm
          · simp at ht
        subst h3
        exact (show Tryd.prog.wantsStandIn 22 = false by kernel_rfl)⟩)
    (by kernel_rfl)
#print axioms topFaceColumns_card
end Go.Proofs.YtmkhlgdgndnkbaaDoor
