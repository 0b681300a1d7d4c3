/- What TopFaceColumns computes at all rests of its four bytes: true, reckoned by the kernel. -/
import Derived.Test.YtmkhlgdgndnkbaaDoorPTopFaceColumnsx2
namespace Go.Proofs.YtmkhlgdgndnkbaaDoor.PureTfc
open Go.RowKit Go.Proofs.YtmkhlgdgndnkbaaDoor.PTopFaceColumns Go.Proofs.YtmkhlgdgndnkbaaDoor.X

def good (x0 x1 x2 x3 : Nat) : Bool := decide (panachetop_TopFaceColumns.f 40 x0 x1 x2 x3 = some true)
set_option maxRecDepth 100000
theorem all0 : ((List.range 4).all fun x0 => (List.range 3).all fun x1 => (List.range 9).all fun x2 => (List.range (2 + x1)).all fun x3 => good x0 x1 x2 x3) = true := by decide +kernel
theorem all1 : ((List.range 4).all fun x0 => (List.range 3).all fun x1 => (List.range 9).all fun x2 => (List.range (2 + x1)).all fun x3 => good (4 + x0) x1 x2 x3) = true := by decide +kernel
end Go.Proofs.YtmkhlgdgndnkbaaDoor.PureTfc
