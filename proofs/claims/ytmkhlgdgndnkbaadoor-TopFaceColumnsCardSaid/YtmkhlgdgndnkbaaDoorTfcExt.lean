/- What TopFaceColumns takes as given of the packages lattice and pleat: Show and Hit. -/
import Derived.Test.YtmkhlgdgndnkbaaDoorLatG
import Derived.Test.YtmkhlgdgndnkbaaDoorPleH
