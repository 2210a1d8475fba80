/- The shelf's contracts of library functions, laid for this seat by the kit's lay-shelf and lay-plain. -/
import Derived.Shelf.Lay
import Derived.Shelf.LaySoft

import Derived.Test.YtcaildjhnkedfaaProg
namespace Go.Proofs
open Go.Shelf
shelf_tried
end Go.Proofs
