import Derived.Deep.RegionHeld3
import Derived.Deep.RegionLaw
import Derived.Shelf.Lay
import Derived.Ground.NamesProg
import Derived.Shelf.Sort.Plain
import Derived.Sort.OwnSortedInts
import Derived.Deep.MidRow
import Derived.Test.YtghhmnjkgnoogaaMine
namespace Go.Mine
open Go Go.RowKit
end Go.Mine
