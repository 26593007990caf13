import Derived.Deep.RegionHeld3
import Derived.Deep.RegionLaw
import Derived.Deep.MidRow
import Derived.Test.YtmebebpnogemdaaMine
namespace Go.Mine
open Go Go.RowKit
end Go.Mine
