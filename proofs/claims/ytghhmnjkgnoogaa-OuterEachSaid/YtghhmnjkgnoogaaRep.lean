import Derived.Shelf.Lay
import Derived.Ground.NamesProg
import Derived.Shelf.Strings.Repeat
import Derived.Test.YtghhmnjkgnoogaaMine
namespace Go.Mine
end Go.Mine
