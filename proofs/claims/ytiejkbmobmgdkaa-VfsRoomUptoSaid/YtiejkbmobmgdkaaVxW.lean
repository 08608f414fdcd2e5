/- A slice of bytes' slices that comes in. No condition. -/
import Derived.Test.YtiejkbmobmgdkaaVxU
import Derived.Test.YtiejkbmobmgdkaaVxV
namespace Go.Am
open Go Go.ChangeShapes Go.WideShapes Go.RowKit
set_option linter.all false
end Go.Am
