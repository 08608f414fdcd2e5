import Derived.Test.YtbcfpeelkaoljaaDoorPxD
namespace Go.Am
open Go
set_option linter.all false
end Go.Am
