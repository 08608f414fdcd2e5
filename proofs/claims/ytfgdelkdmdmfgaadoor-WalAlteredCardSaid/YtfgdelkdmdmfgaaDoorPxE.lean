import Derived.Test.YtfgdelkdmdmfgaaDoorPxD
namespace Go.Am
open Go
set_option linter.all false
end Go.Am
