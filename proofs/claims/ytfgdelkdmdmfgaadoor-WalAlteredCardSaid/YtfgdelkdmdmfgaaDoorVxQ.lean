import Derived.Test.YtfgdelkdmdmfgaaDoorPxB
namespace Go.Am
open Go
set_option linter.all false
end Go.Am
namespace Go.Proofs.YtfgdelkdmdmfgaaDoor
open Go Go.Am
set_option linter.all false
set_option maxRecDepth 100000
end Go.Proofs.YtfgdelkdmdmfgaaDoor
