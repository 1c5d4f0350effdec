/- Nothing is told elsewhere. -/
import Derived.Test.YtajmfmgfdgdioaaProg
namespace Go.Proofs.Ytajmfmgfdgdioaa.X
end Go.Proofs.Ytajmfmgfdgdioaa.X
