/- Part 34 of what the laws of this seat share: walks of functions, and plain laws. -/
import Derived.Test.YtgbgmadkmabeeaaGreatE27
set_option maxRecDepth 100000
set_option maxHeartbeats 400000
namespace Go.Proofs.YtgbgmadkmabeeaaGreat
open Go.RowKit
end Go.Proofs.YtgbgmadkmabeeaaGreat
