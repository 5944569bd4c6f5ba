/- Part 35 of what the laws of this seat share: walks of functions, and plain laws. -/
import Derived.Test.YtjkdnaljkdnomaaGreatDoorS3
set_option maxRecDepth 100000
set_option maxHeartbeats 400000
namespace Go.Proofs.YtjkdnaljkdnomaaGreatDoor
open Go.RowKit
theorem chunk_any(ad:Option Addr)(len cap:Nat)(w:World):Calls Tryz.prog 54 #[.slice ad len cap,.int .i64 41] w λe w'=>e= .returned (.func (.func 85) #[] #[(.pointer (some ⟨w.heap.size,0,none⟩)),(.pointer (some ⟨w.heap.size+1,0,none⟩))])/\w'=(w.alloc (.cells #[.slice ad len cap] 22)).alloc (.cells #[.int .i64 41] 3):=by
 go_enter Tryz.func54,Tryz.ntmps54;exact jn
end Go.Proofs.YtjkdnaljkdnomaaGreatDoor
