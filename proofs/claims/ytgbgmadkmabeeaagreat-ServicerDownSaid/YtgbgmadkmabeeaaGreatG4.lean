/- Part 4 of what the laws of this seat share: walks of functions, and plain laws. -/
import Derived.Test.YtgbgmadkmabeeaaGreatG1
set_option maxRecDepth 100000
set_option maxHeartbeats 400000
namespace Go.Proofs.YtgbgmadkmabeeaaGreat
open Go.RowKit
theorem Yk(ad:Option Addr)(len cap:Nat)(w:World):Calls Tryz.prog 110 #[.slice ad len cap,.int .i64 41] w λe w'=>e= .returned (.func (.func 150) #[] #[(.pointer (some ⟨w.heap.size,0,none⟩)),(.pointer (some ⟨w.heap.size+1,0,none⟩))])/\w'=(w.alloc (.cells #[.slice ad len cap] 24)).alloc (.cells #[.int .i64 41] 3):=by
 go_enter Tryz.func110,Tryz.ntmps110;exact jk
end Go.Proofs.YtgbgmadkmabeeaaGreat
