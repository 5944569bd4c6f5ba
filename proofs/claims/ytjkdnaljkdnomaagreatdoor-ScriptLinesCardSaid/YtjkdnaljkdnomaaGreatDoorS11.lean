/- Part 11 of what the laws of this seat share: walks of functions, and plain laws. -/
import Derived.Test.YtjkdnaljkdnomaaGreatDoorS3
import Derived.Test.YtjkdnaljkdnomaaGreatDoorS7
set_option maxRecDepth 100000
set_option maxHeartbeats 400000
namespace Go.Proofs.YtjkdnaljkdnomaaGreatDoor
open Go.RowKit
def tbS(E:Nat)(t:Tm)(v:Value)(w:World):Prop:=
 w.cell? ⟨E,0,none⟩=some (.int .i64 t.limit)/\w.cell? ⟨E,1,none⟩=some v/\w.cell? ⟨E,2,none⟩=some (.int .i64 t.cyc)/\w.cell? ⟨E,3,none⟩=some (.int .i64 t.due)/\w.cell? ⟨E,4,none⟩=some (.int .i64 t.minFixed)/\w.cell? ⟨E,5,none⟩=some (.int .i64 t.minPart)/\w.cell? ⟨E,6,none⟩=some (.int .i64 t.start)
theorem tbS.of{E:Nat}{t:Tm}{v:Value}{w:World}(hb:w.heap[E]?=some (.cells #[.int .i64 t.limit,v,.int .i64 t.cyc,.int .i64 t.due,.int .i64 t.minFixed,.int .i64 t.minPart,.int .i64 t.start] 26 (0,0))):tbS E t v w:=
 ⟨Aa hb 0,Aa hb 1,Aa hb 2,Aa hb 3,Aa hb 4,Aa hb 5,Aa hb 6⟩
theorem tbS.keep{E:Nat}{t:Tm}{v:Value}{w w':World}(h:tbS E t v w)(hk:K0 w w'):tbS E t v w':=by
 obtain⟨h0,h1,h2,h3,h4,h5,h6⟩:=h;exact⟨(hk.cell (Ai h0) (by simp)).trans h0,(hk.cell (Ai h1) (by simp)).trans h1,(hk.cell (Ai h2) (by simp)).trans h2,(hk.cell (Ai h3) (by simp)).trans h3,(hk.cell (Ai h4) (by simp)).trans h4,(hk.cell (Ai h5) (by simp)).trans h5,(hk.cell (Ai h6) (by simp)).trans h6⟩
end Go.Proofs.YtjkdnaljkdnomaaGreatDoor
