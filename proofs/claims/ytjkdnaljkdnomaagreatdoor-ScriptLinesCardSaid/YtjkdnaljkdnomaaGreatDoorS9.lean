/- Part 9 of what the laws of this seat share: walks of functions, and plain laws. -/
import Derived.Test.YtjkdnaljkdnomaaGreatDoorS1
set_option maxRecDepth 100000
set_option maxHeartbeats 400000
namespace Go.Proofs.YtjkdnaljkdnomaaGreatDoor
open Go.RowKit
structure SI where
 ad:Option Addr
 cap:Nat
 L:List Int
def SI.v(x:SI):Value:= .slice x.ad x.L.length x.cap
def SI.cells(x:SI):List Value:= [x.v]
theorem SI.Aj(x:SI):x.cells.length=1:=rfl
def SIs(w:World)(S:List SI):Prop:=∀x∈S,Reads w 1 x.v x.L.length (x.L.flatMap i64c)/\x.L.length<=maxLen
theorem SIs.keep{w w':World}{S:List SI}(h:SIs w S)(hk:K0 w w'):SIs w' S:=λx hx=>⟨(h x hx).1.keeps hk (by simp),(h x hx).2⟩
end Go.Proofs.YtjkdnaljkdnomaaGreatDoor
