/- Part 26 of what the laws of this seat share: walks of functions, and plain laws. -/
import Derived.Test.YtjkdnaljkdnomaaGreatDoorS25
set_option maxRecDepth 100000
set_option maxHeartbeats 400000
namespace Go.Proofs.YtjkdnaljkdnomaaGreatDoor
open Go.RowKit
inductive RunIs (w0:World) (m:Nat) (Z:St×Int) (W:World):Value->Int->Int->Value->Value->Int->Prop
 |ok {vb vr vo:Value} {P:List SV}:Z.2=0->En w0 m Z.1 vb vr vo P W->RunIs w0 m Z W vb Z.1.p.cr Z.1.p.du vr vo 0
 |bad:¬Z.2=0->RunIs w0 m Z W (.slice none 0 0) 0 0 (.slice none 0 0) (.slice none 0 0) Z.2
theorem Qv{m:Nat}{Z:St×Int}{w W:World}{e:Ending}(h:Vf w m Z e W):∃vb cr du vr vo z,e= .returned (.tuple #[.agg #[vb,.int .i64 cr,.int .i64 du],vr,vo,.int .i64 z])/\RunIs w m Z W vb cr du vr vo z/\K0 w W/\∃a n c,vb= .slice a n c:=by
 rcases h with⟨hz,vb,vr,vo,P,rfl,hres⟩|⟨hz,rfl,hk⟩
 ·obtain⟨a,c,h,_⟩:=Ae hres.bal;exact⟨_,_,_,_,_,_,rfl,.ok hz hres,hres.kp,a,_,c,h⟩
 ·exact⟨_,_,_,_,_,_,rfl,.bad hz,hk,none,0,0,rfl⟩
theorem RunIs.keep{w0:World}{m:Nat}{Z:St×Int}{W W':World}{vb vr vo:Value}{cr du z:Int}(h:RunIs w0 m Z W vb cr du vr vo z)(hk:K0 W W'):RunIs w0 m Z W' vb cr du vr vo z:=by
 cases h with
 |ok e g=>exact .ok e ⟨g.bal.of_keeps hk,g.rts.of_keeps hk,g.out.of_keeps hk,λx hx=>(g.ln x hx).of_keeps hk,g.lp,g.nb,g.nr,g.wb,g.wr,g.wo,g.wl,g.kp.nt hk⟩
 |bad e=>exact .bad e
theorem RunIs.lift{w w2:World}{m b:Nat}{Z:St×Int}{W W':World}{vb vr vo:Value}{cr du z:Int}(h:RunIs w2 m Z W vb cr du vr vo z)(hk:Keeps (λi=>i=b) W W')(hb:b<w2.heap.size)(hkw:K0 w w2)(hwb:w.heap.size<=b):RunIs w m Z W' vb cr du vr vo z:=by
 cases h with
 |ok e g=>exact .ok e (g.lift hk hb hkw hwb)
 |bad e=>exact .bad e
end Go.Proofs.YtjkdnaljkdnomaaGreatDoor
