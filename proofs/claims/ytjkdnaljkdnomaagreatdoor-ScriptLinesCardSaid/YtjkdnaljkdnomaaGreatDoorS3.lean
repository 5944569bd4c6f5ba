/- Part 3 of what the laws of this seat share: walks of functions, and plain laws. -/
import Derived.Test.YtjkdnaljkdnomaaGreatDoorS1
set_option maxRecDepth 100000
set_option maxHeartbeats 400000
namespace Go.Proofs.YtjkdnaljkdnomaaGreatDoor
open Go.RowKit
theorem Dl{P:Program}{a:Act}{w:World}{Q:Exit->Act->World->Prop}{c rest:Code}(l:Nat)(J:Act->World->Prop)(M:Act->World->Nat)(hf:findLabel c l=some (Code.skip.seq rest))
  (round:∀a w,J a w->rest.wp P (Exit.jump l (λa' w'=>J a' w'/\M a' w'<M a w) Q) a w)
  (first:(∀a w,J a w->rest.wp P (Exit.jump l J Q) a w)->c.wp P (Exit.jump l J Q) a w):(Code.scope c).wp P Q a w:=by
 exact j2q
theorem Ch{w:World}{base:Nat}{e:TypeId}{size:Nat}{v:Value}{n:Nat}{xs:List Value}(h:w.ownsRow base e size v n xs){g:Nat}(hv:v.ownBlock=some g):g<w.heap.size:=by
 exact j2t
theorem Fj{w:World}{e e':TypeId}{b b' size size' n n':Nat}{v v':Value}{xs xs':List Value}(h:w.ownsRow b e size v n xs)(h':w.ownsRow b' e' size' v' n' xs')(hne:e≠e'){g:Nat}(hg:v.ownBlock=some g)(hg':v'.ownBlock=some g):False:=by
 rcases h.2 with⟨rfl,_⟩|⟨g1,cap1,cur1,rfl,_,hh,_⟩
 ·simp [Value.ownBlock] at hg
 ·simp only [Value.ownBlock,Option.some.injEq] at hg;subst hg;exact Ah h' hh hne hg'
end Go.Proofs.YtjkdnaljkdnomaaGreatDoor
