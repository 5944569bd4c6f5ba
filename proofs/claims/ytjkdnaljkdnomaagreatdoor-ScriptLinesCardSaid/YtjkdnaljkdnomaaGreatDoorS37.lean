/- Part 37 of what the laws of this seat share: walks of functions, and plain laws. -/
import Derived.RangeFuncNested
import Derived.RangeFuncBound
import Derived.RangeFuncCalls
import Derived.OrdersIn
import Derived.Test.YtjkdnaljkdnomaaGreatDoorS19
set_option maxRecDepth 100000
set_option maxHeartbeats 400000
namespace Go.Proofs.YtjkdnaljkdnomaaGreatDoor
open Go.RowKit
def NoOut(Q:Exit->Act->World->Prop):Exit->Act->World->Prop
 | .outgrown,_,_=>False
 |e,a,w=>Q e a w
theorem NoOut.imp{Q:Exit->Act->World->Prop}:∀(e:Exit) (a:Act) (w:World),NoOut Q e a w->Q e a w:=λe a w h=>by
 cases e<;>first|exact h|exact(h:False).elim
def Tf(ops:Array Oper):Bool:=(List.range ops.size).all λi=>match ops[i]? with
 |some ⟨_,.defer _,_,_,_,_⟩=>false
 |_=>true
theorem Ad2{ops:Array Oper}(h:Tf ops=true){i:Nat}{o:Oper}(hi:ops[i]?=some o):∀c,o.op≠ .defer c:=by
 intro c hc;have hlt:=(Array.getElem?_eq_some_iff.1 hi).1;have:=List.all_eq_true.1 h i (by simpa using hlt);rw [hi] at this;obtain⟨d,op,ty,pos,af,gd⟩:=o;simp only at hc;subst hc;simp at this
section
variable {P:Program} {ops:Array Oper} {Q:Exit->Act->World->Prop} {l n:Nat}
theorem Sr{o:Oper}{a:Act}{w:World}{K:Act->World->Prop}(hd:∀c,o.op≠ .defer c)(h:o.wp P a w K Q):o.wpIn (Fence.wide.inRound l) n P a w K Q:=by
 refine⟨λ_ _=>trivial, ?_⟩;rw [show o.semAt (Fence.wide.inRound l).round a.eval=execOp a.eval o from Oper.semAt_some l _ o hd];unfold Oper.wp at h;generalize (execOp a.eval o).run P w=r at h⊢
 cases r with
 |ok x w'=>
  cases x with
  |value v=>exact h
  |skip=>exact h
  |defer d=>exact h
  |enter f args=>exact⟨λhh=>by simp [Fence.wide] at hh,CallsIn.inRound l (callsIn_wide.2 h)⟩
  |row row args=>exact⟨λhh=>by simp [Fence.wide] at hh,λc cs _=>let ⟨v,w',r,s⟩:=h c cs;⟨v,w',r,stepsIn_wide.2 s⟩⟩
  |_=>exact(h:False).elim
 |halt x w'=>
  cases x with
  |panic v=>exact h
  |_=>exact(h:False).elim
theorem Yd(hd:Tf ops=true){i:Nat}{K K':Act->World->Prop}{a:Act}{w:World}(hK:∀a w,K a w->K' a w)(h:wpOp P ops (NoPanic (NoOut Q)) i K a w):wpOpIn (Fence.wide.inRound l) n P ops (NoPanic (NoOut Q)) i K' a w:=by
 unfold wpOp at h;unfold wpOpIn
 cases hi:ops[i]? with
 |none=>rw [hi] at h;exact hK _ _ h
 |some o=>
  simp only [hi] at h⊢;by_cases hw:Region.wanted o (yielded ops a.tmps)=true
  ·rw [if_pos hw] at h⊢;rcases h with h|⟨_,a',w',h⟩
   ·exact Oper.wpIn_mono hK (Sr (Ad2 hd hi) h)
   ·exact(h:False).elim
  ·rw [if_neg hw] at h⊢;exact⟨λ_ _=>trivial,hK _ _ h⟩
theorem Nj{md:Region.Mode}(hd:Tf ops=true):∀(fuel:Nat) (listed:Array Bool) (a:Act) (w:World),wpAny P md ops (NoPanic (NoOut Q)) fuel listed a w->wpAnyIn (Fence.wide.inRound l) n P md ops (NoPanic (NoOut Q)) fuel listed a w
 |0,_,_,_,h=>h
 |fuel+1,_,_,_,h=>⟨h.1,λi hi=>Yd hd (λa' w' h'=>Nj hd fuel _ a' w' h') (h.2 i hi)⟩
theorem Gi{id:Nat}{a:Act}{w:World}{os:List Oper}(S:World->Prop)(ord:MO)(hm:P.follows .mixedOrders=true)(hB:((mixB .any os.toArray os.toArray.size ord (Array.replicate os.toArray.size false)&&lastB .any os.toArray os.toArray.size)&&((Region.noSelect os.toArray&&Tf os.toArray)&&Nat.ble ord.depth os.toArray.size))=true)
  (hS:S w.drew) (h:∀w1,S w1->K0 w w1->Mix P os.toArray (NoPanic (NoOut Q)) S os.toArray.size ord a w1):(Code.region id os.toArray true).wpIn (Fence.wide.inRound l) n P Q a w:=by
 simp only [Bool.and_eq_true,Nat.ble_eq] at hB;obtain⟨⟨h1,h0⟩,⟨h2,h4⟩,h3⟩:=hB;exact Go.wpIn_mono (wpIn_region_any hm (Nj h4 _ _ _ _ (Ke _ _ _ _ (Mix.sound h2 h0 (λ_ _ _ _ _ hh=>(show False from hh).elim) ord _ _ _ _ h3 h1 (.inr hS) (h _ hS (Keeps.drew _)))))) λe a w hh=>NoOut.imp _ _ _ (NoPanic.imp _ _ _ hh)
end
end Go.Proofs.YtjkdnaljkdnomaaGreatDoor
