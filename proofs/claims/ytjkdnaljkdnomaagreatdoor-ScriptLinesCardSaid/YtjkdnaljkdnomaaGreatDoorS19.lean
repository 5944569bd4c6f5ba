/- Part 19 of what the laws of this seat share: walks of functions, and plain laws. -/
import Derived.Test.YtjkdnaljkdnomaaGreatDoorS1
set_option maxRecDepth 100000
set_option maxHeartbeats 400000
namespace Go.Proofs.YtjkdnaljkdnomaaGreatDoor
open Go.RowKit
section
variable {P:Program} {md:Region.Mode} {ops:Array Oper} {Q:Exit->Act->World->Prop} {S:World->Prop}
def lastI(md:Region.Mode)(ops:Array Oper)(z i:Nat):Bool:=match ops[z]? with
 |none=>true
 |some o=>o.after.any λe=>Region.binds md e&&e.on==i
theorem Pj{z i:Nat}{oi:Oper}{v:Value}(hi:ops[i]?=some oi)(hz:lastI md ops z i=true)(hiz:i≠z)(hsel:∀(j:Nat) (o:Oper) cs b,ops[j]?=some o->o.op≠ .select cs b)(hQ:∀c a w,Q (.panic c) (a.put oi.dst v) w->Q (.panic c) a w):
  ∀(fuel:Nat) (listed:Array Bool) (a:Act) (w:World),i∈Region.ready md ops listed->Fp P ops S oi v a->S w->
   (∀j oj,ops[j]?=some oj->j≠i->listed.getD j true=false->(∀e∈oj.after,Region.binds md e=true->e.on≠i)->oi.apart ops oj=true)->
   Kg P md ops Q S z fuel (listed.setIfInBounds i true) (a.put oi.dst v) w->Kg P md ops Q S z (fuel+1) listed a w
 |0,listed,a,w,hr,hy,hS,hfree,H=>by
  refine⟨λh=>absurd hr (by rw [h];simp),λj hj=> ?_⟩;by_cases hji:j=i
  ·subst hji;exact hy.wpOp hi hS ⟨.inr hS,H⟩
  ·have hc:=ready_mono hj hji;rw [H.1] at hc;simp at hc
 |fuel+1,listed,a,w,hr,hy,hS,hfree,H=>by
  refine⟨λh=>absurd hr (by rw [h];simp),λj hj=> ?_⟩;by_cases hji:j=i
  ·subst hji;exact hy.wpOp hi hS ⟨.inr hS,H⟩
  obtain⟨hun,oj,hoj,hall⟩:=mem_ready.1 hj;have hi0:=(mem_ready.1 hr).1
  have hno:∀e∈oj.after,Region.binds md e=true->e.on≠i:=by
   intro e he hb heq;have ht:=hall e he hb;rw [heq] at ht;rcases Nat.lt_or_ge i listed.size with hlt|hge
   ·have e1:listed.getD i true=listed[i]:=by simp [hlt]
    have e2:listed.getD i false=listed[i]:=by simp [hlt]
    rw [e1] at hi0;rw [e2,hi0] at ht;simp at ht
   ·have e2:listed.getD i false=false:=by simp [Array.getElem?_eq_none hge]
    rw [e2] at ht;simp at ht
  have hjz:j≠z:=by
   intro e;subst e;unfold lastI at hz;rw [hoj] at hz;simp only [Array.any_eq_true',Bool.and_eq_true,beq_iff_eq] at hz;obtain⟨e,he,hb,ho⟩:=hz;exact hno e he hb ho
  obtain⟨p1,p2,p3⟩:=Oper.apart_spec (hfree j oj hoj hji hun hno);have hstep:=Wp hoj p1 p2 (hsel j oj · · hoj) hQ (Y:=Fp P ops S oi v) (λa u hy=>hy.same (execOp_put oi (hsel i oi · · hi) a oj.dst u p3) (wanted_put oi a oj.dst u p3)) (λa x hy=>hy.same rfl rfl) hy (H.2 j (ready_mono hj hji));refine wpOp_mono (λa' w' h3=>⟨h3.2.1, ?_⟩) hstep;have hS':S w':=h3.2.1.resolve_left hjz
  have hfree':∀k ok,ops[k]?=some ok->k≠i->(listed.setIfInBounds j true).getD k true=false->(∀e∈ok.after,Region.binds md e=true->e.on≠i)->oi.apart ops ok=true:=by
   intro k ok hk hki hku hkn;by_cases hjk:j=k
   ·subst hjk;exact hfree j ok hk hki hun hkn
   ·rw [getD_set_ne true hjk] at hku;exact hfree k ok hk hki hku hkn
  refine Pj hi hz hiz hsel hQ fuel _ a' w' (ready_mono hr (Ne.symm hji)) h3.1 hS' hfree' ?_;rw [Array.setIfInBounds_comm _ _ hji];exact h3.2.2
def mixB2(md:Region.Mode)(ops:Array Oper)(z:Nat):MO->Array Bool->Bool
 | .done,listed=>(Region.ready md ops listed).isEmpty
 | .take i r,listed=>(((Region.ready md ops listed).contains i&&Region.free md ops listed i)&&i !=z&&lastI md ops z i)&&mixB2 md ops z r (listed.setIfInBounds i true)
 | .move i r,listed=>(Region.ready md ops listed== [i]&&(i !=z||r.Me))&&mixB2 md ops z r (listed.setIfInBounds i true)
 | .fork i r j s,listed=>((Region.ready md ops listed== [i,j]&&i !=z)&&j !=z)&&(mixB2 md ops z r (listed.setIfInBounds i true)&&mixB2 md ops z s (listed.setIfInBounds j true))
 | .fork3 ..,_=>false
theorem Mix.Qs{z:Nat}(hs:Region.noSelect ops=true)(hQ:∀(d:Option Tmp) (v:Value) c a w,Q (.panic c) (a.put d v) w->Q (.panic c) a w):
  ∀(ord:MO) (fuel:Nat) (listed:Array Bool) (a:Act) (w:World),ord.depth<=fuel->mixB2 md ops z ord listed=true->(ord.Me=true\/S w)->Mix P ops Q S z ord a w->Kg P md ops Q S z fuel listed a w
 | .done,fuel,listed,a,w,_,hB,_,h=>Rl (by simpa [mixB2] using hB) h _
 | .take i r,fuel,listed,a,w,hd,hB,hS,h=>by
  simp only [mixB2,Bool.and_eq_true,bne_iff_ne] at hB;obtain⟨⟨⟨⟨h1,h2⟩,hiz⟩,hz⟩,h3⟩:=hB;obtain⟨o,v,hi,hy,h⟩:=h;have hS':S w:=hS.resolve_left (by simp [MO.Me])
  cases fuel with
  |zero=>simp [MO.depth] at hd
  |succ fuel=>
   refine Pj hi hz hiz (Region.noSelect_spec hs) (hQ o.dst v) fuel listed a w (by simpa using h1) hy hS' (Region.free_spec hi h2) ?_;exact Mix.Qs hs hQ r fuel _ _ _ (by simp only [MO.depth] at hd;omega) h3 (.inr hS') h
 | .move i r,fuel,listed,a,w,hd,hB,hS,h=>by
  simp only [mixB2,Bool.and_eq_true,beq_iff_eq,Bool.or_eq_true,bne_iff_ne] at hB;obtain⟨⟨h1,h2⟩,h3⟩:=hB;have hS':S w:=hS.resolve_left (by simp [MO.Me])
  cases fuel with
  |zero=>simp [MO.depth] at hd
  |succ fuel=>
   have hd':r.depth<=fuel:=by simp only [MO.depth] at hd;omega
   refine⟨λe=>by rw [h1] at e;simp at e,λj hj=> ?_⟩;obtain rfl:j=i:=by rw [h1] at hj;simpa using hj
   rcases h with⟨o,v,hi,hy,h⟩|h
   ·exact hy.wpOp hi hS' ⟨.inr hS',Mix.Qs hs hQ r fuel _ _ _ hd' h3 (.inr hS') h⟩
   ·refine wpOp_mono (λa' w' hh=>⟨hh.1,Mix.Qs hs hQ r fuel _ _ _ hd' h3 ?_ hh.2⟩) h;rcases hh.1 with e|e
    ·exact .inl (h2.resolve_left λhn=>hn e)
    ·exact .inr e
 | .fork i r j s,fuel,listed,a,w,hd,hB,hS,h=>by
  simp only [mixB2,Bool.and_eq_true,beq_iff_eq,bne_iff_ne] at hB;obtain⟨⟨⟨h1,hiz⟩,hjz⟩,h3,h4⟩:=hB
  cases fuel with
  |zero=>simp [MO.depth] at hd
  |succ fuel=>
   have hd1:r.depth<=fuel:=by simp only [MO.depth] at hd;omega
   have hd2:s.depth<=fuel:=by simp only [MO.depth] at hd;omega
   refine⟨λe=>by rw [h1] at e;simp at e,λk hk=> ?_⟩;rw [h1] at hk;rcases(by simpa using hk:k=i\/k=j) with rfl|rfl
   ·exact wpOp_mono (λa' w' hh=>⟨hh.1,Mix.Qs hs hQ r fuel _ _ _ hd1 h3 (.inr (hh.1.resolve_left hiz)) hh.2⟩) h.1
   ·exact wpOp_mono (λa' w' hh=>⟨hh.1,Mix.Qs hs hQ s fuel _ _ _ hd2 h4 (.inr (hh.1.resolve_left hjz)) hh.2⟩) h.2
 | .fork3 ..,fuel,listed,a,w,_,hB,_,_=>by simp [mixB2] at hB
theorem Cz{id:Nat}{a:Act}{w:World}{l:List Oper}(S:World->Prop)(z:Nat)(ord:MO)(hm:P.follows .mixedOrders=true)(hB:(mixB2 .any l.toArray z ord (Array.replicate l.toArray.size false)&&(Region.noSelect l.toArray&&Nat.ble ord.depth l.toArray.size))=true)
  (hS:S w.drew) (h:∀w1,S w1->K0 w w1->Mix P l.toArray (NoPanic Q) S z ord a w1):(Code.region id l.toArray true).wp P Q a w:=by
 simp only [Bool.and_eq_true,Nat.ble_eq] at hB;obtain⟨h1,h2,h3⟩:=hB;exact wp_region_noPanic (wp_region_any hm (Ke _ _ _ _ (Mix.Qs h2 (λ_ _ _ _ _ hh=>(show False from hh).elim) ord _ _ _ _ h3 h1 (.inr hS) (h _ hS (Keeps.drew _)))))
theorem Ej{z:Nat}{dst:Option Tmp}{op:Op}{ty:TypeId}{pos:String}{af:Array Edge}{gd:Option (Nat×Bool)}{i:Nat}{r:MO}{v:Value}{a:Act}{w:World}(hi:ops[i]?=some ⟨dst,op,ty,pos,af,gd⟩)(hw:Region.wanted ⟨dst,op,ty,pos,af,gd⟩ (yielded ops a.tmps)=true)
  (hy:∀w,S w->(execOp a.eval ⟨dst,op,ty,pos,af,gd⟩).run P w= .ok (.value v) w) (h:Mix P ops Q S z r (a.put dst v) w):Mix P ops Q S z (.move i r) a w:= .inl ⟨_,v,hi,.inl ⟨hw,λw hS=> .inl (hy w hS)⟩,h⟩
end
end Go.Proofs.YtjkdnaljkdnomaaGreatDoor
