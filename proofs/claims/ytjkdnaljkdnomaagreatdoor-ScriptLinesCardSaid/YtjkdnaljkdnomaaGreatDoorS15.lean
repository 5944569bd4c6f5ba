/- Part 15 of what the laws of this seat share: walks of functions, and plain laws. -/
import Derived.Test.YtjkdnaljkdnomaaGreatDoorS12
set_option maxRecDepth 100000
set_option maxHeartbeats 400000
namespace Go.Proofs.YtjkdnaljkdnomaaGreatDoor
open Go.RowKit
structure Sym(L:List Ev)(a m b mid s0 fin:Nat):Prop where
 al:a<=s0
 sm:s0<=m
 mf:m<=fin
 fb:fin<=b
 smid:s0<=mid
 midf:mid<=fin
 sum:s0+fin=mid+m
 vu:∀s t,s0<=s->s<m->m<=t->t<fin->dy L t<dy L s
 ab:∀s t,a<=s->s<s0->fin<=t->t<b->dy L s<=dy L t
theorem sym_of{L:List Ev}{a m b mid lo hi s0:Nat}(h1:Upto L a m)(h2:Upto L m b)(ham:a<m)(hmb:m<b)(hmid:mid=(a+b) / 2)
  (hlh:(mid<m/\lo+b=mid+m/\hi=mid)\/(m<=mid/\lo=a/\hi=m)) (hbs:Bs (λc=>dy L (mid+m-1-c)<dy L c) lo hi s0 s0):Sym L a m b mid s0 (mid+m-s0):=by
 have e1:=hbs.lo';have e2:=hbs.hi';refine⟨by omega,by omega,by omega,by omega,by omega,by omega,by omega,λs t h3 h4 h5 h6=> ?_,λs t h3 h4 h5 h6=> ?_⟩
 ·have:=hbs.above s0 (Nat.le_refl _) j6;have k1:=h1.le (s:=s0) (t:=s) j6 h3 h4;have k2:=h2.le (s:=t) (t:=mid+m-1-s0) h5 j6 j6;omega
 ·have:=hbs.below (s0-1) j6 j6;have k1:=h1.le (s:=s) (t:=s0-1) h3 j6 j6;have k2:=h2.le (s:=mid+m-1-(s0-1)) (t:=t) j6 j6 h6;omega
theorem Aa9{L:List Ev}{a m b mid lo hi:Nat}(h1:Upto L a m)(h2:Upto L m b)(ham:a<m)(hmb:m<b)(hmid:mid=(a+b) / 2)
  (hlh:(mid<m/\lo+b=mid+m/\hi=mid)\/(m<=mid/\lo=a/\hi=m)):∀s t,lo<=s->s<=t->t<hi->dy L (mid+m-1-s)<dy L s->dy L (mid+m-1-t)<dy L t:=λs t h3 h4 h5 h6=>by
 have k1:=h1.le (s:=s) (t:=t) j6 h4 j6;have k2:=h2.le (s:=mid+m-1-t) (t:=mid+m-1-s) j6 j6 j6;omega
structure Rot(L X:List Ev)(a m b mid s0 fin:Nat):Prop where
 t:Turned L X a b
 lo:∀i,i<s0->X[i]?=L[i]?
 v:∀i,s0<=i->i<mid->dy X i=dy L (i+(m-s0))
 u:∀i,mid<=i->i<fin->dy X i=dy L (i-(fin-m))
 hi:∀i,fin<=i->X[i]?=L[i]?
theorem split4(L:List Ev){s0 m fin:Nat}(h1:s0<=m)(h2:m<=fin)(h3:fin<=L.length):∃P U V S,L=P++U++V++S/\P.length=s0/\U.length=m-s0/\V.length=fin-m:=by
 refine⟨L.take s0,(L.take m).drop s0,(L.take fin).drop m,L.drop fin, ?_, ?_, ?_, ?_⟩
 ·have e1:L.take s0++(L.take m).drop s0=L.take m:=by
   conv=>rhs;rw [<-List.take_append_drop s0 (L.take m)]
   rw [List.take_take,Nat.min_eq_left h1]
  have e2:L.take m++(L.take fin).drop m=L.take fin:=by
   conv=>rhs;rw [<-List.take_append_drop m (L.take fin)]
   rw [List.take_take,Nat.min_eq_left h2]
  rw [e1,e2,List.take_append_drop]
 ·rw [List.length_take];omega
 ·rw [List.length_drop,List.length_take];omega
 ·rw [List.length_drop,List.length_take];omega
theorem rot_of{P U V S:List Ev}{a m b mid s0 fin:Nat}(hs:Sym (P++U++V++S) a m b mid s0 fin)(hP:P.length=s0)(hU:U.length=m-s0)(hV:V.length=fin-m):Rot (P++U++V++S) (P++V++U++S) a m b mid s0 fin:=by
 obtain⟨k1,k2,k3,k4,k5,k6,k7,hvu,_⟩:=hs
 have gL:∀i,(P++U++V++S)[i]?=if i<s0 then P[i]? else if i<m then U[i-s0]? else if i<fin then V[i-m]? else S[i-fin]?:=λi=>by
  simp only [List.getElem?_append,List.length_append,hP,hU,hV];exact j0V
 have gX:∀i,(P++V++U++S)[i]?=if i<s0 then P[i]? else if i<mid then V[i-s0]? else if i<fin then U[i-mid]? else S[i-fin]?:=λi=>by
  simp only [List.getElem?_append,List.length_append,hP,hU,hV];exact j0V
 refine⟨⟨by simp only [List.length_append];omega,λi hi=> ?_, ?_⟩,λi hi=> ?_,λi h1 h2=> ?_,λi h1 h2=> ?_,λi hi=> ?_⟩
 ·rw [gL,gX];rcases hi with h|h
  ·rw [if_pos j6,if_pos j6]
  ·rw [if_neg j6,if_neg j6,if_neg j6,if_neg j6,if_neg j6,if_neg j6]
 ·rw [List.append_assoc P V U,List.append_assoc P U V];refine Alike.app (Alike.app (Alike.refl _) (Alike.turn λu hu v hv=> ?_)) (Alike.refl _);obtain⟨i,hi,he⟩:=List.getElem_of_mem hu;obtain⟨j,hj,he'⟩:=List.getElem_of_mem hv;have h1:=hvu (s0+i) (m+j) j6 j6 j6 j6
  rwa [Fb (x:=v) (by rw [gL,if_neg j6,if_neg j6,if_pos j6,Nat.add_sub_cancel_left,List.getElem?_eq_getElem hj,he']),Fb (x:=u) (by rw [gL,if_neg j6,if_pos j6,Nat.add_sub_cancel_left,List.getElem?_eq_getElem hi,he])] at h1
 ·rw [gL,gX,if_pos hi,if_pos hi]
 ·refine Ci ?_;rw [gL,gX,if_neg j6,if_pos h2,if_neg j6,if_neg j6,if_pos j6]
  congr 1;omega
 ·refine Ci ?_;rw [gL,gX,if_neg j6,if_neg j6,if_pos h2,if_neg j6,if_pos j6]
  congr 1;omega
 ·rw [gL,gX,if_neg j6,if_neg j6,if_neg j6,if_neg j6,if_neg j6,if_neg j6]
theorem Aaj{L:List Ev}{a m b mid s0 fin:Nat}(hs:Sym L a m b mid s0 fin)(h:s0=m\/fin=m):Rot L L a m b mid s0 fin:=by
 obtain⟨k1,k2,k3,k4,k5,k6,k7,_,_⟩:=hs;refine⟨Turned.refl _ _ _,λ_ _=>rfl,λi h1 h2=> ?_,λi h1 h2=> ?_,λ_ _=>rfl⟩
 ·exact Ci (by congr 1;omega)
 ·exact Ci (by congr 1;omega)
theorem Rot.left{L X:List Ev}{a m b mid s0 fin:Nat}(h:Rot L X a m b mid s0 fin)(hs:Sym L a m b mid s0 fin)(h1:Upto L a m)(h2:Upto L m b):Upto X a s0/\Upto X s0 mid:=by
 obtain⟨k1,k2,k3,k4,k5,k6,k7,_,_⟩:=hs;refine⟨(h1.sub (Nat.le_refl _) k2).eq λt _ ht=>h.lo t ht,λs t h3 h4 h5=> ?_⟩;rw [h.v s h3 j6,h.v t j6 h5];exact h2 _ _ j6 j6 j6
theorem Rot.right{L X:List Ev}{a m b mid s0 fin:Nat}(h:Rot L X a m b mid s0 fin)(hs:Sym L a m b mid s0 fin)(h1:Upto L a m)(h2:Upto L m b):Upto X mid fin/\Upto X fin b:=by
 obtain⟨k1,k2,k3,k4,k5,k6,k7,_,_⟩:=hs;refine⟨λs t h3 h4 h5=> ?_,(h2.sub k3 (Nat.le_refl _)).eq λt ht _=>h.hi t ht⟩;rw [h.u s h3 j6,h.u t j6 h5];exact h1 _ _ j6 j6 j6
theorem Rot.cross{L X:List Ev}{a m b mid s0 fin:Nat}(h:Rot L X a m b mid s0 fin)(hs:Sym L a m b mid s0 fin)(h1:Upto L a m)(h2:Upto L m b):∀s t,a<=s->s<mid->mid<=t->t<b->dy X s<=dy X t:=by
 obtain⟨k1,k2,k3,k4,k5,k6,k7,hvu,hab⟩:=hs;intro s t h3 h4 h5 h6;rcases Nat.lt_or_ge s s0 with hs|hs
 ·rw [Ci (h.lo s hs)];rcases Nat.lt_or_ge t fin with ht|ht
  ·rw [h.u t h5 ht];exact h1.le h3 j6 j6
  ·rw [Ci (h.hi t ht)];exact hab s t h3 hs ht h6
 ·rw [h.v s hs h4];rcases Nat.lt_or_ge t fin with ht|ht
  ·rw [h.u t h5 ht];have:=hvu (t-(fin-m)) (s+(m-s0)) j6 j6 j6 j6;omega
  ·rw [Ci (h.hi t ht)];exact h2.le j6 j6 h6
theorem Az{X Y Z:List Ev}{a mid b:Nat}(hab:a<=mid)(hmb:mid<=b)(hb:b<=X.length)(hc:∀s t,a<=s->s<mid->mid<=t->t<b->dy X s<=dy X t)
  (h1:Turned X Y a mid) (h2:Upto Y a mid) (h3:Turned Y Z mid b) (h4:Upto Z mid b):Turned X Z a b/\Upto Z a b:=by
 refine⟨(h1.wide (Nat.le_refl _) hmb).trans (h3.wide hab (Nat.le_refl _)),λs t h5 h6 h7=> ?_⟩
 have c1:∀s,a<=s->s<mid->∀t,mid<=t->t<b->dy Y s<=dy Y t:=λs hs1 hs2 t ht1 ht2=>by
  rw [Ci (h1.out t (.inr ht1))];exact h1.bound (q:=λv=>∀t,mid<=t->t<b->v<=dy X t) j6 (λs hs1 hs2 t ht1 ht2=>hc s t hs1 hs2 ht1 ht2) s hs1 hs2 t ht1 ht2
 rcases Nat.lt_or_ge s mid with hs|hs
 ·rw [Ci (h3.out s (.inl hs))];rcases Nat.lt_or_ge t mid with ht|ht
  ·rw [Ci (h3.out t (.inl ht))];exact h2 s t h5 h6 ht
  ·exact h3.bound (q:=λv=>dy Y s<=v) (by have:=h1.len;omega) (λt ht1 ht2=>c1 s h5 hs t ht1 ht2) t ht h7
 ·exact h4 s t hs h6 h7
end Go.Proofs.YtjkdnaljkdnomaaGreatDoor
