/- Part 12 of what the laws of this seat share: walks of functions, and plain laws. -/
import Derived.Test.YtjkdnaljkdnomaaGreatDoorS7
set_option maxRecDepth 100000
set_option maxHeartbeats 400000
namespace Go.Proofs.YtjkdnaljkdnomaaGreatDoor
open Go.RowKit
def dy(X:List Ev)(t:Nat):Int:=match X[t]? with|some x=>x.day|none=>0
theorem Fb{X:List Ev}{t:Nat}{x:Ev}(h:X[t]?=some x):dy X t=x.day:=by unfold dy;rw [h]
theorem Ci{X Y:List Ev}{s t:Nat}(h:X[s]?=Y[t]?):dy X s=dy Y t:=by unfold dy;rw [h]
def Alike(X Y:List Ev):Prop:=∀k:Int,X.filter (λx=>decide (x.day=k))=Y.filter (λx=>decide (x.day=k))
theorem Alike.refl(X:List Ev):Alike X X:=λ_=>rfl
theorem Alike.symm{X Y:List Ev}(h:Alike X Y):Alike Y X:=λk=>(h k).symm
theorem Alike.trans{X Y Z:List Ev}(h:Alike X Y)(h':Alike Y Z):Alike X Z:=λk=>(h k).trans (h' k)
theorem Alike.app{X X' Y Y':List Ev}(h:Alike X X')(h':Alike Y Y'):Alike (X++Y) (X'++Y'):=λk=>by rw [List.filter_append,List.filter_append,h k,h' k]
theorem Alike.mem{X Y:List Ev}(h:Alike X Y){x:Ev}(hx:x∈X):x∈Y:=by
 have:x∈X.filter (λy=>decide (y.day=x.day)):=List.mem_filter.2 ⟨hx,by simp⟩;rw [h] at this;exact(List.mem_filter.1 this).1
theorem Alike.turn{U V:List Ev}(h:∀u∈U,∀v∈V,v.day<u.day):Alike (V++U) (U++V):=by
 intro k;rw [List.filter_append,List.filter_append];by_cases hU:∃u∈U,u.day=k
 ·obtain⟨u,hu,rfl⟩:=hU
  have:V.filter (λx=>decide (x.day=u.day))= []:=by
   rw [List.filter_eq_nil_iff];intro v hv;have:=h u hu v hv;simp;omega
  rw [this];simp
 ·have:U.filter (λx=>decide (x.day=k))= []:=by
   rw [List.filter_eq_nil_iff];intro u hu;simp only [decide_eq_true_eq];exact λe=>hU ⟨u,hu,e⟩
  rw [this];simp
theorem Alike.cancel{P X Y S:List Ev}(h:Alike (P++X++S) (P++Y++S)):Alike X Y:=by
 intro k;have:=h k;simp only [List.filter_append] at this;exact List.append_cancel_left (List.append_cancel_right this)
def Upto(X:List Ev)(a b:Nat):Prop:=∀s t,a<=s->s<t->t<b->dy X s<=dy X t
theorem Upto.le{X:List Ev}{a b:Nat}(h:Upto X a b){s t:Nat}(h1:a<=s)(h2:s<=t)(h3:t<b):dy X s<=dy X t:=by
 rcases Nat.lt_or_ge s t with h4|h4
 ·exact h s t h1 h4 h3
 ·obtain rfl:s=t:=by omega
  exact Int.le_refl _
theorem Upto.sub{X:List Ev}{a b a' b':Nat}(h:Upto X a b)(h1:a<=a')(h2:b'<=b):Upto X a' b':=λs t h3 h4 h5=>h s t (by omega) h4 (by omega)
theorem Upto.one{X:List Ev}{a b:Nat}(h:b<=a+1):Upto X a b:=λs t h1 h2 h3=>by omega
theorem Upto.eq{X Y:List Ev}{a b:Nat}(h:Upto X a b)(he:∀t,a<=t->t<b->Y[t]?=X[t]?):Upto Y a b:=λs t h1 h2 h3=>by
 rw [Ci (he s h1 j6),Ci (he t j6 h3)];exact h s t h1 h2 h3
structure Turned(X Y:List Ev)(a b:Nat):Prop where
 len:Y.length=X.length
 out:∀t,t<a\/b<=t->Y[t]?=X[t]?
 alike:Alike Y X
theorem Turned.refl(X:List Ev)(a b:Nat):Turned X X a b:=⟨rfl,λ_ _=>rfl,Alike.refl _⟩
theorem Turned.trans{X Y Z:List Ev}{a b:Nat}(h:Turned X Y a b)(h':Turned Y Z a b):Turned X Z a b:=
 ⟨h'.len.trans h.len,λt ht=>(h'.out t ht).trans (h.out t ht),h'.alike.trans h.alike⟩
theorem Turned.wide{X Y:List Ev}{a b a' b':Nat}(h:Turned X Y a b)(h1:a'<=a)(h2:b<=b'):Turned X Y a' b':=⟨h.len,λt ht=>h.out t (by omega),h.alike⟩
theorem Turned.parts{X Y:List Ev}{a b:Nat}(h:Turned X Y a b)(hab:a<=b)(hb:b<=X.length):
  ∃P U V S,X=P++U++S/\Y=P++V++S/\P.length=a/\U.length=b-a/\V.length=b-a:=by
 refine⟨X.take a,(X.take b).drop a,(Y.take b).drop a,X.drop b, ?_, ?_, ?_, ?_, ?_⟩
 ·have:X.take a=(X.take b).take a:=by rw [List.take_take,Nat.min_eq_left hab]
  rw [this,List.take_append_drop,List.take_append_drop]
 ·have h1:X.take a=(Y.take b).take a:=by
   rw [List.take_take,Nat.min_eq_left hab];refine List.ext_getElem? λt=> ?_;rw [List.getElem?_take,List.getElem?_take]
   split
   ·exact(h.out t (.inl j6)).symm
   ·rfl
  have h2:X.drop b=Y.drop b:=by
   refine List.ext_getElem? λt=> ?_;rw [List.getElem?_drop,List.getElem?_drop];exact(h.out _ (.inr j6)).symm
  rw [h1,h2,List.take_append_drop,List.take_append_drop]
 ·rw [List.length_take];omega
 ·rw [List.length_drop,List.length_take];omega
 ·rw [List.length_drop,List.length_take,h.len];omega
theorem Turned.from{X Y:List Ev}{a b:Nat}(h:Turned X Y a b)(hb:b<=X.length){t:Nat}(h1:a<=t)(h2:t<b):∃s,a<=s/\s<b/\Y[t]?=X[s]?:=by
 obtain⟨P,U,V,S,rfl,rfl,rfl,hU,hV⟩:=h.parts j6 hb;have hc:=h.alike.cancel;have ht:t-P.length<V.length:=j8;have hm:=hc.mem (List.getElem_mem ht);obtain⟨i,hi,he⟩:=List.getElem_of_mem hm;refine⟨P.length+i,by omega,by omega, ?_⟩;rw [List.append_assoc,List.append_assoc,List.getElem?_append_right j6,List.getElem?_append_left ht,List.getElem?_append_right j6,List.getElem?_append_left j6,Nat.add_sub_cancel_left,List.getElem?_eq_getElem ht,List.getElem?_eq_getElem hi,he]
theorem Turned.bound{X Y:List Ev}{a b:Nat}(h:Turned X Y a b)(hb:b<=X.length){q:Int->Prop}(hq:∀t,a<=t->t<b->q (dy X t)):∀t,a<=t->t<b->q (dy Y t):=λt h1 h2=>by
 obtain⟨s,h3,h4,h5⟩:=h.from hb h1 h2;rw [Ci h5];exact hq s h3 h4
def swp(X:List Ev)(i j:Nat):List Ev:=match X[i]?,X[j]? with|some x,some y=>(X.set i y).set j x|_,_=>X
theorem swp_of{X:List Ev}{i j:Nat}{x y:Ev}(h1:X[i]?=some x)(h2:X[j]?=some y):swp X i j=(X.set i y).set j x:=by unfold swp;rw [h1,h2]
theorem Tv(X:List Ev)(i j:Nat):(swp X i j).length=X.length:=by unfold swp;split<;>simp
theorem swp_get{X:List Ev}{i j:Nat}(hi:i<X.length)(hj:j<X.length)(t:Nat):(swp X i j)[t]?=if t=j then X[i]? else if t=i then X[j]? else X[t]?:=by
 rw [swp_of (List.getElem?_eq_getElem hi) (List.getElem?_eq_getElem hj),List.getElem?_set,List.getElem?_set];simp only [List.length_set];by_cases h1:t=j
 ·subst h1;simp [hj,hi]
 ·rw [if_neg (λe=>h1 e.symm),if_neg h1];by_cases h2:t=i
  ·subst h2;simp [hi,hj]
  ·rw [if_neg (λe=>h2 e.symm),if_neg h2]
theorem split_two{X:List Ev}{i:Nat}{x y:Ev}(h1:X[i]?=some x)(h2:X[i+1]?=some y):X=X.take i++ [x,y]++X.drop (i+2):=by
 obtain⟨hl,rfl⟩:=List.getElem?_eq_some_iff.1 h1;obtain⟨hl2,rfl⟩:=List.getElem?_eq_some_iff.1 h2;rw [List.append_assoc];show X=X.take i++(X[i]::X[i+1]::X.drop (i+1+1));rw [List.getElem_cons_drop,List.getElem_cons_drop,List.take_append_drop]
theorem Nw{X:List Ev}{i a b:Nat}(ha:a<=i)(hb:i+2<=b)(hl:i+1<X.length)(hd:dy X (i+1)<dy X i):Turned X (swp X i (i+1)) a b:=by
 refine⟨Tv _ _ _,λt ht=> ?_, ?_⟩
 ·rw [swp_get j6 hl,if_neg j6,if_neg j6]
 ·have h1:X[i]?=some X[i]:=List.getElem?_eq_getElem j6;have h2:X[i+1]?=some X[i+1]:=List.getElem?_eq_getElem hl;rw [Fb h1,Fb h2] at hd;have hs:=split_two h1 h2
  have e:swp X i (i+1)=X.take i++ [X[i+1],X[i]]++X.drop (i+2):=by
   refine List.ext_getElem? λt=> ?_;rw [swp_get j6 hl];have hlt:(X.take i).length=i:=by rw [List.length_take];omega
   rcases Nat.lt_trichotomy t i with h|h|h
   ·rw [if_neg j6,if_neg j6,List.append_assoc,List.getElem?_append_left j6,List.getElem?_take_of_lt h]
   ·subst h;rw [if_neg j6,if_pos rfl,List.append_assoc,List.getElem?_append_right j6,hlt,Nat.sub_self];exact h2
   ·rcases Nat.lt_or_ge (i+1) t with h'|h'
    ·rw [if_neg j6,if_neg j6,List.getElem?_append_right (by simp only [List.length_append,hlt,List.length_cons,List.length_nil];omega),List.getElem?_drop];simp only [List.length_append,hlt,List.length_cons,List.length_nil]
     congr 1;omega
    ·obtain rfl:t=i+1:=by omega
     rw [if_pos rfl,List.append_assoc,List.getElem?_append_right j6,hlt,Nat.add_sub_cancel_left];exact h1
  rw [e]
  conv=>rhs;rw [hs]
  refine Alike.app (Alike.app (Alike.refl _) ?_) (Alike.refl _);show Alike ([X[i+1]]++ [X[i]]) ([X[i]]++ [X[i+1]]);exact Alike.turn (by simpa using hd)
theorem Aaa(X:List Ev)(i:Nat)(hl:i+1<X.length):swp X (i+1) i=swp X i (i+1):=by
 refine List.ext_getElem? λt=> ?_;rw [swp_get hl j6,swp_get j6 hl];by_cases h:t=i
 ·subst h;rw [if_pos rfl,if_neg j6,if_pos rfl]
 ·rw [if_neg h,if_neg h]
theorem Alike.one:∀{X Y:List Ev},Alike X Y->X.Pairwise (λx y=>x.day<=y.day)->Y.Pairwise (λx y=>x.day<=y.day)->X=Y
 | [],Y,h,_,_=>by
  cases Y with
  |nil=>rfl
  |cons y Y=>have:=h.symm.mem (x:=y) (by simp);simp at this
 |x::X,Y,h,hX,hY=>by
  cases Y with
  |nil=>have:=h.mem (x:=x) (by simp);simp at this
  |cons y Y=>
   have e1:y.day<=x.day:=by
    have:=h.mem (x:=x) (by simp);rcases List.mem_cons.1 this with rfl|hm
    ·exact Int.le_refl _
    ·exact(List.pairwise_cons.1 hY).1 x hm
   have e2:x.day<=y.day:=by
    have:=h.symm.mem (x:=y) (by simp);rcases List.mem_cons.1 this with rfl|hm
    ·exact Int.le_refl _
    ·exact(List.pairwise_cons.1 hX).1 y hm
   have e:x.day=y.day:=by omega
   have hk:=h x.day;rw [List.filter_cons,List.filter_cons,if_pos (by simp),if_pos (by simp [e])] at hk;obtain⟨rfl,_⟩:=List.cons.inj hk
   congr 1
   refine Alike.one (λk=> ?_) (List.pairwise_cons.1 hX).2 (List.pairwise_cons.1 hY).2;have:=h k;rw [List.filter_cons,List.filter_cons] at this
   split at this
   ·exact(List.cons.inj this).2
   ·exact this
theorem Upto.pair{X:List Ev}(h:Upto X 0 X.length):X.Pairwise (λx y=>x.day<=y.day):=by
 rw [List.pairwise_iff_getElem];intro i j hi hj hij;have:=h i j (Nat.zero_le _) hij hj
 rwa [Fb (List.getElem?_eq_getElem hi),Fb (List.getElem?_eq_getElem hj)] at this
structure Bs(p:Nat->Prop)(lo hi i j:Nat):Prop where
 le:i<=j
 lo':lo<=i
 hi':j<=hi
 below:∀t,lo<=t->t<i->¬p t
 above:∀t,j<=t->t<hi->p t
theorem Bs.start{p:Nat->Prop}{lo hi:Nat}(h:lo<=hi):Bs p lo hi lo hi:=⟨h,Nat.le_refl _,Nat.le_refl _,λt _ _=>by omega,λt _ _=>by omega⟩
theorem Bs.up{p:Nat->Prop}{lo hi i j h:Nat}(b:Bs p lo hi i j)(hm:∀s t,lo<=s->s<=t->t<hi->p s->p t)(h1:i<=h)(h2:h<j)(hp:¬p h):Bs p lo hi (h+1) j:=
 ⟨by omega,by have:=b.lo';omega,b.hi',λt h3 h4 hpt=>hp (hm t h h3 (by omega) (by have:=b.hi';omega) hpt),b.above⟩
theorem Bs.down{p:Nat->Prop}{lo hi i j h:Nat}(b:Bs p lo hi i j)(hm:∀s t,lo<=s->s<=t->t<hi->p s->p t)(h1:i<=h)(h2:h<j)(hp:p h):Bs p lo hi i h:=
 ⟨h1,b.lo',by have:=b.hi';omega,b.below,λt h3 h4=>hm h t (by have:=b.lo';omega) h3 h4 hp⟩
def placeOf(day:Int):List Ev->Nat->Nat
 |_,0=>0
 |L,n+1=>match L[n]? with|some e=>if day<e.day then placeOf day L n else n+1|none=>n+1
def putL(L:List Ev)(e:Ev):List Ev:=L.take (placeOf e.day L L.length)++ [e]++L.drop (placeOf e.day L L.length)
theorem Ko(day:Int)(L:List Ev):∀n,placeOf day L n<=n
 |0=>by cases L<;>exact Nat.le_refl _
 |n+1=>by
  unfold placeOf
  split
  ·split
   ·exact Nat.le_succ_of_le (Ko day L n)
   ·exact Nat.le_refl _
  ·exact Nat.le_refl _
theorem Lu(L:List Ev)(e:Ev):(putL L e).length=L.length+1:=by
 have:=Ko e.day L L.length;simp only [putL,List.length_append,List.length_take,List.length_drop,List.length_cons,List.length_nil];omega
theorem Pq(day:Int)(L:List Ev):∀n,n<=L.length->(∀t,placeOf day L n<=t->t<n->day<dy L t)/\(∀p,placeOf day L n=p+1->dy L p<=day)
 |0,_=>⟨λt _ h=>by omega,λp h=>by simp [placeOf] at h⟩
 |n+1,hn=>by
  have ih:=Pq day L n (by omega);have hx:L[n]?=some L[n]:=List.getElem?_eq_getElem (by omega);unfold placeOf;rw [hx];simp only
  split
  ·rename_i h;refine⟨λt h1 h2=> ?_,ih.2⟩;by_cases he:t=n
   ·subst he;rw [Fb hx];exact h
   ·exact ih.1 t h1 (by omega)
  ·rename_i h;refine⟨λt h1 h2=>by omega,λp h1=> ?_⟩;obtain rfl:p=n:=by omega
   rw [Fb hx];omega
def Sorted(L:List Ev):Prop:=L.Pairwise (λx y=>x.day<=y.day)
theorem Sorted.upto{L:List Ev}(h:Sorted L):Upto L 0 L.length:=λs t _ h1 h2=>by
 rw [Fb (List.getElem?_eq_getElem (show s<L.length by omega)),Fb (List.getElem?_eq_getElem h2)];exact List.pairwise_iff_getElem.1 h s t j6 h2 h1
theorem Ub{L:List Ev}(hs:Sorted L)(e:Ev):(∀x∈L.take (placeOf e.day L L.length),x.day<=e.day)/\(∀x∈L.drop (placeOf e.day L L.length),e.day<x.day):=by
 obtain⟨h1,h2⟩:=Pq e.day L L.length (Nat.le_refl _);have hle:=Ko e.day L L.length;refine⟨λx hx=> ?_,λx hx=> ?_⟩
 ·obtain⟨i,hi,he⟩:=List.getElem_of_mem hx;rw [List.length_take] at hi;obtain⟨p,hp⟩:∃p,placeOf e.day L L.length=p+1:=⟨placeOf e.day L L.length-1,by omega⟩;have h3:=h2 p hp;have h4:=hs.upto.le (s:=i) (t:=p) (Nat.zero_le _) j6 j6;rw [List.getElem_take] at he;rw [Fb (List.getElem?_eq_getElem (show i<L.length by omega)),he] at h4;omega
 ·obtain⟨i,hi,he⟩:=List.getElem_of_mem hx;rw [List.length_drop] at hi;rw [List.getElem_drop] at he;have h3:=h1 (placeOf e.day L L.length+i) j6 j6
  rwa [Fb (List.getElem?_eq_getElem (show placeOf e.day L L.length+i<L.length by omega)),he] at h3
theorem Ab0{L:List Ev}(hs:Sorted L)(e:Ev):Sorted (putL L e):=by
 obtain⟨h1,h2⟩:=Ub hs e;unfold putL Sorted;rw [List.append_assoc,List.pairwise_append];refine⟨hs.sublist (List.take_sublist _ _), ?_,λx hx y hy=> ?_⟩
 ·show List.Pairwise _ (e::_);rw [List.pairwise_cons];exact⟨λx hx=>by have:=h2 x hx;omega,hs.sublist (List.drop_sublist _ _)⟩
 ·have:=h1 x hx;rcases List.mem_cons.1 (show y∈e::_ from hy) with rfl|hy
  ·exact this
  ·have:=h2 y hy;omega
theorem Acw{L:List Ev}(hs:Sorted L)(e:Ev):Alike (putL L e) (L++ [e]):=by
 obtain⟨h1,h2⟩:=Ub hs e;have:L++ [e]=L.take (placeOf e.day L L.length)++(L.drop (placeOf e.day L L.length)++ [e]):=by rw [<-List.append_assoc,List.take_append_drop]
 rw [this];unfold putL;rw [List.append_assoc];exact Alike.app (Alike.refl _) (Alike.turn λu hu v hv=>by simp only [List.mem_singleton] at hv;subst hv;exact h2 u hu)
def sortL(L:List Ev):List Ev:=L.foldl putL []
theorem Tw:∀(L A B:List Ev),Sorted A->Alike A B->Sorted (L.foldl putL A)/\Alike (L.foldl putL A) (B++L)
 | [],A,B,h1,h2=>by simpa using ⟨h1,h2⟩
 |e::L,A,B,h1,h2=>by
  have:=Tw L (putL A e) (B++ [e]) (Ab0 h1 e) ((Acw h1 e).trans (h2.app (Alike.refl _)))
  simpa using this
theorem Pb(L:List Ev):Sorted (sortL L)/\Alike (sortL L) L:=by
 exact Tw L [] [] List.Pairwise.nil (Alike.refl _)
theorem sortL_one{L X:List Ev}(h1:Sorted X)(h2:Alike X L):X=sortL L:=(h2.trans (Pb L).2.symm).one h1 (Pb L).1
theorem Km(L:List Ev):(sortL L).length=L.length:=by
 have:∀(L A:List Ev),(L.foldl putL A).length=A.length+L.length:=by
  intro L
  induction L with
  |nil=>intro A;rfl
  |cons e L ih=>intro A;rw [List.foldl_cons,ih,Lu,List.length_cons];omega
 have:=this L [];rw [List.length_nil,Nat.zero_add] at this;exact this
def Gl(t:Tm):List Ev->Int
 | []=>0
 |e::L=>if evErr t e=0 then Gl t L else evErr t e
theorem Xp{t:Tm}:∀{L:List Ev},Gl t L=0->∀x∈L,evErr t x=0
 | [],_,x,hx=>by simp at hx
 |e::L,h,x,hx=>by
  unfold Gl at h;by_cases h0:evErr t e=0
  ·rw [if_pos h0] at h;rcases List.mem_cons.1 hx with rfl|hx
   ·exact h0
   ·exact Xp h x hx
  ·rw [if_neg h0] at h;exact absurd h h0
theorem Xr{t:Tm}:∀{L:List Ev} {i:Nat} {x:Ev},(∀j y,j<i->L[j]?=some y->evErr t y=0)->L[i]?=some x->¬evErr t x=0->Gl t L=evErr t x
 | [],i,x,_,hx,_=>by simp at hx
 |e::L,0,x,_,hx,hn=>by simp at hx;subst hx;unfold Gl;rw [if_neg hn]
 |e::L,i+1,x,h,hx,hn=>by
  unfold Gl;rw [if_pos (h 0 e (Nat.succ_pos _) rfl)];exact Xr (λj y hj hy=>h (j+1) y (Nat.succ_lt_succ hj) (by simpa using hy)) (by simpa using hx) hn
theorem Adg{t:Tm}{L:List Ev}(h:∀x∈L,evErr t x=0):Gl t L=0:=by
 induction L with
 |nil=>rfl
 |cons e L ih=>unfold Gl;rw [if_pos (h e (List.mem_cons_self ..))];exact ih λx hx=>h x (List.mem_cons_of_mem _ hx)
end Go.Proofs.YtjkdnaljkdnomaaGreatDoor
