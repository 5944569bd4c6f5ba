/- Part 5 of what the laws of this seat share: walks of functions, and plain laws. -/
import Derived.Test.YthffbjldpfionaaGreatC4
namespace Go.Proofs.YthffbjldpfionaaGreat
open Go.RowKit
theorem jZ87{P:Prop}(h:P:=by
 have:=hn.same (k-1) (by omega) (by omega)
 exact⟨_,_,by rwa [show 1+(k-1)=k by omega,show n+(mlen y m-d)+1+(k-1)=n-d+mlen y m+k by omega] at this⟩):P:=h
theorem jZ50{P:Prop}(h:P:=by
 go_wp2
 exact bodyPost_ret (v:= .tuple #[.int .i64 0,.int .i64 1]) (by simp [results,Tryz.results86,go_sem]) rfl ⟨rfl,by(repeat (first|exact Keeps.refl _ _|exact Keeps.alloc _ _|exact Keeps.drew _|exact Keeps.drewN _ _|refine Keeps.Ap ?_|refine Keeps.Al ?_|refine Keeps.Ae ?_))⟩):P:=h
theorem jZ31{P:Prop}(h:P:=by
 exact bodyPost_ret (v:= .tuple #[.int .i64 0,.int .i64 10]) (by simp [results,Tryz.results86,go_sem]) rfl ⟨rfl,Hk1.out.nt (by(repeat (first|exact Keeps.refl _ _|exact Keeps.alloc _ _|exact Keeps.drew _|exact Keeps.drewN _ _|refine Keeps.Ap ?_|refine Keeps.Al ?_|refine Keeps.Ae ?_)))⟩):P:=h
theorem jZ106{P:Prop}(h:P:=by
 rcases Nat.lt_or_ge i j with h|h
 ·exact hno i y h hy
 ·obtain rfl:i=j:=by omega
  rw [hx] at hy;cases hy;exact hqx):P:=h
theorem jZ100{P:Prop}(h:P:=by
 go_roundw
 case rel=>exact⟨j+1,by omega,by go_num,Hno'.out,Keeps.nt Hkx.out Hk1.out⟩
 case measure=>simp [intOf];omega):P:=h
theorem jZ56{P:Prop}(h:P:=by
 obtain rfl:j=n:=by omega
 have hf:=find_no (q:=q) (L:=L) (fun i y hi hy=>hno i y (by rw [Hn.out] at hi;exact hi) hy)
 obtain⟨Hno,Hkx,Hf⟩:=hid3 hno hkx hf;clear hf hkx hno
 go_wp2_with fail
 go_ret
 exact⟨by rw [←Hrr.out,Hf.out];rfl,Hkx.out⟩):P:=h
theorem jZ64{P:Prop}(h:P:=by
 subst h
 obtain⟨Hall,Hk,Hkw,He⟩:=hid4 hall hk hkw he;clear he hkw hk hall
 go_wp2
 go_ret
 exact⟨rfl,Hkw.out⟩):P:=h
theorem jZ27{P:Prop}(h:P:=by
 subst h
 have hla:=Hlate.out
 rw [h5] at hla
 obtain⟨Hall,Hk,Hkw,He,HoE,HoV,Hof2,H5,Hla⟩:=hid9 hall hk hkw he hoE hoV hof2 h5 hla;clear hla h5 hof2 hoV hoE he hkw hk hall
 go_wp2_with fail
 refine(Hof2.out _).mono ?_
 rintro e w3 ⟨rfl,hk3⟩
 have hkw3:=Hkw.out.nt hk3
 have htd3:=Htb.out _ ((Hk1.out.nt Hk.out).nt hk3)
 clear b0 b1 b2 b3 b4 b5 b6 bbl d0 dl
 obtain⟨tb,d0⟩:=htd3
 obtain⟨b0,b1,b2,b3,b4,b5,b6⟩:=tb
 have bbl:=Ag b0
 have dl:=Ag d0
 obtain⟨Hk3,Hkw3⟩:=hid2 hk3 hkw3;clear hkw3 hk3
 go_wp2_with fail
 refine(Hla.out _ d0 Hkw3.out).mono ?_
 rintro e w4 ⟨rfl,hk4⟩
 have Hk4:=Lib.hid (Hkw3.out.nt hk4);clear hk4
 go_wp2
 go_ret
 exact⟨rfl,Hk4.out⟩):P:=h
theorem jZ98{P:Prop}(h:P:=by
 simp only [Value.slice.injEq,Option.some.injEq,Addr.mk.injEq,and_true,true_and] at h0
 obtain⟨rfl,rfl⟩:=h0
 exact Ab hh o):P:=h
theorem jZ75{P:Prop}(h:P:=by
 repeat' split
 all_goals first|(exfalso;omega)|rfl|(congr 1;omega)):P:=h
theorem jZ61{P:Prop}(h:P:=by
 clear hs1 hz
 obtain⟨Hk1,Hk2,Hrow2,Hkw,Hb2⟩:=hid5 hk1 hk2 hrow2 hkw hb2;clear hb2 hkw hrow2 hk2 hk1
 go_wp2_with fail
 go_roundw
 case rel=>exact⟨h+1,j,by go_num,rfl,Hb2.out,Hrow2.out,Hkw.out⟩
 case measure=>simp [intOf];omega):P:=h
theorem jZ22{P:Prop}(h:P:=by
 refine hK.out _ _ (by exact hs1.keep hk2 (by simp)) ?_
 clear hK K
 try simp only [aps]
 repeat ((first|refine Ai rfl (by rfl) ?_|refine Af rfl (by rfl) ?_|(refine Ah (v:= ?_) rfl (by rfl) ?_ ?_;rotate_left;(· intro w' hSw;unfold twoS at hSw;go_simp;(try with_reducible rfl));rotate_right));try simp only [aps])
 refine Aw ?_
 have hrow2:=(Hrow.out.keep hk1).keep hk2
 have hkw:=(Hk.out.trans (hk1.mono (by simp))).trans (hk2.mono (by simp))
 have hb2:=Hbs.out.up Hmono.out hih hhj (by rw [Hxd.out,Hyd.out];omega)
 exact jZ61):P:=h
theorem jZ78{P:Prop}(h:P:=by
 clear hs1 hz
 obtain⟨Hk1,Hk2,Hrow2,Hkw,Hb2⟩:=hid5 hk1 hk2 hrow2 hkw hb2;clear hb2 hkw hrow2 hk2 hk1
 go_wp2_with fail
 go_roundw
 case rel=>exact⟨i,h,rfl,rfl,Hb2.out,Hrow2.out,Hkw.out⟩
 case measure=>simp [intOf];omega):P:=h
theorem jZ25{P:Prop}(h:P:=by
 refine hK.out _ _ (by exact hs1.keep hk2 (by simp)) ?_
 clear hK K
 try simp only [aps]
 repeat ((first|refine Ai rfl (by rfl) ?_|refine Af rfl (by rfl) ?_|(refine Ah (v:= ?_) rfl (by rfl) ?_ ?_;rotate_left;(· intro w' hSw;unfold twoS at hSw;go_simp;(try with_reducible rfl));rotate_right));try simp only [aps])
 refine Aw ?_
 have hrow2:=(Hrow.out.keep hk1).keep hk2
 have hkw:=(Hk.out.trans (hk1.mono (by simp))).trans (hk2.mono (by simp))
 have hb2:=Hbs.out.down Hmono.out hih hhj (by rw [Hxd.out,Hyd.out];omega)
 exact jZ78):P:=h
theorem jZ84{P:Prop}(h:P:=by
 obtain⟨Ht,E1,E2,E3,Hrow,Hk,Hup⟩:=hid7 ht e1 e2 e3 hrow hk hup;clear hup hk hrow e3 e2 e1 ht
 go_wp2
 go_end0
 exact⟨rfl,Y,Ht.out,Hup.out,Hrow.out,Hk.out⟩):P:=h
theorem swp_get{X:List Ev}{i j:Nat}(hi:i<X.length)(hj:j<X.length)(t:Nat):(swp X i j)[t]?=if t=j then X[i]? else if t=i then X[j]? else X[t]?:=by
 rw [swp_of (List.getElem?_eq_getElem hi) (List.getElem?_eq_getElem hj),List.getElem?_set,List.getElem?_set]
 simp only [List.length_set]
 by_cases h1:t=j
 ·subst h1;simp [hj,hi]
 ·rw [if_neg (fun e=>h1 e.symm),if_neg h1]
  by_cases h2:t=i
  ·subst h2;simp [hi,hj]
  ·rw [if_neg (fun e=>h2 e.symm),if_neg h2]
theorem split_two{X:List Ev}{i:Nat}{x y:Ev}(h1:X[i]?=some x)(h2:X[i+1]?=some y):X=X.take i++ [x,y]++X.drop (i+2):=by
 obtain⟨hl,rfl⟩:=List.getElem?_eq_some_iff.1 h1
 obtain⟨hl2,rfl⟩:=List.getElem?_eq_some_iff.1 h2
 rw [List.append_assoc]
 show X=X.take i++(X[i]::X[i+1]::X.drop (i+1+1))
 rw [List.getElem_cons_drop,List.getElem_cons_drop,List.take_append_drop]
theorem swp_turned{X:List Ev}{i a b:Nat}(ha:a≤i)(hb:i+2≤b)(hl:i+1<X.length)(hd:dy X (i+1)<dy X i):Turned X (swp X i (i+1)) a b:=by
 refine⟨swp_length _ _ _,fun t ht=> ?_, ?_⟩
 ·rw [swp_get (by omega) hl,if_neg (by omega),if_neg (by omega)]
 ·have h1:X[i]?=some X[i]:=List.getElem?_eq_getElem (by omega)
  have h2:X[i+1]?=some X[i+1]:=List.getElem?_eq_getElem hl
  rw [Dh h1,Dh h2] at hd
  have hs:=split_two h1 h2
  have e:swp X i (i+1)=X.take i++ [X[i+1],X[i]]++X.drop (i+2):=by
   refine List.ext_getElem? fun t=> ?_
   rw [swp_get (by omega) hl]
   have hlt:(X.take i).length=i:=by rw [List.length_take];omega
   rcases Nat.lt_trichotomy t i with h|h|h
   ·rw [if_neg (by omega),if_neg (by omega),List.append_assoc,List.getElem?_append_left (by omega),List.getElem?_take_of_lt h]
   ·subst h
    rw [if_neg (by omega),if_pos rfl,List.append_assoc,List.getElem?_append_right (by omega),hlt,Nat.sub_self];exact h2
   ·rcases Nat.lt_or_ge (i+1) t with h'|h'
    ·rw [if_neg (by omega),if_neg (by omega),List.getElem?_append_right (by simp only [List.length_append,hlt,List.length_cons,List.length_nil];omega),List.getElem?_drop]
     simp only [List.length_append,hlt,List.length_cons,List.length_nil]
     congr 1;omega
    ·obtain rfl:t=i+1:=by omega
     rw [if_pos rfl,List.append_assoc,List.getElem?_append_right (by omega),hlt,Nat.add_sub_cancel_left];exact h1
  rw [e]
  conv=>rhs;rw [hs]
  refine Alike.app (Alike.app (Alike.refl _) ?_) (Alike.refl _)
  show Alike ([X[i+1]]++ [X[i]]) ([X[i]]++ [X[i+1]])
  exact Alike.turn (by simpa using hd)
theorem swp_comm(X:List Ev)(i:Nat)(hl:i+1<X.length):swp X (i+1) i=swp X i (i+1):=by
 refine List.ext_getElem? fun t=> ?_
 rw [swp_get hl (by omega),swp_get (by omega) hl]
 by_cases h:t=i
 ·subst h;rw [if_pos rfl,if_neg (by omega),if_pos rfl]
 ·rw [if_neg h,if_neg h]
theorem Alike.one:∀{X Y:List Ev},Alike X Y→X.Pairwise (fun x y=>x.day≤y.day)→Y.Pairwise (fun x y=>x.day≤y.day)→X=Y
 | [],Y,h,_,_=>by
  cases Y with
  |nil=>rfl
  |cons y Y=>have:=h.symm.mem (x:=y) (by simp);simp at this
 |x::X,Y,h,hX,hY=>by
  cases Y with
  |nil=>have:=h.mem (x:=x) (by simp);simp at this
  |cons y Y=>
   have e1:y.day≤x.day:=by
    have:=h.mem (x:=x) (by simp)
    rcases List.mem_cons.1 this with rfl|hm
    ·exact Int.le_refl _
    ·exact(List.pairwise_cons.1 hY).1 x hm
   have e2:x.day≤y.day:=by
    have:=h.symm.mem (x:=y) (by simp)
    rcases List.mem_cons.1 this with rfl|hm
    ·exact Int.le_refl _
    ·exact(List.pairwise_cons.1 hX).1 y hm
   have e:x.day=y.day:=by omega
   have hk:=h x.day
   rw [List.filter_cons,List.filter_cons,if_pos (by simp),if_pos (by simp [e])] at hk
   obtain⟨rfl,_⟩:=List.cons.inj hk
   congr 1
   refine Alike.one (fun k=> ?_) (List.pairwise_cons.1 hX).2 (List.pairwise_cons.1 hY).2
   have:=h k
   rw [List.filter_cons,List.filter_cons] at this
   split at this
   ·exact(List.cons.inj this).2
   ·exact this
theorem Upto.pair{X:List Ev}(h:Upto X 0 X.length):X.Pairwise (fun x y=>x.day≤y.day):=by
 rw [List.pairwise_iff_getElem]
 intro i j hi hj hij
 have:=h i j (Nat.zero_le _) hij hj
 rwa [Dh (List.getElem?_eq_getElem hi),Dh (List.getElem?_eq_getElem hj)] at this
structure Bs(p:Nat→Prop)(lo hi i j:Nat):Prop where
 le:i≤j
 lo':lo≤i
 hi':j≤hi
 below:∀t,lo≤t→t<i→¬p t
 above:∀t,j≤t→t<hi→p t
theorem Bs.start{p:Nat→Prop}{lo hi:Nat}(h:lo≤hi):Bs p lo hi lo hi:=⟨h,Nat.le_refl _,Nat.le_refl _,fun t _ _=>by omega,fun t _ _=>by omega⟩
theorem Bs.up{p:Nat→Prop}{lo hi i j h:Nat}(b:Bs p lo hi i j)(hm:∀s t,lo≤s→s≤t→t<hi→p s→p t)(h1:i≤h)(h2:h<j)(hp:¬p h):Bs p lo hi (h+1) j:=
 ⟨by omega,by have:=b.lo';omega,b.hi',fun t h3 h4 hpt=>hp (hm t h h3 (by omega) (by have:=b.hi';omega) hpt),b.above⟩
theorem Bs.down{p:Nat→Prop}{lo hi i j h:Nat}(b:Bs p lo hi i j)(hm:∀s t,lo≤s→s≤t→t<hi→p s→p t)(h1:i≤h)(h2:h<j)(hp:p h):Bs p lo hi i h:=
 ⟨h1,b.lo',by have:=b.hi';omega,b.below,fun t h3 h4=>hm h t (by have:=b.lo';omega) h3 h4 hp⟩
def placeOf(day:Int):List Ev→Nat→Nat
 |_,0=>0
 |L,n+1=>match L[n]? with|some e=>if day<e.day then placeOf day L n else n+1|none=>n+1
def putL(L:List Ev)(e:Ev):List Ev:=L.take (placeOf e.day L L.length)++ [e]++L.drop (placeOf e.day L L.length)
theorem placeOf_le(day:Int)(L:List Ev):∀n,placeOf day L n≤n
 |0=>by cases L<;>exact Nat.le_refl _
 |n+1=>by
  unfold placeOf
  split
  ·split
   ·exact Nat.le_succ_of_le (placeOf_le day L n)
   ·exact Nat.le_refl _
  ·exact Nat.le_refl _
theorem putL_length(L:List Ev)(e:Ev):(putL L e).length=L.length+1:=by
 have:=placeOf_le e.day L L.length
 simp only [putL,List.length_append,List.length_take,List.length_drop,List.length_cons,List.length_nil];omega
theorem placeOf_spec(day:Int)(L:List Ev):∀n,n≤L.length→(∀t,placeOf day L n≤t→t<n→day<dy L t)∧(∀p,placeOf day L n=p+1→dy L p≤day)
 |0,_=>⟨fun t _ h=>by omega,fun p h=>by simp [placeOf] at h⟩
 |n+1,hn=>by
  have ih:=placeOf_spec day L n (by omega)
  have hx:L[n]?=some L[n]:=List.getElem?_eq_getElem (by omega)
  unfold placeOf
  rw [hx]
  simp only
  split
  ·rename_i h
   refine⟨fun t h1 h2=> ?_,ih.2⟩
   by_cases he:t=n
   ·subst he;rw [Dh hx];exact h
   ·exact ih.1 t h1 (by omega)
  ·rename_i h
   refine⟨fun t h1 h2=>by omega,fun p h1=> ?_⟩
   obtain rfl:p=n:=by omega
   rw [Dh hx];omega
def Sorted(L:List Ev):Prop:=L.Pairwise (fun x y=>x.day≤y.day)
theorem Sorted.upto{L:List Ev}(h:Sorted L):Upto L 0 L.length:=fun s t _ h1 h2=>by
 rw [Dh (List.getElem?_eq_getElem (show s<L.length by omega)),Dh (List.getElem?_eq_getElem h2)]
 exact List.pairwise_iff_getElem.1 h s t (by omega) h2 h1
theorem putL_parts{L:List Ev}(hs:Sorted L)(e:Ev):(∀x∈L.take (placeOf e.day L L.length),x.day≤e.day)∧(∀x∈L.drop (placeOf e.day L L.length),e.day<x.day):=by
 obtain⟨h1,h2⟩:=placeOf_spec e.day L L.length (Nat.le_refl _)
 have hle:=placeOf_le e.day L L.length
 refine⟨fun x hx=> ?_,fun x hx=> ?_⟩
 ·obtain⟨i,hi,he⟩:=List.getElem_of_mem hx
  rw [List.length_take] at hi
  obtain⟨p,hp⟩:∃p,placeOf e.day L L.length=p+1:=⟨placeOf e.day L L.length-1,by omega⟩
  have h3:=h2 p hp
  have h4:=hs.upto.le (s:=i) (t:=p) (Nat.zero_le _) (by omega) (by omega)
  rw [List.getElem_take] at he
  rw [Dh (List.getElem?_eq_getElem (show i<L.length by omega)),he] at h4
  omega
 ·obtain⟨i,hi,he⟩:=List.getElem_of_mem hx
  rw [List.length_drop] at hi
  rw [List.getElem_drop] at he
  have h3:=h1 (placeOf e.day L L.length+i) (by omega) (by omega)
  rwa [Dh (List.getElem?_eq_getElem (show placeOf e.day L L.length+i<L.length by omega)),he] at h3
theorem putL_sorted{L:List Ev}(hs:Sorted L)(e:Ev):Sorted (putL L e):=by
 obtain⟨h1,h2⟩:=putL_parts hs e
 unfold putL Sorted
 rw [List.append_assoc,List.pairwise_append]
 refine⟨hs.sublist (List.take_sublist _ _), ?_,fun x hx y hy=> ?_⟩
 ·show List.Pairwise _ (e::_)
  rw [List.pairwise_cons]
  exact⟨fun x hx=>by have:=h2 x hx;omega,hs.sublist (List.drop_sublist _ _)⟩
 ·have:=h1 x hx
  rcases List.mem_cons.1 (show y∈e::_ from hy) with rfl|hy
  ·exact this
  ·have:=h2 y hy;omega
theorem putL_alike{L:List Ev}(hs:Sorted L)(e:Ev):Alike (putL L e) (L++ [e]):=by
 obtain⟨h1,h2⟩:=putL_parts hs e
 have:L++ [e]=L.take (placeOf e.day L L.length)++(L.drop (placeOf e.day L L.length)++ [e]):=by rw [←List.append_assoc,List.take_append_drop]
 rw [this]
 unfold putL
 rw [List.append_assoc]
 exact Alike.app (Alike.refl _) (Alike.turn fun u hu v hv=>by simp only [List.mem_singleton] at hv;subst hv;exact h2 u hu)
def sortL(L:List Ev):List Ev:=L.foldl putL []
theorem sortL_fold:∀(L A B:List Ev),Sorted A→Alike A B→Sorted (L.foldl putL A)∧Alike (L.foldl putL A) (B++L)
 | [],A,B,h1,h2=>by simpa using ⟨h1,h2⟩
 |e::L,A,B,h1,h2=>by
  have:=sortL_fold L (putL A e) (B++ [e]) (putL_sorted h1 e) ((putL_alike h1 e).trans (h2.app (Alike.refl _)))
  simpa using this
theorem sortL_spec(L:List Ev):Sorted (sortL L)∧Alike (sortL L) L:=by
 exact sortL_fold L [] [] List.Pairwise.nil (Alike.refl _)
theorem sortL_one{L X:List Ev}(h1:Sorted X)(h2:Alike X L):X=sortL L:=(h2.trans (sortL_spec L).2.symm).one h1 (sortL_spec L).1
theorem sortL_snoc(L:List Ev)(e:Ev):sortL (L++ [e])=putL (sortL L) e:=by unfold sortL;rw [List.foldl_append];rfl
theorem sortL_length(L:List Ev):(sortL L).length=L.length:=by
 have:∀(L A:List Ev),(L.foldl putL A).length=A.length+L.length:=by
  intro L
  induction L with
  |nil=>intro A;rfl
  |cons e L ih=>intro A;rw [List.foldl_cons,ih,putL_length,List.length_cons];omega
 have:=this L []
 rw [List.length_nil,Nat.zero_add] at this
 exact this
def evsErr(t:Tm):List Ev→Int
 | []=>0
 |e::L=>if evErr t e=0 then evsErr t L else evErr t e
theorem evsErr_ok{t:Tm}:∀{L:List Ev},evsErr t L=0→∀x∈L,evErr t x=0
 | [],_,x,hx=>by simp at hx
 |e::L,h,x,hx=>by
  unfold evsErr at h
  by_cases h0:evErr t e=0
  ·rw [if_pos h0] at h
   rcases List.mem_cons.1 hx with rfl|hx
   ·exact h0
   ·exact evsErr_ok h x hx
  ·rw [if_neg h0] at h;exact absurd h h0
theorem evsErr_at{t:Tm}:∀{L:List Ev} {i:Nat} {x:Ev},(∀j y,j<i→L[j]?=some y→evErr t y=0)→L[i]?=some x→¬evErr t x=0→evsErr t L=evErr t x
 | [],i,x,_,hx,_=>by simp at hx
 |e::L,0,x,_,hx,hn=>by simp at hx;subst hx;unfold evsErr;rw [if_neg hn]
 |e::L,i+1,x,h,hx,hn=>by
  unfold evsErr
  rw [if_pos (h 0 e (Nat.succ_pos _) rfl)]
  exact evsErr_at (fun j y hj hy=>h (j+1) y (Nat.succ_lt_succ hj) (by simpa using hy)) (by simpa using hx) hn
theorem evsErr_all{t:Tm}{L:List Ev}(h:∀x∈L,evErr t x=0):evsErr t L=0:=by
 induction L with
 |nil=>rfl
 |cons e L ih=>unfold evsErr;rw [if_pos (h e (List.mem_cons_self ..))];exact ih fun x hx=>h x (List.mem_cons_of_mem _ hx)
theorem keeps_setCells(g:Nat):∀(vs:List Value) (o:Nat) (w:World),Keeps (fun k=>k=g) w (w.setCells g o vs)
 | [],_,_=>Keeps.refl _ _
 |v::r,o,w=>(Keeps.setCell (S:=fun k=>k=g) w ⟨g,o,none⟩ v rfl).trans ((keeps_setCells g r (o+1) _).mono fun _ _ h=> .inl h)
theorem owns_storeN{α:Type}{f:α→List Value}{size:Nat}{hf:∀x,(f x).length=size}{w:World}{base:Nat}{e:TypeId}{g cap n:Nat}{L:List α}(h:w.ownsRow base e size (.slice (some ⟨g,0,none⟩) n cap) n (L.flatMap f))(hl:L.length=n){k:Nat}{x y:α}(hx:L[k]?=some x)(j:Nat)(hj:j<size)
  {u:Value} (hy:(f x).set j u=f y):(w.setCell ⟨g,k*size+j,none⟩ u).ownsRow base e size (.slice (some ⟨g,0,none⟩) n cap) n ((L.set k y).flatMap f):=by
 subst hl;exact owns_store hf h hx j hj hy
theorem owns_storeEv{w:World}{g cap n k:Nat}{L:List Ev}(h:w.ownsRow 0 77 5 (.slice (some ⟨g,0,none⟩) n cap) n (L.flatMap Ev.cells))(hl:L.length=n)(hk:k<n)(a b c d e:Int):
  (((((w.setCell ⟨g,k*5,none⟩ (.int .i64 a)).setCell ⟨g,k*5+1,none⟩ (.int .i64 b)).setCell ⟨g,k*5+2,none⟩ (.int .i64 c)).setCell ⟨g,k*5+3,none⟩ (.int .i64 d)).setCell ⟨g,k*5+4,none⟩ (.int .i64 e)).ownsRow 0 77 5 (.slice (some ⟨g,0,none⟩) n cap) n ((L.set k ⟨a,b,c,d,e⟩).flatMap Ev.cells):=by
 obtain⟨⟨a0,b0,c0,d0,e0⟩,hx⟩:=Av (L:=L) (k:=k) (by omega)
 have s1:=owns_storeN (hf:=Ev.Am) h hl hx (y:=⟨a,b0,c0,d0,e0⟩) 0 (by decide) (u:= .int .i64 a) rfl
 have s2:=owns_storeN (hf:=Ev.Am) s1 (by simp [hl]) (x:=⟨a,b0,c0,d0,e0⟩) (k:=k) (by simp [hl,hk]) (y:=⟨a,b,c0,d0,e0⟩) 1 (by decide) (u:= .int .i64 b) rfl
 have s3:=owns_storeN (hf:=Ev.Am) s2 (by simp [hl]) (x:=⟨a,b,c0,d0,e0⟩) (k:=k) (by simp [hl,hk]) (y:=⟨a,b,c,d0,e0⟩) 2 (by decide) (u:= .int .i64 c) rfl
 have s4:=owns_storeN (hf:=Ev.Am) s3 (by simp [hl]) (x:=⟨a,b,c,d0,e0⟩) (k:=k) (by simp [hl,hk]) (y:=⟨a,b,c,d,e0⟩) 3 (by decide) (u:= .int .i64 d) rfl
 have s5:=owns_storeN (hf:=Ev.Am) s4 (by simp [hl]) (x:=⟨a,b,c,d,e0⟩) (k:=k) (by simp [hl,hk]) (y:=⟨a,b,c,d,e⟩) 4 (by decide) (u:= .int .i64 e) rfl
 simp only [List.set_set] at s5
 exact s5
theorem run_clear_ev(w:World)(ty:TypeId)(g i n c cap:Nat)(xs:List Value)(h:w.ownsRow 0 77 5 (.slice (some ⟨g,0,none⟩) n cap) n xs)(hi:i<n):∃vs:List Value,
  (Builtin.clear_ #[73] ty #[.slice (some ⟨g,i*5,none⟩) (n-i) c]).run Tryz.prog w= .ok (.tuple #[]) (w.setCells g (i*5) vs):=by
 rcases h.2 with⟨h0,_⟩|⟨g1,cap1,cur,h0,_,hh,h1,_,h3,_⟩
 ·simp at h0
 simp only [Value.slice.injEq,Option.some.injEq,Addr.mk.injEq,and_true,true_and] at h0
 obtain⟨rfl,rfl⟩:=h0
 refine⟨(Builtin.zeroCells (Value.agg #[.int .i64 0,.int .i64 0,.int .i64 0,.int .i64 0,.int .i64 0]).cells (n-i)).toList, ?_⟩
 have hlen:((Builtin.zeroCells (Value.agg #[.int .i64 0,.int .i64 0,.int .i64 0,.int .i64 0,.int .i64 0]).cells (n-i)).toList).length=(n-i)*5:=by simp [Value.cells,Builtin.zeroCells]
 have hst:=run_storeCells_cells (P:=Tryz.prog) g (i*5) (Builtin.zeroCells (Value.agg #[.int .i64 0,.int .i64 0,.int .i64 0,.int .i64 0,.int .i64 0]).cells (n-i)).toList 0 w
  (fun j hj=>by
   rw [hlen] at hj
   rw [Aa hh,Array.getElem?_eq_getElem (by rw [h3];omega)];rfl)
  (fun j hj=>Ab hh _)
  (fun v hv=>by
   simp only [Builtin.zeroCells,Value.cells,Array.mem_toList_iff,Array.mem_map,Array.mem_range] at hv
   obtain⟨j,_,rfl⟩:=hv
   have h5:j % 5<5:=Nat.mod_lt _ (by decide)
   rcases(show j % 5=0∨j % 5=1∨j % 5=2∨j % 5=3∨j % 5=4 by omega) with h|h|h|h|h<;>simp [h]<;>rfl)
 simp only [Nat.add_zero] at hst
 obtain⟨m,hm⟩:∃m,n-i=m+1:=⟨n-i-1,by omega⟩
 have hv:(zeroValue 77).run Tryz.prog w= .ok (.agg #[.int .i64 0,.int .i64 0,.int .i64 0,.int .i64 0,.int .i64 0]) w:=by go_simp
 rw [hm] at hst⊢
 simp [Builtin.clear_,run_underlying Tryz.underlying73,hv,hst]
theorem find_none{q:Ev→Bool}{L:List Ev}(h:L.findIdx? q=none):L.filter (fun x=> !q x)=L:=by
 rw [List.filter_eq_self]
 intro x hx
 have:=List.findIdx?_eq_none_iff.1 h x hx
 simp [this]
def retI(o:Option Nat):Int:=match o with|some k=>(k:Int)|none=> -1
theorem find_snoc{q:Ev→Bool}{L:List Ev}{j:Nat}{x:Ev}(hx:L[j]?=some x)(h:∀i y,i<j→L[i]?=some y→q y=false)(hq:q x=true):L.findIdx? q=some j:=by
 rw [List.findIdx?_eq_some_iff_getElem]
 obtain⟨hl,he⟩:=List.getElem?_eq_some_iff.1 hx
 refine⟨hl,by rw [he];exact hq,fun i hi=> ?_⟩
 have:=h i _ hi (List.getElem?_eq_getElem (by omega))
 simp [this]
theorem find_no{q:Ev→Bool}{L:List Ev}(h:∀i y,i<L.length→L[i]?=some y→q y=false):L.findIdx? q=none:=by
 rw [List.findIdx?_eq_none_iff]
 intro x hx
 obtain⟨i,hi,he⟩:=List.mem_iff_getElem.1 hx
 exact h i x hi (by rw [List.getElem?_eq_getElem hi,he])
structure DateIs(y m d n:Int):Prop where
 y0:1600≤y
 m0:1≤m
 m1:m≤12
 d0:1≤d
 d1:d≤mlen y m
 eq:n=nY y+cumT y m+d-1
theorem cumT_mono{y:Int}{a:Int}(h0:1≤a):∀k:Nat,a+k≤13→cumT y a≤cumT y (a+k)
 |0,_=>by simp
 |k+1,h=>by
  have h1:=cumT_mono (y:=y) h0 k (by omega)
  have h2:=Co (y:=y) (m:=a+k) (by omega) (by omega)
  rw [show a+((k+1:Nat):Int)=a+k+1 by omega]
  omega
theorem cumT_le{y a b:Int}(h0:1≤a)(h1:a≤b)(h2:b≤13):cumT y a≤cumT y b:=by
 have:=cumT_mono (y:=y) h0 (b-a).toNat (by omega)
 rwa [show a+((b-a).toNat:Int)=b by omega] at this
theorem DateIs.year{y m d n:Int}(h:DateIs y m d n):nY y≤n∧n<nY (y+1):=by
 have h1:=Co (y:=y) (m:=m) h.m0 h.m1
 have h2:=cumT_le (y:=y) (a:=m+1) (b:=13) (by have:=h.m0;omega) (by have:=h.m1;omega) (by omega)
 have h3:=cumT_le (y:=y) (a:=1) (b:=m) (by omega) h.m0 (by have:=h.m1;omega)
 rw [cumT_end] at h2
 rw [cumT_one] at h3
 have h4:=nY_succ h.y0
 have:=h.d0;have:=h.d1;have:=h.eq
 omega
theorem MoAt.walk{y r m:Int}(hr:r<ylen y)(h0:1≤m)(h1:m≤12)(hq:cumT y m≤r):∀k:Nat,(k:Int)<m→MoAt y r (k+1) (r-cumT y ((k:Int)+1))
 |0,_=>by
  have:cumT y 1≤cumT y m:=cumT_le (by omega) h0 (by omega)
  rw [cumT_one] at this
  have:=MoAt.start (y:=y) (r:=r) (by omega)
  simpa [cumT_one] using this
 |k+1,hk=>by
  have ih:=MoAt.walk hr h0 h1 hq k (by omega)
  have hs:=Co (y:=y) (m:=(k:Int)+1) (by omega) (by omega)
  have hle:=cumT_le (y:=y) (a:=(k:Int)+1+1) (b:=m) (by omega) (by omega) (by omega)
  have hkk:((k+1:Nat):Int)=(k:Int)+1:=by omega
  have:=ih.next hr (by rw [hkk];omega)
  rw [hkk] at this⊢
  rwa [show r-cumT y ((k:Int)+1)-mlen y ((k:Int)+1)=r-cumT y ((k:Int)+1+1) by omega] at this
theorem DateIs.found{y m d n:Int}(h:DateIs y m d n)(hn:n≤2932896):dY n=y∧dM n=m∧dD n=d:=by
 obtain⟨h1,h2⟩:=h.year
 obtain⟨hy,_⟩:=yearF_eq h.y0 h1 h2 hn
 have hs:=nY_succ h.y0
 have hd0:=h.d0;have hd1:=h.d1;have heq:=h.eq;have hm0:=h.m0;have hm1:=h.m1
 have hw:=MoAt.walk (y:=y) (r:=n-nY y) (m:=m) (by omega) hm0 hm1 (by omega) (m-1).toNat (by omega)
 rw [show(((m-1).toNat:Nat):Int)+1=m by omega,show(m-1).toNat+1=m.toNat by omega] at hw
 have hc:((m.toNat:Nat):Int)=m:=by omega
 have hdone:=hw.done (by rw [hc];omega)
 rw [hc] at hdone
 refine⟨hy, ?_, ?_⟩
 ·unfold dM;rw [hy,hdone]
 ·unfold dD;rw [hy,hdone];show n-nY y-cumT y m+1=d;omega
theorem date_next{y m d n:Int}(h:DateIs y m d n):(d<mlen y m∧DateIs y m (d+1) (n+1))∨(d=mlen y m∧m<12∧DateIs y (m+1) 1 (n+1))∨(d=mlen y m∧m=12∧DateIs (y+1) 1 1 (n+1)):=by
 obtain⟨y0,m0,m1,d0,d1,eq⟩:=h
 have hc:=Co (y:=y) (m:=m) m0 m1
 by_cases hd:d<mlen y m
 ·exact .inl ⟨hd,y0,m0,m1,by omega,by omega,by omega⟩
 ·by_cases hm:m<12
  ·have hc2:=Co (y:=y) (m:=m+1) (by omega) (by omega)
   exact .inr (.inl ⟨by omega,hm,y0,by omega,by omega,by omega,by omega,by omega⟩)
  ·obtain rfl:m=12:=by omega
   have hc2:=Co (y:=y+1) (m:=1) (by omega) (by omega)
   have he:=cumT_end y
   have hy:=nY_succ y0
   rw [show(12:Int)+1=13 by rfl,he] at hc
   exact .inr (.inr ⟨by omega,rfl,by omega,by omega,by omega,by omega,by omega,by rw [cumT_one];omega⟩)
theorem date_ex:∀k:Nat,∃y m d,DateIs y m d (-135140+k)
 |0=>⟨1600,1,1,by decide,by decide,by decide,by decide,by decide,by decide⟩
 |k+1=>by
  obtain⟨y,m,d,h⟩:=date_ex k
  rw [show(-135140:Int)+((k+1:Nat):Int)= -135140+k+1 by omega]
  rcases date_next h with⟨_,h⟩|⟨_,_,h⟩|⟨_,_,h⟩
  ·exact⟨_,_,_,h⟩
  ·exact⟨_,_,_,h⟩
  ·exact⟨_,_,_,h⟩
theorem date_is{n:Int}(h0: -135140≤n)(h1:n≤2932896):DateIs (dY n) (dM n) (dD n) n:=by
 obtain⟨y,m,d,h⟩:=date_ex (n+135140).toNat
 rw [show(-135140:Int)+((n+135140).toNat:Int)=n by omega] at h
 obtain⟨e1,e2,e3⟩:=h.found h1
 rw [e1,e2,e3];exact h
theorem DateIs.same{y m d n:Int}(h:DateIs y m d n)(k:Int)(h0:1≤d+k)(h1:d+k≤mlen y m):DateIs y m (d+k) (n+k):=⟨h.y0,h.m0,h.m1,h0,h1,by have:=h.eq;omega⟩
theorem DateIs.over{y m d n:Int}(h:DateIs y m d n)(k:Int)(h0:1≤k)(h1:k≤28):∃y' m',DateIs y' m' k (n-d+mlen y m+k):=by
 have hl:=h.same (mlen y m-d) (by have:=h.d0;have:=h.d1;omega) (by omega)
 rw [show d+(mlen y m-d)=mlen y m by omega] at hl
 rcases date_next hl with⟨hh,_⟩|⟨_,hm,hn⟩|⟨_,hm,hn⟩
 ·omega
 ·have:=Co (y:=y) (m:=m+1) (by have:=h.m0;omega) (by omega)
  exact jZ87
 ·have:=Co (y:=y+1) (m:=1) (by omega) (by omega)
  exact jZ87
def lastF(fr cd:Int):Int:=if fr-dD fr+cd-1<fr then fr-dD fr+cd-1+mlen (dY fr) (dM fr) else fr-dD fr+cd-1
def lastE(fr cd:Int):Int:=if cd<1∨28<cd then 1 else if¬(-135140≤fr∧fr≤2932896) then 10 else if 2932896<lastF fr cd then 10 else 0
theorem lastF_ge{fr cd:Int}(h0: -135140≤fr)(h1:fr≤2932896)(c0:1≤cd)(c1:cd≤28):fr≤lastF fr cd∧lastF fr cd≤fr+31:=by
 have h:=date_is h0 h1
 have hm:=(Co (y:=dY fr) (m:=dM fr) h.m0 h.m1).2
 have:=h.d0;have:=h.d1
 unfold lastF
 split<;>omega
def lastV(fr cd:Int):Int:=if lastE fr cd=0 then lastF fr cd else 0
set_option maxRecDepth 100000
set_option maxHeartbeats 1600000
theorem cycLast_any(fr cd:Int)(w:World)(hf: -1000000000000≤fr∧fr≤1000000000000):Calls Tryz.prog 86 #[.int .i64 fr,.int .i64 cd] w fun e w'=>e= .returned (.tuple #[.int .i64 (lastV fr cd),.int .i64 (lastE fr cd)])∧Keeps (fun _=>False) w w':=by
 obtain⟨hf0,hf1⟩:=hf
 by_cases hc:cd<1∨28<cd
 ·have he:lastE fr cd=1:=by unfold lastE;rw [if_pos hc]
  have hv:lastV fr cd=0:=by unfold lastV;rw [if_neg (by rw [he];decide)]
  rw [he,hv]
  obtain⟨He,Hv⟩:=hid2 he hv;clear hv he
  go_enter Tryz.func86,Tryz.ntmps86
  rcases hc with hc|hc
  ·exact jZ50
  ·have hc2:¬cd<1:=by omega
   exact jZ50
 ·have c1:¬cd<1:=by omega
  have c2:¬28<cd:=by omega
  have hdt:=dayDate_any fr w (by omega)
  by_cases hin: -135140≤fr∧fr≤2932896
  ·have hd:dayIn fr=true:=by simp [dayIn,hin]
   rw [if_pos hd,if_pos hd] at hdt
   have h:=date_is hin.1 hin.2
   have hm:=(Co (y:=dY fr) (m:=dM fr) h.m0 h.m1).2
   have y0:=h.y0;have m0:=h.m0;have m1:=h.m1;have d0:=h.d0;have d1:=h.d1
   have hlen:=fun W=>dayLength_any (dY fr) (dM fr) (by omega) m0 m1 W
   have hlf:lastF fr cd=if fr-dD fr+cd-1<fr then fr-dD fr+cd-1+mlen (dY fr) (dM fr) else fr-dD fr+cd-1:=rfl
   have hle:lastE fr cd=if 2932896<lastF fr cd then 10 else 0:=by unfold lastE;rw [if_neg hc,if_neg (by omega)]
   have hlv:lastV fr cd=if lastE fr cd=0 then lastF fr cd else 0:=rfl
   obtain⟨F,hF⟩:∃F,lastF fr cd=F:=⟨_,rfl⟩
   obtain⟨E,hE⟩:∃E,lastE fr cd=E:=⟨_,rfl⟩
   obtain⟨V,hV⟩:∃V,lastV fr cd=V:=⟨_,rfl⟩
   obtain⟨Y,hY⟩:∃Y,dY fr=Y:=⟨_,rfl⟩
   obtain⟨M,hM⟩:∃M,dM fr=M:=⟨_,rfl⟩
   obtain⟨D,hD⟩:∃D,dD fr=D:=⟨_,rfl⟩
   obtain⟨l,hl⟩:∃l,mlen Y M=l:=⟨_,rfl⟩
   rw [hF] at hlf hle hlv
   rw [hE] at hle hlv
   rw [hV] at hlv
   rw [hE,hV]
   rw [hY,hM] at hlf hm hlen hdt d1
   rw [hD] at hdt hlf d0 d1
   rw [hl] at hlf hm hlen d1
   obtain⟨hin0,hin1⟩:=hin
   clear h y0 m0 m1 hc
   by_cases ha:fr-D+cd-1<fr
   ·rw [if_pos ha] at hlf
    subst hlf
    by_cases hb:2932896<fr-D+cd-1+l
    ·rw [if_pos hb] at hle
     subst hle
     rw [if_neg (by decide)] at hlv
     subst hlv
     obtain⟨Hd,Hdt,Hlen,HF,HE,HV,HY,HM,HD⟩:=hid9 hd hdt hlen hF hE hV hY hM hD;clear hD hM hY hV hE hF hlen hdt hd;have Hl:=Lib.hid hl;clear hl
     go_enter Tryz.func86,Tryz.ntmps86
     go_wp2_with fail
     refine Hdt.out.mono ?_
     rintro e w1 ⟨rfl,hk1⟩
     have Hk1:=Lib.hid hk1;clear hk1
     go_wp2_with fail
     refine(Hlen.out _).mono ?_
     rintro e w2 ⟨rfl,rfl⟩
     go_wp2_with fail
     exact jZ31
    ·rw [if_neg hb] at hle
     subst hle
     rw [if_pos rfl] at hlv
     subst hlv
     obtain⟨Hd,Hdt,Hlen,HF,HE,HV,HY,HM,HD⟩:=hid9 hd hdt hlen hF hE hV hY hM hD;clear hD hM hY hV hE hF hlen hdt hd;have Hl:=Lib.hid hl;clear hl
     go_enter Tryz.func86,Tryz.ntmps86
     go_wp2_with fail
     refine Hdt.out.mono ?_
     rintro e w1 ⟨rfl,hk1⟩
     have Hk1:=Lib.hid hk1;clear hk1
     go_wp2_with fail
     refine(Hlen.out _).mono ?_
     rintro e w2 ⟨rfl,rfl⟩
     go_wp2_with fail
     exact bodyPost_ret (v:= .tuple #[.int .i64 (fr-D+cd-1+l),.int .i64 0]) (by simp [results,Tryz.results86,go_sem]) rfl ⟨rfl,Hk1.out.nt (by(repeat (first|exact Keeps.refl _ _|exact Keeps.alloc _ _|exact Keeps.drew _|exact Keeps.drewN _ _|refine Keeps.Ap ?_|refine Keeps.Al ?_|refine Keeps.Ae ?_)))⟩
   ·rw [if_neg ha] at hlf
    subst hlf
    by_cases hb:2932896<fr-D+cd-1
    ·rw [if_pos hb] at hle
     subst hle
     rw [if_neg (by decide)] at hlv
     subst hlv
     obtain⟨Hd,Hdt,Hlen,HF,HE,HV,HY,HM,HD⟩:=hid9 hd hdt hlen hF hE hV hY hM hD;clear hD hM hY hV hE hF hlen hdt hd;have Hl:=Lib.hid hl;clear hl
     go_enter Tryz.func86,Tryz.ntmps86
     go_wp2_with fail
     refine Hdt.out.mono ?_
     rintro e w1 ⟨rfl,hk1⟩
     have Hk1:=Lib.hid hk1;clear hk1
     go_wp2_with fail
     exact jZ31
    ·rw [if_neg hb] at hle
     subst hle
     rw [if_pos rfl] at hlv
     subst hlv
     obtain⟨Hd,Hdt,Hlen,HF,HE,HV,HY,HM,HD⟩:=hid9 hd hdt hlen hF hE hV hY hM hD;clear hD hM hY hV hE hF hlen hdt hd;have Hl:=Lib.hid hl;clear hl
     go_enter Tryz.func86,Tryz.ntmps86
     go_wp2_with fail
     refine Hdt.out.mono ?_
     rintro e w1 ⟨rfl,hk1⟩
     have Hk1:=Lib.hid hk1;clear hk1
     go_wp2_with fail
     exact bodyPost_ret (v:= .tuple #[.int .i64 (fr-D+cd-1),.int .i64 0]) (by simp [results,Tryz.results86,go_sem]) rfl ⟨rfl,Hk1.out.nt (by(repeat (first|exact Keeps.refl _ _|exact Keeps.alloc _ _|exact Keeps.drew _|exact Keeps.drewN _ _|refine Keeps.Ap ?_|refine Keeps.Al ?_|refine Keeps.Ae ?_)))⟩
  ·have hd:dayIn fr=false:=by simp [dayIn];omega
   have hdd:¬dayIn fr=true:=by rw [hd];decide
   rw [if_neg hdd,if_neg hdd] at hdt
   have he:lastE fr cd=10:=by unfold lastE;rw [if_neg hc,if_pos hin]
   have hv:lastV fr cd=0:=by unfold lastV;rw [if_neg (by rw [he];decide)]
   rw [he,hv]
   clear hin hc
   obtain⟨He,Hv,Hd,Hdd,Hdt⟩:=hid5 he hv hd hdd hdt;clear hdt hdd hd hv he
   go_enter Tryz.func86,Tryz.ntmps86
   go_wp2_with fail
   refine Hdt.out.mono ?_
   rintro e w1 ⟨rfl,hk1⟩
   have Hk1:=Lib.hid hk1;clear hk1
   go_wp2
   exact jZ31
def spc(p:Int×Int):List Value:= [.int .i64 p.1,.int .i64 p.2]
theorem info_tSpan:(Tryz.prog.info? 39).map (fun i=>(i.zero,i.size,i.bytes))=some (some (.agg #[.int .i64 0,.int .i64 0]),2,16):=by kernel_rfl
def findW(cd day:Int):Nat→Int→List (Int×Int)×Bool
 |0,_=>([],false)
 |f+1,fr=>if lastE fr cd=0 then(if lastF fr cd<day∧f≠0 then((fr,lastF fr cd)::(findW cd day f (lastF fr cd+1)).1,(findW cd day f (lastF fr cd+1)).2) else([(fr,lastF fr cd)],decide (fr≤day)&&decide (day≤lastF fr cd))) else([],false)
structure FindAt(S:Nat→Prop)(w0:World)(bl bd bi:Nat)(day:Int)(v:Value)(L:List (Int×Int))(b:Bool)(W:World):Prop where
 l:W.heap[bl]?=some (.cells #[v] 140 (0,0))
 d:W.heap[bd]?=some (.cells #[.int .i64 day] 3 (0,0))
 i:W.heap[bi]?=some (.cells #[.bool b] 4 (0,0))
 row:W.ownsRow 0 39 2 v L.length (L.flatMap spc)
 fr:∀g,v.ownBlock=some g→w0.heap.size≤g
 kp:Keeps S w0 W
theorem FindAt.keep{S:Nat→Prop}{w0 W W':World}{bl bd bi:Nat}{day:Int}{v:Value}{L:List (Int×Int)}{b:Bool}(h:FindAt S w0 bl bd bi day v L b W)(hk:Keeps (fun _=>False) W W'):FindAt S w0 bl bd bi day v L b W':=
 ⟨Ad h.l hk (by simp),Ad h.d hk (by simp),Ad h.i hk (by simp),h.row.of_keeps hk,h.fr,h.kp.trans (hk.mono (by simp))⟩
theorem cycFind1_any(S:Nat→Prop)(w0:World)(bl bd bi:Nat)(day:Int)(v:Value)(L:List (Int×Int))(b:Bool)(n fr te:Int)(W:World)(h:FindAt S w0 bl bd bi day v L b W)(hSl:S bl)(hSi:S bi)(hL:L.length≤1000000):
  Calls Tryz.prog 109 #[.int .i64 n,.agg #[.int .i64 fr,.int .i64 te],(.pointer (some ⟨bl,0,none⟩)),(.pointer (some ⟨bd,0,none⟩)),(.pointer (some ⟨bi,0,none⟩))] W fun e w'=>e= .returned (.bool (decide (te<day)&&decide (n<300)))∧Keeps (fun i=>i=bl∨i=bi∨v.ownBlock=some i) W w'∧∃v',FindAt S w0 bl bd bi day v' (L++ [(fr,te)]) (decide (fr≤day)&&decide (day≤te)) w':=by
 obtain⟨i0,hi,hi0,hi1,hi2⟩:=info_parts info_tSpan
 obtain⟨hl,hd,hib,hrow,hfr,hkp⟩:=h
 have hlv:=Aq hrow hl (by decide)
 have hdv:=Aq hrow hd (by decide)
 have hiv:=Aq hrow hib (by decide)
 have nld:bl≠bd:=fun e=>by subst e;rw [hl] at hd;simp at hd
 have nli:bl≠bi:=fun e=>by subst e;rw [hl] at hib;simp at hib
 have ndi:bd≠bi:=fun e=>by subst e;rw [hd] at hib;simp at hib
 obtain⟨ad,cap,hv,_,_⟩:=Aj hrow
 obtain⟨q,hq⟩:∃q,L.length=q:=⟨_,rfl⟩
 rw [hq] at hrow hv hL
 subst hv
 have cl:=Aa hl 0
 have bll:=lt_of_block hl
 have fl:=Ab hl 0
 obtain⟨r,hr⟩:∃r,(decide (fr≤day)&&decide (day≤te))=r:=⟨_,rfl⟩
 obtain⟨r2,hr2⟩:∃r,(decide (te<day)&&decide (n<300))=r:=⟨_,rfl⟩
 rw [hr,hr2]
 have hW1:∀v' w',Keeps (fun i=>(Value.slice ad q cap).ownBlock=some i) W w'→w'.ownsRow 0 39 2 v' (q+1) ((L++ [(fr,te)]).flatMap spc)→(v'.ownBlock=(Value.slice ad q cap).ownBlock∨∃g,v'.ownBlock=some g∧W.heap.size≤g)→
   Keeps (fun i=>i=bl∨i=bi∨(Value.slice ad q cap).ownBlock=some i) W ((w'.setCell ⟨bl,0,none⟩ v').setCell ⟨bi,0,none⟩ (.bool r))∧FindAt S w0 bl bd bi day v' (L++ [(fr,te)]) r ((w'.setCell ⟨bl,0,none⟩ v').setCell ⟨bi,0,none⟩ (.bool r)):=by
  intro v' w' hk ho hf
  have h1:=Ad hl hk hlv
  have h2:=Ad hd hk hdv
  have h3:=Ad hib hk hiv
  have hs:=hkp.size
  have hks:=hk.size
  have nv:∀g,v'.ownBlock=some g→g≠bl∧g≠bi:=by
   intro g hg
   rcases hf with e|⟨g',e,h'⟩
   ·exact⟨fun e2=>by subst e2;exact hlv (e▸hg),fun e2=>by subst e2;exact hiv (e▸hg)⟩
   ·rw [e] at hg;simp only [Option.some.injEq] at hg;have:=lt_of_block hib;exact⟨by omega,by omega⟩
  have k1:Keeps (fun i=>i=bl) w' (w'.setCell ⟨bl,0,none⟩ v'):=Keeps.setCell _ _ _ rfl
  have k2:Keeps (fun i=>i=bi) (w'.setCell ⟨bl,0,none⟩ v') ((w'.setCell ⟨bl,0,none⟩ v').setCell ⟨bi,0,none⟩ (.bool r)):=Keeps.setCell _ _ _ rfl
  have kk:Keeps (fun i=>i=bl∨i=bi∨(Value.slice ad q cap).ownBlock=some i) W ((w'.setCell ⟨bl,0,none⟩ v').setCell ⟨bi,0,none⟩ (.bool r)):=
   ((hk.mono fun i _ e=> .inr (.inr e)).trans (k1.mono fun i _ e=> .inl (.inl e))).trans (k2.mono fun i _ e=> .inl (.inr (.inl e)))
  refine⟨kk, ?_, ?_, ?_, ?_, ?_, ?_⟩
  ·exact Ad ((heap_setCell_same _ _ 0 _ _ _ h1).trans rfl) k2 (fun e=>nli e)
  ·exact Ad (Ad h2 k1 (fun e=>nld e.symm)) k2 (fun e=>ndi e)
  ·exact(heap_setCell_same _ _ 0 _ _ _ (Ad h3 k1 (fun e=>nli e.symm))).trans rfl
  ·rw [List.length_append,hq]
   exact k2.row (k1.row ho (fun g hg e=>(nv g hg).1 e)) (fun g hg e=>(nv g hg).2 e)
  ·intro g hg
   rcases hf with e|⟨g',e,h'⟩
   ·exact hfr g (by rw [←e];exact hg)
   ·rw [e] at hg;simp only [Option.some.injEq] at hg;omega
  ·exact hkp.trans (kk.mono fun i _ e=>by
    rcases e with rfl|rfl|e
    ·exact .inl hSl
    ·exact .inl hSi
    ·exact .inr (hfr i e))
 obtain⟨Hl,Hd,Hib,Hrow,Hfr,Hkp,Hq,Hi,Hi0⟩:=hid9 hl hd hib hrow hfr hkp hq hi hi0;clear hi0 hi hq hkp hfr hrow hib hd hl;obtain⟨Hi1,Hi2,HW1,Hlv,Hdv,Hiv,Hr,Hr2⟩:=hid8 hi1 hi2 hW1 hlv hdv hiv hr hr2;clear hr2 hr hiv hdv hlv hW1 hi2 hi1
 go_enter Tryz.func109,Tryz.ntmps109
 go_wp2_with (at_builtin;refine Ba rfl (.tmp 8) (.tmp 10) 140 rfl 0 39 i0 _ 2 16 Tryz.underlying140 Hi.out Hi0.out Hi1.out Hi2.out rfl (by decide) _ q _ rfl ((Hrow.out.alloc _).alloc _) _ 1 _ rfl (Reads.litAt _ _ _ 2 1 _ (by first|rfl|simp) rfl) (by simp [Value.oneCell']) (by unfold maxLen;omega) (by omega) (Nat.zero_le _) ?_;intro v4 w4 hown4 hk4 hf4;refine haltD ?_)
 refine Lib.hid ?_
 have hnB:¬(Value.slice ad q cap).ownBlock=some W.heap.size:=fun e=>by have:=Bu Hrow.out e;omega
 have hkW:Keeps (fun i=>(Value.slice ad q cap).ownBlock=some i) W w4:=((Keeps.alloc W (.cells #[.int .i64 fr,.int .i64 te] 39)).trans (Keeps.alloc _ _)).trans (hk4.mono fun i _ e=> .inl e)
 have hb4:=Ad (Au (heap_alloc_new W (.cells #[.int .i64 fr,.int .i64 te] 39)) _) hk4 hnB
 have s0:=Aa hb4 0
 have s1:=Aa hb4 1
 have sl:=lt_of_block hb4
 have l4:=Ad Hl.out hkW Hlv.out
 have d4:=Ad Hd.out hkW Hdv.out
 have i4:=Ad Hib.out hkW Hiv.out
 have lc:=Aa l4 0
 have lf:=Ab l4 0
 have ll:=lt_of_block l4
 have dc:=Aa d4 0
 have dl:=lt_of_block d4
 have ic:=Aa i4 0
 have if0:=Ab i4 0
 have il:=lt_of_block i4
 have hpost:=HW1.out v4 w4 hkW (by rw [List.flatMap_append];exact hown4) (hf4.imp id fun⟨g,h1,h2⟩=>⟨g,h1,by simp at h2;omega⟩)
 have hbS:W.heap.size≠bl:=by omega
 have hbS2:W.heap.size≠bi:=by have:=lt_of_block Hib.out;omega
 obtain⟨ad4,c4,rfl,_,_⟩:=Aj hown4
 obtain⟨Hpost,HkW,Hb4,L4,D4,I4⟩:=hid6 hpost hkW hb4 l4 d4 i4;clear i4 d4 l4 hb4 hkW hpost
 clear hown4 hk4 hf4 hnB
 by_cases b1:fr≤day
 ·by_cases b2:day≤te
  ·have b3:¬te<day:=by omega
   have hr':=Hr.out
   have hr2':=Hr2.out
   simp only [*,decide_true,decide_false,Bool.and_true,Bool.false_and] at hr' hr2'
   subst hr' hr2'
   go_wp2
   go_ret
   exact⟨rfl,Hpost.out.1,_,Hpost.out.2⟩
  ·have b3:te<day:=by omega
   by_cases b4:n<300
   ·skip
    have hr':=Hr.out
    have hr2':=Hr2.out
    simp only [*,decide_true,decide_false,Bool.and_true,Bool.and_false] at hr' hr2'
    subst hr' hr2'
    go_wp2
    go_ret
    exact⟨rfl,Hpost.out.1,_,Hpost.out.2⟩
   ·skip
    have hr':=Hr.out
    have hr2':=Hr2.out
    simp only [*,decide_true,decide_false,Bool.and_false] at hr' hr2'
    subst hr' hr2'
    go_wp2
    go_ret
    exact⟨rfl,Hpost.out.1,_,Hpost.out.2⟩
 ·by_cases b3:te<day
  ·by_cases b4:n<300
   ·skip
    have hr':=Hr.out
    have hr2':=Hr2.out
    simp only [*,decide_true,decide_false,Bool.and_true,Bool.false_and] at hr' hr2'
    subst hr' hr2'
    go_wp2
    go_ret
    exact⟨rfl,Hpost.out.1,_,Hpost.out.2⟩
   ·skip
    have hr':=Hr.out
    have hr2':=Hr2.out
    simp only [*,decide_true,decide_false,Bool.and_false,Bool.false_and] at hr' hr2'
    subst hr' hr2'
    go_wp2
    go_ret
    exact⟨rfl,Hpost.out.1,_,Hpost.out.2⟩
  ·skip
   have hr':=Hr.out
   have hr2':=Hr2.out
   simp only [*,decide_false,Bool.false_and] at hr' hr2'
   subst hr' hr2'
   go_wp2
   go_ret
   exact⟨rfl,Hpost.out.1,_,Hpost.out.2⟩
theorem FindAt.set{S:Nat→Prop}{w0 W:World}{bl bd bi:Nat}{day:Int}{v:Value}{L:List (Int×Int)}{b:Bool}(h:FindAt S w0 bl bd bi day v L b W){B:Nat}(hS:S B)(h1:bl≠B)(h2:bd≠B)(h3:bi≠B)(h4:B<w0.heap.size)(j:Nat)(u:Value):FindAt S w0 bl bd bi day v L b (W.setCell ⟨B,j,none⟩ u):=by
 have k:Keeps (fun i=>i=B) W (W.setCell ⟨B,j,none⟩ u):=Keeps.setCell _ _ _ rfl
 exact⟨Ad h.l k h1,Ad h.d k h2,Ad h.i k h3,k.row h.row (fun g hg e=>by have:=h.fr g hg;omega),h.fr,h.kp.trans (k.mono fun i _ e=> .inl (e▸hS))⟩
def spFr(cd:Int)(clo:Value)(n:Nat)(B:Nat)(u:Nat→Value):Act:={ tmps:= #[u 0,.int .i64 cd,clo,u 3,u 4,u 5,u 6,.int .i64 ((n:Nat):Int),(.pointer (some ⟨B,0,none⟩)),u 9,u 10,u 11,u 12,u 13,u 14,u 15,u 16,u 17,u 18,u 19,u 20,u 21,u 22,u 23,u 24,u 25,u 26,u 27,u 28,u 29,u 30,u 31,u 32,u 33],defers:= [] }
def slotNatS(i:Nat)(a':Act):Nat:=match a'.tmps.getD i undef with| .int _ n=>n.toNat|_=>0
def spW(w:World)(st:Int):World:=w.alloc (.cells #[.int .i64 st,.int .i64 0] 39)
structure SpAt(w:World)(bl bd bi:Nat)(st cd day:Int)(k:Nat)(fr te:Int)(L:List (Int×Int))(v:Value)(W:World):Prop where
 k3:k<300
 box:W.heap[w.heap.size]?=some (.cells #[.int .i64 fr,.int .i64 te] 39 (0,0))
 fa:FindAt (fun i=>i=bl∨i=bi∨i=w.heap.size) (spW w st) bl bd bi day v L false W
 f0: -1000000000000≤fr
 f1:fr≤1000000000000
 len:L.length=k
 eq:findW cd day 300 st=(L++(findW cd day (300-k) fr).1,(findW cd day (300-k) fr).2)
def spJ(w:World)(bl bd bi:Nat)(st cd day:Int)(clo:Value)(a':Act)(W:World):Prop:=∃(k:Nat) (fr te:Int) (L:List (Int×Int)) (v:Value) (u:Nat→Value),a'=spFr cd clo (k+1) w.heap.size u∧SpAt w bl bd bi st cd day k fr te L v W
theorem spJ.mk{w:World}{bl bd bi:Nat}{st cd day:Int}{clo:Value}{a':Act}{W:World}(k:Nat)(fr te:Int)(L:List (Int×Int))(v:Value)(h:a'=spFr cd clo (k+1) w.heap.size (fun i=>a'.tmps.getD i undef))(hs:SpAt w bl bd bi st cd day k fr te L v W):spJ w bl bd bi st cd day clo a' W:=⟨k,fr,te,L,v,_,h,hs⟩
theorem findW_bad{cd day fr:Int}{f:Nat}(h:¬lastE fr cd=0):findW cd day f fr=([],false):=by
 cases f with
 |zero=>rfl
 |succ f=>unfold findW;rw [if_neg h]
theorem findW_stop{cd day fr:Int}{f:Nat}(h:lastE fr cd=0)(h2:¬(lastF fr cd<day∧f≠0)):findW cd day (f+1) fr=([(fr,lastF fr cd)],decide (fr≤day)&&decide (day≤lastF fr cd)):=by
 conv=>lhs;unfold findW
 rw [if_pos h,if_neg h2]
theorem findW_go{cd day fr:Int}{f:Nat}(h:lastE fr cd=0)(h2:lastF fr cd<day∧f≠0):findW cd day (f+1) fr=((fr,lastF fr cd)::(findW cd day f (lastF fr cd+1)).1,(findW cd day f (lastF fr cd+1)).2):=by
 conv=>lhs;unfold findW
 rw [if_pos h,if_pos h2]
theorem lastE_ok{fr cd:Int}(h:lastE fr cd=0):1≤cd∧cd≤28∧ -135140≤fr∧fr≤2932896∧lastF fr cd≤2932896∧fr≤lastF fr cd:=by
 unfold lastE at h
 split at h
 ·cases h
 ·split at h
  ·cases h
  ·split at h
   ·cases h
   ·have:=lastF_ge (fr:=fr) (cd:=cd) (by omega) (by omega) (by omega) (by omega)
    omega
def SpPost(bl bi:Nat)(st cd day:Int)(w:World)(e:Ending)(w':World):Prop:=∃z v,e= .returned (.int .i64 z)∧w'.heap[bl]?=some (.cells #[v] 140 (0,0))∧w'.heap[bi]?=some (.cells #[.bool (findW cd day 300 st).2] 4 (0,0))∧w'.ownsRow 0 39 2 v (findW cd day 300 st).1.length ((findW cd day 300 st).1.flatMap spc)∧(∀g,v.ownBlock=some g→w.heap.size≤g)∧Keeps (fun i=>i=bl∨i=bi) w w'
theorem SpPost.of{w W:World}{bl bd bi:Nat}{st cd day:Int}{L:List (Int×Int)}{v:Value}{b:Bool}(h:FindAt (fun i=>i=bl∨i=bi∨i=w.heap.size) (spW w st) bl bd bi day v L b W)(he:findW cd day 300 st=(L,b))(z:Int):SpPost bl bi st cd day w (.returned (.int .i64 z)) W:=by
 refine⟨z,v,rfl,h.l,by rw [he];exact h.i,by rw [he];exact h.row,fun g hg=>by have:=h.fr g hg;simp [spW] at this;omega,(Keeps.alloc w _).trans (h.kp.mono fun i _ e=> ?_)⟩
 rcases e with e|e|e
 ·exact .inl (.inl e)
 ·exact .inl (.inr e)
 ·exact .inr (by omega)
theorem cycSpans_any(st cd day:Int)(bl bd bi:Nat)(w:World)(hl:w.heap[bl]?=some (.cells #[.slice none 0 0] 140 (0,0)))(hd:w.heap[bd]?=some (.cells #[.int .i64 day] 3 (0,0)))(hi:w.heap[bi]?=some (.cells #[.bool false] 4 (0,0)))(hst: -1000000000000≤st∧st≤1000000000000):
  Calls Tryz.prog 108 #[.int .i64 st,.int .i64 cd,.func (.func 109) #[] #[(.pointer (some ⟨bl,0,none⟩)),(.pointer (some ⟨bd,0,none⟩)),(.pointer (some ⟨bi,0,none⟩))]] w (SpPost bl bi st cd day w):=by
 obtain⟨st0,st1⟩:=hst
 have ll:=lt_of_block hl
 have dl:=lt_of_block hd
 have il:=lt_of_block hi
 have hstart:SpAt w bl bd bi st cd day 0 st 0 [] (.slice none 0 0) (spW w st):=
  ⟨by omega,heap_alloc_new w _,⟨Au hl _,Au hd _,Au hi _,World.ownsRow_nil _ _ _ _,by simp [Value.ownBlock],Keeps.refl _ _⟩,st0,st1,rfl,by simp⟩
 unfold spW at hstart
 obtain⟨Hl,Hd,Hi,Hstart⟩:=hid4 hl hd hi hstart;clear hstart hi hd hl
 go_enter Tryz.func108,Tryz.ntmps108
 go_wp2_with fail
 refine Cs 0 (spJ w bl bd bi st cd day (.func (.func 109) #[] #[(.pointer (some ⟨bl,0,none⟩)),(.pointer (some ⟨bd,0,none⟩)),(.pointer (some ⟨bi,0,none⟩))])) (fun a' _=>400-slotNatS 7 a') rfl ?_ ?_
 ·rintro a' W ⟨k,fr,te,L,v,u,rfl,hs⟩
  unfold spFr
  have hk3:=hs.k3
  have hla:=cycLast_any fr cd W ⟨hs.f0,hs.f1⟩
  obtain⟨F,hF⟩:∃F,lastF fr cd=F:=⟨_,rfl⟩
  obtain⟨f,hf⟩:∃f,300-k=f+1:=⟨300-k-1,by omega⟩
  have hbig:L.length≤1000000:=by rw [hs.len];omega
  have heq:=hs.eq
  have b0:=Aa hs.box 0
  have b1:=Aa hs.box 1
  have bl0:=lt_of_block hs.box
  have hset:=fun(W':World) (hW:Keeps (fun _=>False) W W') (j:Nat) (x:Value)=>(hs.fa.keep hW).set (B:=w.heap.size) (.inr (.inr rfl)) (by omega) (by omega) (by omega) (by simp [spW]) j x
  have hbx:=fun(W':World) (hW:Keeps (fun _=>False) W W')=>Ad hs.box hW (by simp)
  by_cases he:lastE fr cd=0
  ·obtain⟨o1,o2,o3,o4,o5,o6⟩:=lastE_ok he
   have hv:lastV fr cd=F:=by unfold lastV;rw [if_pos he,hF]
   rw [hv,he] at hla
   rw [hF] at o5 o6
   rw [hf] at heq
   by_cases hgo:F<day∧f≠0
   ·rw [findW_go he (by rw [hF];exact hgo),hF] at heq
    have hc1:decide (F<day)=true:=by simp [hgo.1]
    have hc2:decide (((k+1:Nat):Int)<300)=true:=by rw [decide_eq_true_iff];omega
    have hnb:(decide (F<day)&&decide (((k+1:Nat):Int)<300))=true:=by rw [hc1,hc2];rfl
    have hisb:(decide (fr≤day)&&decide (day≤F))=false:=by rw [show decide (day≤F)=false by simp;omega];simp
    have hf0:=hgo.2
    clear hc1 hc2 hgo
    obtain⟨Hs,Hla,HF,Hf,Heq,He,Hset,Hbx,Hnb⟩:=hid9 hs hla hF hf heq he hset hbx hnb;clear hnb hbx hset he heq hf hF hla hs;obtain⟨Hisb,Hv⟩:=hid2 hisb hv;clear hv hisb
    go_wp2_with fail
    refine Hla.out.mono ?_
    rintro e w1 ⟨rfl,hk1⟩
    have hfa:=Hset.out w1 hk1 1 (.int .i64 F)
    have hb:=(heap_setCell_same _ _ 1 _ _ (Value.int .i64 F) (Hbx.out w1 hk1)).trans rfl
    have b0':=Aa (Hbx.out w1 hk1) 0
    have b1':=Aa (Hbx.out w1 hk1) 1
    have bf:=Ab (Hbx.out w1 hk1) 1
    have bll:=lt_of_block (Hbx.out w1 hk1)
    have hcl:=cycFind1_any _ _ bl bd bi day v L false ((k+1:Nat):Int) fr F _ hfa (.inl rfl) (.inr (.inl rfl)) hbig
    rw [Hnb.out,Hisb.out] at hcl
    obtain⟨Hfa,Hb,Hcl,Hk1⟩:=hid4 hfa hb hcl hk1;clear hk1 hcl hb hfa
    go_wp2_with fail
    refine Hcl.out.mono ?_
    rintro e w2 ⟨rfl,hk2,v2,hfa2⟩
    have hne:¬(w.heap.size=bl∨w.heap.size=bi∨v.ownBlock=some w.heap.size):=by
     rintro(e|e|e)
     ·omega
     ·omega
     ·have:=Hs.out.fa.fr _ e;simp [spW] at this;omega
    have hb2:=Ad Hb.out hk2 hne
    have e0:=Aa hb2 0
    have e1:=Aa hb2 1
    have ef:=Ab hb2 0
    have el:=lt_of_block hb2
    have hfa3:=hfa2.set (B:=w.heap.size) (.inr (.inr rfl)) (by omega) (by omega) (by omega) (by simp [spW]) 0 (.int .i64 (F+1))
    have hb3:=(heap_setCell_same _ _ 0 _ _ (Value.int .i64 (F+1)) hb2).trans rfl
    obtain⟨Hfa2,Hb2,Hfa3,Hb3,Hk2⟩:=hid5 hfa2 hb2 hfa3 hb3 hk2;clear hk2 hb3 hfa3 hb2 hfa2
    clear b0' b1' bf bll b0 b1
    go_wp2_with fail
    go_step3
    go_wp2
    refine Az ⟨spJ.mk (k+1) (F+1) F (L++ [(fr,F)]) v2 rfl ⟨by have:=Hf.out;omega,Hb3.out,Hfa3.out,by omega,by omega,by rw [List.length_append,Hs.out.len];rfl, ?_⟩,by simp [slotNatS];omega⟩
    rw [Heq.out,show 300-(k+1)=f by have:=Hf.out;omega,List.append_assoc]
    rfl
   ·rw [findW_stop he (by rw [hF];exact hgo),hF] at heq
    have hnb:(decide (F<day)&&decide (((k+1:Nat):Int)<300))=false:=by
     by_cases h1:F<day
     ·have:f=0:=by
       rcases Nat.eq_zero_or_pos f with h|h
       ·exact h
       ·exact absurd ⟨h1,by omega⟩ hgo
      rw [show decide (((k+1:Nat):Int)<300)=false by rw [decide_eq_false_iff_not];omega];simp
     ·rw [show decide (F<day)=false by simp [h1]];rfl
    obtain⟨r,hr⟩:∃r,(decide (fr≤day)&&decide (day≤F))=r:=⟨_,rfl⟩
    rw [hr] at heq
    clear hgo
    obtain⟨Hs,Hla,HF,Hf,Heq,He,Hset,Hbx,Hnb⟩:=hid9 hs hla hF hf heq he hset hbx hnb;clear hnb hbx hset he heq hf hF hla hs;obtain⟨Hr,Hv⟩:=hid2 hr hv;clear hv hr
    go_wp2_with fail
    refine Hla.out.mono ?_
    rintro e w1 ⟨rfl,hk1⟩
    have hfa:=Hset.out w1 hk1 1 (.int .i64 F)
    have b0':=Aa (Hbx.out w1 hk1) 0
    have b1':=Aa (Hbx.out w1 hk1) 1
    have bf:=Ab (Hbx.out w1 hk1) 1
    have bll:=lt_of_block (Hbx.out w1 hk1)
    have hcl:=cycFind1_any _ _ bl bd bi day v L false ((k+1:Nat):Int) fr F _ hfa (.inl rfl) (.inr (.inl rfl)) hbig
    rw [Hnb.out,Hr.out] at hcl
    obtain⟨Hfa,Hcl,Hk1⟩:=hid3 hfa hcl hk1;clear hk1 hcl hfa
    go_wp2_with fail
    refine Hcl.out.mono ?_
    rintro e w2 ⟨rfl,hk2,v2,hfa2⟩
    have hpost:=SpPost.of (st:=st) (cd:=cd) hfa2 Heq.out 0
    have Hpost:=Lib.hid hpost;clear hpost
    clear hk2 hfa2
    go_wp2
    refine Bl ?_
    go_ret
    exact Hpost.out
  ·have hv:lastV fr cd=0:=by unfold lastV;rw [if_neg he]
   rw [findW_bad he,List.append_nil] at heq
   obtain⟨z,hz⟩:∃z,lastE fr cd=z:=⟨_,rfl⟩
   rw [hv,hz] at hla
   rw [hz] at he
   have hzI:(z !=0)=true:=by simp [he]
   obtain⟨Hs,Hla,HF,Hf,Heq,Hset,Hbx,Hv,Hz⟩:=hid9 hs hla hF hf heq hset hbx hv hz;clear hz hv hbx hset heq hf hF hla hs
   go_wp2_with fail
   refine Hla.out.mono ?_
   rintro e w1 ⟨rfl,hk1⟩
   have hfa:=Hset.out w1 hk1 1 (.int .i64 0)
   have b0':=Aa (Hbx.out w1 hk1) 0
   have b1':=Aa (Hbx.out w1 hk1) 1
   have bf:=Ab (Hbx.out w1 hk1) 1
   have bll:=lt_of_block (Hbx.out w1 hk1)
   have hpost:=SpPost.of (st:=st) (cd:=cd) hfa Heq.out z
   obtain⟨Hpost,Hfa,Hk1⟩:=hid3 hpost hfa hk1;clear hk1 hfa hpost
   go_wp2
   refine Bl ?_
   go_ret
   exact Hpost.out
 ·intro hfirst
  have Hfirst:=Lib.hid hfirst;clear hfirst
  go_wp2
  go_step3
  rename_i hK
  refine hK _ _ ?_
  refine Hfirst.out _ _ ?_
  exact spJ.mk 0 st 0 [] (.slice none 0 0) rfl Hstart.out
def FindPost(st cd day:Int)(w:World)(e:Ending)(w':World):Prop:=∃v,e= .returned (.tuple #[v,.bool (findW cd day 300 st).2])∧w'.ownsRow 0 39 2 v (findW cd day 300 st).1.length ((findW cd day 300 st).1.flatMap spc)∧Fresh w w' v
theorem cycFind_any(st cd day:Int)(w:World)(hst: -1000000000000≤st∧st≤1000000000000):Calls Tryz.prog 87 #[.int .i64 st,.int .i64 cd,.int .i64 day] w (FindPost st cd day w):=by
 have hsp:=cycSpans_any st cd day (w.heap.size+1) w.heap.size (w.heap.size+1+1) (((w.alloc (.cells #[.int .i64 day] 3)).alloc (.cells #[.slice none 0 0] 140)).alloc (.cells #[.bool false] 4)) (Au (Ay _ _ (by simp)) _) (Au (Au (heap_alloc_new w _) _) _) (Ay _ _ (by simp)) hst
 have Hsp:=Lib.hid hsp;clear hsp
 go_enter Tryz.func87,Tryz.ntmps87
 go_wp2_with fail
 refine Hsp.out.mono ?_
 rintro e w1 ⟨z,v,rfl,hl,hi,hrow,hfr,hk⟩
 have hkw:Keeps (fun _=>False) w w1:=(((Keeps.alloc w _).nt (Keeps.alloc _ _)).nt (Keeps.alloc _ _)).trans (hk.mono fun i _ e=> .inr (by rcases e with e|e<;>omega))
 obtain⟨r,hr⟩:∃r,(findW cd day 300 st).2=r:=⟨_,rfl⟩
 rw [hr] at hi
 have hpost:FindPost st cd day w (.returned (.tuple #[v,.bool r])) w1.drew:=⟨v,by rw [hr],hrow.of_keeps (Keeps.drew _),hkw.nt (Keeps.drew _),fun g hg=>by have:=hfr g hg;simp at this;omega⟩
 have c0:=Aa hl 0
 have c1:=Aa hi 0
 have cl:=lt_of_block hl
 have ci:=lt_of_block hi
 obtain⟨ad,cap,rfl,_,_⟩:=Aj hrow
 obtain⟨q,hq⟩:∃q,(findW cd day 300 st).1.length=q:=⟨_,rfl⟩
 rw [hq] at hpost c0
 obtain⟨Hl,Hi,Hrow,Hfr,Hk,Hkw,Hpost,Hr,Hq⟩:=hid9 hl hi hrow hfr hk hkw hpost hr hq;clear hq hr hpost hkw hk hfr hrow hi hl
 go_wp2_with fail
 go_region
 go_wp2
 exact bodyPost_ret (v:= .tuple #[.slice ad q cap,.bool r]) (by simp [results,Tryz.results87,go_sem]) rfl Hpost.out
def ofE(st cd day:Int):Int:=if lastE st cd=0 then(if(findW cd day 300 st).2=true then 0 else 10) else lastE st cd
def ofV(st cd day:Int):Int:=if ofE st cd day=0 then((findW cd day 300 st).1.length:Int) else 0
def allL(st cd day:Int):List (Int×Int):=if(findW cd day 300 st).2=true then(findW cd day 300 st).1 else []
theorem cycOf_any(st cd day:Int)(w:World)(hst: -1000000000000≤st∧st≤1000000000000):Calls Tryz.prog 62 #[.int .i64 st,.int .i64 cd,.int .i64 day] w fun e w'=>e= .returned (.tuple #[.int .i64 (ofV st cd day),.int .i64 (ofE st cd day)])∧Keeps (fun _=>False) w w':=by
 have hla:=cycLast_any st cd w hst
 have hfi:=fun W=>cycFind_any st cd day W hst
 obtain⟨z,hz⟩:∃z,lastE st cd=z:=⟨_,rfl⟩
 obtain⟨x,hx⟩:∃x,lastV st cd=x:=⟨_,rfl⟩
 obtain⟨E,hE⟩:∃z,ofE st cd day=z:=⟨_,rfl⟩
 obtain⟨V,hV⟩:∃z,ofV st cd day=z:=⟨_,rfl⟩
 have hE':=hE
 have hV':=hV
 unfold ofE at hE'
 unfold ofV at hV'
 rw [hz] at hE'
 rw [hE] at hV'
 rw [hz,hx] at hla
 rw [hE,hV]
 unfold FindPost at hfi
 by_cases h0:z=0
 ·subst h0
  rw [if_pos rfl] at hE'
  rcases hb:(findW cd day 300 st).2 with _|_
  ·rw [hb,if_neg (by decide)] at hE'
   subst hE'
   rw [if_neg (by decide)] at hV'
   subst hV'
   rw [hb] at hfi
   obtain⟨Hla,Hfi,Hz,Hx,HE,HV,Hb⟩:=hid7 hla hfi hz hx hE hV hb;clear hb hV hE hx hz hfi hla
   go_enter Tryz.func62,Tryz.ntmps62
   go_wp2_with fail
   refine Hla.out.mono ?_
   rintro e w1 ⟨rfl,hk1⟩
   have Hk1:=Lib.hid hk1;clear hk1
   go_wp2_with fail
   refine(Hfi.out _).mono ?_
   rintro e w2 ⟨v,rfl,hr,hf⟩
   have Hk2:=Lib.hid (Hk1.out.nt hf.1)
   obtain⟨ad,cap,rfl,_,_⟩:=Aj hr
   clear hr hf
   go_wp2
   exact bodyPost_ret (v:= .tuple #[.int .i64 0,.int .i64 10]) (by simp [results,Tryz.results62,go_sem]) rfl ⟨rfl,Hk2.out⟩
  ·rw [hb,if_pos rfl] at hE'
   subst hE'
   rw [if_pos rfl] at hV'
   obtain⟨m,hm⟩:∃m,(findW cd day 300 st).1.length=m:=⟨_,rfl⟩
   rw [hm] at hV' hfi
   subst hV'
   rw [hb] at hfi
   obtain⟨Hla,Hfi,Hz,Hx,HE,HV,Hb,Hm⟩:=hid8 hla hfi hz hx hE hV hb hm;clear hm hb hV hE hx hz hfi hla
   go_enter Tryz.func62,Tryz.ntmps62
   go_wp2_with fail
   refine Hla.out.mono ?_
   rintro e w1 ⟨rfl,hk1⟩
   have Hk1:=Lib.hid hk1;clear hk1
   go_wp2_with fail
   refine(Hfi.out _).mono ?_
   rintro e w2 ⟨v,rfl,hr,hf⟩
   have Hk2:=Lib.hid (Hk1.out.nt hf.1)
   obtain⟨ad,cap,rfl,_,_⟩:=Aj hr
   clear hr hf
   go_wp2
   exact bodyPost_ret (v:= .tuple #[.int .i64 (m:Int),.int .i64 0]) (by simp [results,Tryz.results62,go_sem]) rfl ⟨rfl,Hk2.out⟩
 ·rw [if_neg h0] at hE'
  subst hE'
  rw [if_neg h0] at hV'
  subst hV'
  have hzI:(z !=0)=true:=by simp [h0]
  obtain⟨Hla,Hfi,Hz,Hx,HE,HV⟩:=hid6 hla hfi hz hx hE hV;clear hV hE hx hz hfi hla
  go_enter Tryz.func62,Tryz.ntmps62
  go_wp2_with fail
  refine Hla.out.mono ?_
  rintro e w1 ⟨rfl,hk1⟩
  have Hk1:=Lib.hid hk1;clear hk1
  go_wp2
  exact bodyPost_ret (v:= .tuple #[.int .i64 0,.int .i64 z]) (by simp [results,Tryz.results62,go_sem]) rfl ⟨rfl,Hk1.out⟩
theorem cycAll_any(st cd day:Int)(w:World)(hst: -1000000000000≤st∧st≤1000000000000):Calls Tryz.prog 81 #[.int .i64 st,.int .i64 cd,.int .i64 day] w fun e w'=>∃v,e= .returned v∧w'.ownsRow 0 39 2 v (allL st cd day).length ((allL st cd day).flatMap spc)∧Fresh w w' v:=by
 have hfi:=cycFind_any st cd day w hst
 unfold FindPost at hfi
 obtain⟨A,hA⟩:∃A,allL st cd day=A:=⟨_,rfl⟩
 have hA':=hA
 unfold allL at hA'
 rw [hA]
 rcases hb:(findW cd day 300 st).2 with _|_
 ·rw [hb,if_neg (by decide)] at hA'
  subst hA'
  rw [hb] at hfi
  obtain⟨Hfi,HA,Hb⟩:=hid3 hfi hA hb;clear hb hA hfi
  go_enter Tryz.func81,Tryz.ntmps81
  go_wp2_with fail
  refine Hfi.out.mono ?_
  rintro e w2 ⟨v,rfl,hr,hf⟩
  have Hk2:=Lib.hid hf.1
  obtain⟨ad,cap,rfl,_,_⟩:=Aj hr
  clear hr hf
  go_wp2
  go_ret
  exact⟨_,rfl,World.ownsRow_nil _ _ _ _,Hk2.out,by simp [Value.ownBlock]⟩
 ·rw [hb,if_pos rfl] at hA'
  rw [hA',hb] at hfi
  obtain⟨Hfi,HA,Hb,HA'⟩:=hid4 hfi hA hb hA';clear hA' hb hA hfi
  go_enter Tryz.func81,Tryz.ntmps81
  go_wp2_with fail
  refine Hfi.out.mono ?_
  rintro e w2 ⟨v,rfl,hr,hf⟩
  have Hr2:=Lib.hid hr
  have Hf2:=Lib.hid hf
  obtain⟨ad,cap,rfl,_,_⟩:=Aj hr
  clear hr hf
  go_wp2
  go_ret
  exact⟨_,rfl,Hr2.out,Hf2.out⟩
def lateQ(td:Int)(x:Ev):Bool:=decide (td<x.day)
set_option maxHeartbeats 400000
theorem repRight1_any(td:Int)(B:Nat)(x:Ev)(w:World)(hB:w.cell? ⟨B,0,none⟩=some (.int .i64 td)):Calls Tryz.prog 101 #[x.agg,(.pointer (some ⟨B,0,none⟩))] w fun e w'=>e= .returned (.bool (lateQ td x))∧Keeps (fun _=>False) w w':=by
 obtain⟨ki,da,tr,am,re⟩:=x
 simp only [Ev.agg]
 have hk:=Keeps.alloc (S:=fun _=>False) w (.cells #[.int .i64 ki,.int .i64 da,.int .i64 tr,.int .i64 am,.int .i64 re] 77)
 have hl:=Ag hB
 obtain⟨z,hz⟩:∃z,lateQ td ⟨ki,da,tr,am,re⟩=z:=⟨_,rfl⟩
 rw [hz]
 have hz':decide (td<da)=z:=hz
 obtain⟨Hk,Hz⟩:=hid2 hk hz;clear hz hk
 go_enter Tryz.func101,Tryz.ntmps101
 go_wp2
 go_ret
 exact⟨rfl,Hk.out⟩
set_option maxHeartbeats 800000
theorem indexLate(B:Nat)(q:Ev→Bool)(ad:Option Addr)(cap:Nat)(L:List Ev)(w:World)(hr:Reads w 5 (.slice ad L.length cap) L.length (L.flatMap Ev.cells))(hl:L.length≤1000000)
  (hq:∀W (x:Ev),Keeps (fun _=>False) w W→Calls Tryz.prog 101 #[x.agg,(.pointer (some ⟨B,0,none⟩))] W fun e w'=>e= .returned (.bool (q x))∧Keeps (fun _=>False) W w'):
  Calls Tryz.prog 118 #[.slice ad L.length cap,.func (.func 101) #[] #[(.pointer (some ⟨B,0,none⟩))]] w fun e w'=>e= .returned (.int .i64 (retI (L.findIdx? q)))∧Keeps (fun _=>False) w w':=by
 obtain⟨n,hn⟩:∃n,L.length=n:=⟨_,rfl⟩
 obtain⟨r,hrr⟩:∃r,retI (L.findIdx? q)=r:=⟨_,rfl⟩
 rw [hrr]
 rw [hn] at hr hl⊢
 obtain⟨Hr,Hq,Hrr,Hn⟩:=hid4 hr hq hrr hn;clear hn hrr hq hr
 go_enter Tryz.func118,Tryz.ntmps118
 go_wp2_with fail
 go_loopw [8] (fun c wx=>∃j:Nat,j≤n∧c= .int .i64 (j:Nat)∧(∀i y,i<j→L[i]?=some y→q y=false)∧Keeps (fun _=>False) w wx) (fun c _=>n-(intOf c).toNat)
 case atStart=>exact⟨0,Nat.zero_le _,rfl,fun i y h=>absurd h (Nat.not_lt_zero _),Keeps.refl _ _⟩
 case round=>
  obtain⟨j,hj,rfl,hno,hkx⟩:=hrel
  by_cases hjl:j<n
  ·obtain⟨x,hx⟩:=Av (L:=L) (k:=j) (by rw [Hn.out];exact hjl)
   have hjI:(j:Int)<(n:Int):=by omega
   obtain⟨g,o,c,he,hc⟩:=(Hr.out.keeps hkx (by simp)).elem Ev.Am hx (by decide)
   simp only [Value.slice.injEq,true_and] at he
   obtain⟨rfl,rfl⟩:=he
   have hcall:=Hq.out wr x hkx
   obtain⟨qx,hqx⟩:∃b,q x=b:=⟨_,rfl⟩
   rw [hqx] at hcall
   obtain⟨ki,da,tr,am,re⟩:=x
   have x0:wr.cell? ⟨g,o+j*5,none⟩=some (.int .i64 ki):=hc 0 (by decide)
   have x1:wr.cell? ⟨g,o+j*5+1,none⟩=some (.int .i64 da):=hc 1 (by decide)
   have x2:wr.cell? ⟨g,o+j*5+2,none⟩=some (.int .i64 tr):=hc 2 (by decide)
   have x3:wr.cell? ⟨g,o+j*5+3,none⟩=some (.int .i64 am):=hc 3 (by decide)
   have x4:wr.cell? ⟨g,o+j*5+4,none⟩=some (.int .i64 re):=hc 4 (by decide)
   simp only [Ev.agg] at hcall
   clear hc
   rcases qx with _|_
   ·have hno':∀i y,i<j+1→L[i]?=some y→q y=false:=fun i y hi hy=>by
     exact jZ106
    obtain⟨Hno,Hno',Hx,Hqx,Hkx,Hcall⟩:=hid6 hno hno' hx hqx hkx hcall;clear hcall hkx hqx hx hno' hno
    go_wp2_with (go_at_call 101;((with_reducible refine Hcall.out.mono ?_);rintro e w1 ⟨rfl,hk1⟩;have Hk1:=Lib.hid hk1;clear hk1))
    exact jZ100
   ·have hf:=find_snoc hx hno hqx
    obtain⟨Hno,Hx,Hqx,Hkx,Hcall,Hf⟩:=hid6 hno hx hqx hkx hcall hf;clear hf hcall hkx hqx hx hno
    go_wp2_with (go_at_call 101;((with_reducible refine Hcall.out.mono ?_);rintro e w1 ⟨rfl,hk1⟩;have Hk1:=Lib.hid hk1;clear hk1))
    go_ret
    exact⟨by rw [←Hrr.out,Hf.out];rfl,Keeps.nt Hkx.out Hk1.out⟩
  ·exact jZ56
theorem find_any{q:Ev→Bool}{L:List Ev}:decide ((0:Int)≤retI (L.findIdx? q))=L.any q:=by
 rcases h:L.findIdx? q with _|k
 ·have h1:=List.findIdx?_eq_none_iff.1 h
  have h2:L.any q=false:=by
   rw [Bool.eq_false_iff]
   intro hh
   obtain⟨x,hx,h3⟩:=List.any_eq_true.1 hh
   have:=h1 x hx
   rw [this] at h3;cases h3
  rw [h2];rfl
 ·obtain⟨h1,h2,_⟩:=List.findIdx?_eq_some_iff_getElem.1 h
  rw [List.any_eq_true.2 ⟨_,List.getElem_mem h1,h2⟩]
  simp [retI]
set_option maxHeartbeats 400000
theorem containsLate_any(td:Int)(B:Nat)(ad:Option Addr)(cap n:Nat)(L:List Ev)(w:World)(hB:w.cell? ⟨B,0,none⟩=some (.int .i64 td))(hr:Reads w 5 (.slice ad n cap) n (L.flatMap Ev.cells))(hN:L.length=n)(hl:n≤1000000):
  Calls Tryz.prog 100 #[.slice ad n cap,.func (.func 101) #[] #[(.pointer (some ⟨B,0,none⟩))]] w fun e w'=>e= .returned (.bool (L.any (lateQ td)))∧Keeps (fun _=>False) w w':=by
 subst hN
 have hi:=indexLate B (lateQ td) ad cap L w hr hl (fun W x hW=>repRight1_any td B x W ((hW.cell (Ag hB) (by simp)).trans hB))
 have hf:=find_any (q:=lateQ td) (L:=L)
 obtain⟨r,hrr⟩:∃r,retI (L.findIdx? (lateQ td))=r:=⟨_,rfl⟩
 obtain⟨z,hz⟩:∃z,L.any (lateQ td)=z:=⟨_,rfl⟩
 rw [hrr] at hi hf
 rw [hz] at hf⊢
 obtain⟨Hr,Hi,Hrr,Hz⟩:=hid4 hr hi hrr hz;clear hz hrr hi hr
 go_enter Tryz.func100,Tryz.ntmps100
 go_wp2_with fail
 refine Hi.out.mono ?_
 rintro e w1 ⟨rfl,hk1⟩
 have Hk1:=Lib.hid hk1;clear hk1
 go_wp2
 go_ret
 exact⟨rfl,Hk1.out⟩
def repErr(t:Tm)(L:List Ev)(td:Int):Int:=if t.err=0 then(if evsErr t L=0 then(if 2000<L.length then 14 else if td<t.start∨2932896<td then 10 else if¬ofE t.start t.cyc td=0 then 10 else if L.any (lateQ td)=true then 10 else 0) else evsErr t L) else 6
def tdS(b:Nat)(t:Tm)(v:Value)(td:Int)(W:World):Prop:=tbS b t v W∧W.cell? ⟨b+1,0,none⟩=some (.int .i64 td)
set_option maxHeartbeats 3200000
theorem repRight_any(t:Tm)(adt:Option Addr)(ct nt:Nat)(L:List Ev)(ad:Option Addr)(cap n:Nat)(td:Int)(w:World)(hnt:t.trs.length=nt)(htr:Reads w 2 (.slice adt nt ct) nt (t.trs.flatMap Tn.cells))(hn:L.length=n)(hr:Reads w 5 (.slice ad n cap) n (L.flatMap Ev.cells))(hl:n≤1000000)(htl:nt≤1000000):
  Calls Tryz.prog 80 #[.agg #[.int .i64 t.limit,.slice adt nt ct,.int .i64 t.cyc,.int .i64 t.due,.int .i64 t.minFixed,.int .i64 t.minPart,.int .i64 t.start],.slice ad n cap,.int .i64 td] w fun e w'=>e= .returned (.int .i64 (repErr t L td))∧Keeps (fun _=>False) w w':=by
 have htm:=fun W (hW:Keeps (fun _=>False) w W)=>tmRight_any t adt ct W (by rw [hnt];exact htr.keeps hW (by simp)) (by omega)
 have hev:=fun x W (hW:Keeps (fun _=>False) w W)=>evRight_any t x adt ct W (by rw [hnt];exact htr.keeps hW (by simp)) (by omega)
 have htb:∀W,Keeps (fun _=>False) ((w.alloc (.cells #[.int .i64 t.limit,.slice adt nt ct,.int .i64 t.cyc,.int .i64 t.due,.int .i64 t.minFixed,.int .i64 t.minPart,.int .i64 t.start] 29)).alloc (.cells #[.int .i64 td] 3)) W→tdS w.heap.size t (.slice adt nt ct) td W:=fun W hW=>⟨tbS.of (Ad (Au (heap_alloc_new w _) _) hW (by simp)),Aa (Ad (Ay _ _ (by simp)) hW (by simp)) 0⟩
 have hlate:=fun(W:World) (hB:W.cell? ⟨w.heap.size+1,0,none⟩=some (.int .i64 td)) (hW:Keeps (fun _=>False) w W)=>containsLate_any td (w.heap.size+1) ad cap n L W hB (hr.keeps hW (by simp)) hn hl
 obtain⟨z,hz⟩:∃z,repErr t L td=z:=⟨_,rfl⟩
 have hz':=hz
 unfold repErr at hz'
 obtain⟨y,hy⟩:∃y,t.err=y:=⟨_,rfl⟩
 rw [hz]
 rw [hnt] at htm hev
 rw [hy] at htm hz'
 rw [hn] at hz'
 simp only [Tm.val] at htm hev⊢
 by_cases hy0:y=0
 ·subst hy0
  rw [if_pos rfl] at hz'
  have hnum:=tm_nums hy
  obtain⟨_,_,_,_,_,_,⟨st0,st1⟩⟩:=hnum
  have hof:=fun W=>cycOf_any t.start t.cyc td W (by omega)
  obtain⟨Htm,Hev,Htb,Htr,Hr,Hz,Hz',Hy,Hnt⟩:=hid9 htm hev htb htr hr hz hz' hy hnt;clear hnt hy hz' hz hr htr htb hev htm;obtain⟨Hn,Hlate,Hof⟩:=hid3 hn hlate hof;clear hof hlate hn
  go_enter Tryz.func80,Tryz.ntmps80
  go_wp2_with fail
  refine(Htm.out _ ((Keeps.alloc _ _).Ae)).mono ?_
  rintro e w1 ⟨rfl,hk1⟩
  have Hk1:=Lib.hid hk1;clear hk1
  obtain⟨tb,d0⟩:=Htb.out _ Hk1.out
  obtain⟨b0,b1,b2,b3,b4,b5,b6⟩:=tb
  have bbl:=Ag b0
  have dl:=Ag d0
  go_wp2
  go_loopw [20] (fun x wx=>∃i:Nat,x= .int .i64 (i:Nat)∧i≤n∧(∀j y,j<i→L[j]?=some y→evErr t y=0)∧Keeps (fun _=>False) w1 wx) (fun x _=>n-(intOf x).toNat)
  case atStart=>exact⟨0,rfl,Nat.zero_le _,fun j y h=>absurd h (Nat.not_lt_zero _),Keeps.refl _ _⟩
  case round=>
   obtain⟨i,rfl,hin,hall,hk⟩:=hrel
   obtain⟨wq,hwq⟩:∃x,x=wr:=⟨_,rfl⟩
   subst hwq
   have hkw:=((Keeps.alloc (S:=fun _=>False) w (.cells #[.int .i64 t.limit,.slice adt nt ct,.int .i64 t.cyc,.int .i64 t.due,.int .i64 t.minFixed,.int .i64 t.minPart,.int .i64 t.start] 29)).Ae (o:= .cells #[.int .i64 td] 3)).nt (Hk1.out.nt hk)
   clear b0 b1 b2 b3 b4 b5 b6 bbl d0 dl
   obtain⟨tb,d0⟩:=Htb.out _ (Hk1.out.nt hk)
   obtain⟨b0,b1,b2,b3,b4,b5,b6⟩:=tb
   have bbl:=Ag b0
   have dl:=Ag d0
   by_cases hlt:i<n
   ·have hltI:(i:Int)<(n:Int):=by omega
    obtain⟨x,hx⟩:=Av (L:=L) (k:=i) (by rw [Hn.out];exact hlt)
    obtain⟨g,o,c',he,hc⟩:=(Hr.out.keeps hkw (by simp)).elem Ev.Am hx (by decide)
    simp only [Value.slice.injEq,true_and] at he
    obtain⟨rfl,rfl⟩:=he
    obtain⟨q,hq⟩:∃q,evErr t x=q:=⟨_,rfl⟩
    have hcall:=Hev.out x
    rw [hq] at hcall
    obtain⟨xk,xd,xt,xa,xf⟩:=x
    simp only [Ev.agg] at hcall
    have x0:wq.cell? ⟨g,o+i*5,none⟩=some (.int .i64 xk):=hc 0 (by decide)
    have x1:wq.cell? ⟨g,o+i*5+1,none⟩=some (.int .i64 xd):=hc 1 (by decide)
    have x2:wq.cell? ⟨g,o+i*5+2,none⟩=some (.int .i64 xt):=hc 2 (by decide)
    have x3:wq.cell? ⟨g,o+i*5+3,none⟩=some (.int .i64 xa):=hc 3 (by decide)
    have x4:wq.cell? ⟨g,o+i*5+4,none⟩=some (.int .i64 xf):=hc 4 (by decide)
    have hgl:=Ag x0
    clear hc
    by_cases hq0:q=0
    ·subst hq0
     have hall2:∀j y,j<i+1→L[j]?=some y→evErr t y=0:=fun j y hj hy=>by
      rcases Nat.lt_or_ge j i with h|h
      ·exact hall j y h hy
      ·obtain rfl:j=i:=by omega
       rw [hx] at hy;cases hy;exact hq
     obtain⟨Hall,Hall2,Hk,Hkw,Hx,Hq,Hcall⟩:=hid7 hall hall2 hk hkw hx hq hcall;clear hcall hq hx hkw hk hall2 hall
     go_wp2_with fail
     refine(Hcall.out _ (Hkw.out.nt (Keeps.alloc _ _))).mono ?_
     rintro e w2 ⟨rfl,hk2⟩
     have Hk2:=Lib.hid (Hk.out.nt ((Keeps.alloc _ _).nt hk2));clear hk2
     go_wp2
     go_roundw
     case rel=>exact⟨i+1,by go_num,by omega,Hall2.out,Hk2.out⟩
     case measure=>simp [intOf];omega
    ·have he:=evsErr_at hall hx (by rw [hq];exact hq0)
     have hqI:(q !=0)=true:=by simp [hq0]
     rw [hq] at he
     obtain⟨Hall,Hk,Hkw,Hx,Hq,Hcall,He⟩:=hid7 hall hk hkw hx hq hcall he;clear he hcall hq hx hkw hk hall
     go_wp2_with fail
     refine(Hcall.out _ (Hkw.out.nt (Keeps.alloc _ _))).mono ?_
     rintro e w2 ⟨rfl,hk2⟩
     have Hk2:=Lib.hid (Hkw.out.nt ((Keeps.alloc _ _).nt hk2));clear hk2
     go_wp2
     go_ret
     exact⟨by have h:=Hz'.out;rw [He.out,if_neg hq0] at h;subst h;rfl,Hk2.out⟩
   ·obtain rfl:n=i:=by omega
    have he:=evsErr_all (t:=t) (L:=L) fun x hx=>by
     obtain⟨j,hj⟩:=List.getElem?_of_mem hx
     exact hall j x (by rw [←Hn.out];exact Ck hj) hj
    have h:=Hz'.out
    rw [he,if_pos rfl] at h
    by_cases h1:2000<n
    ·have h1I:decide ((2000:Int)<(n:Int))=true:=by rw [decide_eq_true_iff];omega
     rw [if_pos h1] at h
     exact jZ64
    have h1I:decide ((2000:Int)<(n:Int))=false:=by rw [decide_eq_false_iff_not];omega
    rw [if_neg h1] at h
    by_cases h2:td<t.start
    ·have h2I:decide (td<t.start)=true:=by simp [h2]
     rw [if_pos (.inl h2)] at h
     exact jZ64
    have h2I:decide (td<t.start)=false:=by simp [h2]
    by_cases h3:2932896<td
    ·have h3I:decide (2932896<td)=true:=by simp [h3]
     rw [if_pos (.inr h3)] at h
     exact jZ64
    have h3I:decide (2932896<td)=false:=by simp [h3]
    rw [if_neg (by omega)] at h
    obtain⟨oE,hoE⟩:∃oE,ofE t.start t.cyc td=oE:=⟨_,rfl⟩
    obtain⟨oV,hoV⟩:∃oV,ofV t.start t.cyc td=oV:=⟨_,rfl⟩
    have hof2:=Hof.out
    rw [hoE,hoV] at hof2
    rw [hoE] at h
    by_cases h4:oE=0
    ·subst h4
     rw [if_neg (by simp)] at h
     rcases h5:L.any (lateQ td) with _|_
     ·rw [h5,if_neg (by decide)] at h
      exact jZ27
     ·rw [h5,if_pos rfl] at h
      exact jZ27
    ·have h4I:(oE !=0)=true:=by simp [h4]
     rw [if_pos h4] at h
     subst h
     obtain⟨Hall,Hk,Hkw,He,HoE,HoV,Hof2⟩:=hid7 hall hk hkw he hoE hoV hof2;clear hof2 hoV hoE he hkw hk hall
     go_wp2_with fail
     refine(Hof2.out _).mono ?_
     rintro e w3 ⟨rfl,hk3⟩
     have Hk3:=Lib.hid (Hkw.out.nt hk3);clear hk3
     go_wp2
     go_ret
     exact⟨rfl,Hk3.out⟩
 ·rw [if_neg hy0] at hz'
  have hy6:=Tm.err_or t
  rw [hy] at hy6
  obtain rfl:y=6:=hy6.resolve_left hy0
  subst hz'
  obtain⟨Htm,Hev,Htb,Htr,Hr,Hz,Hy,Hnt,Hn⟩:=hid9 htm hev htb htr hr hz hy hnt hn;clear hn hnt hy hz hr htr htb hev htm;have Hlate:=Lib.hid hlate;clear hlate
  go_enter Tryz.func80,Tryz.ntmps80
  go_wp2_with fail
  refine(Htm.out _ ((Keeps.alloc _ _).Ae)).mono ?_
  rintro e w1 ⟨rfl,hk1⟩
  have Hk1:=Lib.hid (((Keeps.alloc (S:=fun _=>False) w _).Ae).nt hk1);clear hk1
  go_wp2
  go_ret
  exact⟨rfl,Hk1.out⟩
structure KeptSt(q:Ev→Bool)(L X:List Ev)(n i j:Nat):Prop where
 len:X.length=n
 lt:i<j
 le:j≤n
 pre:X.take i=(L.take j).filter (fun x=> !q x)
 suf:X.drop j=L.drop j
theorem KeptSt.start{q:Ev→Bool}{L:List Ev}{n k:Nat}(hn:L.length=n)(h:L.findIdx? q=some k):KeptSt q L L n k (k+1):=by
 rw [List.findIdx?_eq_some_iff_getElem] at h
 obtain⟨hk,hq,hno⟩:=h
 refine⟨hn,Nat.lt_succ_self _,by omega, ?_,rfl⟩
 have hall:(L.take k).filter (fun x=> !q x)=L.take k:=by
  rw [List.filter_eq_self]
  intro x hx
  obtain⟨i,hi,he⟩:=List.mem_iff_getElem.1 hx
  have hi':i<k:=by simp at hi;omega
  have:=hno i hi'
  rw [List.getElem_take] at he
  rw [he] at this
  simpa using this
 rw [take_snoc' (List.getElem?_eq_getElem hk),List.filter_append,hall]
 simp [hq]
theorem KeptSt.at{q:Ev→Bool}{L X:List Ev}{n i j:Nat}(h:KeptSt q L X n i j){x:Ev}(hx:X[j]?=some x):L[j]?=some x:=by
 have e:=congrArg (fun l:List Ev=>l[0]?) h.suf
 simpa [hx] using e.symm
theorem KeptSt.keep{q:Ev→Bool}{L X:List Ev}{n i j:Nat}(h:KeptSt q L X n i j){x:Ev}(hx:X[j]?=some x)(hq:q x=false):KeptSt q L (X.set i x) n (i+1) (j+1):=by
 have hj:=Ck hx
 have hl:=h.len
 have hlt:=h.lt
 refine⟨by rw [List.length_set];exact hl,by omega,by omega, ?_, ?_⟩
 ·rw [take_snoc' (h.at hx),List.filter_append,←h.pre]
  have e:(X.set i x)[i]?=some x:=by rw [List.getElem?_set_self (by omega)]
  rw [take_snoc' e,List.take_set_of_le (Nat.le_refl _)]
  simp [hq]
 ·rw [List.drop_set,if_pos (by omega),←List.drop_drop,h.suf,List.drop_drop]
theorem KeptSt.skip{q:Ev→Bool}{L X:List Ev}{n i j:Nat}(h:KeptSt q L X n i j){x:Ev}(hx:X[j]?=some x)(hq:q x=true):KeptSt q L X n i (j+1):=by
 have hj:=Ck hx
 have hl:=h.len
 have hlt:=h.lt
 refine⟨hl,by omega,by omega, ?_, ?_⟩
 ·rw [take_snoc' (h.at hx),List.filter_append,←h.pre]
  simp [hq]
 ·rw [←List.drop_drop,h.suf,List.drop_drop]
theorem KeptSt.done{q:Ev→Bool}{L X:List Ev}{n i:Nat}(hn:L.length=n)(h:KeptSt q L X n i n):X.take i=L.filter (fun x=> !q x):=by
 rw [h.pre,List.take_of_length_le (by omega)]
theorem KeptSt.cnt{q:Ev→Bool}{L X:List Ev}{n i j:Nat}(h:KeptSt q L X n i j):i≤n:=by have:=h.lt;have:=h.le;omega
theorem setCells_row(g:Nat)(e:TypeId):∀(vs:List Value) (o:Nat) (w:World) (cur:Array Value),w.heap[g]?=some (.cells cur e (0,0))→∃cur':Array Value,(w.setCells g o vs).heap[g]?=some (.cells cur' e (0,0))∧cur'.size=cur.size∧∀j,j<o→cur'[j]?=cur[j]?
 | [],_,_,cur,h=>⟨cur,h,rfl,fun _ _=>rfl⟩
 |v::r,o,w,cur,h=>by
  obtain⟨cur',h1,h2,h3⟩:=setCells_row g e r (o+1) (w.setCell ⟨g,o,none⟩ v) _ (heap_setCell_same _ _ o _ _ v h)
  refine⟨cur',h1,by rw [h2];simp,fun j hj=> ?_⟩
  rw [h3 j (by omega),Array.getElem?_setIfInBounds_ne (by omega)]
theorem cleared_owns{w:World}{g n cap i:Nat}{X:List Ev}(h:w.ownsRow 0 77 5 (.slice (some ⟨g,0,none⟩) n cap) n (X.flatMap Ev.cells))(_:X.length=n)(hi:i≤n)(vs:List Value):(w.setCells g (i*5) vs).ownsRow 0 77 5 (.slice (some ⟨g,0,none⟩) i cap) i ((X.take i).flatMap Ev.cells):=by
 rcases h.2 with⟨h0,_⟩|⟨g1,cap1,cur,h0,_,hh,h1,h2,h3,h4⟩
 ·simp at h0
 simp only [Value.slice.injEq,Option.some.injEq,Addr.mk.injEq,and_true,true_and] at h0
 obtain⟨rfl,rfl⟩:=h0
 obtain⟨cur',c1,c2,c3⟩:=setCells_row g 77 vs (i*5) w cur hh
 have hlx:=h.1
 refine⟨?_,.inr ⟨g,cap,cur',rfl,Nat.zero_le _,c1,by omega,h2,by rw [c2,h3], ?_⟩⟩
 ·rw [←flat_takek Ev.Am,List.length_take,hlx];omega
 ·rw [←flat_takek Ev.Am,←h4,List.take_take]
  rw [show min (i*5) (n*5)=i*5 by omega]
  apply List.ext_getElem?
  intro j
  by_cases hj:j<i*5
  ·rw [List.getElem?_take,if_pos hj,List.getElem?_take,if_pos hj,Array.getElem?_toList,Array.getElem?_toList];exact c3 j hj
  ·rw [List.getElem?_take,if_neg hj,List.getElem?_take,if_neg hj]
theorem keeps_storeEv(w:World)(g o0 o1 o2 o3 o4:Nat)(a b c d e:Value):Keeps (fun i=>g=i) w (((((w.setCell ⟨g,o0,none⟩ a).setCell ⟨g,o1,none⟩ b).setCell ⟨g,o2,none⟩ c).setCell ⟨g,o3,none⟩ d).setCell ⟨g,o4,none⟩ e):=
 ((((Keeps.setCell (S:=fun i=>g=i) w _ _ rfl).trans (Keeps.setCell _ _ _ (.inl rfl))).trans (Keeps.setCell _ _ _ (.inl rfl))).trans (Keeps.setCell _ _ _ (.inl rfl))).trans (Keeps.setCell _ _ _ (.inl rfl))
theorem Keeps.same{S:Nat→Prop}{a b c:World}(h:Keeps S a b)(h':Keeps S b c):Keeps S a c:=h.trans (h'.mono fun _ _ e=> .inl e)
def RowE(w:World)(g n cap:Nat)(X:List Ev):Prop:=w.ownsRow 0 77 5 (.slice (some ⟨g,0,none⟩) n cap) n (X.flatMap Ev.cells)∧X.length=n
theorem RowE.keep{w w':World}{g n cap:Nat}{X:List Ev}(h:RowE w g n cap X)(hk:Keeps (fun _=>False) w w'):RowE w' g n cap X:=⟨hk.row h.1 (by simp),h.2⟩
theorem RowE.lt{w:World}{g n cap:Nat}{X:List Ev}(h:RowE w g n cap X):g<w.heap.size:=Bu h.1 rfl
theorem RowE.cells{w:World}{g n cap:Nat}{X:List Ev}(h:RowE w g n cap X){k:Nat}{x:Ev}(hx:X[k]?=some x):
  w.cell? ⟨g,k*5,none⟩=some (.int .i64 x.kind)∧w.cell? ⟨g,k*5+1,none⟩=some (.int .i64 x.day)∧w.cell? ⟨g,k*5+2,none⟩=some (.int .i64 x.tranche)∧w.cell? ⟨g,k*5+3,none⟩=some (.int .i64 x.amount)∧w.cell? ⟨g,k*5+4,none⟩=some (.int .i64 x.ref):=by
 obtain⟨h,rfl⟩:=h
 exact⟨Bi Ev.Am h hx 0 (by decide),Bi Ev.Am h hx 1 (by decide),Bi Ev.Am h hx 2 (by decide),Bi Ev.Am h hx 3 (by decide),Bi Ev.Am h hx 4 (by decide)⟩
theorem RowE.free{w:World}{g n cap:Nat}{X:List Ev}(h:RowE w g n cap X)(o:Nat):w.frozen? ⟨g,o,none⟩=false:=by
 rcases h.1.2 with⟨h0,_⟩|⟨g1,cap1,cur,h0,_,hh,_⟩
 ·simp at h0
 ·exact jZ98
def putE(w:World)(g k:Nat)(a b c d e:Int):World:=((((w.setCell ⟨g,k*5,none⟩ (.int .i64 a)).setCell ⟨g,k*5+1,none⟩ (.int .i64 b)).setCell ⟨g,k*5+2,none⟩ (.int .i64 c)).setCell ⟨g,k*5+3,none⟩ (.int .i64 d)).setCell ⟨g,k*5+4,none⟩ (.int .i64 e)
theorem RowE.put{w:World}{g n cap:Nat}{X:List Ev}(h:RowE w g n cap X){k:Nat}(hk:k<n)(a b c d e:Int):RowE (putE w g k a b c d e) g n cap (X.set k ⟨a,b,c,d,e⟩):=
 ⟨owns_storeEv h.1 h.2 hk a b c d e,by simp [h.2]⟩
theorem Da(w:World)(g k:Nat)(a b c d e:Int):Keeps (fun i=>i=g) w (putE w g k a b c d e):=(keeps_storeEv w g _ _ _ _ _ _ _ _ _ _).mono fun _ _ h=>h.symm
theorem RowE.swp{w:World}{g n cap:Nat}{X:List Ev}(h:RowE w g n cap X){i j:Nat}{a b c d e a' b' c' d' e':Int}(hi:X[i]?=some ⟨a,b,c,d,e⟩)(hj:X[j]?=some ⟨a',b',c',d',e'⟩):
  RowE (putE (putE w g i a' b' c' d' e') g j a b c d e) g n cap (swp X i j):=by
 rw [swp_of hi hj]
 have:=Ck hi
 have:=Ck hj
 have:=h.2
 exact(h.put (by omega) _ _ _ _ _).put (by omega) _ _ _ _ _
structure Sw(L X:List Ev)(a b i:Nat):Prop where
 len:X.length=L.length
 at':∀t,X[t]?=if a≤t∧t<a+i then L[t+(b-a)]? else if b≤t∧t<b+i then L[t-(b-a)]? else L[t]?
theorem Sw.start(L:List Ev)(a b:Nat):Sw L L a b 0:=⟨rfl,fun t=>by rw [if_neg (by omega),if_neg (by omega)]⟩
theorem Sw.next{L X:List Ev}{a b i:Nat}(h:Sw L X a b i)(hab:a+i<b)(hb:b+i<L.length):Sw L (swp X (a+i) (b+i)) a b (i+1):=by
 refine⟨by rw [swp_length];exact h.len,fun t=> ?_⟩
 have hl:=h.len
 rw [swp_get (by omega) (by omega),h.at',h.at',h.at']
 exact jZ75
theorem Sw.done{P U M V S:List Ev}{X:List Ev}{n:Nat}(hU:U.length=n)(hV:V.length=n)(h:Sw (P++U++M++V++S) X P.length (P.length+n+M.length) n):X=P++V++M++U++S:=by
 refine List.ext_getElem? fun t=> ?_
 rw [h.at']
 simp only [List.getElem?_append,List.length_append,hU,hV]
 exact jZ75
theorem swapEv_go(g n cap a b m:Nat)(L:List Ev)(fv:Value)(w:World)(h:RowE w g n cap L)(hab:a+m≤b)(hb:b+m≤n)(hn:n≤1000000):
  Calls Tryz.prog 169 #[.slice (some ⟨g,0,none⟩) n cap,.int .i64 a,.int .i64 b,.int .i64 m,fv] w fun e w'=>e= .returned (.tuple #[])∧∃X,Sw L X a b m∧RowE w' g n cap X∧Keeps (fun i=>i=g) w w':=by
 have H:=Lib.hid h;clear h
 go_enter Tryz.func169,Tryz.ntmps169
 go_wp2
 go_loopw [10] (fun x wx=>∃(i:Nat) (X:List Ev),x= .int .i64 (i:Nat)∧i≤m∧Sw L X a b i∧RowE wx g n cap X∧Keeps (fun i=>i=g) w wx) (fun x _=>m-(intOf x).toNat)
 case atStart=>exact⟨0,L,rfl,Nat.zero_le _,Sw.start _ _ _,H.out,Keeps.refl _ _⟩
 case round=>
  obtain⟨i,X,rfl,him,hsw,hrow,hk⟩:=hrel
  by_cases hlt:i<m
  ·have hltI:(i:Int)<(m:Int):=by omega
   have hXn:=hrow.2
   have hLn:=H.out.2
   obtain⟨⟨x0,x1,x2,x3,x4⟩,hx⟩:=Av (L:=X) (k:=a+i) (by omega)
   obtain⟨⟨y0,y1,y2,y3,y4⟩,hy⟩:=Av (L:=X) (k:=b+i) (by omega)
   obtain⟨c0,c1,c2,c3,c4⟩:=hrow.cells hx
   obtain⟨d0,d1,d2,d3,d4⟩:=hrow.cells hy
   have hnext:=hsw.next (by omega) (by omega)
   have hrow':=(hrow.swp hx hy).keep (Keeps.drew _)
   have hk2:=hk.same (((Da wr g (a+i) y0 y1 y2 y3 y4).same (Da _ g (b+i) x0 x1 x2 x3 x4)).same (Keeps.drew _))
   have fa0:wr.frozen? ⟨g,(a+i)*5,none⟩=false:=hrow.free _
   have fa1:wr.frozen? ⟨g,(a+i)*5+1,none⟩=false:=hrow.free _
   have fa2:wr.frozen? ⟨g,(a+i)*5+2,none⟩=false:=hrow.free _
   have fa3:wr.frozen? ⟨g,(a+i)*5+3,none⟩=false:=hrow.free _
   have fa4:wr.frozen? ⟨g,(a+i)*5+4,none⟩=false:=hrow.free _
   have fb0:wr.frozen? ⟨g,(b+i)*5,none⟩=false:=hrow.free _
   have fb1:wr.frozen? ⟨g,(b+i)*5+1,none⟩=false:=hrow.free _
   have fb2:wr.frozen? ⟨g,(b+i)*5+2,none⟩=false:=hrow.free _
   have fb3:wr.frozen? ⟨g,(b+i)*5+3,none⟩=false:=hrow.free _
   have fb4:wr.frozen? ⟨g,(b+i)*5+4,none⟩=false:=hrow.free _
   have hp0:(0:Int)≤(a:Int)+i:=by omega
   have hp1:(a:Int)+i<n:=by omega
   have hq0:(0:Int)≤(b:Int)+i:=by omega
   have hq1:(b:Int)+i<n:=by omega
   have e1:((a:Int)+i).toNat=a+i:=by omega
   have e2:((b:Int)+i).toNat=b+i:=by omega
   unfold putE at hrow' hk2
   obtain⟨Hsw,Hrow,Hx,Hy,Hnext,Hrow',Hk,Hk2⟩:=hid8 hsw hrow hx hy hnext hrow' hk hk2;clear hk2 hk hrow' hnext hy hx hrow hsw
   go_wp2_with fail
   go_region
   all_goals go_wp2_with fail
   all_goals go_roundw
   case rel=>exact⟨i+1,_,by go_num,by omega,Hnext.out,Hrow'.out,Hk2.out⟩
   case measure=>simp [intOf];omega
  ·go_wp2
   go_end0
   obtain rfl:i=m:=by omega
   exact⟨rfl,X,hsw,hrow,hk⟩
theorem swapEv_any(P U M V S:List Ev)(g n cap:Nat)(fv:Value)(x y z:Int)(w:World)(h:RowE w g n cap (P++U++M++V++S))(hUV:V.length=U.length)(hn:n≤1000000)(hx:x=P.length)(hy:y=((P.length+U.length+M.length:Nat):Int))(hz:z=U.length):
  Calls Tryz.prog 169 #[.slice (some ⟨g,0,none⟩) n cap,.int .i64 x,.int .i64 y,.int .i64 z,fv] w fun e w'=>e= .returned (.tuple #[])∧RowE w' g n cap (P++V++M++U++S)∧Keeps (fun i=>i=g) w w':=by
 have hl:=h.2
 simp only [List.length_append,hUV] at hl
 subst hx hy hz
 refine(swapEv_go g n cap _ _ _ _ fv w h (by omega) (by omega) hn).mono ?_
 rintro e w' ⟨he,X,hX,hr,hk⟩
 rw [Sw.done rfl hUV hX] at hr
 exact⟨he,hr,hk⟩
theorem rotEv_any(P U V S:List Ev)(g n cap a m b:Nat)(fv:Value)(w:World)(h:RowE w g n cap (P++U++V++S))(hU:U≠ [])(hV:V≠ [])(hn:n≤1000000)(ha:a=P.length)(hm:m=P.length+U.length)(hb:b=P.length+U.length+V.length):
  Calls Tryz.prog 156 #[.slice (some ⟨g,0,none⟩) n cap,.int .i64 a,.int .i64 m,.int .i64 b,fv] w fun e w'=>e= .returned (.tuple #[])∧RowE w' g n cap (P++V++U++S)∧Keeps (fun i=>i=g) w w':=by
 have hU0:0<U.length:=List.length_pos_iff.2 hU
 have hV0:0<V.length:=List.length_pos_iff.2 hV
 have hl:=h.2
 simp only [List.length_append] at hl
 have hma:(m:Int)-a=(U.length:Nat):=by omega
 have hbm:(b:Int)-m=(V.length:Nat):=by omega
 have hbn:b≤n:=by omega
 have ham:a<m:=by omega
 have hmb:m<b:=by omega
 obtain⟨G,hG⟩:∃G,P++V++U++S=G:=⟨_,rfl⟩
 rw [hG]
 obtain⟨H,HG,Ha,Hm,Hb,Hl,HU,HV⟩:=hid8 h hG ha hm hb hl hU hV;clear hV hU hl hb hm ha hG h
 go_enter Tryz.func156,Tryz.ntmps156
 go_wp2
 go_loopw [10,11] (fun x y wx=>∃(i j:Nat) (P' U' V' S':List Ev),x= .int .i64 (i:Nat)∧y= .int .i64 (j:Nat)∧U'.length=i∧V'.length=j∧P'.length+i=m∧0<i∧0<j∧m+j≤b∧P'++V'++U'++S'=G∧RowE wx g n cap (P'++U'++V'++S')∧Keeps (fun i=>i=g) w wx) (fun x y _=>(intOf x).toNat+(intOf y).toNat)
 case atStart=>exact⟨U.length,V.length,P,U,V,S,by go_num,by go_num,rfl,rfl,Hm.out.symm,hU0,hV0,by have:=Hb.out;have:=Hm.out;omega,HG.out,H.out,Keeps.refl _ _⟩
 case round=>
  obtain⟨i,j,P',U',V',S',rfl,rfl,hu,hv,hp,hi,hj,hmj,hg,hrow,hk⟩:=hrel
  have him:i≤m:=by omega
  by_cases hij:i=j
  ·subst hij
   have hrow1:RowE wr g n cap (P'++U'++ []++V'++S'):=by simpa using hrow
   have hc:=swapEv_any P' U' [] V' S' g n cap fv ((m:Int)-i) m i wr hrow1 (by omega) hn (by omega) (by simp only [List.length_nil];omega) (by omega)
   simp only [List.append_nil,hg] at hc
   obtain⟨Hrow,Hrow1,Hc,Hg,Hk,Hu,Hv,Hp⟩:=hid8 hrow hrow1 hc hg hk hu hv hp;clear hp hv hu hk hg hc hrow1 hrow
   go_wp2_with (go_at_call 169;(with_reducible refine Hc.out.mono ?_);rintro e w1 ⟨rfl,hr1,hk1⟩;have Hr1:=Lib.hid hr1;have Hk1:=Lib.hid hk1;clear hr1 hk1)
   go_end0
   exact⟨rfl,Hr1.out,Hk.out.same Hk1.out⟩
  ·by_cases hlt:j<i
   ·obtain⟨U1,U2,rfl,hu1⟩:∃U1 U2,U'=U1++U2∧U1.length=j:=⟨U'.take j,U'.drop j,(List.take_append_drop _ _).symm,by rw [List.length_take];omega⟩
    rw [List.length_append] at hu
    have hrow1:RowE wr g n cap (P'++U1++U2++V'++S'):=by simpa using hrow
    have hc:=swapEv_any P' U1 U2 V' S' g n cap fv ((m:Int)-i) m j wr hrow1 (by omega) hn (by omega) (by omega) (by omega)
    have hg':(P'++V')++U1++U2++S'=G:=by rw [←hg];simp
    have hltI:(j:Int)<i:=by omega
    have hneI:((i:Int)==j)=false:=by simp;omega
    obtain⟨Hrow,Hrow1,Hc,Hg,Hg',Hk,Hu,Hv,Hp⟩:=hid9 hrow hrow1 hc hg hg' hk hu hv hp;clear hp hv hu hk hg' hg hc hrow1 hrow;have Hu1:=Lib.hid hu1;clear hu1
    go_wp2_with (go_at_call 169;(with_reducible refine Hc.out.mono ?_);rintro e w1 ⟨rfl,hr1,hk1⟩;have Hr1:=Lib.hid hr1;have Hk1:=Lib.hid hk1;clear hr1 hk1)
    go_roundw
    case rel=>exact⟨i-j,j,P'++V',U2,U1,S',by go_num,rfl,by have:=Hu.out;have:=Hu1.out;omega,Hu1.out,by rw [List.length_append,Hv.out];have:=Hp.out;omega,by omega,hj,hmj,Hg'.out,Hr1.out,Hk.out.same Hk1.out⟩
    case measure=>simp [intOf];omega
   ·obtain⟨V1,V2,rfl,hv1⟩:∃V1 V2,V'=V1++V2∧V2.length=i:=⟨V'.take (j-i),V'.drop (j-i),(List.take_append_drop _ _).symm,by rw [List.length_drop];omega⟩
    rw [List.length_append] at hv
    have hrow1:RowE wr g n cap (P'++U'++V1++V2++S'):=by simpa using hrow
    have hc:=swapEv_any P' U' V1 V2 S' g n cap fv ((m:Int)-i) ((m:Int)+j-i) i wr hrow1 (by omega) hn (by omega) (by omega) (by omega)
    have hg':P'++V1++V2++(U'++S')=G:=by rw [←hg];simp
    have hr':∀w1,RowE w1 g n cap (P'++V2++V1++U'++S')→RowE w1 g n cap (P'++V2++V1++(U'++S')):=fun w1 h=>by simpa using h
    have hltI:(i:Int)<j:=by omega
    have hneI:((i:Int)==j)=false:=by simp;omega
    obtain⟨Hrow,Hrow1,Hc,Hg,Hg',Hk,Hu,Hv,Hp⟩:=hid9 hrow hrow1 hc hg hg' hk hu hv hp;clear hp hv hu hk hg' hg hc hrow1 hrow;obtain⟨Hv1,Hr'⟩:=hid2 hv1 hr';clear hr' hv1
    go_wp2_with (go_at_call 169;(with_reducible refine Hc.out.mono ?_);rintro e w1 ⟨rfl,hr1,hk1⟩;have Hr1:=Lib.hid hr1;have Hk1:=Lib.hid hk1;clear hr1 hk1)
    go_roundw
    case rel=>exact⟨i,j-i,P',V2,V1,U'++S',rfl,by go_num,Hv1.out,by have:=Hv.out;have:=Hv1.out;omega,Hp.out,hi,by omega,by omega,Hg'.out,Hr'.out _ Hr1.out,Hk.out.same Hk1.out⟩
    case measure=>simp [intOf];omega
structure CmpBy(f:Nat)(ok:Ev→Prop):Prop where
 eg:∀args w,(callFunc f args).run Tryz.prog w= .ok (.enter f args) w
 call:∀x y W,ok x→ok y→Calls Tryz.prog f #[x.agg,y.agg] W fun e w'=>∃z,e= .returned (.int .i64 z)∧(z<0↔x.day<y.day)∧Keeps (fun _=>False) W w'
def twoS(g p q:Nat)(a0 a1 a2 a3 a4 b0 b1 b2 b3 b4:Int)(w:World):Prop:=
 (w.cell? ⟨g,p*5,none⟩=some (.int .i64 a0)∧w.cell? ⟨g,p*5+1,none⟩=some (.int .i64 a1)∧w.cell? ⟨g,p*5+2,none⟩=some (.int .i64 a2)∧w.cell? ⟨g,p*5+3,none⟩=some (.int .i64 a3)∧w.cell? ⟨g,p*5+4,none⟩=some (.int .i64 a4))∧
 (w.cell? ⟨g,q*5,none⟩=some (.int .i64 b0)∧w.cell? ⟨g,q*5+1,none⟩=some (.int .i64 b1)∧w.cell? ⟨g,q*5+2,none⟩=some (.int .i64 b2)∧w.cell? ⟨g,q*5+3,none⟩=some (.int .i64 b3)∧w.cell? ⟨g,q*5+4,none⟩=some (.int .i64 b4))
theorem twoS.of{w:World}{g n cap p q:Nat}{X:List Ev}(h:RowE w g n cap X){a0 a1 a2 a3 a4 b0 b1 b2 b3 b4:Int}(hp:X[p]?=some ⟨a0,a1,a2,a3,a4⟩)(hq:X[q]?=some ⟨b0,b1,b2,b3,b4⟩):twoS g p q a0 a1 a2 a3 a4 b0 b1 b2 b3 b4 w:=⟨h.cells hp,h.cells hq⟩
theorem twoS.keep{w w':World}{S:Nat→Prop}{g p q:Nat}{a0 a1 a2 a3 a4 b0 b1 b2 b3 b4:Int}(h:twoS g p q a0 a1 a2 a3 a4 b0 b1 b2 b3 b4 w)(hk:Keeps S w w')(hS:¬S g):twoS g p q a0 a1 a2 a3 a4 b0 b1 b2 b3 b4 w':=by
 obtain⟨⟨h0,h1,h2,h3,h4⟩,k0,k1,k2,k3,k4⟩:=h
 have hl:g<w.heap.size:=Ag h0
 have c:=fun o=>hk.cell (p:=⟨g,o,none⟩) hl hS
 unfold twoS
 exact⟨⟨(c _).trans h0,(c _).trans h1,(c _).trans h2,(c _).trans h3,(c _).trans h4⟩,(c _).trans k0,(c _).trans k1,(c _).trans k2,(c _).trans k3,(c _).trans k4⟩
theorem inssEv_step{X:List Ev}{a i j:Nat}(h:∀s t,a≤s→s<t→t≤i→t≠j+1→dy X s≤dy X t)(haj:a≤j)(hl:j+1<X.length)(hji:j+1≤i)(hd:dy X (j+1)<dy X j):
  ∀s t,a≤s→s<t→t≤i→t≠j→dy (swp X j (j+1)) s≤dy (swp X j (j+1)) t:=by
 have hg:=fun t=>swp_get (X:=X) (i:=j) (j:=j+1) (by omega) hl t
 have e1:dy (swp X j (j+1)) (j+1)=dy X j:=Bv (by rw [hg,if_pos rfl])
 have e2:dy (swp X j (j+1)) j=dy X (j+1):=Bv (by rw [hg,if_neg (by omega),if_pos rfl])
 have e3:∀t,t≠j→t≠j+1→dy (swp X j (j+1)) t=dy X t:=fun t h1 h2=>Bv (by rw [hg,if_neg h2,if_neg h1])
 intro s t h1 h2 h3 h4
 by_cases ht:t=j+1
 ·subst ht
  rw [e1]
  by_cases hs:s=j
  ·subst hs;rw [e2];omega
  ·rw [e3 s hs (by omega)];exact h s j h1 (by omega) (by omega) (by omega)
 ·rw [e3 t h4 ht]
  by_cases hs:s=j
  ·subst hs;rw [e2];exact h _ t (by omega) (by omega) h3 ht
  ·by_cases hs2:s=j+1
   ·subst hs2;rw [e1];exact h j t (by omega) (by omega) h3 ht
   ·rw [e3 s hs hs2];exact h s t h1 h2 h3 ht
theorem inssEv_any(f:Nat)(ok:Ev→Prop)(hc:CmpBy f ok)(a b n cap g:Nat)(L:List Ev)(w:World)(h:RowE w g n cap L)(hab:a≤b)(hbn:b≤n)(hok:∀x∈L,ok x)(hn:n≤1000000):
  Calls Tryz.prog 138 #[.slice (some ⟨g,0,none⟩) n cap,.int .i64 a,.int .i64 b,.func (.func f) #[] #[]] w fun e w'=>e= .returned (.tuple #[])∧∃X,Turned L X a b∧Upto X a b∧RowE w' g n cap X∧Keeps (fun i=>i=g) w w':=by
 have eg:=hc.eg
 have hcall:=hc.call
 simp only [Ev.agg] at hcall
 obtain⟨H,Hok,Hc,Hcall⟩:=hid4 h hok hc hcall;clear hcall hc hok h
 go_enter Tryz.func138,Tryz.ntmps138
 go_wp2
 go_loopw [8] (fun x wx=>∃(i:Nat) (X:List Ev),x= .int .i64 (i:Nat)∧a<i∧i≤b+1∧Turned L X a b∧Upto X a i∧RowE wx g n cap X∧Keeps (fun i=>i=g) w wx) (fun x _=>b+1-(intOf x).toNat)
 case atStart=>exact⟨a+1,L,by go_num,by omega,by omega,Turned.refl _ _ _,Upto.one (by omega),H.out,Keeps.refl _ _⟩
 case round=>
  obtain⟨i,X,rfl,hai,hib,ht,hu,hrow,hk⟩:=hrel
  by_cases hlt:i<b
  ·have hltI:(i:Int)<(b:Int):=by omega
   obtain⟨W1,hW1⟩:∃x,x=wr:=⟨_,rfl⟩;subst hW1
   have hin:∀s t,a≤s→s<t→t≤i→t≠i→dy X s≤dy X t:=fun s t h1 h2 h3 h4=>hu s t h1 h2 (by omega)
   obtain⟨Ht,Hu,Hrow,Hk,Hin⟩:=hid5 ht hu hrow hk hin;clear hin hk hrow hu ht
   go_wp2
   go_loopw [9] (fun x wx=>∃(j:Nat) (Y:List Ev),x= .int .i64 (j:Nat)∧a≤j∧j≤i∧Turned L Y a b∧(∀s t,a≤s→s<t→t≤i→t≠j→dy Y s≤dy Y t)∧RowE wx g n cap Y∧Keeps (fun i=>i=g) w wx) (fun x _=>(intOf x).toNat)
   case atStart=>exact⟨i,X,rfl,by omega,Nat.le_refl _,Ht.out,Hin.out,Hrow.out,Hk.out⟩
   case round=>
    obtain⟨j,Y,rfl,haj,hji,ht,hin,hrow,hk⟩:=hrel
    have hYn:=hrow.2
    by_cases hja:a<j
    ·obtain⟨p,rfl⟩:∃p,j=p+1:=⟨j-1,by omega⟩
     obtain⟨⟨x0,x1,x2,x3,x4⟩,hx⟩:=Av (L:=Y) (k:=p+1) (by omega)
     obtain⟨⟨y0,y1,y2,y3,y4⟩,hy⟩:=Av (L:=Y) (k:=p) (by omega)
     have okx:ok _:=Hok.out _ (ht.alike.mem (List.mem_of_getElem? hx))
     have oky:ok _:=Hok.out _ (ht.alike.mem (List.mem_of_getElem? hy))
     have hS:=twoS.of (hrow.keep (Keeps.drew _)) hx hy
     have hxd:=Dh hx
     have hyd:=Dh hy
     simp only at hxd hyd
     have q1:IntKind.i64.wrap (((p+1:Nat):Int)-1)=(p:Int):=by rw [show((p+1:Nat):Int)-1=(p:Int) by omega];exact IntWalk.i64_in _ ⟨by omega,by omega⟩
     have q2:(a:Int)<((p+1:Nat):Int):=by omega
     have q3:(p:Int)<(n:Int):=by omega
     have p0:(0:Int)≤(p:Int)+1:=by omega
     have e0:((p:Int)+1).toNat=p+1:=by omega
     have q9:IntKind.i64.wrap (p:Int)=(p:Int):=IntWalk.i64_in _ ⟨by omega,by omega⟩
     have q6:(a:Int)<(p:Int)+1:=by omega
     have q7:(p:Int)+1<(n:Int):=by omega
     have q8:IntKind.i64.wrap ((p:Int)+1-1)=(p:Int):=by rw [show(p:Int)+1-1=(p:Int) by omega];exact IntWalk.i64_in _ ⟨by omega,by omega⟩
     have q5:((p+1:Nat):Int)<(n:Int):=by omega
     obtain⟨Ht,Hin,Hrow,Hk,Hx,Hy,Okx,Oky,HS⟩:=hid9 ht hin hrow hk hx hy okx oky hS;clear hS oky okx hy hx hk hrow hin ht;obtain⟨Hxd,Hyd⟩:=hid2 hxd hyd;clear hyd hxd
     have hcl:=fun W=>Hcall.out ⟨x0,x1,x2,x3,x4⟩ ⟨y0,y1,y2,y3,y4⟩ W Okx.out Oky.out
     simp only at hcl
     have Hcl:=Lib.hid hcl;clear hcl
     by_cases hd:x1<y1
     ·go_wp2_with fail
      refine Ao (twoS g (p+1) p x0 x1 x2 x3 x4 y0 y1 y2 y3 y4) (.take 0 (.take 1 (.take 2 (.take 3 (.take 4 (.take 5 (.take 6 (.take 7 (.take 8 (.take 9 (.take 10 (.take 11 (.take 12 (.take 13 (.move 14 (.take 15 (.take 16 .done))))))))))))))))) (by kernel_rfl) (by kernel_rfl) ?_ ?_
      ·exact HS.out
      intro w1 hs1 hk1
      repeat ((first|refine Ai rfl (by rfl) ?_|refine Af rfl (by rfl) ?_|(refine Ah (v:= ?_) rfl (by rfl) ?_ ?_;rotate_left;(· intro w' hSw;unfold twoS at hSw;go_simp;(try with_reducible rfl));rotate_right));try simp only [aps])
      refine Ak rfl (fun K hK=> ?_)
      go_simp
      go_at_fn f
      ((with_reducible refine(Hcl.out w1).mono ?_);rintro e w2 ⟨z,rfl,hz,hk2⟩;dsimp only)
      have hz':z<0:=hz.2 hd
      refine hK.out _ _ (by exact hs1.keep hk2 (by simp)) ?_
      clear hK K
      try simp only [aps]
      repeat ((first|refine Ai rfl (by rfl) ?_|refine Af rfl (by rfl) ?_|(refine Ah (v:= ?_) rfl (by rfl) ?_ ?_;rotate_left;(· intro w' hSw;unfold twoS at hSw;go_simp;(try with_reducible rfl));rotate_right));try simp only [aps])
      refine Aw ?_
      have hrow2:=(Hrow.out.keep hk1).keep hk2
      have hkw:=(Hk.out.trans (hk1.mono (by simp))).trans (hk2.mono (by simp))
      clear hs1 hz
      have hstep:=inssEv_step Hin.out (by omega) (by omega) (by omega) (by rw [Hxd.out,Hyd.out];exact hd)
      have htn:=Ht.out.trans (swp_turned (X:=Y) (i:=p) (a:=a) (b:=b) (by omega) (by omega) (by omega) (by rw [Hxd.out,Hyd.out];exact hd))
      obtain⟨c0,c1,c2,c3,c4⟩:=(hrow2).cells Hx.out
      obtain⟨d0,d1,d2,d3,d4⟩:=(hrow2).cells Hy.out
      have fa0:(w2).frozen? ⟨g,(p+1)*5,none⟩=false:=(hrow2).free _
      have fa1:(w2).frozen? ⟨g,(p+1)*5+1,none⟩=false:=(hrow2).free _
      have fa2:(w2).frozen? ⟨g,(p+1)*5+2,none⟩=false:=(hrow2).free _
      have fa3:(w2).frozen? ⟨g,(p+1)*5+3,none⟩=false:=(hrow2).free _
      have fa4:(w2).frozen? ⟨g,(p+1)*5+4,none⟩=false:=(hrow2).free _
      have fb0:(w2).frozen? ⟨g,(p)*5,none⟩=false:=(hrow2).free _
      have fb1:(w2).frozen? ⟨g,(p)*5+1,none⟩=false:=(hrow2).free _
      have fb2:(w2).frozen? ⟨g,(p)*5+2,none⟩=false:=(hrow2).free _
      have fb3:(w2).frozen? ⟨g,(p)*5+3,none⟩=false:=(hrow2).free _
      have fb4:(w2).frozen? ⟨g,(p)*5+4,none⟩=false:=(hrow2).free _
      have hrow3:=(hrow2.swp Hx.out Hy.out).keep (Keeps.drew _)
      rw [swp_comm Y p (by omega)] at hrow3
      have hk3:=hkw.same (((Da w2 g (p+1) y0 y1 y2 y3 y4).same (Da _ g p x0 x1 x2 x3 x4)).same (Keeps.drew _))
      unfold putE at hrow3 hk3
      obtain⟨Hk1,Hk2,Hrow2,Hkw,Hrow3,Hk3,Hstep,Htn⟩:=hid8 hk1 hk2 hrow2 hkw hrow3 hk3 hstep htn;clear htn hstep hk3 hrow3 hkw hrow2 hk2 hk1
      clear hz'
      go_wp2_with fail
      go_region
      all_goals go_wp2_with fail
      all_goals go_roundw
      case rel=>exact⟨p,_,by go_num,by omega,by omega,Htn.out,Hstep.out,Hrow3.out,Hk3.out⟩
      case measure=>simp [intOf]
     ·go_wp2_with fail
      refine Ao (twoS g (p+1) p x0 x1 x2 x3 x4 y0 y1 y2 y3 y4) (.take 0 (.take 1 (.take 2 (.take 3 (.take 4 (.take 5 (.take 6 (.take 7 (.take 8 (.take 9 (.take 10 (.take 11 (.take 12 (.take 13 (.move 14 (.take 15 (.take 16 .done))))))))))))))))) (by kernel_rfl) (by kernel_rfl) ?_ ?_
      ·exact HS.out
      intro w1 hs1 hk1
      repeat ((first|refine Ai rfl (by rfl) ?_|refine Af rfl (by rfl) ?_|(refine Ah (v:= ?_) rfl (by rfl) ?_ ?_;rotate_left;(· intro w' hSw;unfold twoS at hSw;go_simp;(try with_reducible rfl));rotate_right));try simp only [aps])
      refine Ak rfl (fun K hK=> ?_)
      go_simp
      go_at_fn f
      ((with_reducible refine(Hcl.out w1).mono ?_);rintro e w2 ⟨z,rfl,hz,hk2⟩;dsimp only)
      have hz':¬z<0:=fun h=>by have:=hz.1 h;omega
      refine hK.out _ _ (by exact hs1.keep hk2 (by simp)) ?_
      clear hK K
      try simp only [aps]
      repeat ((first|refine Ai rfl (by rfl) ?_|refine Af rfl (by rfl) ?_|(refine Ah (v:= ?_) rfl (by rfl) ?_ ?_;rotate_left;(· intro w' hSw;unfold twoS at hSw;go_simp;(try with_reducible rfl));rotate_right));try simp only [aps])
      refine Aw ?_
      have hrow2:=(Hrow.out.keep hk1).keep hk2
      have hkw:=(Hk.out.trans (hk1.mono (by simp))).trans (hk2.mono (by simp))
      have hup:Upto Y a (i+1):=fun s t h1 h2 h3=>by
       by_cases hte:t=p+1
       ·subst hte
        rcases Nat.lt_or_ge s p with h4|h4
        ·have e1:=Hin.out s p h1 h4 (by omega) (by omega)
         rw [Hxd.out];rw [Hyd.out] at e1;omega
        ·obtain rfl:s=p:=by omega
         rw [Hxd.out,Hyd.out];omega
       ·exact Hin.out s t h1 h2 (by omega) hte
      clear hs1 hz
      obtain⟨Hk1,Hk2,Hrow2,Hkw,Hup,Hz'⟩:=hid6 hk1 hk2 hrow2 hkw hup hz';clear hz' hup hkw hrow2 hk2 hk1
      go_wp2
      go_roundw
      case rel=>exact⟨i+1,Y,by go_num,by omega,by omega,Ht.out,Hup.out,Hrow2.out,Hkw.out⟩
      case measure=>simp [intOf];omega
    ·obtain rfl:j=a:=by omega
     have hup:Upto Y j (i+1):=fun s t h1 h2 h3=>hin s t h1 h2 (by omega) (by omega)
     have hrow2:=hrow.keep (Keeps.drew wr)
     have hkw:=hk.same (Keeps.drew wr)
     obtain⟨Ht,Hin,Hrow,Hk,Hup,Hrow2,Hkw⟩:=hid7 ht hin hrow hk hup hrow2 hkw;clear hkw hrow2 hup hk hrow hin ht
     go_wp2_with fail
     go_region
     all_goals go_wp2
     all_goals go_roundw
     case rel=>exact⟨i+1,Y,by go_num,by omega,by omega,Ht.out,Hup.out,Hrow2.out,Hkw.out⟩
     case measure=>simp [intOf];omega
  ·go_wp2
   go_end0
   exact⟨rfl,X,ht,hu.sub (Nat.le_refl _) (by omega),hrow,hk⟩
def MergePost(L:List Ev)(g n cap a b:Nat)(w:World)(e:Ending)(w':World):Prop:=e= .returned (.tuple #[])∧∃X,Turned L X a b∧Upto X a b∧RowE w' g n cap X∧Keeps (fun i=>i=g) w w'
def MergeAt(f:Nat)(ok:Ev→Prop)(d:Nat):Prop:=∀(a m b n cap g:Nat) (L:List Ev) (w:World),b-a≤d→RowE w g n cap L→a<m→m<b→b≤n→(∀x∈L,ok x)→n≤1000000→Upto L a m→Upto L m b→
  Calls Tryz.prog 139 #[.slice (some ⟨g,0,none⟩) n cap,.int .i64 a,.int .i64 m,.int .i64 b,.func (.func f) #[] #[]] w (MergePost L g n cap a b w)
theorem left_step{L Y:List Ev}{a k:Nat}(h1:dy Y k=dy L a)(h2:∀t,a≤t→t<k→dy Y t=dy L (t+1))(h3:∀t,k<t→Y[t]?=L[t]?)(hk:a≤k)(hl:k+1<Y.length):
  dy (swp Y k (k+1)) (k+1)=dy L a∧(∀t,a≤t→t<k+1→dy (swp Y k (k+1)) t=dy L (t+1))∧(∀t,k+1<t→(swp Y k (k+1))[t]?=L[t]?):=by
 have hg:=fun t=>swp_get (X:=Y) (i:=k) (j:=k+1) (by omega) hl t
 refine⟨(Bv (by rw [hg,if_pos rfl])).trans h1,fun t h4 h5=> ?_,fun t h4=> ?_⟩
 ·by_cases ht:t=k
  ·subst ht;exact Bv (by rw [hg,if_neg (by omega),if_pos rfl];exact h3 _ (by omega))
  ·exact(Bv (by rw [hg,if_neg (by omega),if_neg ht])).trans (h2 t h4 (by omega))
 ·rw [hg,if_neg (by omega),if_neg (by omega)];exact h3 t (by omega)
theorem left_done{L Y:List Ev}{a b i:Nat}(h1:dy Y (i-1)=dy L a)(h2:∀t,a≤t→t<i-1→dy Y t=dy L (t+1))(h3:∀t,i-1<t→Y[t]?=L[t]?)(hs:Upto L (a+1) b)(hbs:Bs (fun t=>dy L a≤dy L t) (a+1) b i i):Upto Y a b:=by
 have hlo:=hbs.lo'
 have hhi:=hbs.hi'
 have e3:∀t,i-1<t→dy Y t=dy L t:=fun t ht=>Bv (h3 t ht)
 intro s t h4 h5 h6
 rcases Nat.lt_trichotomy t (i-1) with h|h|h
 ·rw [h2 s h4 (by omega),h2 t (by omega) h];exact hs _ _ (by omega) (by omega) (by omega)
 ·subst h
  have:=hbs.below (s+1) (by omega) (by omega)
  rw [h2 s h4 h5,h1];omega
 ·rw [e3 t h]
  have:=hbs.above t (by omega) h6
  rcases Nat.lt_trichotomy s (i-1) with h'|h'|h'
  ·rw [h2 s h4 h'];exact hs _ _ (by omega) (by omega) h6
  ·subst h';rw [h1];exact this
  ·rw [e3 s h'];exact hs _ _ (by omega) h5 h6
theorem merge_left(f:Nat)(ok:Ev→Prop)(hc:CmpBy f ok)(a b n cap g:Nat)(L:List Ev)(w:World)(h:RowE w g n cap L)(hmb:a+1<b)(hbn:b≤n)(hok:∀x∈L,ok x)(hn:n≤1000000)(h1:Upto L (a+1) b):
  Calls Tryz.prog 139 #[.slice (some ⟨g,0,none⟩) n cap,.int .i64 a,.int .i64 (a+1:Nat),.int .i64 b,.func (.func f) #[] #[]] w (MergePost L g n cap a b w):=by
 have eg:=hc.eg
 have hcall:=hc.call
 simp only [Ev.agg] at hcall
 have q0:((a+1:Nat):Int)-(a:Int)=1:=by omega
 obtain⟨m,hm⟩:∃m,a+1=m:=⟨_,rfl⟩
 rw [hm] at h1 q0 hmb⊢
 have hmI:(m:Int)=(a:Int)+1:=by omega
 have hln:=h.2
 obtain⟨H,Hok,Hc,Hcall,H1,Hm,HmI⟩:=hid7 h hok hc hcall h1 hm hmI;clear hmI hm h1 hcall hc hok h
 go_enter Tryz.func139,Tryz.ntmps139
 go_wp2
 go_loopw [10,11] (fun x y wx=>∃(i j:Nat),x= .int .i64 (i:Nat)∧y= .int .i64 (j:Nat)∧Bs (fun t=>dy L a≤dy L t) m b i j∧RowE wx g n cap L∧Keeps (fun i=>i=g) w wx) (fun x y _=>(intOf y).toNat-(intOf x).toNat)
 case atStart=>exact⟨m,b,rfl,rfl,Bs.start (by omega),H.out,Keeps.refl _ _⟩
 case round=>
  obtain⟨i,j,rfl,rfl,hbs,hrow,hk⟩:=hrel
  by_cases hlt:i<j
  ·have hltI:(i:Int)<(j:Int):=by omega
   have hbhi:=hbs.hi'
   have hblo:=hbs.lo'
   obtain⟨h,hh⟩:∃h:Nat,((i:Int)+j) / 2=h:=⟨(i+j) / 2,by omega⟩
   have hih:i≤h:=by omega
   have hhj:h<j:=by omega
   obtain⟨⟨x0,x1,x2,x3,x4⟩,hx⟩:=Av (L:=L) (k:=h) (by omega)
   obtain⟨⟨y0,y1,y2,y3,y4⟩,hy⟩:=Av (L:=L) (k:=a) (by omega)
   have okx:ok _:=Hok.out _ (List.mem_of_getElem? hx)
   have oky:ok _:=Hok.out _ (List.mem_of_getElem? hy)
   have hS:=twoS.of (hrow.keep (Keeps.drew _)) hx hy
   have hxd:=Dh hx
   have hyd:=Dh hy
   simp only at hxd hyd
   have q2:(h:Int)<(n:Int):=by omega
   have q3:(a:Int)<(n:Int):=by omega
   have hmono:∀s t,m≤s→s≤t→t<b→dy L a≤dy L s→dy L a≤dy L t:=fun s t h1 h2 h3 h4=>by have:=H1.out.le h1 h2 h3;omega
   have hcl:=fun W=>Hcall.out ⟨x0,x1,x2,x3,x4⟩ ⟨y0,y1,y2,y3,y4⟩ W okx oky
   simp only at hcl
   obtain⟨Hbs,Hrow,Hk,Hx,Hy,Okx,Oky,HS,Hxd⟩:=hid9 hbs hrow hk hx hy okx oky hS hxd;clear hxd hS oky okx hy hx hk hrow hbs;obtain⟨Hyd,Hmono,Hcl⟩:=hid3 hyd hmono hcl;clear hcl hmono hyd
   go_wp2_with fail
   try rw [hh]
   clear hh
   by_cases hd:x1<y1
   ·skip
    refine Ao (twoS g h a x0 x1 x2 x3 x4 y0 y1 y2 y3 y4) (.take 0 (.take 1 (.take 2 (.take 3 (.take 4 (.take 5 (.take 6 (.take 7 (.take 8 (.move 9 (.take 10 .done))))))))))) (by kernel_rfl) (by kernel_rfl) ?_ ?_
    ·exact HS.out
    intro w1 hs1 hk1
    repeat ((first|refine Ai rfl (by rfl) ?_|refine Af rfl (by rfl) ?_|(refine Ah (v:= ?_) rfl (by rfl) ?_ ?_;rotate_left;(· intro w' hSw;unfold twoS at hSw;go_simp;(try with_reducible rfl));rotate_right));try simp only [aps])
    refine Ak rfl (fun K hK=> ?_)
    go_simp
    go_at_fn f
    ((with_reducible refine(Hcl.out w1).mono ?_);rintro e w2 ⟨z,rfl,hz,hk2⟩;dsimp only)
    have hz':z<0:=hz.2 hd
    exact jZ22
   ·skip
    refine Ao (twoS g h a x0 x1 x2 x3 x4 y0 y1 y2 y3 y4) (.take 0 (.take 1 (.take 2 (.take 3 (.take 4 (.take 5 (.take 6 (.take 7 (.take 8 (.move 9 (.take 10 .done))))))))))) (by kernel_rfl) (by kernel_rfl) ?_ ?_
    ·exact HS.out
    intro w1 hs1 hk1
    repeat ((first|refine Ai rfl (by rfl) ?_|refine Af rfl (by rfl) ?_|(refine Ah (v:= ?_) rfl (by rfl) ?_ ?_;rotate_left;(· intro w' hSw;unfold twoS at hSw;go_simp;(try with_reducible rfl));rotate_right));try simp only [aps])
    refine Ak rfl (fun K hK=> ?_)
    go_simp
    go_at_fn f
    ((with_reducible refine(Hcl.out w1).mono ?_);rintro e w2 ⟨z,rfl,hz,hk2⟩;dsimp only)
    have hz':¬z<0:=fun h=>by have:=hz.1 h;omega
    exact jZ25
  ·obtain rfl:j=i:=by have:=hbs.le;omega
   have hbhi:=hbs.hi'
   have hblo:=hbs.lo'
   obtain⟨W1,hW1⟩:∃x,x=wr:=⟨_,rfl⟩;subst hW1
   obtain⟨Hbs,Hrow,Hk⟩:=hid3 hbs hrow hk;clear hk hrow hbs
   go_wp2
   go_loopw [13] (fun x wx=>∃(k:Nat) (Y:List Ev),x= .int .i64 (k:Nat)∧a≤k∧k≤j-1∧Turned L Y a b∧dy Y k=dy L a∧(∀t,a≤t→t<k→dy Y t=dy L (t+1))∧(∀t,k<t→Y[t]?=L[t]?)∧RowE wx g n cap Y∧Keeps (fun i=>i=g) w wx) (fun x _=>j-(intOf x).toNat)
   case atStart=>exact⟨a,L,rfl,Nat.le_refl _,by omega,Turned.refl _ _ _,rfl,fun t h1 h2=>by omega,fun _ _=>rfl,Hrow.out,Hk.out⟩
   case round=>
    obtain⟨k,Y,rfl,hak,hkj,ht,e1,e2,e3,hrow,hk⟩:=hrel
    have hYn:=hrow.2
    by_cases hlt:k<j-1
    ·have hltI:(k:Int)<(j:Int)-1:=by omega
     obtain⟨⟨x0,x1,x2,x3,x4⟩,hx⟩:=Av (L:=Y) (k:=k) (by omega)
     obtain⟨⟨y0,y1,y2,y3,y4⟩,hy⟩:=Av (L:=Y) (k:=k+1) (by omega)
     have hbel:=Hbs.out.below (k+1) (by omega) (by omega)
     have hd:dy Y (k+1)<dy Y k:=by rw [e1,Bv (e3 (k+1) (by omega))];omega
     have hstep:=left_step e1 e2 e3 hak (by omega)
     have htn:=ht.trans (swp_turned (X:=Y) (i:=k) (a:=a) (b:=b) (by omega) (by omega) (by omega) hd)
     obtain⟨c0,c1,c2,c3,c4⟩:=(hrow).cells hx
     obtain⟨d0,d1,d2,d3,d4⟩:=(hrow).cells hy
     have fa0:(wr).frozen? ⟨g,(k)*5,none⟩=false:=(hrow).free _
     have fa1:(wr).frozen? ⟨g,(k)*5+1,none⟩=false:=(hrow).free _
     have fa2:(wr).frozen? ⟨g,(k)*5+2,none⟩=false:=(hrow).free _
     have fa3:(wr).frozen? ⟨g,(k)*5+3,none⟩=false:=(hrow).free _
     have fa4:(wr).frozen? ⟨g,(k)*5+4,none⟩=false:=(hrow).free _
     have fb0:(wr).frozen? ⟨g,(k+1)*5,none⟩=false:=(hrow).free _
     have fb1:(wr).frozen? ⟨g,(k+1)*5+1,none⟩=false:=(hrow).free _
     have fb2:(wr).frozen? ⟨g,(k+1)*5+2,none⟩=false:=(hrow).free _
     have fb3:(wr).frozen? ⟨g,(k+1)*5+3,none⟩=false:=(hrow).free _
     have fb4:(wr).frozen? ⟨g,(k+1)*5+4,none⟩=false:=(hrow).free _
     have hrow3:=(hrow.swp hx hy).keep (Keeps.drew _)
     have hk3:=hk.same (((Da wr g k y0 y1 y2 y3 y4).same (Da _ g (k+1) x0 x1 x2 x3 x4)).same (Keeps.drew _))
     unfold putE at hrow3 hk3
     have p0:(0:Int)≤(k:Int)+1:=by omega
     have p1:(k:Int)+1<(n:Int):=by omega
     have p2:(k:Int)<(n:Int):=by omega
     have p3:((k:Int)+1).toNat=k+1:=by omega
     obtain⟨Hrow,Hk,Hx,Hy,Hbel,Hd,Hstep,Htn,Ht⟩:=hid9 hrow hk hx hy hbel hd hstep htn ht;clear ht htn hstep hd hbel hy hx hk hrow;obtain⟨E1,E2,E3,Hrow3,Hk3⟩:=hid5 e1 e2 e3 hrow3 hk3;clear hk3 hrow3 e3 e2 e1
     go_wp2_with fail
     go_region
     all_goals go_wp2_with fail
     all_goals go_roundw
     case rel=>exact⟨k+1,_,by go_num,by omega,by omega,Htn.out,Hstep.out.1,Hstep.out.2.1,Hstep.out.2.2,Hrow3.out,Hk3.out⟩
     case measure=>simp [intOf];omega
    ·obtain rfl:k=j-1:=by omega
     have hup:Upto Y a b:=left_done e1 e2 e3 (by have:=H1.out;rwa [←Hm.out] at this) (by have:=Hbs.out;rwa [←Hm.out] at this)
     have hltI:¬((j-1:Nat):Int)<(j:Int)-1:=by omega
     obtain⟨k,hkk⟩:∃k,j-1=k:=⟨_,rfl⟩
     rw [hkk] at hltI⊢
     exact jZ84
theorem right_step{L Y:List Ev}{m k:Nat}(h1:dy Y (k+1)=dy L m)(h2:∀t,k+1<t→t≤m→dy Y t=dy L (t-1))(h3:∀t,t<k+1→Y[t]?=L[t]?)(hl:k+1<Y.length):
  dy (swp Y k (k+1)) k=dy L m∧(∀t,k<t→t≤m→dy (swp Y k (k+1)) t=dy L (t-1))∧(∀t,t<k→(swp Y k (k+1))[t]?=L[t]?):=by
 have hg:=fun t=>swp_get (X:=Y) (i:=k) (j:=k+1) (by omega) hl t
 refine⟨(Bv (by rw [hg,if_neg (by omega),if_pos rfl])).trans h1,fun t h4 h5=> ?_,fun t h4=> ?_⟩
 ·by_cases ht:t=k+1
  ·subst ht;exact Bv (by rw [hg,if_pos rfl];exact h3 _ (by omega))
  ·exact(Bv (by rw [hg,if_neg ht,if_neg (by omega)])).trans (h2 t (by omega) h5)
 ·rw [hg,if_neg (by omega),if_neg (by omega)];exact h3 t (by omega)
theorem right_done{L Y:List Ev}{a m i:Nat}(h1:dy Y i=dy L m)(h2:∀t,i<t→t≤m→dy Y t=dy L (t-1))(h3:∀t,t<i→Y[t]?=L[t]?)(hs:Upto L a m)(hbs:Bs (fun t=>dy L m<dy L t) a m i i):Upto Y a (m+1):=by
 have hlo:=hbs.lo'
 have hhi:=hbs.hi'
 have e3:∀t,t<i→dy Y t=dy L t:=fun t ht=>Bv (h3 t ht)
 intro s t h4 h5 h6
 rcases Nat.lt_trichotomy t i with h|h|h
 ·rw [e3 s (by omega),e3 t h];exact hs _ _ h4 h5 (by omega)
 ·subst h
  have:=hbs.below s h4 h5
  rw [e3 s h5,h1];omega
 ·rw [h2 t h (by omega)]
  have:=hbs.above (t-1) (by omega) (by omega)
  rcases Nat.lt_trichotomy s i with h'|h'|h'
  ·rw [e3 s h'];exact hs.le h4 (by omega) (by omega)
  ·subst h';rw [h1];omega
  ·rw [h2 s h' (by omega)];exact hs.le (by omega) (by omega) (by omega)
theorem merge_right(f:Nat)(ok:Ev→Prop)(hc:CmpBy f ok)(a m n cap g:Nat)(L:List Ev)(w:World)(h:RowE w g n cap L)(ham:a+1<m)(hbn:m+1≤n)(hok:∀x∈L,ok x)(hn:n≤1000000)(h1:Upto L a m):
  Calls Tryz.prog 139 #[.slice (some ⟨g,0,none⟩) n cap,.int .i64 a,.int .i64 m,.int .i64 (m+1:Nat),.func (.func f) #[] #[]] w (MergePost L g n cap a (m+1) w):=by
 have eg:=hc.eg
 have hcall:=hc.call
 simp only [Ev.agg] at hcall
 have q0:(((m:Int)-(a:Int))==1)=false:=by simp;omega
 have q1:((m+1:Nat):Int)-(m:Int)=1:=by omega
 obtain⟨b,hm⟩:∃b,m+1=b:=⟨_,rfl⟩
 rw [hm] at q1 hbn⊢
 have hmb:m<b:=by omega
 have hln:=h.2
 obtain⟨H,Hok,Hc,Hcall,H1,Hm⟩:=hid6 h hok hc hcall h1 hm;clear hm h1 hcall hc hok h
 go_enter Tryz.func139,Tryz.ntmps139
 go_wp2
 go_loopw [14,15] (fun x y wx=>∃(i j:Nat),x= .int .i64 (i:Nat)∧y= .int .i64 (j:Nat)∧Bs (fun t=>dy L m<dy L t) a m i j∧RowE wx g n cap L∧Keeps (fun i=>i=g) w wx) (fun x y _=>(intOf y).toNat-(intOf x).toNat)
 case atStart=>exact⟨a,m,rfl,rfl,Bs.start (by omega),H.out,Keeps.refl _ _⟩
 case round=>
  obtain⟨i,j,rfl,rfl,hbs,hrow,hk⟩:=hrel
  by_cases hlt:i<j
  ·have hltI:(i:Int)<(j:Int):=by omega
   have hbhi:=hbs.hi'
   have hblo:=hbs.lo'
   obtain⟨h,hh⟩:∃h:Nat,((i:Int)+j) / 2=h:=⟨(i+j) / 2,by omega⟩
   have hih:i≤h:=by omega
   have hhj:h<j:=by omega
   obtain⟨⟨x0,x1,x2,x3,x4⟩,hx⟩:=Av (L:=L) (k:=m) (by omega)
   obtain⟨⟨y0,y1,y2,y3,y4⟩,hy⟩:=Av (L:=L) (k:=h) (by omega)
   have okx:ok _:=Hok.out _ (List.mem_of_getElem? hx)
   have oky:ok _:=Hok.out _ (List.mem_of_getElem? hy)
   have hS:=twoS.of (hrow.keep (Keeps.drew _)) hx hy
   have hxd:=Dh hx
   have hyd:=Dh hy
   simp only at hxd hyd
   have q2:(h:Int)<(n:Int):=by omega
   have q3:(m:Int)<(n:Int):=by omega
   have hmono:∀s t,a≤s→s≤t→t<m→dy L m<dy L s→dy L m<dy L t:=fun s t h1 h2 h3 h4=>by have:=H1.out.le h1 h2 h3;omega
   have hcl:=fun W=>Hcall.out ⟨x0,x1,x2,x3,x4⟩ ⟨y0,y1,y2,y3,y4⟩ W okx oky
   simp only at hcl
   obtain⟨Hbs,Hrow,Hk,Hx,Hy,Okx,Oky,HS,Hxd⟩:=hid9 hbs hrow hk hx hy okx oky hS hxd;clear hxd hS oky okx hy hx hk hrow hbs;obtain⟨Hyd,Hmono,Hcl⟩:=hid3 hyd hmono hcl;clear hcl hmono hyd
   go_wp2_with fail
   try rw [hh]
   clear hh
   by_cases hd:x1<y1
   ·skip
    refine Ao (twoS g m h x0 x1 x2 x3 x4 y0 y1 y2 y3 y4) (.take 0 (.take 1 (.take 2 (.take 3 (.take 4 (.take 5 (.take 6 (.take 7 (.take 8 (.move 9 (.take 10 (.take 11 .done)))))))))))) (by kernel_rfl) (by kernel_rfl) ?_ ?_
    ·exact HS.out
    intro w1 hs1 hk1
    repeat ((first|refine Ai rfl (by rfl) ?_|refine Af rfl (by rfl) ?_|(refine Ah (v:= ?_) rfl (by rfl) ?_ ?_;rotate_left;(· intro w' hSw;unfold twoS at hSw;go_simp;(try with_reducible rfl));rotate_right));try simp only [aps])
    refine Ak rfl (fun K hK=> ?_)
    go_simp
    go_at_fn f
    ((with_reducible refine(Hcl.out w1).mono ?_);rintro e w2 ⟨z,rfl,hz,hk2⟩;dsimp only)
    have hz':z<0:=hz.2 hd
    exact jZ25
   ·skip
    refine Ao (twoS g m h x0 x1 x2 x3 x4 y0 y1 y2 y3 y4) (.take 0 (.take 1 (.take 2 (.take 3 (.take 4 (.take 5 (.take 6 (.take 7 (.take 8 (.move 9 (.take 10 (.take 11 .done)))))))))))) (by kernel_rfl) (by kernel_rfl) ?_ ?_
    ·exact HS.out
    intro w1 hs1 hk1
    repeat ((first|refine Ai rfl (by rfl) ?_|refine Af rfl (by rfl) ?_|(refine Ah (v:= ?_) rfl (by rfl) ?_ ?_;rotate_left;(· intro w' hSw;unfold twoS at hSw;go_simp;(try with_reducible rfl));rotate_right));try simp only [aps])
    refine Ak rfl (fun K hK=> ?_)
    go_simp
    go_at_fn f
    ((with_reducible refine(Hcl.out w1).mono ?_);rintro e w2 ⟨z,rfl,hz,hk2⟩;dsimp only)
    have hz':¬z<0:=fun h=>by have:=hz.1 h;omega
    exact jZ22
  ·obtain rfl:j=i:=by have:=hbs.le;omega
   have hbhi:=hbs.hi'
   have hblo:=hbs.lo'
   obtain⟨W1,hW1⟩:∃x,x=wr:=⟨_,rfl⟩;subst hW1
   obtain⟨Hbs,Hrow,Hk⟩:=hid3 hbs hrow hk;clear hk hrow hbs
   go_wp2
   go_loopw [17] (fun x wx=>∃(k:Nat) (Y:List Ev),x= .int .i64 (k:Nat)∧j≤k∧k≤m∧Turned L Y a b∧dy Y k=dy L m∧(∀t,k<t→t≤m→dy Y t=dy L (t-1))∧(∀t,t<k→Y[t]?=L[t]?)∧RowE wx g n cap Y∧Keeps (fun i=>i=g) w wx) (fun x _=>(intOf x).toNat)
   case atStart=>exact⟨m,L,rfl,by omega,Nat.le_refl _,Turned.refl _ _ _,rfl,fun t h1 h2=>by omega,fun _ _=>rfl,Hrow.out,Hk.out⟩
   case round=>
    obtain⟨k,Y,rfl,hak,hkj,ht,e1,e2,e3,hrow,hk⟩:=hrel
    have hYn:=hrow.2
    by_cases hlt:j<k
    ·obtain⟨p,rfl⟩:∃p,k=p+1:=⟨k-1,by omega⟩
     have hltI:(j:Int)<(p:Int)+1:=by omega
     obtain⟨⟨x0,x1,x2,x3,x4⟩,hx⟩:=Av (L:=Y) (k:=p+1) (by omega)
     obtain⟨⟨y0,y1,y2,y3,y4⟩,hy⟩:=Av (L:=Y) (k:=p) (by omega)
     have habv:=Hbs.out.above p (by omega) (by omega)
     have hd:dy Y (p+1)<dy Y p:=by rw [e1,Bv (e3 p (by omega))];omega
     have hstep:=right_step e1 e2 e3 (by omega)
     have htn:=ht.trans (swp_turned (X:=Y) (i:=p) (a:=a) (b:=b) (by omega) (by omega) (by omega) hd)
     obtain⟨c0,c1,c2,c3,c4⟩:=(hrow).cells hx
     obtain⟨d0,d1,d2,d3,d4⟩:=(hrow).cells hy
     have fa0:(wr).frozen? ⟨g,(p+1)*5,none⟩=false:=(hrow).free _
     have fa1:(wr).frozen? ⟨g,(p+1)*5+1,none⟩=false:=(hrow).free _
     have fa2:(wr).frozen? ⟨g,(p+1)*5+2,none⟩=false:=(hrow).free _
     have fa3:(wr).frozen? ⟨g,(p+1)*5+3,none⟩=false:=(hrow).free _
     have fa4:(wr).frozen? ⟨g,(p+1)*5+4,none⟩=false:=(hrow).free _
     have fb0:(wr).frozen? ⟨g,(p)*5,none⟩=false:=(hrow).free _
     have fb1:(wr).frozen? ⟨g,(p)*5+1,none⟩=false:=(hrow).free _
     have fb2:(wr).frozen? ⟨g,(p)*5+2,none⟩=false:=(hrow).free _
     have fb3:(wr).frozen? ⟨g,(p)*5+3,none⟩=false:=(hrow).free _
     have fb4:(wr).frozen? ⟨g,(p)*5+4,none⟩=false:=(hrow).free _
     have hrow3:=(hrow.swp hx hy).keep (Keeps.drew _)
     rw [swp_comm Y p (by omega)] at hrow3
     have hk3:=hk.same (((Da wr g (p+1) y0 y1 y2 y3 y4).same (Da _ g p x0 x1 x2 x3 x4)).same (Keeps.drew _))
     unfold putE at hrow3 hk3
     have p0:(0:Int)≤(p:Int)+1:=by omega
     have p1:(p:Int)+1<(n:Int):=by omega
     have p2:(p:Int)<(n:Int):=by omega
     have p3:((p:Int)+1).toNat=p+1:=by omega
     have p4:IntKind.i64.wrap (p:Int)=(p:Int):=IntWalk.i64_in _ ⟨by omega,by omega⟩
     obtain⟨Hrow,Hk,Hx,Hy,Habv,Hd,Hstep,Htn,Ht⟩:=hid9 hrow hk hx hy habv hd hstep htn ht;clear ht htn hstep hd habv hy hx hk hrow;obtain⟨E1,E2,E3,Hrow3,Hk3⟩:=hid5 e1 e2 e3 hrow3 hk3;clear hk3 hrow3 e3 e2 e1
     go_wp2_with fail
     go_region
     all_goals go_wp2_with fail
     all_goals go_roundw
     case rel=>exact⟨p,_,by go_num,by omega,by omega,Htn.out,Hstep.out.1,Hstep.out.2.1,Hstep.out.2.2,Hrow3.out,Hk3.out⟩
     case measure=>simp [intOf]
    ·obtain rfl:k=j:=by omega
     have hup:Upto Y a b:=by rw [←Hm.out];exact right_done e1 e2 e3 H1.out Hbs.out
     exact jZ84
structure Sym(L:List Ev)(a m b mid s0 fin:Nat):Prop where
 al:a≤s0
 sm:s0≤m
 mf:m≤fin
 fb:fin≤b
 smid:s0≤mid
 midf:mid≤fin
 sum:s0+fin=mid+m
 vu:∀s t,s0≤s→s<m→m≤t→t<fin→dy L t<dy L s
 ab:∀s t,a≤s→s<s0→fin≤t→t<b→dy L s≤dy L t
theorem sym_of{L:List Ev}{a m b mid lo hi s0:Nat}(h1:Upto L a m)(h2:Upto L m b)(ham:a<m)(hmb:m<b)(hmid:mid=(a+b) / 2)
  (hlh:(mid<m∧lo+b=mid+m∧hi=mid)∨(m≤mid∧lo=a∧hi=m)) (hbs:Bs (fun c=>dy L (mid+m-1-c)<dy L c) lo hi s0 s0):Sym L a m b mid s0 (mid+m-s0):=by
 have e1:=hbs.lo'
 have e2:=hbs.hi'
 refine⟨by omega,by omega,by omega,by omega,by omega,by omega,by omega,fun s t h3 h4 h5 h6=> ?_,fun s t h3 h4 h5 h6=> ?_⟩
 ·have:=hbs.above s0 (Nat.le_refl _) (by omega)
  have k1:=h1.le (s:=s0) (t:=s) (by omega) h3 h4
  have k2:=h2.le (s:=t) (t:=mid+m-1-s0) h5 (by omega) (by omega)
  omega
 ·have:=hbs.below (s0-1) (by omega) (by omega)
  have k1:=h1.le (s:=s) (t:=s0-1) h3 (by omega) (by omega)
  have k2:=h2.le (s:=mid+m-1-(s0-1)) (t:=t) (by omega) (by omega) h6
  omega
theorem sym_mono{L:List Ev}{a m b mid lo hi:Nat}(h1:Upto L a m)(h2:Upto L m b)(ham:a<m)(hmb:m<b)(hmid:mid=(a+b) / 2)
  (hlh:(mid<m∧lo+b=mid+m∧hi=mid)∨(m≤mid∧lo=a∧hi=m)):∀s t,lo≤s→s≤t→t<hi→dy L (mid+m-1-s)<dy L s→dy L (mid+m-1-t)<dy L t:=fun s t h3 h4 h5 h6=>by
 have k1:=h1.le (s:=s) (t:=t) (by omega) h4 (by omega)
 have k2:=h2.le (s:=mid+m-1-t) (t:=mid+m-1-s) (by omega) (by omega) (by omega)
 omega
structure Rot(L X:List Ev)(a m b mid s0 fin:Nat):Prop where
 t:Turned L X a b
 lo:∀i,i<s0→X[i]?=L[i]?
 v:∀i,s0≤i→i<mid→dy X i=dy L (i+(m-s0))
 u:∀i,mid≤i→i<fin→dy X i=dy L (i-(fin-m))
 hi:∀i,fin≤i→X[i]?=L[i]?
theorem split4(L:List Ev){s0 m fin:Nat}(h1:s0≤m)(h2:m≤fin)(h3:fin≤L.length):∃P U V S,L=P++U++V++S∧P.length=s0∧U.length=m-s0∧V.length=fin-m:=by
 refine⟨L.take s0,(L.take m).drop s0,(L.take fin).drop m,L.drop fin, ?_, ?_, ?_, ?_⟩
 ·have e1:L.take s0++(L.take m).drop s0=L.take m:=by
   conv=>rhs;rw [←List.take_append_drop s0 (L.take m)]
   rw [List.take_take,Nat.min_eq_left h1]
  have e2:L.take m++(L.take fin).drop m=L.take fin:=by
   conv=>rhs;rw [←List.take_append_drop m (L.take fin)]
   rw [List.take_take,Nat.min_eq_left h2]
  rw [e1,e2,List.take_append_drop]
 ·rw [List.length_take];omega
 ·rw [List.length_drop,List.length_take];omega
 ·rw [List.length_drop,List.length_take];omega
theorem rot_of{P U V S:List Ev}{a m b mid s0 fin:Nat}(hs:Sym (P++U++V++S) a m b mid s0 fin)(hP:P.length=s0)(hU:U.length=m-s0)(hV:V.length=fin-m):Rot (P++U++V++S) (P++V++U++S) a m b mid s0 fin:=by
 obtain⟨k1,k2,k3,k4,k5,k6,k7,hvu,_⟩:=hs
 have gL:∀i,(P++U++V++S)[i]?=if i<s0 then P[i]? else if i<m then U[i-s0]? else if i<fin then V[i-m]? else S[i-fin]?:=fun i=>by
  simp only [List.getElem?_append,List.length_append,hP,hU,hV]
  exact jZ75
 have gX:∀i,(P++V++U++S)[i]?=if i<s0 then P[i]? else if i<mid then V[i-s0]? else if i<fin then U[i-mid]? else S[i-fin]?:=fun i=>by
  simp only [List.getElem?_append,List.length_append,hP,hU,hV]
  exact jZ75
 refine⟨⟨by simp only [List.length_append];omega,fun i hi=> ?_, ?_⟩,fun i hi=> ?_,fun i h1 h2=> ?_,fun i h1 h2=> ?_,fun i hi=> ?_⟩
 ·rw [gL,gX]
  rcases hi with h|h
  ·rw [if_pos (by omega),if_pos (by omega)]
  ·rw [if_neg (by omega),if_neg (by omega),if_neg (by omega),if_neg (by omega),if_neg (by omega),if_neg (by omega)]
 ·rw [List.append_assoc P V U,List.append_assoc P U V]
  refine Alike.app (Alike.app (Alike.refl _) (Alike.turn fun u hu v hv=> ?_)) (Alike.refl _)
  obtain⟨i,hi,he⟩:=List.getElem_of_mem hu
  obtain⟨j,hj,he'⟩:=List.getElem_of_mem hv
  have h1:=hvu (s0+i) (m+j) (by omega) (by omega) (by omega) (by omega)
  rwa [Dh (x:=v) (by rw [gL,if_neg (by omega),if_neg (by omega),if_pos (by omega),Nat.add_sub_cancel_left,List.getElem?_eq_getElem hj,he']),Dh (x:=u) (by rw [gL,if_neg (by omega),if_pos (by omega),Nat.add_sub_cancel_left,List.getElem?_eq_getElem hi,he])] at h1
 ·rw [gL,gX,if_pos hi,if_pos hi]
 ·refine Bv ?_
  rw [gL,gX,if_neg (by omega),if_pos h2,if_neg (by omega),if_neg (by omega),if_pos (by omega)]
  congr 1;omega
 ·refine Bv ?_
  rw [gL,gX,if_neg (by omega),if_neg (by omega),if_pos h2,if_neg (by omega),if_pos (by omega)]
  congr 1;omega
 ·rw [gL,gX,if_neg (by omega),if_neg (by omega),if_neg (by omega),if_neg (by omega),if_neg (by omega),if_neg (by omega)]
theorem rot_none{L:List Ev}{a m b mid s0 fin:Nat}(hs:Sym L a m b mid s0 fin)(h:s0=m∨fin=m):Rot L L a m b mid s0 fin:=by
 obtain⟨k1,k2,k3,k4,k5,k6,k7,_,_⟩:=hs
 refine⟨Turned.refl _ _ _,fun _ _=>rfl,fun i h1 h2=> ?_,fun i h1 h2=> ?_,fun _ _=>rfl⟩
 ·exact Bv (by congr 1;omega)
 ·exact Bv (by congr 1;omega)
theorem Rot.left{L X:List Ev}{a m b mid s0 fin:Nat}(h:Rot L X a m b mid s0 fin)(hs:Sym L a m b mid s0 fin)(h1:Upto L a m)(h2:Upto L m b):Upto X a s0∧Upto X s0 mid:=by
 obtain⟨k1,k2,k3,k4,k5,k6,k7,_,_⟩:=hs
 refine⟨(h1.sub (Nat.le_refl _) k2).eq fun t _ ht=>h.lo t ht,fun s t h3 h4 h5=> ?_⟩
 rw [h.v s h3 (by omega),h.v t (by omega) h5]
 exact h2 _ _ (by omega) (by omega) (by omega)
theorem Rot.right{L X:List Ev}{a m b mid s0 fin:Nat}(h:Rot L X a m b mid s0 fin)(hs:Sym L a m b mid s0 fin)(h1:Upto L a m)(h2:Upto L m b):Upto X mid fin∧Upto X fin b:=by
 obtain⟨k1,k2,k3,k4,k5,k6,k7,_,_⟩:=hs
 refine⟨fun s t h3 h4 h5=> ?_,(h2.sub k3 (Nat.le_refl _)).eq fun t ht _=>h.hi t ht⟩
 rw [h.u s h3 (by omega),h.u t (by omega) h5]
 exact h1 _ _ (by omega) (by omega) (by omega)
theorem Rot.cross{L X:List Ev}{a m b mid s0 fin:Nat}(h:Rot L X a m b mid s0 fin)(hs:Sym L a m b mid s0 fin)(h1:Upto L a m)(h2:Upto L m b):∀s t,a≤s→s<mid→mid≤t→t<b→dy X s≤dy X t:=by
 obtain⟨k1,k2,k3,k4,k5,k6,k7,hvu,hab⟩:=hs
 intro s t h3 h4 h5 h6
 rcases Nat.lt_or_ge s s0 with hs|hs
 ·rw [Bv (h.lo s hs)]
  rcases Nat.lt_or_ge t fin with ht|ht
  ·rw [h.u t h5 ht];exact h1.le h3 (by omega) (by omega)
  ·rw [Bv (h.hi t ht)];exact hab s t h3 hs ht h6
 ·rw [h.v s hs h4]
  rcases Nat.lt_or_ge t fin with ht|ht
  ·rw [h.u t h5 ht];have:=hvu (t-(fin-m)) (s+(m-s0)) (by omega) (by omega) (by omega) (by omega);omega
  ·rw [Bv (h.hi t ht)];exact h2.le (by omega) (by omega) h6
theorem Bb{X Y Z:List Ev}{a mid b:Nat}(hab:a≤mid)(hmb:mid≤b)(hb:b≤X.length)(hc:∀s t,a≤s→s<mid→mid≤t→t<b→dy X s≤dy X t)
  (h1:Turned X Y a mid) (h2:Upto Y a mid) (h3:Turned Y Z mid b) (h4:Upto Z mid b):Turned X Z a b∧Upto Z a b:=by
 refine⟨(h1.wide (Nat.le_refl _) hmb).trans (h3.wide hab (Nat.le_refl _)),fun s t h5 h6 h7=> ?_⟩
 have c1:∀s,a≤s→s<mid→∀t,mid≤t→t<b→dy Y s≤dy Y t:=fun s hs1 hs2 t ht1 ht2=>by
  rw [Bv (h1.out t (.inr ht1))]
  exact h1.bound (q:=fun v=>∀t,mid≤t→t<b→v≤dy X t) (by omega) (fun s hs1 hs2 t ht1 ht2=>hc s t hs1 hs2 ht1 ht2) s hs1 hs2 t ht1 ht2
 rcases Nat.lt_or_ge s mid with hs|hs
 ·rw [Bv (h3.out s (.inl hs))]
  rcases Nat.lt_or_ge t mid with ht|ht
  ·rw [Bv (h3.out t (.inl ht))];exact h2 s t h5 h6 ht
  ·exact h3.bound (q:=fun v=>dy Y s≤v) (by have:=h1.len;omega) (fun t ht1 ht2=>c1 s h5 hs t ht1 ht2) t ht h7
 ·exact h4 s t hs h6 h7
theorem halt{p:Prop}(h:Hid p):p:=h.out
def Half(a m b mid lo hi:Nat):Prop:=(mid<m∧lo+b=mid+m∧hi=mid)∨(m≤mid∧lo=a∧hi=m)
theorem rot_call{L:List Ev}{g n cap a m b mid s0 fin:Nat}{w:World}(fv:Value)(hrow:RowE w g n cap L)(hs:Sym L a m b mid s0 fin)(h1:s0<m)(h2:m<fin)(hn:n≤1000000)(hb:b≤n):
  ∃X,Rot L X a m b mid s0 fin∧Calls Tryz.prog 156 #[.slice (some ⟨g,0,none⟩) n cap,.int .i64 s0,.int .i64 m,.int .i64 fin,fv] w fun e w'=>e= .returned (.tuple #[])∧RowE w' g n cap X∧Keeps (fun i=>i=g) w w':=by
 have hl:=hrow.2
 have hf:=hs.fb
 obtain⟨P,U,V,S,rfl,hP,hU,hV⟩:=split4 L (s0:=s0) (m:=m) (fin:=fin) (by omega) (by omega) (by omega)
 refine⟨P++V++U++S,rot_of hs hP hU hV, ?_⟩
 exact rotEv_any P U V S g n cap s0 m fin fv w hrow (fun e=>by subst e;simp at hU;omega) (fun e=>by subst e;simp at hV;omega) hn hP.symm (by omega) (by omega)
end Go.Proofs.YthffbjldpfionaaGreat
