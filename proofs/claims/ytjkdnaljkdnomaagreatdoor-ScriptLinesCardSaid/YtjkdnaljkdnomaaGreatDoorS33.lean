/- Part 33 of what the laws of this seat share: walks of functions, and plain laws. -/
import Derived.Shelf.Abstract
import Derived.Test.YtjkdnaljkdnomaaGreatDoorS8
import Derived.Test.YtjkdnaljkdnomaaGreatDoorS32
set_option maxRecDepth 100000
set_option maxHeartbeats 1600000
namespace Go.Proofs.YtjkdnaljkdnomaaGreatDoor
open Go.RowKit Go.IntWalk
def eachW(T:Nat->Lf->Lf):Nat->List Lf->List Lf
 |_, []=> []
 |i,x::l=>if x.is=1 then T i x::eachW T (i+1) l else x::eachW T i l
def wets(l:List Lf):Nat:=(l.filter λx=>decide (x.is=1)).length
theorem Gd(T:Nat->Lf->Lf)(l:List Lf):∀i,(eachW T i l).length=l.length:=by
 induction l with
 |nil=>intro i;rfl
 |cons x l ih=>intro i;unfold eachW;split<;>simp [ih]
theorem Adk(T:Nat->Lf->Lf)(l:List Lf)(y:Lf):∀i,eachW T i (l++ [y])=eachW T i l++ [if y.is=1 then T (i+wets l) y else y]:=by
 induction l with
 |nil=>intro i;simp [eachW,wets];split<;>rfl
 |cons x l ih=>
  intro i;simp only [List.cons_append,eachW];by_cases hx:x.is=1
  ·rw [if_pos hx,if_pos hx,ih];simp [wets,hx,show i+1+(l.filter λx=>decide (x.is=1)).length=i+((l.filter λx=>decide (x.is=1)).length+1) by omega]
  ·rw [if_neg hx,if_neg hx,ih];simp [wets,hx]
theorem Wq(l:List Lf)(y:Lf):wets (l++ [y])=wets l+(if y.is=1 then 1 else 0):=by
 unfold wets;rw [List.filter_append,List.length_append];congr 1;simp [List.filter];split<;>simp_all
theorem wets_le(l:List Lf):wets l<=l.length:=List.length_filter_le _ _
def midW(T:Nat->Lf->Lf)(l:List Lf)(n:Nat):List Lf:=eachW T 0 (l.take n)++l.drop n
theorem Aba(T:Nat->Lf->Lf)(l:List Lf)(n:Nat):(midW T l n).length=l.length:=by
 unfold midW;rw [List.length_append,Gd,<-List.length_append,List.take_append_drop]
theorem Yr(T:Nat->Lf->Lf){l:List Lf}{n:Nat}{x:Lf}(hx:l[n]?=some x):(midW T l n)[n]?=some x:=by
 have hn:=(List.getElem?_eq_some_iff.1 hx).1;unfold midW;rw [List.getElem?_append_right (by rw [Gd,List.length_take];omega),Gd,List.length_take,List.getElem?_drop,Nat.min_eq_left (Nat.le_of_lt hn),Nat.sub_self,Nat.add_zero];exact hx
theorem Xi(T:Nat->Lf->Lf){l:List Lf}{n:Nat}{x:Lf}(hx:l[n]?=some x):midW T l (n+1)=(midW T l n).set n (if x.is=1 then T (wets (l.take n)) x else x):=by
 have hn:=(List.getElem?_eq_some_iff.1 hx).1;unfold midW;rw [take_snoc' hx,Adk,Nat.zero_add,List.set_append_right _ _ (by rw [Gd,List.length_take];omega),Gd,List.length_take,Nat.min_eq_left (Nat.le_of_lt hn),Nat.sub_self];obtain⟨h1,h2⟩:=List.getElem?_eq_some_iff.1 hx;rw [List.drop_eq_getElem_cons hn,h2,List.set_cons_zero,List.append_assoc];rfl
theorem midW_zero(T:Nat->Lf->Lf)(l:List Lf):midW T l 0=l:=by simp [midW,eachW]
theorem midW_all(T:Nat->Lf->Lf)(l:List Lf):midW T l l.length=eachW T 0 l:=by simp [midW]
def eaFr(P:Nat)(F:Value)(n i:Nat)(u:Nat->Value):Act:={ tmps:= #[(.pointer (some ⟨P,0,none⟩)),F,u 2,u 3,.int .i64 ((n:Nat):Int),.int .i64 ((i:Nat):Int),u 6,u 7,u 8,u 9,u 10,u 11,u 12,u 13,u 14,u 15,u 16,u 17,u 18,u 19,u 20,u 21,u 22,u 23,u 24,u 25,u 26,u 27,u 28,u 29,u 30,u 31,u 32,u 33,u 34],defers:= [] }
structure EaAt(P:Nat)(v:Value)(p:Pd)(T:Nat->Lf->Lf)(I:Nat->World->Prop)(S:Nat->Prop)(w:World)(n i:Nat)(W:World):Prop where
 nl:n<=p.l.length
 ie:i=wets (p.l.take n)
 pd:PadAt W P v { p with l:=midW T p.l n }
 inv:I i W
 kp:Keeps S w W
def eaJ(P:Nat)(v F:Value)(p:Pd)(T:Nat->Lf->Lf)(I:Nat->World->Prop)(S:Nat->Prop)(w:World)(a':Act)(W:World):Prop:=∃(n i:Nat) (u:Nat->Value),a'=eaFr P F n i u/\EaAt P v p T I S w n i W
theorem eaJ.mk{P:Nat}{v F:Value}{p:Pd}{T:Nat->Lf->Lf}{I:Nat->World->Prop}{S:Nat->Prop}{w:World}{a':Act}{W:World}(n i:Nat)(h:a'=eaFr P F n i (λi=>a'.tmps.getD i undef))(hi:EaAt P v p T I S w n i W):eaJ P v F p T I S w a' W:=⟨n,i,_,h,hi⟩
theorem Ab4(P:Nat)(v:Value)(p:Pd)(fid:FuncId)(caps:Array Value)(T:Nat->Lf->Lf)(I:Nat->World->Prop)(S:Nat->Prop)(w:World)(hE:Enters Tryz.prog fid)
  (hcl:∀(g n:Nat) (x:Lf) (W:World),v.ownBlock=some g->p.l[n]?=some x->x.is=1->PadAt W P v { p with l:=midW T p.l n }->I (wets (p.l.take n)) W->Calls Tryz.prog fid (#[.int .i64 (wets (p.l.take n)),.pointer (some ⟨g,n*49,none⟩)]++caps) W λe W'=>
   e= .returned (.tuple #[])/\PadAt W' P v { p with l:=midW T p.l (n+1) }/\I (wets (p.l.take n)+1) W'/\Keeps S W W')
  (h:PadAt w P v p) (hI:I 0 w) (_:∀i W W',I i W->K0 W W'->I i W'):
  Calls Tryz.prog 80 #[(.pointer (some ⟨P,0,none⟩)),.func (.func fid) #[] caps] w λe w'=>e= .returned (.tuple #[])/\PadAt w' P v { p with l:=eachW T 0 p.l }/\I (wets p.l) w'/\Keeps S w w':=by
 rename_i hIk;obtain⟨m,hm⟩:=eX p.l.length;obtain⟨ad,cap,rfl,hcap⟩:=h.shape;have hm2:=h.n;rw [hm] at hm2 hcap;unfold Enters at hE;obtain⟨H,HI,Hcl⟩:=hid3 h hI hcl;clear hcl hI h hIk;have Hm:=Lib.hid hm;clear hm;go_enter Tryz.func80,Tryz.ntmps80;go_wp2_with fail;refine Dl 0 (eaJ P (.slice ad p.l.length cap) (.func (.func fid) #[] caps) p T I S w) (λa' _=>m-Eg 4 a') rfl ?_ ?_
 ·rintro a' W ⟨n,i,u,rfl,hat⟩;unfold eaFr;have hn:=hat.nl;have hpd:=hat.pd;have hie:=hat.ie;have c0:W.cell? ⟨P,0,none⟩=some (.slice ad m cap):=by have:=Aa hpd.blk 0;rw [Hm.o] at this;exact this
  rw [Hm.o] at hn;by_cases hnm:n<m
  ·have hnI:(n:Int)<(m:Int):=j8;obtain⟨x,hx⟩:=Ar (show n<p.l.length by rw [Hm.o];exact hnm)
   have hown:∃g,ad=some ⟨g,0,none⟩:=by
    rcases hpd.row.2 with⟨e,e2⟩|⟨g',cap',cur,hv,_⟩
    ·have:=(Value.slice.inj e).2.1;rw [Hm.o] at this;omega
    ·exact⟨g',(Value.slice.inj hv).1⟩
   obtain⟨g,rfl⟩:=hown;have hpd2:PadAt W P (.slice (some ⟨g,0,none⟩) ({ p with l:=midW T p.l n }:Pd).l.length cap) { p with l:=midW T p.l n }:=by simp only [Aba];exact hpd
   have cx:W.cell? ⟨g,n*49+0,none⟩=some (.int .i64 x.is):=PadAt.Mc hpd2 (Yr T hx) 0 _ rfl;rw [Nat.add_zero] at cx;obtain⟨xi,hxi⟩:=eX x.is;rw [hxi] at cx;by_cases h1:xi=1
   ·have h1b:(xi==1)=true:=by rw [h1];rfl
    have hc:=Hcl.o g n x W rfl hx (by rw [hxi];exact h1) hpd (by rw [<-hie];exact hat.inv);rw [<-hie] at hc;have hie1:i+1=wets (p.l.take (n+1)):=by rw [hie,take_snoc' hx,Wq,if_pos (by rw [hxi];exact h1)]
    have hkp:=hat.kp;have hin:i<=n:=by rw [hie];exact Nat.le_trans (wets_le _) j0H
    clear hie;clear hat hpd hpd2 hx hxi;obtain⟨Hc,Hie1,Hkp⟩:=hid3 hc hie1 hkp;clear hkp hie1 hc;go_wp2_with fail
    go_at_fn fid
    refine Hc.o.mono ?_;rintro e w2 ⟨rfl,hp2,hi2,hk2⟩;have hstep:EaAt P (.slice (some ⟨g,0,none⟩) p.l.length cap) p T I S w (n+1) (i+1) w2:=⟨by rw [Hm.o];omega,Hie1.o,hp2,hi2,Hkp.o.trans (hk2.mono λ_ _ h=> .inl h)⟩;clear hp2 hi2 hk2;have Hstep:=Lib.hid hstep;clear hstep;go_wp2;go_step3;go_wp2;exact Av ⟨eaJ.mk (n+1) (i+1) rfl Hstep.o,by simp [Eg];omega⟩
   ·have h1b:(xi==1)=false:=beq_eq_false_iff_ne.2 h1
    have hstep:EaAt P (.slice (some ⟨g,0,none⟩) p.l.length cap) p T I S w (n+1) i W:=by
     refine⟨by rw [Hm.o];omega, ?_, ?_,hat.inv,hat.kp⟩
     ·rw [hie,take_snoc' hx,Wq,if_neg (by rw [hxi];exact h1)];rfl
     ·rw [Xi T hx,if_neg (by rw [hxi];exact h1)]
      have:(midW T p.l n).set n x=midW T p.l n:=by
       have:=Yr T hx;obtain⟨q1,q2⟩:=List.getElem?_eq_some_iff.1 this;rw [<-q2];exact List.set_getElem_self q1
      rw [this];exact hpd
    clear hie;clear hat hpd hpd2 hx hxi;have Hstep:=Lib.hid hstep;clear hstep;go_wp2;go_step3;go_wp2;exact Av ⟨eaJ.mk (n+1) i rfl Hstep.o,by simp [Eg];omega⟩
  ·obtain rfl:n=m:=by omega
   have hend:=hat.pd;have hin:=hat.inv;have hk:=hat.kp;rw [hie] at hin;rw [<-Hm.o,midW_all] at hend;rw [<-Hm.o,List.take_length] at hin;clear hie;clear hat hpd;obtain⟨Hend,Hin,Hk⟩:=hid3 hend hin hk;clear hk hin hend;go_wp2;refine Gu ?_;go_end0;exact⟨rfl,Hend.o,Hin.o,Hk.o⟩
 ·refine jM ?_;intro Hfirst;go_wp2_with fail;go_step3;rename_i hK;refine jN ?_;exact eaJ.mk 0 0 rfl ⟨Nat.zero_le _,rfl,by rw [midW_zero];exact H.o,HI.o,Keeps.refl _ _⟩
def dryL(x:Lf):Lf:=if x.is=1 then⟨2,x.b⟩ else x
theorem eachW_dry(l:List Lf):∀i,eachW (λ_ x=>⟨2,x.b⟩) i l=l.map dryL:=by
 induction l with
 |nil=>intro i;rfl
 |cons x l ih=>intro i;unfold eachW;simp only [List.map_cons,dryL];split<;>simp [ih]
theorem PadAt.setIs{w:World}{P g cap k:Nat}{p:Pd}(h:PadAt w P (.slice (some ⟨g,0,none⟩) p.l.length cap) p){x:Lf}(hx:p.l[k]?=some x)(z:Int):
  PadAt (w.setCell ⟨g,k*49,none⟩ (.int .i64 z)) P (.slice (some ⟨g,0,none⟩) p.l.length cap) { p with l:=p.l.set k ⟨z,x.b⟩ }/\w.frozen? ⟨g,k*49,none⟩=false:=by
 have hk:=(List.getElem?_eq_some_iff.1 hx).1;obtain⟨cur,h1,h2,h3,h4⟩:=h.setLeaf hk ⟨z,x.b⟩
 have hw:w.setCell ⟨g,k*49,none⟩ (.int .i64 z)=w.setRow g (putAt cur.toList (k*49) (Lf.cells ⟨z,x.b⟩)).toArray:=by
  rw [setCell_eq_setRow w g (k*49) cur _ _ _ h1]
  congr 1
  apply Array.toList_inj.1
  rw [Array.toList_setIfInBounds,List.toList_toArray]
  have hcs:∀j u,(b48 x.b)[j]?=some u->cur.toList[k*49+1+j]?=some u:=λj u hj=>by
   have:=h.Mc hx (1+j) u (by rw [Nat.add_comm];exact hj);rw [Aa h1] at this;rw [<-Nat.add_assoc] at this
   simpa using this
  rw [Lf.Aj] at h2
  apply List.ext_getElem?
  intro i;unfold putAt;rw [Lf.Aj];by_cases hi:i<k*49
  ·rw [List.getElem?_set_ne j6,List.append_assoc,List.getElem?_append_left ji,List.getElem?_take_of_lt hi]
  ·by_cases hi2:i=k*49
   ·subst hi2;rw [List.getElem?_set_self ji,List.append_assoc,List.getElem?_append_right ji,List.length_take,Nat.min_eq_left ji,Nat.sub_self];rfl
   ·rw [List.getElem?_set_ne j6];by_cases hi3:i<k*49+49
    ·obtain⟨j,rfl⟩:∃j,i=k*49+1+j:=⟨i-(k*49+1),by omega⟩;rw [List.append_assoc,List.getElem?_append_right ji,List.length_take,Nat.min_eq_left ji,show k*49+1+j-k*49=j+1 by omega,List.getElem?_append_left (by rw [Lf.Aj];omega)];show _=(b48 x.b)[j]?;obtain⟨u,hu⟩:∃u,(b48 x.b)[j]?=some u:=⟨_,List.getElem?_eq_getElem (by rw [Cw];omega)⟩;rw [hu,hcs j u hu]
    ·rw [List.getElem?_append_right (by simp [Lf.Aj];omega),List.length_append,List.length_take,Nat.min_eq_left ji,Lf.Aj,List.getElem?_drop]
     congr 1
     omega
 rw [hw];exact⟨h3,Ab h1 _⟩
theorem Ab5(P:Nat)(v:Value)(p:Pd)(g n:Nat)(i:Int)(x:Lf)(w:World)(hv:v.ownBlock=some g)(hx:p.l[n]?=some x)(h:PadAt w P v p):
  Calls Tryz.prog 81 (#[.int .i64 i,.pointer (some ⟨g,n*49,none⟩)]++ #[]) w λe w'=>e= .returned (.tuple #[])/\PadAt w' P v { p with l:=p.l.set n ⟨2,x.b⟩ }/\Keeps (λk=>k=g) w w':=by
 obtain⟨ad,cap,rfl,_⟩:=h.shape
 have hown:ad=some ⟨g,0,none⟩:=by
  rcases h.row.2 with⟨e,e2⟩|⟨g',cap',cur,hv',_⟩
  ·rw [e] at hv;simp [Value.ownBlock] at hv
  ·have:=(Value.slice.inj hv').1;subst this;simp only [Value.ownBlock,Option.some.injEq] at hv;rw [hv]
 subst hown;obtain⟨hset,f0⟩:=h.setIs hx 2;have c0:w.cell? ⟨g,n*49+0,none⟩=some (.int .i64 x.is):=h.Mc hx 0 _ rfl;rw [Nat.add_zero] at c0;have hk:Keeps (λk=>k=g) w (w.setCell ⟨g,n*49,none⟩ (.int .i64 2)):=Keeps.setCell _ _ _ rfl;show Calls Tryz.prog 81 #[.int .i64 i,.pointer (some ⟨g,n*49,none⟩)] w _;clear h;obtain⟨Hset,Hk⟩:=hid2 hset hk;clear hk hset hx;go_enter Tryz.func81,Tryz.ntmps81;go_wp2;go_end0;exact⟨rfl,Hset.o,Hk.o⟩
theorem Ud(P:Nat)(v:Value)(p:Pd)(w:World)(h:PadAt w P v p)(hf:p.fl+1<=1000000)(hd:p.dn=false)(hs:¬p.sn=1):
  Calls Tryz.prog 44 #[(.pointer (some ⟨P,0,none⟩))] w λe w'=>e= .returned (.int .i64 0)/\Aa1 P v { Dm p with l:=p.l.map dryL } w w':=by
 have hr0:Ua p=0:=by unfold Ua;rw [hd];rfl
 have hr:=Pt P v p w h;rw [hr0] at hr;have hst:=Nn P v p w h hf;rw [decide_eq_false hs] at hst;have hl:(Dm p).l=p.l:=by unfold Dm sinkR;split<;>rfl
 have he:=fun(w1:World) (h1:PadAt w1 P v (Dm p))=>Ab4 P v (Dm p) 81 #[] (λ_ x=>⟨2,x.b⟩) (λ_ _=>True) (λk=>v.ownBlock=some k) w1 (enters_of Tryz.func81 j9 rfl)
  (λg n x W hv hx hx1 hp _=>by
   have:=Ab5 P v _ g n (wets ((Dm p).l.take n)) x W hv (Yr (λ_ x=>⟨2,x.b⟩) hx) hp;refine this.mono ?_;rintro e W' ⟨rfl,h2,h3⟩;refine⟨rfl, ?_,trivial,h3.mono λk _ e=>by rw [e];exact hv⟩
   rw [Xi _ hx,if_pos hx1];exact h2) h1 trivial (λ_ _ _ _ _=>trivial)
 simp only [eachW_dry,hl] at he;clear h;obtain⟨Hr,Hst,He⟩:=hid3 hr hst he;clear he hst hr;go_enter Tryz.func44,Tryz.ntmps44
 go_wp2_with (first|(go_at_call 78;(with_reducible refine Hr.o.mono ?_);rintro e w1 ⟨rfl,hw1⟩;subst w1)|(go_at_call 79;(with_reducible refine Hst.o.mono ?_);rintro e w2 ⟨rfl,hp2,hk2⟩;have Hp2:=Lib.hid hp2;have Hk2:=Lib.hid hk2;clear hp2 hk2)|(go_at_call 80;(with_reducible refine(He.o _ Hp2.o).mono ?_);rintro e w3 ⟨rfl,hp3,_,hk3⟩;have Hp3:=Lib.hid hp3;have Hk3:=Lib.hid hk3;clear hp3 hk3))
 go_ret;exact⟨rfl,Hp3.o,(Hk2.o.mono λk _ e=> .inl e).trans (Hk3.o.mono λk _ e=> .inl (.inr e))⟩
theorem Adb:(Tryz.prog.info? 165).map (λi=>(i.zero,i.size,i.bytes))=some (some (.agg (Lf.cells lf0).toArray),49,56):=by kernel_rfl
theorem made_flat{α:Type}{f:α->List Value}(x:α)(n:Nat)(hs:0<(f x).length):(madeCells (f x).toArray (n*(f x).length)).toList=(List.replicate n x).flatMap f:=by
 obtain⟨s,hs'⟩:=eX ((f x).length)
 have hl:((List.replicate n x).flatMap f).length=n*s:=by
  induction n with
  |zero=>simp
  |succ n ih=>rw [List.replicate_succ,List.flatMap_cons,List.length_append,ih,hs',Nat.succ_mul];omega
 rw [hs'] at hs⊢
 apply List.ext_getElem?
 intro i;by_cases hi:i<n*s
 ·have h1:((List.replicate n x).flatMap f)[i]?=(f x)[i % s]?:=by
   clear hl
   induction n generalizing i with
   |zero=>simp at hi
   |succ n ih=>
    rw [List.replicate_succ,List.flatMap_cons];by_cases hi2:i<s
    ·rw [List.getElem?_append_left (by rw [hs'];exact hi2),Nat.mod_eq_of_lt hi2]
    ·rw [List.getElem?_append_right (by rw [hs'];omega),hs',ih _ (by rw [Nat.succ_mul] at hi;omega)];rw [Nat.mod_eq_sub_mod (show i>=s by omega)]
  have hm:i % s<(f x).length:=by rw [hs'];exact Nat.mod_lt _ hs
  rw [h1,List.getElem?_eq_getElem hm];simp [madeCells,hi,hs',List.getElem?_eq_getElem hm]
 ·rw [List.getElem?_eq_none (by simp [madeCells];omega),List.getElem?_eq_none j6]
theorem Abe(n:Nat)(w:World)(h0:0<n)(h1:n<20000):Calls Tryz.prog 10 #[.int .i64 n] w λe w'=>∃g,e= .returned (.pointer (some ⟨w.heap.size+1,0,none⟩))/\PadAt w' (w.heap.size+1) (.slice (some ⟨g,0,none⟩) n n) ⟨List.replicate n lf0,0,0,false⟩/\K0 w w'/\g=w.heap.size:=by
 obtain⟨i0,hi,hi0,hi1,hi2⟩:=info_parts Adb;have hmk:=fun(W:World)=>run_makeSlice (P:=Tryz.prog) W 94 165 i0 (.agg (Lf.cells lf0).toArray) Tryz.underlying94 hi hi0 .i64 .i64 (n:Int) (n:Int) j6 j6 (by rw [hi1];omega) (by rw [hi2];omega) j6;simp only [Int.toNat_natCast,hi1] at hmk;have hmf:=made_flat (f:=Lf.cells) lf0 n (by rw [Lf.Aj];decide);rw [Lf.Aj] at hmf;obtain⟨Z,hZ⟩:=eY (madeCells (Value.agg (Lf.cells lf0).toArray).cells (n*49));rw [<-hZ] at hmk;have hZl:Z.toList=(List.replicate n lf0).flatMap Lf.cells:=by rw [hZ];exact hmf
 clear hmf hZ;have HZl:=Lib.hid hZl;clear hZl hi hi0 hi1 hi2;go_enter Tryz.func10,Tryz.ntmps10;go_wp2;go_ret;have hll:=Cs Lf.Aj (List.replicate n lf0)
 have hb1:((w.alloc (.cells Z 165)).alloc (.cells #[.slice (some ⟨w.heap.size,0,none⟩) n n,.int .i64 0,.int .i64 0,.bool false] 96)).heap[w.heap.size+1]?=some (.cells #[.slice (some ⟨w.heap.size,0,none⟩) n n,.int .i64 0,.int .i64 0,.bool false] 96 (0,0)):=by
  have:=heap_alloc_new (w.alloc (.cells Z 165)) (.cells #[.slice (some ⟨w.heap.size,0,none⟩) n n,.int .i64 0,.int .i64 0,.bool false] 96)
  simpa using this
 have hk1:K0 (w.alloc (.cells Z 165)) ((w.alloc (.cells Z 165)).alloc (.cells #[.slice (some ⟨w.heap.size,0,none⟩) n n,.int .i64 0,.int .i64 0,.bool false] 96)):=Keeps.alloc _ _;refine⟨w.heap.size,rfl,⟨hb1, ?_,by simp;omega,by simp,by simp⟩,Keeps.nt (Keeps.alloc _ _) (Keeps.alloc _ _),rfl⟩;simp only [List.length_replicate];refine hk1.row ⟨by rw [hll,List.length_replicate],.inr ⟨_,n,Z,rfl,Nat.zero_le _,heap_alloc_new w _,Nat.le_refl _,by unfold maxLen;omega, ?_, ?_⟩⟩ (by simp)
 ·rw [<-Array.length_toList,HZl.o,hll,List.length_replicate]
 ·rw [HZl.o,List.take_of_length_le (by rw [hll,List.length_replicate];exact Nat.le_refl _)]
end Go.Proofs.YtjkdnaljkdnomaaGreatDoor
