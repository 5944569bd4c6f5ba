/- Part 23 of what the laws of this seat share: walks of functions, and plain laws. -/
import Derived.Test.YtjkdnaljkdnomaaGreatDoorS17
import Derived.Test.YtjkdnaljkdnomaaGreatDoorS20
set_option maxRecDepth 100000
set_option maxHeartbeats 3200000
namespace Go.Proofs.YtjkdnaljkdnomaaGreatDoor
open Go.RowKit
theorem Yz(B:Nat)(q:Ev->Bool)(ad:Option Addr)(cap:Nat)(L:List Ev)(w:World)(hr:Reads w 5 (.slice ad L.length cap) L.length (L.flatMap Ev.cells))(hl:L.length<=1000000)
  (hq:∀W (x:Ev),K0 w W->Calls Tryz.prog 135 #[x.agg,(.pointer (some ⟨B,0,none⟩))] W λe w'=>e= .returned (.bool (q x))/\K0 W w'):
  Calls Tryz.prog 146 #[.slice ad L.length cap,.func (.func 135) #[] #[(.pointer (some ⟨B,0,none⟩))]] w λe w'=>e= .returned (.int .i64 (retI (L.findIdx? q)))/\K0 w w':=by
 obtain⟨n,hn⟩:=eX L.length;obtain⟨r,hrr⟩:=eX (retI (L.findIdx? q));rw [hrr];rw [hn] at hr hl⊢;obtain⟨Hr,Hq,Hrr,Hn⟩:=hid4 hr hq hrr hn;clear hn hrr hq hr;go_enter Tryz.func146,Tryz.ntmps146;go_wp2_with fail
 go_loopw [8] (λc wx=>∃j:Nat,j<=n/\c= .int .i64 (j:Nat)/\(∀i y,i<j->L[i]?=some y->q y=false)/\K0 w wx) (λc _=>n-(intOf c).toNat)
 case atStart=>exact⟨0,Nat.zero_le _,rfl,λi y h=>absurd h (Nat.not_lt_zero _),Keeps.refl _ _⟩
 case round=>
  obtain⟨j,hj,rfl,hno,hkx⟩:=hrel;by_cases hjl:j<n
  ·obtain⟨x,hx⟩:=Ar (L:=L) (k:=j) (by rw [Hn.o];exact hjl);have hjI:(j:Int)<(n:Int):=j8;obtain⟨g,o,c,he,hc⟩:=(Hr.o.keeps hkx (by simp)).elem Ev.Aj hx j7;simp only [Value.slice.injEq,true_and] at he;obtain⟨rfl,rfl⟩:=he;have hcall:=Hq.o wr x hkx;obtain⟨qx,hqx⟩:=eX (q x);rw [hqx] at hcall;obtain⟨ki,da,tr,am,re⟩:=x;refine j3v ?_;intro x0 x1 x2 x3 x4;simp only [Ev.agg] at hcall;clear hc;rcases qx with _|_
   ·have hno':∀i y,i<j+1->L[i]?=some y->q y=false:=λi y hi hy=>by
     exact j3w
    clear hno;have Hno':=Lib.hid hno';clear hno' hx hqx;obtain⟨Hkx,Hcall⟩:=hid2 hkx hcall;clear hcall hkx
    go_wp2_with (go_at_call 135;((with_reducible refine Hcall.o.mono ?_);rintro e w1 ⟨rfl,hk1⟩;have Hk1:=Lib.hid hk1;clear hk1))
    exact j3x
   ·have hf:=Xm hx hno hqx;clear hno hx hqx;obtain⟨Hkx,Hcall,Hf⟩:=hid3 hkx hcall hf;clear hf hcall hkx
    go_wp2_with (go_at_call 135;((with_reducible refine Hcall.o.mono ?_);rintro e w1 ⟨rfl,hk1⟩;have Hk1:=Lib.hid hk1;clear hk1))
    go_ret;exact⟨by rw [<-Hrr.o,Hf.o];rfl,Keeps.nt Hkx.o Hk1.o⟩
  ·exact j3y
theorem Adr(B:Nat)(q:Ev->Bool)(v:Value)(L:List Ev)(w:World)(hr:w.ownsRow 0 186 5 v L.length (L.flatMap Ev.cells))(hl:L.length<=1000000)
  (hq:∀W (x:Ev),Keeps (λi=>v.ownBlock=some i) w W->Calls Tryz.prog 135 #[x.agg,(.pointer (some ⟨B,0,none⟩))] W λe w'=>e= .returned (.bool (q x))/\K0 W w'):
  Calls Tryz.prog 134 #[v,.func (.func 135) #[] #[(.pointer (some ⟨B,0,none⟩))]] w λe w'=>∃v',e= .returned v'/\w'.ownsRow 0 186 5 v' (L.filter (λx=> !q x)).length ((L.filter (λx=> !q x)).flatMap Ev.cells)/\Keeps (λi=>v.ownBlock=some i) w w'/\(∀g,v'.ownBlock=some g->v.ownBlock=some g):=by
 obtain⟨ad,cap,rfl,hcap,hcm⟩:=Ae hr;have hidx:=Yz B q ad cap L w (Reads.Bg hr) hl (λW x hW=>hq W x (hW.mono (by simp)));obtain⟨n,hn⟩:=eX L.length;rcases hf:L.findIdx? q with _|k
 ·have hfil:=find_none hf;rw [hf] at hidx;simp only [retI] at hidx;rw [hfil];rw [hn] at hidx hr hl⊢;obtain⟨Hidx,Hr⟩:=hid2 hidx hr;clear hr hidx hf hfil;obtain⟨Hn,Hq⟩:=hid2 hn hq;clear hq hn;go_enter Tryz.func134,Tryz.ntmps134
  go_wp2_with (go_at_call 146;((with_reducible refine Hidx.o.mono ?_);rintro e w1 ⟨rfl,hk1⟩;have Hk1:=Lib.hid hk1;clear hk1))
  go_ret;exact⟨_,rfl,Hr.o.of_keeps Hk1.o,Hk1.o.mono (by simp),λ_ h=>h⟩
 ·have hstart:=Ff.start hn hf;have hk:k<n:=by have:=(List.findIdx?_eq_some_iff_getElem.1 hf).1;omega
  rw [hf] at hidx;simp only [retI] at hidx;rw [hn] at hidx hr hl hcap⊢;obtain⟨g,c2,he,hg⟩:=Ey hr j6;simp only [Value.slice.injEq,true_and] at he;obtain⟨rfl,rfl⟩:=he;simp only [Value.ownBlock,Option.some.injEq] at hq⊢;have hne:((k:Int)== -1)=false:=beq_eq_false_iff_ne.2 j6;obtain⟨Hidx,Hr⟩:=hid2 hidx hr;clear hr hidx hf;obtain⟨Hn,Hq,Hstart⟩:=hid3 hn hq hstart;clear hstart hq hn;go_enter Tryz.func134,Tryz.ntmps134
  go_wp2_with (go_at_call 146;((with_reducible refine Hidx.o.mono ?_);rintro e w1 ⟨rfl,hk1⟩;have Hk1:=Lib.hid hk1;clear hk1))
  go_loopw [5,6] (λa c wx=>∃(i j:Nat) (X:List Ev),a= .int .i64 (i:Nat)/\c= .int .i64 (j:Nat)/\Ff q L X n i j/\wx.ownsRow 0 186 5 (.slice (some ⟨g,0,none⟩) n cap) n (X.flatMap Ev.cells)/\Keeps (λi=>g=i) w wx) (λ_ c _=>n-(intOf c).toNat)
  case atStart=>exact⟨k,k+1,L,rfl,by go_num,Hstart.o,Hr.o.of_keeps Hk1.o,Hk1.o.mono (by simp)⟩
  case round=>
   obtain⟨i,j,X,rfl,rfl,hst,hrow,hkx⟩:=hrel;have hij:=hst.lt;have hjn:=hst.le;by_cases hjl:j<n
   ·have hjI:(j:Int)<(n:Int):=j8;have hiI:(i:Int)<(n:Int):=j8;obtain⟨x,hx⟩:=Ar (L:=X) (k:=j) (by rw [hst.len];exact hjl);have hrowX:wr.ownsRow 0 186 5 (.slice (some ⟨g,0,none⟩) X.length cap) X.length (X.flatMap Ev.cells):=by rw [hst.len];exact hrow
    obtain⟨qx,hqx⟩:=eX (q x);have hcall:∀W,K0 wr W->Calls Tryz.prog 135 #[x.agg,(.pointer (some ⟨B,0,none⟩))] W λe w'=>e= .returned (.bool (q x))/\K0 W w':=λW hW=>Hq.o W x (hkx.trans (hW.mono (by simp)));rw [hqx] at hcall;obtain⟨ki,da,tr,am,re⟩:=x;have x0:wr.cell? ⟨g,j*5,none⟩=some (.int .i64 ki):=Bw Ev.Aj hrowX hx 0 j7;have x1:wr.cell? ⟨g,j*5+1,none⟩=some (.int .i64 da):=Bw Ev.Aj hrowX hx 1 j7;have x2:wr.cell? ⟨g,j*5+2,none⟩=some (.int .i64 tr):=Bw Ev.Aj hrowX hx 2 j7;have x3:wr.cell? ⟨g,j*5+3,none⟩=some (.int .i64 am):=Bw Ev.Aj hrowX hx 3 j7;have x4:wr.cell? ⟨g,j*5+4,none⟩=some (.int .i64 re):=Bw Ev.Aj hrowX hx 4 j7;simp only [Ev.agg] at hcall;clear hrowX;rcases qx with _|_
    ·have hst':=hst.keep hx hqx;obtain⟨Hst,Hst'⟩:=hid2 hst hst';clear hst' hst hx hqx;obtain⟨Hcall,Hrow,Hkx⟩:=hid3 hcall hrow hkx;clear hkx hrow hcall;go_wp2_with fail;refine(Hcall.o _ jg).mono ?_;rintro e w2 ⟨rfl,hk2⟩;have hk3:=Keeps.nt j3Z hk2;have hrow3:=Hrow.o.of_keeps hk3;have hrowX:w2.ownsRow 0 186 5 (.slice (some ⟨g,0,none⟩) X.length cap) X.length (X.flatMap Ev.cells):=by rw [Hst.o.len];exact hrow3
     obtain⟨⟨yk,yd,yt,ya,yr⟩,hy⟩:=Ar (L:=X) (k:=i) (by rw [Hst.o.len];omega);have y0:w2.cell? ⟨g,i*5,none⟩=some (.int .i64 yk):=Bw Ev.Aj hrowX hy 0 j7;have y1:w2.cell? ⟨g,i*5+1,none⟩=some (.int .i64 yd):=Bw Ev.Aj hrowX hy 1 j7;have y2:w2.cell? ⟨g,i*5+2,none⟩=some (.int .i64 yt):=Bw Ev.Aj hrowX hy 2 j7;have y3:w2.cell? ⟨g,i*5+3,none⟩=some (.int .i64 ya):=Bw Ev.Aj hrowX hy 3 j7;have y4:w2.cell? ⟨g,i*5+4,none⟩=some (.int .i64 yr):=Bw Ev.Aj hrowX hy 4 j7
     have hfr:∀o,w2.frozen? ⟨g,o,none⟩=false:=λo=>by
      rcases hrow3.2 with⟨h0,_⟩|⟨g1,cap1,cur,h0,_,hh,_⟩
      ·simp at h0
      ·exact j3l
     have f0:=hfr (i*5);have f1:=hfr (i*5+1);have f2:=hfr (i*5+2);have f3:=hfr (i*5+3);have f4:=hfr (i*5+4);have v0:w2.heap[wr.heap.size]?=some (.cells #[.int .i64 ki,.int .i64 da,.int .i64 tr,.int .i64 am,.int .i64 re] 186 (0,0)):=Nc hk2 (by simp);have vc0:=Aa v0 0;have vc1:=Aa v0 1;have vc2:=Aa v0 2;have vc3:=Aa v0 3;have vc4:=Aa v0 4;have hnew:=Px hrow3 Hst.o.len (k:=i) j6 ki da tr am re;clear hrowX hfr;have Hk3:=Lib.hid hk3;clear hk3 hrow3 hy v0;have Hnew:=Lib.hid hnew;clear hnew;clear hk2;go_wp2_with fail;go_roundw
     case rel=>exact⟨i+1,j+1,X.set i ⟨ki,da,tr,am,re⟩,by go_num,by go_num,Hst'.o,Hnew.o,Hkx.o.trans (((Hk3.o.mono (by simp)).trans ((Np w2 g _ _ _ _ _ _ _ _ _ _).mono λ_ _ h=> .inl h)).mono λ_ _ h=> .inl h)⟩
     case measure=>simp [intOf];omega
    ·have hst':=hst.skip hx hqx;obtain⟨Hst,Hst'⟩:=hid2 hst hst';clear hst' hst hx hqx;obtain⟨Hcall,Hrow,Hkx⟩:=hid3 hcall hrow hkx;clear hkx hrow hcall;go_wp2_with fail;refine(Hcall.o _ jg).mono ?_;rintro e w2 ⟨rfl,hk2⟩;have hk3:=Keeps.nt j3Z hk2;have Hk3:=Lib.hid hk3;clear hk3;clear hk2;go_wp2_with fail;go_roundw
     case rel=>exact⟨i,j+1,X,rfl,by go_num,Hst'.o,Hrow.o.of_keeps Hk3.o,Hkx.o.trans (Hk3.o.mono (by simp))⟩
     case measure=>simp [intOf];omega
   ·obtain rfl:j=n:=by omega
    have hin:i<j:=hij;have hcl:∀ty,∃vs:List Value,(Builtin.clear_ #[170] ty #[.slice (some ⟨g,i*5,none⟩) (j-i) (cap-i)]).run Tryz.prog wr= .ok (.tuple #[]) (wr.setCells g (i*5) vs):=λty=>Yh wr ty g i j (cap-i) cap _ hrow hin;have hiI:(i:Int)<=(j:Int):=j8;obtain⟨vs,hcl1⟩:=hcl 0;have hci:¬cap=i:=j8;have hiC:(i:Int)<=(cap:Int):=j8;have hdone:=hst.done Hn.o;have hrd:=Zr hrow hst.len hst.cnt vs;rw [hdone] at hrd;have hlen:(L.filter (λx=> !q x)).length=i:=by rw [<-hdone,List.length_take,hst.len];omega
    clear hcl;obtain⟨Hst,Hrow,Hkx⟩:=hid3 hst hrow hkx;clear hkx hrow hst hdone;obtain⟨Hrd,Hlen⟩:=hid2 hrd hlen;clear hlen hrd;go_wp2_with fail;go_ret;exact⟨_,rfl,by rw [Hlen.o];exact Hrd.o,Hkx.o.trans ((Md g vs (i*5) wr).mono λ_ _ h=> .inl h.symm),λg' hg'=>by simpa [Value.ownBlock] using hg'⟩
inductive Want where
 |all
def Want.p:Want->Ev->Bool
 | .all,_=>true
def Want.fv(_:Nat):Want->Value
 | .all=> .func (.func 110) #[] #[]
def Want.at(_:Nat)(_:World):Want->Prop
 | .all=>True
theorem Want.at.keep{B:Nat}{w w':World}{q:Want}(h:q.at B w){S:Nat->Prop}(_:Keeps S w w')(_:B<w.heap.size->¬S B):q.at B w':=by
 cases q with
 |all=>trivial
theorem some1_any(q:Want)(B Bd:Nat)(x:Ev)(w:World)(hB:w.cell? ⟨B,0,none⟩=some (q.fv Bd))(hd:q.at Bd w):
  Calls Tryz.prog 135 #[x.agg,(.pointer (some ⟨B,0,none⟩))] w λe w'=>e= .returned (.bool (!q.p x))/\K0 w w':=by
 obtain⟨ki,da,tr,am,re⟩:=x;simp only [Ev.agg];have hBl:=Ai hB
 cases q with
 |all=>
  simp only [Want.fv] at hB;clear hd;go_enter Tryz.func135,Tryz.ntmps135;go_wp2;go_ret;exact⟨rfl,by(repeat (first|exact Keeps.refl _ _|exact Keeps.alloc _ _|exact Keeps.drew _|exact Keeps.drewN _ _|refine Keeps.Ao ?_|refine Keeps.Al ?_|refine Keeps.Af ?_))⟩
def Ld(w:World)(M:List Ev)(e:Ending)(w':World):Prop:=∃v',e= .returned v'/\Reads w' 5 v' M.length (M.flatMap Ev.cells)/\K0 w w'/\(∀g,v'.ownBlock=some g->w.heap.size<=g)
theorem Ac3(q:Want)(B Bd:Nat)(t:Tm)(vt v:Value)(L:List Ev)(w:World)(h:DL w B t vt L v)(hl:L.length<=1000000)(hd:q.at Bd w)(hdl:Bd<w.heap.size):Calls Tryz.prog 109 #[(.pointer (some ⟨B,0,none⟩)),q.fv Bd] w (Ld w (L.filter q.p)):=by
 obtain⟨hb,_,hr⟩:=h;have b7:=Aa hb 7;have hbl:=lt_of_block hb;have Hdl:=Lib.hid hdl;clear hdl
 cases q with
 |all=>
  simp only [Want.fv];obtain⟨Hd,Hr⟩:=hid2 hd hr;clear hr hd hb;go_enter Tryz.func109,Tryz.ntmps109;go_wp2_with fail;refine(Mj _ v L.length _ (Reads.Bg (Hr.o.alloc _)) (λu hu=>Ev.one _ u hu) j6).mono ?_;rintro e w1 ⟨v1,rfl,hrow1,hk1,hnew1⟩;have hB3:=Nc hk1 (by simp);have c3:=Aa hB3 0;obtain⟨ad1,c1,hv1,_,_⟩:=Ae hrow1;have hnew2:∀g,v1.ownBlock=some g->w.heap.size+1<=g:=λg hg=>by have:=hnew1 g hg;simp at this;exact this
  have hdel:=Adr w.heap.size (λx=> !(Want.all).p x) v1 L w1 hrow1 hl (λW x hW=>some1_any (Want.all) w.heap.size Bd x W ((hW.cell (Ai c3) (λe=>by have:=hnew2 w.heap.size e;omega)).trans c3) ((Hd.o.keep (S:=λ_=>False) ((Keeps.alloc _ _).trans (hk1.mono (by simp))) (by simp)).keep hW (λhlt e=>by have:=hnew2 Bd e;have:=Hdl.o;omega)));simp only [Bool.not_not] at hdel;subst hv1;obtain⟨Hdel,Hnew2,Hk1⟩:=hid3 hdel hnew2 hk1;clear hk1 hnew2 hdel;clear hrow1 hnew1 hB3;go_wp2_with fail;refine Hdel.o.mono ?_;rintro e w2 ⟨v2,rfl,hrd0,hk2,hown⟩;have hrd:=Reads.Bg hrd0;clear hrd0;have hpost:Ld w (L.filter (Want.all).p) (.returned v2) w2:=⟨v2,rfl,hrd,((Keeps.alloc w _).trans (Hk1.o.mono (by simp))).trans (hk2.mono λi _ e=> .inr (by have:=Hnew2.o i e;omega)),λg hg=>by have:=Hnew2.o g (hown g hg);omega⟩;obtain⟨ad2,c2,rfl,_⟩:=id hrd;have Hpost:=Lib.hid hpost;clear hpost;clear hrd hk2 hown;go_wp2_with fail;go_ret;exact Hpost.o
theorem Ld.up{w:World}{o:Obj}{M:List Ev}{e:Ending}{w':World}(h:Ld (w.alloc o) M e w'):Ld w M e w':=by
 obtain⟨v,he,hr,hk,hg⟩:=h;exact⟨v,he,hr,(Keeps.alloc _ _).trans (hk.mono (by simp)),λg h'=>by have:=hg g h';simp at this;omega⟩
theorem Us(B:Nat)(t:Tm)(vt v:Value)(L:List Ev)(w:World)(h:DL w B t vt L v)(hl:L.length<=1000000):Calls Tryz.prog 87 #[(.pointer (some ⟨B,0,none⟩))] w (Ld w L):=by
 have hf:L.filter Want.all.p=L:=List.filter_eq_self.2 λ_ _=>rfl;have hs:=Ac3 .all B B t vt v L w h hl trivial (lt_of_block h.blk);simp only [Want.fv] at hs;rw [hf] at hs;clear h;have Hs:=Lib.hid hs;clear hs hf;go_enter Tryz.func87,Tryz.ntmps87;go_wp2_with fail;refine Hs.o.mono ?_;rintro e w1 ⟨v1,rfl,hrd,hk,hown⟩;obtain⟨ad1,c1,rfl,_⟩:=id hrd;have HP:=Lib.hid (⟨_,rfl,hrd,hk,hown⟩:Ld _ _ (.returned (.slice ad1 _ c1)) w1);clear hrd hk hown;go_wp2_with fail;go_ret;exact HP.o
def fkS(B:Nat)(li cy du mf mp st:Int)(vt v:Value)(w:World):Prop:=
 w.cell? ⟨B,0,none⟩=some (.int .i64 li)/\w.cell? ⟨B,1,none⟩=some vt/\w.cell? ⟨B,2,none⟩=some (.int .i64 cy)/\w.cell? ⟨B,3,none⟩=some (.int .i64 du)/\w.cell? ⟨B,4,none⟩=some (.int .i64 mf)/\w.cell? ⟨B,5,none⟩=some (.int .i64 mp)/\w.cell? ⟨B,6,none⟩=some (.int .i64 st)/\w.cell? ⟨B,7,none⟩=some v
theorem fkS.of{B:Nat}{li cy du mf mp st:Int}{vt v:Value}{w:World}(hb:w.heap[B]?=some (.cells #[.int .i64 li,vt,.int .i64 cy,.int .i64 du,.int .i64 mf,.int .i64 mp,.int .i64 st,v] 172 (0,0))):fkS B li cy du mf mp st vt v w:=
 ⟨Aa hb 0,Aa hb 1,Aa hb 2,Aa hb 3,Aa hb 4,Aa hb 5,Aa hb 6,Aa hb 7⟩
theorem fkS.keep{B:Nat}{li cy du mf mp st:Int}{vt v:Value}{w w':World}(h:fkS B li cy du mf mp st vt v w)(hk:K0 w w'):fkS B li cy du mf mp st vt v w':=by
 exact j2p
def Aci(t:Tm)(vt:Value)(L:List Ev)(w:World)(e:Ending)(w':World):Prop:=∃B' v',e= .returned (.pointer (some ⟨B',0,none⟩))/\DL w' B' t vt L v'/\K0 w w'/\w.heap.size<=B'/\(∀g,v'.ownBlock=some g->w.heap.size<=g)
theorem Sa(B:Nat)(t:Tm)(vt v:Value)(L:List Ev)(w:World)(h:DL w B t vt L v)(hl:L.length<=1000000):Calls Tryz.prog 64 #[(.pointer (some ⟨B,0,none⟩))] w (Aci t vt L w):=by
 obtain⟨hb,ht,hr⟩:=h;obtain⟨adt,ct,rfl,_,_⟩:=Ae ht;have hS:∀W,K0 w W->fkS B t.limit t.cyc t.due t.minFixed t.minPart t.start (.slice adt t.trs.length ct) v W:=λW hW=>fkS.of (Ad hb hW (by simp));have hcl:=λW (hW:K0 w W)=>Mj W v L.length (L.flatMap Ev.cells) (Reads.Bg (hr.of_keeps hW)) (λu hu=>Ev.one _ u hu) j6;clear hb;have Ht:=Lib.hid ht;clear ht hr;obtain⟨HS,Hcl⟩:=hid2 hS hcl;clear hcl hS;go_enter Tryz.func64,Tryz.ntmps64;go_wp2_with fail;refine Ak (fkS B t.limit t.cyc t.due t.minFixed t.minPart t.start (.slice adt t.trs.length ct) v) (.take 0 (.take 1 (.take 2 (.take 3 (.take 4 (.take 5 (.take 6 (.take 7 (.move 8 (.take 9 (.move 10 (.take 11 .done)))))))))))) j9 j9 ?_ ?_
 ·exact HS.o _ (Keeps.drew _)
 intro w1 hs1 hk1;refine je ?_;intro K hK
 go_at_call 92
 ((with_reducible refine(Hcl.o w1 hk1).mono ?_);rintro e w2 ⟨v2,rfl,hrow2,hk2,hnew2⟩;dsimp only)
 refine hK.out _ _ (by exact HS.o _ (hk1.trans (hk2.mono (by simp)))) ?_;clear hK K;refine jc ?_;have hs2:=HS.o _ (hk1.trans (hk2.mono (by simp)));have hk:=Keeps.nt hk1 hk2;have ht2:=Ht.o.of_keeps hk;obtain⟨ad2,c2,rfl,_,_⟩:=Ae hrow2
 have hpost:Aci t (.slice adt t.trs.length ct) L w (.returned (.pointer (some ⟨w2.heap.size,0,none⟩))) (w2.alloc (.cells #[.int .i64 t.limit,.slice adt t.trs.length ct,.int .i64 t.cyc,.int .i64 t.due,.int .i64 t.minFixed,.int .i64 t.minPart,.int .i64 t.start,.slice ad2 L.length c2] 172)):=
  ⟨_,_,rfl,⟨heap_alloc_new _ _,ht2.alloc _,hrow2.alloc _⟩,Keeps.nt hk (Keeps.alloc _ _),hk.size,λg hg=>by have:=hnew2 g hg;have:=hk1.size;omega⟩
 have Hpost:=Lib.hid hpost;clear hpost;clear hs1 hk1 hk2 hrow2 hnew2 hk ht2;have Hs2:=Lib.hid hs2;clear hs2;refine je ?_;intro K hK;refine hK.out _ _ (by exact fkS.keep Hs2.o (Keeps.alloc _ _)) ?_;clear hK K;refine jk ?_;go_wp2_with fail;go_ret;exact Hpost.o
end Go.Proofs.YtjkdnaljkdnomaaGreatDoor
