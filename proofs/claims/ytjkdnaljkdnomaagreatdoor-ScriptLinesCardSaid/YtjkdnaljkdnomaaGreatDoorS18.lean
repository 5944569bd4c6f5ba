/- Part 18 of what the laws of this seat share: walks of functions, and plain laws. -/
import Derived.Test.YtjkdnaljkdnomaaGreatDoorS10
import Derived.Test.YtjkdnaljkdnomaaGreatDoorS11
import Derived.Test.YtjkdnaljkdnomaaGreatDoorS14
import Derived.Test.YtjkdnaljkdnomaaGreatDoorS17
set_option maxRecDepth 100000
set_option maxHeartbeats 6400000
namespace Go.Proofs.YtjkdnaljkdnomaaGreatDoor
open Go.RowKit
def rateB(v:Int):Bool:=outM 10000000 v
theorem Aan(x:Int)(w:World):Calls Tryz.prog 163 #[.int .i64 x] w λe w'=>e= .returned (.bool (rateB x))/\w=w':=by
 by_cases h1:x<0
 ·have hf:rateB x=true:=by simp [rateB,outM];omega
  have h1I:decide (x<0)=true:=by simp [h1]
  exact j1N
 ·have h1I:decide (x<0)=false:=by simp [h1]
  have hf:rateB x=decide (10000000<x):=by simp [rateB,outM,h1I]
  rcases h2:decide (10000000<x) with _|_
  ·rw [h2] at hf;exact j1N
  ·rw [h2] at hf;exact j1N
theorem Wd(ad:Option Addr)(cap:Nat)(L:List Int)(w:World)(hr:Reads w 1 (.slice ad L.length cap) L.length (L.flatMap i64c))(hl:L.length<=1000):
  Calls Tryz.prog 179 #[.slice ad L.length cap,.func (.func 163) #[] #[]] w λe w'=>∃r:Int,e= .returned (.int .i64 r)/\decide (0<=r)=L.any rateB/\w=w':=by
 have Hr:=Lib.hid hr;clear hr;go_enter Tryz.func179,Tryz.ntmps179;go_wp2_with fail
 go_loop [8] (λc=>∃j:Nat,j<=L.length/\c= .int .i64 (j:Nat)/\(L.take j).any rateB=false) (λc=>L.length-(intOf c).toNat)
 case atStart=>exact⟨0,Nat.zero_le _,rfl,rfl⟩
 case round=>
  obtain⟨j,hj,rfl,hok⟩:=hrel;by_cases hjl:j<L.length
  ·obtain⟨x,hx⟩:=Ar hjl;obtain⟨g,o,rfl,x0⟩:=Hr.o.int hx;have hsn:=Gs (q:=rateB) hx;rw [hok] at hsn;have hcl:=λW=>Aan x W;rcases m1:rateB x with _|_
   ·have hok':(L.take (j+1)).any rateB=false:=by rw [hsn,m1];rfl
    rw [m1] at hcl;clear hsn hx;obtain⟨Hok,Hok',Hcl⟩:=hid3 hok hok' hcl;clear hcl hok' hok
    go_wp2_with (go_at_call 163;((with_reducible refine(Hcl.o _).mono ?_);rintro e w1 ⟨rfl,rfl⟩))
    exact j0m
   ·have hf:=Kw (q:=rateB) hx m1;have hj0:decide ((0:Int)<=(j:Int))=true:=by simp
    rw [m1] at hcl;have Hf:=Lib.hid hf;clear hf hsn hx;obtain⟨Hj0,Hcl⟩:=hid2 hj0 hcl;clear hcl hj0
    go_wp2_with (go_at_call 163;((with_reducible refine(Hcl.o _).mono ?_);rintro e w1 ⟨rfl,rfl⟩))
    exact j0N
  ·exact j0n
theorem Qz(ad:Option Addr)(cap:Nat)(L:List Int)(w:World)(hr:Reads w 1 (.slice ad L.length cap) L.length (L.flatMap i64c))(hl:L.length<=1000):
  Calls Tryz.prog 162 #[.slice ad L.length cap,.func (.func 163) #[] #[]] w λe w'=>e= .returned (.bool (L.any rateB))/\w=w':=by
 have Hr:=Lib.hid hr;clear hr;go_enter Tryz.func162,Tryz.ntmps162
 go_wp2_with (go_at_call 179;refine(Wd _ _ L _ Hr.o hl).mono ?_;rintro e w1 ⟨r,rfl,hd,rfl⟩;have Hd:=Lib.hid hd;clear hd)
 exact j0o
def mayA(p:Ps)(R:List Int)(e:Ev):Bool:=p.Bh&&(decide (R.length=p.bal.length)&&(!(R.any rateB)&&(!(decide (e.kind<1)||(decide (6<e.kind)||((e.kind !=2)&&(decide (e.tranche<1)||decide ((R.length:Int)<e.tranche)))))&&((e.kind !=6)||(decide (0<=e.amount)&&decide (e.amount<=10000000))))))
theorem Acu(L R:List Int)(cr du ki da tr am re:Int)(ad adR:Option Addr)(cap cR n m:Nat)(w:World)(hr:Reads w 1 (.slice ad n cap) n (L.flatMap i64c))(hN:L.length=n)(hl:n<=1000)(hR:Reads w 1 (.slice adR m cR) m (R.flatMap i64c))(hRm:R.length=m)(hm:m<=1000):
  Calls Tryz.prog 147 #[.agg #[.slice ad n cap,.int .i64 cr,.int .i64 du],.slice adR m cR,.agg #[.int .i64 ki,.int .i64 da,.int .i64 tr,.int .i64 am,.int .i64 re]] w λe w'=>e= .returned (.bool (mayA ⟨L,cr,du⟩ R ⟨ki,da,tr,am,re⟩))/\K0 w w':=by
 refine j0t ?_;intro hri;have hco:=λW (hW:K0 w W)=>Qz adR cR R W (by rw [hRm];exact hR.keeps hW (by simp)) j6;rw [hRm] at hco;obtain⟨z,hz⟩:=eX (mayA ⟨L,cr,du⟩ R ⟨ki,da,tr,am,re⟩);rw [hz]
 have hbx:∀W,K0 ((w.alloc (.cells #[.slice ad n cap,.int .i64 cr,.int .i64 du] 51)).alloc (.cells #[.int .i64 ki,.int .i64 da,.int .i64 tr,.int .i64 am,.int .i64 re] 186)) W->
  W.cell? ⟨w.heap.size+1,0,none⟩=some (.int .i64 ki)/\W.cell? ⟨w.heap.size+1,2,none⟩=some (.int .i64 tr)/\W.cell? ⟨w.heap.size+1,3,none⟩=some (.int .i64 am)/\W.cell? ⟨w.heap.size,0,none⟩=some (.slice ad n cap)/\w.heap.size+1<W.heap.size/\w.heap.size<W.heap.size:=λW hW=>by
  have h1:=Ad (Ap (heap_alloc_new w (.cells #[.slice ad n cap,.int .i64 cr,.int .i64 du] 51)) (.cells #[.int .i64 ki,.int .i64 da,.int .i64 tr,.int .i64 am,.int .i64 re] 186)) hW (by simp);have h2:=Ad (Aw (w.alloc (.cells #[.slice ad n cap,.int .i64 cr,.int .i64 du] 51)) (.cells #[.int .i64 ki,.int .i64 da,.int .i64 tr,.int .i64 am,.int .i64 re] 186) (i:=w.heap.size+1) (by simp)) hW (by simp);exact⟨Aa h2 0,Aa h2 2,Aa h2 3,Aa h1 0,lt_of_block h2,lt_of_block h1⟩
 rcases hbr:Ps.Bh ⟨L,cr,du⟩ with _|_
 ·rw [hbr] at hri;have hmn:True:=trivial;exact j1O
 rw [hbr] at hri;by_cases hmn':m=n
 ·obtain rfl:n=m:=hmn'.symm;have hmn:=hRm;have hnn:((n:Int) !=(n:Int))=false:=by simp
  clear hmn';rcases hany:R.any rateB with _|_
  ·rw [hany] at hco;clear hr hR;obtain⟨Hri,Hco,Hz,Hbx,Hbr,HN⟩:=hid6 hri hco hz hbx hbr hN;clear hN hbr hbx hz hco hri hRm;have Hmn:=Lib.hid hmn;clear hmn;rcases b1:decide (ki<1) with _|_
   ·rcases b2:decide (6<ki) with _|_
    ·rcases b3:(ki !=2) with _|_
     ·exact j3s
     ·rcases b4:decide (tr<1) with _|_
      ·rcases b5:decide ((n:Int)<tr) with _|_
       ·exact j3s
       ·skip
        exact j03
      ·skip
       exact j03
    ·skip
     exact j03
   ·skip
    exact j03
  ·rw [hany] at hco;exact j1O
 ·have hmn:¬R.length=n:=by rw [hRm];exact hmn'
  have hnn:((m:Int) !=(n:Int))=true:=by simp;omega
  exact j1O
def Fu(p:Ps)(R:List Int)(e:Ev):Ps×Int:=if e.kind=1\/e.kind=5 then Ja p e.tranche e.amount else if e.kind=2 then payR p R e.amount else if e.kind=3\/e.kind=4 then giveR p R e.tranche e.amount else(p,0)
def Gg(R:List Int)(e:Ev):List Int:=if e.kind=6 then R.set (e.tranche-1).toNat e.amount else R
def Dv(p:Ps)(R:List Int)(e:Ev):Ps×List Int×Int:=if mayA p R e=true then(if(Fu p R e).2=0 then((Fu p R e).1,Gg R e,0) else(ps0, [],(Fu p R e).2)) else(ps0, [],1)
theorem rateB_iff(x:Int):rateB x=false↔0<=x/\x<=10000000:=by simp [rateB,outM]
theorem rates_ok{R:List Int}(h:R.any rateB=false):∀x∈R,0<=x/\x<=10000000:=λx hx=>by
 rw [<-rateB_iff];rcases hb:rateB x with _|_
 ·rfl
 ·rw [List.any_eq_true.2 ⟨x,hx,hb⟩] at h;cases h
structure MayOk(p:Ps)(R:List Int)(e:Ev):Prop where
 pr:p.Bh=true
 len:R.length=p.bal.length
 rt:∀x∈R,0<=x/\x<=10000000
 k1:1<=e.kind
 k6:e.kind<=6
 tr:e.kind≠2->1<=e.tranche/\e.tranche<=R.length
 am:e.kind=6->0<=e.amount/\e.amount<=10000000
theorem mayA_ok{p:Ps}{R:List Int}{e:Ev}(h:mayA p R e=true):MayOk p R e:=by
 unfold mayA at h;rw [Bool.and_eq_true,Bool.and_eq_true,Bool.and_eq_true,Bool.and_eq_true] at h;obtain⟨h1,h2,h3,h4,h5⟩:=h;have h3':R.any rateB=false:=by simpa using h3
 have h4':¬e.kind<1/\¬6<e.kind/\(e.kind≠2->¬e.tranche<1/\¬(R.length:Int)<e.tranche):=by
  rcases hk2:(e.kind !=2) with _|_
  ·rw [hk2] at h4;have hk2':e.kind=2:=by simpa using hk2
   refine⟨by omega,by omega,λh=>absurd hk2' h⟩
  ·rw [hk2] at h4;simp only [Bool.true_and,Bool.not_eq_true',Bool.or_eq_false_iff,decide_eq_false_iff_not] at h4;exact⟨h4.1,h4.2.1,λ_=>h4.2.2⟩
 have h5':e.kind=6->0<=e.amount/\e.amount<=10000000:=λhk=>by
  rw [show(e.kind !=6)=false by simp [hk],Bool.false_or,Bool.and_eq_true,decide_eq_true_eq,decide_eq_true_eq] at h5;exact h5
 exact⟨h1,by simpa using h2,rates_ok h3',by omega,by omega,λhk=>by have:=h4'.2.2 hk;omega,h5'⟩
structure AB(E:Array Value)(w W:World):Prop where
 e:W.heap[w.heap.size+1]?=some (.cells E 186 (0,0))
 r:W.heap[w.heap.size+1+1]?=some (.cells #[.slice none 0 0,.int .i64 0,.int .i64 0] 51 (0,0))
 kp:K0 w W
theorem AB.keep{E:Array Value}{w W W':World}(h:AB E w W)(hk:Keeps (λi=>i=w.heap.size) W W'):AB E w W':=⟨Ad h.e hk (by omega),Ad h.r hk (by omega),h.kp.trans (hk.mono λi _ e=> .inr (by have e':i=w.heap.size:=e;omega))⟩
theorem AB.keep0{E:Array Value}{w W W':World}(h:AB E w W)(hk:K0 W W'):AB E w W':=h.keep (hk.mono (by simp))
theorem AB.start(C E:Array Value)(w:World):AB E w (((w.alloc (.cells C 51)).alloc (.cells E 186)).alloc (.cells #[.slice none 0 0,.int .i64 0,.int .i64 0] 51)):=
 ⟨Ap (Aw _ _ (by simp)) _,Aw _ _ (by simp),((Keeps.alloc _ _).Af).Af⟩
def ApplyPost(r:Ps×List Int×Int)(w:World)(e:Ending)(w':World):Prop:=∃vb vr,e= .returned (.tuple #[.agg #[vb,.int .i64 r.1.cr,.int .i64 r.1.du],vr,.int .i64 r.2.2])/\w'.ownsRow 0 2 1 vb r.1.bal.length (r.1.bal.flatMap i64c)/\w'.ownsRow 0 2 1 vr r.2.1.length (r.2.1.flatMap i64c)/\K0 w w'/\
 (∀i,vb.ownBlock=some i->w.heap.size<=i)/\(∀i,vr.ownBlock=some i->w.heap.size<=i)
theorem Yl(L R:List Int)(cr du ki da tr am re:Int)(ad adR:Option Addr)(cap cR n m:Nat)(w:World)(hr:Reads w 1 (.slice ad n cap) n (L.flatMap i64c))(hN:L.length=n)(hl:n<=1000)(hR:Reads w 1 (.slice adR m cR) m (R.flatMap i64c))(hRm:R.length=m)(hm:m<=1000):
  Calls Tryz.prog 129 #[.agg #[.slice ad n cap,.int .i64 cr,.int .i64 du],.slice adR m cR,.agg #[.int .i64 ki,.int .i64 da,.int .i64 tr,.int .i64 am,.int .i64 re]] w (ApplyPost (Dv ⟨L,cr,du⟩ R ⟨ki,da,tr,am,re⟩) w):=by
 have hmay:=λW (hW:K0 w W)=>Acu L R cr du ki da tr am re ad adR cap cR n m W (hr.keeps hW (by simp)) hN hl (hR.keeps hW (by simp)) hRm hm;have hst:=AB.start #[.slice ad n cap,.int .i64 cr,.int .i64 du] #[.int .i64 ki,.int .i64 da,.int .i64 tr,.int .i64 am,.int .i64 re] w;have hpb:(((w.alloc (.cells #[.slice ad n cap,.int .i64 cr,.int .i64 du] 51)).alloc (.cells #[.int .i64 ki,.int .i64 da,.int .i64 tr,.int .i64 am,.int .i64 re] 186)).alloc (.cells #[.slice none 0 0,.int .i64 0,.int .i64 0] 51)).heap[w.heap.size]?=some (.cells #[.slice ad n cap,.int .i64 cr,.int .i64 du] 51 (0,0)):=Ap (Ap (heap_alloc_new w _) _) _;obtain⟨W0,hW0⟩:=eY (((w.alloc (.cells #[.slice ad n cap,.int .i64 cr,.int .i64 du] 51)).alloc (.cells #[.int .i64 ki,.int .i64 da,.int .i64 tr,.int .i64 am,.int .i64 re] 186)).alloc (.cells #[.slice none 0 0,.int .i64 0,.int .i64 0] 51));rw [<-hW0] at hst hpb;obtain⟨A,hA⟩:=eX (Dv ⟨L,cr,du⟩ R ⟨ki,da,tr,am,re⟩);rw [hA];unfold Dv at hA;rcases hmb:mayA ⟨L,cr,du⟩ R ⟨ki,da,tr,am,re⟩ with _|_
 ·rw [hmb] at hmay hA;rw [if_neg j7] at hA;subst hA;clear hr;have HN:=Lib.hid hN;clear hN hR;obtain⟨HRm,Hmay,Hst,Hpb⟩:=hid4 hRm hmay hst hpb;clear hpb hst hmay hRm hmb;go_enter Tryz.func129,Tryz.ntmps129;go_wp2_with fail;rw [<-hW0];refine(Hmay.o _ Hst.o.kp).mono ?_;rintro e w1 ⟨rfl,hk1⟩;have hab1:=Hst.o.keep0 hk1;have hrs:=hab1.r;refine j1D ?_;intro hb9 k9 r0 r1 r2 rf0 rf1 rf2 sr0 sr1 sr2;clear hrs hb9;obtain⟨K9,Sr0,Sr1,Sr2⟩:=hid4 k9 sr0 sr1 sr2;clear sr2 sr1 sr0 k9;clear hk1;have Hab1:=Lib.hid hab1;clear hab1;go_wp2;refine jj ?_;intro R0' R1' R2';clear r0 r1 r2;exact bodyPost_ret (v:= .tuple #[.agg #[.slice none 0 0,.int .i64 0,.int .i64 0],.slice none 0 0,.int .i64 1]) j0Y rfl ⟨_,_,rfl,World.ownsRow_nil _ _ _ _,World.ownsRow_nil _ _ _ _,Hab1.o.kp.trans (K9.o.mono λi _ e=> .inr j0e),by simp [Value.ownBlock],by simp [Value.ownBlock]⟩
 ·have hmo:=mayA_ok hmb;rw [hmb] at hmay hA;rw [if_pos rfl] at hA;obtain⟨hpr,hlen,hrt,hk1,hk6,htr,ham⟩:=hmo;simp only at hlen hk1 hk6 htr ham;obtain rfl:m=n:=by rw [<-hRm,hlen,hN]
  have hcl:=λW (hW:K0 w W)=>Fa W (.slice adR m cR) m (R.flatMap i64c) (hR.keeps hW (by simp)) (Jz _) j6;have hcl2:=λW (hW:K0 w W)=>Fa W (.slice ad m cap) m (L.flatMap i64c) (hr.keeps hW (by simp)) (Jz _) j6;obtain⟨hbal,hcr,hdu,hn1,hn8⟩:=Eo hpr;simp only at hbal hcr hdu hn1 hn8;rw [hN] at hn1 hn8;clear hr;have HN:=Lib.hid hN;clear hN hR;obtain⟨HRm,Hmay,Hst,Hpb⟩:=hid4 hRm hmay hst hpb;clear hpb hst hmay hRm hmb hpr hlen hrt;obtain⟨Hcl,Hcl2⟩:=hid2 hcl hcl2;clear hcl2 hcl hbal hcr hdu;have HA:=Lib.hid hA;clear hA;go_enter Tryz.func129,Tryz.ntmps129;go_wp2_with fail;rw [<-hW0];refine(Hmay.o _ Hst.o.kp).mono ?_;rintro e w1 ⟨rfl,hk1⟩;have hab1:=Hst.o.keep0 hk1;have hpb1:=Ad Hpb.o hk1 (by simp);clear hk1;obtain⟨Hab1,Hpb1⟩:=hid2 hab1 hpb1;clear hpb1 hab1;go_wp2_with fail;refine(Hcl.o _ Hab1.o.kp).mono ?_;rintro e w2 ⟨vr,rfl,hrr2,hk2,hg2⟩;obtain⟨gr,cr2,rfl⟩:=Ez hrr2 hn1;have hab2:=Hab1.o.keep0 hk2;have hpb2:=Ad Hpb1.o hk2 (by simp);have p0:=Aa hpb2 0;clear hk2;obtain⟨Hab2,Hpb2,Hrr2,Hg2⟩:=hid4 hab2 hpb2 hrr2 hg2;clear hg2 hrr2 hpb2 hab2;go_wp2_with fail;refine(Hcl2.o _ Hab2.o.kp).mono ?_;rintro e w3 ⟨vb,rfl,hrb3,hk3,hg3⟩;obtain⟨gb,cb,rfl⟩:=Ez hrb3 hn1;clear p0;have hab3:=Hab2.o.keep0 hk3;have hpb3:=Ad Hpb2.o hk3 (by simp);have hrr3:=Hrr2.o.of_keeps hk3;have p0:=Aa hpb3 0;have pf0:=Ab hpb3 0;have k4:Keeps (λi=>i=w.heap.size) w3 (w3.setCell ⟨w.heap.size,0,none⟩ (.slice (some ⟨gb,0,none⟩) m cb)):=Keeps.setCell _ _ _ rfl;have hpb4:=(heap_setCell_same _ _ 0 _ _ (.slice (some ⟨gb,0,none⟩) m cb) hpb3).trans rfl;have hab4:=hab3.keep k4;have hg2':∀i,(Value.slice (some ⟨gr,0,none⟩) m cr2).ownBlock=some i->w.heap.size+1+1<i:=λi e=>by have:=Hg2.o i e;have:=lt_of_block Hab1.o.r;omega
  have hg3':∀i,(Value.slice (some ⟨gb,0,none⟩) m cb).ownBlock=some i->w.heap.size+1+1<i:=λi e=>by have:=hg3 i e;have:=lt_of_block Hab2.o.r;omega
  have hrb4:=k4.row hrb3 (λi hi e=>by have e':i=w.heap.size:=e;have:=hg3' i hi;omega);have hrr4:=k4.row hrr3 (λi hi e=>by have e':i=w.heap.size:=e;have:=hg2' i hi;omega);have hg23:¬gb=gr:=λe=>by have h1:=hg3 gb rfl;have h2:=Ch Hrr2.o (show(Value.slice (some ⟨gr,0,none⟩) m cr2).ownBlock=some gr from rfl);omega
  obtain⟨W4,hW4⟩:=eY (w3.setCell ⟨w.heap.size,0,none⟩ (.slice (some ⟨gb,0,none⟩) m cb));rw [<-hW4] at hpb4 hab4 hrb4 hrr4;have p1:=Aa hpb3 1;have p2:=Aa hpb3 2;have e0:=Aa (hab3).e 0;have e2:=Aa (hab3).e 2;have e3:=Aa (hab3).e 3;clear Hg2;clear hk3 hab3 hpb3 hrr3 hrb3 hg3 k4;obtain⟨Hpb4,Hab4,Hrb4,Hrr4,Hg2',Hg3',Hg23⟩:=hid7 hpb4 hab4 hrb4 hrr4 hg2' hg3' hg23;clear hg23 hg3' hg2' hrr4 hrb4 hab4 hpb4;have Hg2:=Hg2';clear Hg2';have hkk:ki=1\/ki=2\/ki=3\/ki=4\/ki=5\/ki=6:=j8
  go_upto_region 5 with(fail)
  rw [<-hW4];clear hW4 p0 pf0 p1 p2 e0 e2 e3;rcases hkk with rfl|rfl|rfl|rfl|rfl|rfl
  ·exact j3t
  ·skip
   have hA:=HA.o;clear HA;simp [Fu,Gg] at hA;obtain⟨⟨q,z⟩,hq⟩:=eX (payR ⟨L,cr,du⟩ R am);rw [hq] at hA;have hcall:=λW (hW:K0 W4 W)=>Ab1 L R cr du am (some ⟨gb,0,none⟩) (some ⟨gr,0,none⟩) cb cr2 m W ((Reads.Bg Hrb4.o).keeps hW (by simp)) HN.o hl ((Reads.Bg Hrr4.o).keeps hW (by simp)) HRm.o;exact j1P
  ·exact j3u
  ·exact j3u
  ·exact j3t
  ·have hA:=HA.o;clear HA;simp [Fu,Gg] at hA;subst hA;obtain⟨t0,t1⟩:=htr j7;obtain⟨a0,a1⟩:=ham rfl;clear htr ham;rw [HRm.o] at t1;obtain⟨i,hi⟩:∃i:Nat,(i:Int)=tr-1:=⟨(tr-1).toNat,by omega⟩;have hin:i<m:=j8;have hit:(tr-1).toNat=i:=j8;have hit2:tr.toNat-1=i:=j8;have hrz:RowZ W4 2 gr m cr2 R:=⟨Hrr4.o,HRm.o⟩;obtain⟨x,hx⟩:=Ar (L:=R) (k:=i) (by rw [HRm.o];exact hin);have cx:=hrz.cell hx;have fx:=hrz.free i;have hnew:=hrz.set hin am;have k5:Keeps (λj=>j=gr) W4 (W4.setCell ⟨gr,i,none⟩ (.int .i64 am)):=Keeps.setCell _ _ _ rfl;have hgrb:¬w.heap.size=gr:=λe=>by have:=Hg2.o gr rfl;omega
   have hgre:¬w.heap.size+1=gr:=λe=>by have:=Hg2.o gr rfl;omega
   have hgrr:¬w.heap.size+1+1=gr:=λe=>by have:=Hg2.o gr rfl;omega
   have hab5:AB #[.int .i64 6,.int .i64 da,.int .i64 tr,.int .i64 am,.int .i64 re] w (W4.setCell ⟨gr,i,none⟩ (.int .i64 am)):=⟨Ad Hab4.o.e k5 hgre,Ad Hab4.o.r k5 hgrr,Hab4.o.kp.trans (k5.mono λj _ e=> .inr (by have e':j=gr:=e;have:=Hg2.o gr rfl;omega))⟩;have hpb5:=Ad Hpb4.o k5 hgrb;have hrb5:=k5.row Hrb4.o (λj hj e=>by have e':j=gr:=e;simp only [Value.ownBlock,Option.some.injEq] at hj;exact Hg23.o j6);have p0:=Aa Hpb4.o 0;have p1:=Aa Hpb4.o 1;have p2:=Aa Hpb4.o 2;have e0:=Aa Hab4.o.e 0;have e2:=Aa Hab4.o.e 2;have e3:=Aa Hab4.o.e 3;have r0:=Aa Hab4.o.r 0;have r1:=Aa Hab4.o.r 1;have r2:=Aa Hab4.o.r 2;have rf0:=Ab Hab4.o.r 0;have rf1:=Ab Hab4.o.r 1;have rf2:=Ab Hab4.o.r 2;have q1:(0:Int)<=tr-1:=j8;have q2:tr-1<(m:Int):=j8;have q4:IntKind.i64.wrap (tr-1)=tr-1:=IntWalk.i64_in _ ⟨by omega,by omega⟩;have hgbr:¬gr=w.heap.size:=λe=>hgrb e.symm;have hgrr2:¬gr=w.heap.size+1+1:=λe=>hgrr e.symm;have hS3:=Cb hab5.r (.slice (some ⟨gb,0,none⟩) m cb) (.int .i64 cr) (.int .i64 du);obtain⟨hb9,k9⟩:=hS3;have hkf:=hab5.kp.trans (k9.mono λi _ e=> .inr j0e);have hrow9:=k9.row hrb5 (λi hi e=>by have e':i=w.heap.size+1+1:=e;have:=Hg3'.o i hi;omega);have hrr9:=k9.row hnew.1 (λi hi e=>by have e':i=w.heap.size+1+1:=e;simp only [Value.ownBlock,Option.some.injEq] at hi;omega);refine jT ?_;intro sr0 sr1 sr2;have hlen9:=hnew.2;clear hrz hx hnew k5 hab5 hpb5 hrb5 hb9;obtain⟨K9,Hkf,Hrow9,Hrr9,Sr0,Sr1,Sr2,Hlen9⟩:=hid8 k9 hkf hrow9 hrr9 sr0 sr1 sr2 hlen9;clear hlen9 sr2 sr1 sr0 hrr9 hrow9 hkf k9 hi;have Hit2:=Lib.hid hit2;clear hit2;go_wp2;refine jj ?_;intro R0' R1' R2';clear r0 r1 r2 p0 p1 p2;exact bodyPost_ret (v:= .tuple #[.agg #[.slice (some ⟨gb,0,none⟩) m cb,.int .i64 cr,.int .i64 du],.slice (some ⟨gr,0,none⟩) m cr2,.int .i64 0]) j0Y rfl ⟨_,_,rfl,by rw [HN.o];exact Hrow9.o,by rw [Hit2.o,Hlen9.o];exact Hrr9.o,Hkf.o,λi hi=>by have:=Hg3'.o i hi;omega,λi hi=>by have:=Hg2.o i hi;omega⟩
def lateQ(td:Int)(x:Ev):Bool:=decide (td<x.day)
theorem Vt(td:Int)(B:Nat)(x:Ev)(w:World)(hB:w.cell? ⟨B,0,none⟩=some (.int .i64 td)):Calls Tryz.prog 128 #[x.agg,(.pointer (some ⟨B,0,none⟩))] w λe w'=>e= .returned (.bool (lateQ td x))/\K0 w w':=by
 obtain⟨ki,da,tr,am,re⟩:=x;simp only [Ev.agg];have hk:=Keeps.alloc (S:=λ_=>False) w (.cells #[.int .i64 ki,.int .i64 da,.int .i64 tr,.int .i64 am,.int .i64 re] 186);have hl:=Ai hB;obtain⟨z,hz⟩:=eX (lateQ td ⟨ki,da,tr,am,re⟩);rw [hz];have hz':decide (td<da)=z:=hz;have Hk:=Lib.hid hk;clear hk hz;go_enter Tryz.func128,Tryz.ntmps128;go_wp2;go_ret;exact⟨rfl,Hk.o⟩
theorem indexLate(B:Nat)(q:Ev->Bool)(ad:Option Addr)(cap:Nat)(L:List Ev)(w:World)(hr:Reads w 5 (.slice ad L.length cap) L.length (L.flatMap Ev.cells))(hl:L.length<=1000000)
  (hq:∀W (x:Ev),K0 w W->Calls Tryz.prog 128 #[x.agg,(.pointer (some ⟨B,0,none⟩))] W λe w'=>e= .returned (.bool (q x))/\K0 W w'):
  Calls Tryz.prog 146 #[.slice ad L.length cap,.func (.func 128) #[] #[(.pointer (some ⟨B,0,none⟩))]] w λe w'=>e= .returned (.int .i64 (retI (L.findIdx? q)))/\K0 w w':=by
 obtain⟨n,hn⟩:=eX L.length;obtain⟨r,hrr⟩:=eX (retI (L.findIdx? q));rw [hrr];rw [hn] at hr hl⊢;obtain⟨Hr,Hq,Hrr,Hn⟩:=hid4 hr hq hrr hn;clear hn hrr hq hr;go_enter Tryz.func146,Tryz.ntmps146;go_wp2_with fail
 go_loopw [8] (λc wx=>∃j:Nat,j<=n/\c= .int .i64 (j:Nat)/\(∀i y,i<j->L[i]?=some y->q y=false)/\K0 w wx) (λc _=>n-(intOf c).toNat)
 case atStart=>exact⟨0,Nat.zero_le _,rfl,λi y h=>absurd h (Nat.not_lt_zero _),Keeps.refl _ _⟩
 case round=>
  obtain⟨j,hj,rfl,hno,hkx⟩:=hrel;by_cases hjl:j<n
  ·obtain⟨x,hx⟩:=Ar (L:=L) (k:=j) (by rw [Hn.o];exact hjl);have hjI:(j:Int)<(n:Int):=j8;obtain⟨g,o,c,he,hc⟩:=(Hr.o.keeps hkx (by simp)).elem Ev.Aj hx j7;simp only [Value.slice.injEq,true_and] at he;obtain⟨rfl,rfl⟩:=he;have hcall:=Hq.o wr x hkx;obtain⟨qx,hqx⟩:=eX (q x);rw [hqx] at hcall;obtain⟨ki,da,tr,am,re⟩:=x;refine j3v ?_;intro x0 x1 x2 x3 x4;simp only [Ev.agg] at hcall;clear hc;rcases qx with _|_
   ·have hno':∀i y,i<j+1->L[i]?=some y->q y=false:=λi y hi hy=>by
     exact j3w
    clear hno;have Hno':=Lib.hid hno';clear hno' hx hqx;obtain⟨Hkx,Hcall⟩:=hid2 hkx hcall;clear hcall hkx
    go_wp2_with (go_at_call 128;((with_reducible refine Hcall.o.mono ?_);rintro e w1 ⟨rfl,hk1⟩;have Hk1:=Lib.hid hk1;clear hk1))
    exact j3x
   ·have hf:=Xm hx hno hqx;clear hno hx hqx;obtain⟨Hkx,Hcall,Hf⟩:=hid3 hkx hcall hf;clear hf hcall hkx
    go_wp2_with (go_at_call 128;((with_reducible refine Hcall.o.mono ?_);rintro e w1 ⟨rfl,hk1⟩;have Hk1:=Lib.hid hk1;clear hk1))
    go_ret;exact⟨by rw [<-Hrr.o,Hf.o];rfl,Keeps.nt Hkx.o Hk1.o⟩
  ·exact j3y
theorem find_any{q:Ev->Bool}{L:List Ev}:decide ((0:Int)<=retI (L.findIdx? q))=L.any q:=by
 rcases h:L.findIdx? q with _|k
 ·have h1:=List.findIdx?_eq_none_iff.1 h
  have h2:L.any q=false:=by
   rw [Bool.eq_false_iff];intro hh;obtain⟨x,hx,h3⟩:=List.any_eq_true.1 hh;have:=h1 x hx;rw [this] at h3;cases h3
  rw [h2];rfl
 ·obtain⟨h1,h2,_⟩:=List.findIdx?_eq_some_iff_getElem.1 h;rw [List.any_eq_true.2 ⟨_,List.getElem_mem h1,h2⟩];simp [retI]
theorem Rb(td:Int)(B:Nat)(ad:Option Addr)(cap n:Nat)(L:List Ev)(w:World)(hB:w.cell? ⟨B,0,none⟩=some (.int .i64 td))(hr:Reads w 5 (.slice ad n cap) n (L.flatMap Ev.cells))(hN:L.length=n)(hl:n<=1000000):
  Calls Tryz.prog 127 #[.slice ad n cap,.func (.func 128) #[] #[(.pointer (some ⟨B,0,none⟩))]] w λe w'=>e= .returned (.bool (L.any (lateQ td)))/\K0 w w':=by
 subst hN;have hi:=indexLate B (lateQ td) ad cap L w hr hl (λW x hW=>Vt td B x W ((hW.cell (Ai hB) (by simp)).trans hB));have hf:=find_any (q:=lateQ td) (L:=L);obtain⟨r,hrr⟩:=eX (retI (L.findIdx? (lateQ td)));obtain⟨z,hz⟩:=eX (L.any (lateQ td));rw [hrr] at hi hf;rw [hz] at hf⊢;clear hr;have Hi:=Lib.hid hi;clear hi hrr hz;go_enter Tryz.func127,Tryz.ntmps127;go_wp2_with fail;refine Hi.o.mono ?_;rintro e w1 ⟨rfl,hk1⟩;have Hk1:=Lib.hid hk1;clear hk1;exact j0w
def Dj(t:Tm)(L:List Ev)(td:Int):Int:=if t.err=0 then(if Gl t L=0 then(if 2000<L.length then 14 else if td<t.start\/2932896<td then 10 else if¬ofE t.start t.cyc td=0 then 10 else if L.any (lateQ td)=true then 10 else 0) else Gl t L) else 6
def tdS(b:Nat)(t:Tm)(v:Value)(td:Int)(W:World):Prop:=tbS b t v W/\W.cell? ⟨b+1,0,none⟩=some (.int .i64 td)
theorem Yk(t:Tm)(adt:Option Addr)(ct nt:Nat)(L:List Ev)(ad:Option Addr)(cap n:Nat)(td:Int)(w:World)(hnt:t.trs.length=nt)(htr:Reads w 2 (.slice adt nt ct) nt (t.trs.flatMap Tn.cells))(hn:L.length=n)(hr:Reads w 5 (.slice ad n cap) n (L.flatMap Ev.cells))(hl:n<=1000000)(htl:nt<=1000000):
  Calls Tryz.prog 102 #[.agg #[.int .i64 t.limit,.slice adt nt ct,.int .i64 t.cyc,.int .i64 t.due,.int .i64 t.minFixed,.int .i64 t.minPart,.int .i64 t.start],.slice ad n cap,.int .i64 td] w λe w'=>e= .returned (.int .i64 (Dj t L td))/\K0 w w':=by
 have htm:=λW (hW:K0 w W)=>Jj t adt ct W (by rw [hnt];exact htr.keeps hW (by simp)) j6;have hev:=λx W (hW:K0 w W)=>Rw t x adt ct W (by rw [hnt];exact htr.keeps hW (by simp)) j6;have htb:∀W,K0 ((w.alloc (.cells #[.int .i64 t.limit,.slice adt nt ct,.int .i64 t.cyc,.int .i64 t.due,.int .i64 t.minFixed,.int .i64 t.minPart,.int .i64 t.start] 26)).alloc (.cells #[.int .i64 td] 3)) W->tdS w.heap.size t (.slice adt nt ct) td W:=λW hW=>⟨tbS.of (Ad (Ap (heap_alloc_new w _) _) hW (by simp)),Aa (Ad (Aw _ _ (by simp)) hW (by simp)) 0⟩;have hlate:=fun(W:World) (hB:W.cell? ⟨w.heap.size+1,0,none⟩=some (.int .i64 td)) (hW:K0 w W)=>Rb td (w.heap.size+1) ad cap n L W hB (hr.keeps hW (by simp)) hn hl;obtain⟨z,hz⟩:=eX (Dj t L td);have hz':=hz;unfold Dj at hz';obtain⟨y,hy⟩:=eX t.err;rw [hz];rw [hnt] at htm hev;rw [hy] at htm hz';rw [hn] at hz';simp only [Tm.val] at htm hev⊢;by_cases hy0:y=0
 ·subst hy0;rw [if_pos rfl] at hz';have hnum:=Fz hy;obtain⟨_,_,_,_,_,_,⟨st0,st1⟩⟩:=hnum;have hof:=λW=>Qy t.start t.cyc td W j6;obtain⟨Htm,Hev,Htb⟩:=hid3 htm hev htb;clear htb hev htm htr;obtain⟨Hr,Hz,Hz'⟩:=hid3 hr hz hz';clear hz' hz hr hy hnt;obtain⟨Hn,Hlate,Hof⟩:=hid3 hn hlate hof;clear hof hlate hn;go_enter Tryz.func102,Tryz.ntmps102;go_wp2_with fail;refine(Htm.o _ ((Keeps.alloc _ _).Af)).mono ?_;rintro e w1 ⟨rfl,hk1⟩;have Hk1:=Lib.hid hk1;clear hk1;obtain⟨tb,d0⟩:=Htb.o _ Hk1.o;obtain⟨b0,b1,b2,b3,b4,b5,b6⟩:=tb;have bbl:=Ai b0;go_wp2
  go_loopw [20] (λx wx=>∃i:Nat,x= .int .i64 (i:Nat)/\i<=n/\(∀j y,j<i->L[j]?=some y->evErr t y=0)/\K0 w1 wx) (λx _=>n-(intOf x).toNat)
  case atStart=>exact⟨0,rfl,Nat.zero_le _,λj y h=>absurd h (Nat.not_lt_zero _),Keeps.refl _ _⟩
  case round=>
   obtain⟨i,rfl,hin,hall,hk⟩:=hrel;obtain⟨wq,hwq⟩:=eY wr;subst hwq;have hkw:=((Keeps.alloc (S:=λ_=>False) w (.cells #[.int .i64 t.limit,.slice adt nt ct,.int .i64 t.cyc,.int .i64 t.due,.int .i64 t.minFixed,.int .i64 t.minPart,.int .i64 t.start] 26)).Af (o:= .cells #[.int .i64 td] 3)).nt (Hk1.o.nt hk);clear b0 b1 b2 b3 b4 b5 b6 bbl d0;obtain⟨tb,d0⟩:=Htb.o _ (Hk1.o.nt hk);obtain⟨b0,b1,b2,b3,b4,b5,b6⟩:=tb;have bbl:=Ai b0;by_cases hlt:i<n
   ·have hltI:(i:Int)<(n:Int):=j8;obtain⟨x,hx⟩:=Ar (L:=L) (k:=i) j06;obtain⟨g,o,c',he,hc⟩:=(Hr.o.keeps hkw (by simp)).elem Ev.Aj hx j7;simp only [Value.slice.injEq,true_and] at he;obtain⟨rfl,rfl⟩:=he;obtain⟨q,hq⟩:=eX (evErr t x);have hcall:=Hev.o x;rw [hq] at hcall;obtain⟨xk,xd,xt,xa,xf⟩:=x;simp only [Ev.agg] at hcall;have x0:wq.cell? ⟨g,o+i*5,none⟩=some (.int .i64 xk):=hc 0 j7;have x1:wq.cell? ⟨g,o+i*5+1,none⟩=some (.int .i64 xd):=hc 1 j7;have x2:wq.cell? ⟨g,o+i*5+2,none⟩=some (.int .i64 xt):=hc 2 j7;have x3:wq.cell? ⟨g,o+i*5+3,none⟩=some (.int .i64 xa):=hc 3 j7;have x4:wq.cell? ⟨g,o+i*5+4,none⟩=some (.int .i64 xf):=hc 4 j7;clear hc;by_cases hq0:q=0
    ·subst hq0
     have hall2:∀j y,j<i+1->L[j]?=some y->evErr t y=0:=λj y hj hy=>by
      rcases Nat.lt_or_ge j i with h|h
      ·exact hall j y h hy
      ·obtain rfl:j=i:=by omega
       rw [hx] at hy;cases hy;exact hq
     clear hall;obtain⟨Hall2,Hk,Hkw⟩:=hid3 hall2 hk hkw;clear hkw hk hall2 hx hq;have Hcall:=Lib.hid hcall;clear hcall;go_wp2_with fail;refine(Hcall.o _ (Hkw.o.nt (Keeps.alloc _ _))).mono ?_;rintro e w2 ⟨rfl,hk2⟩;have Hk2:=Lib.hid (Hk.o.nt ((Keeps.alloc _ _).nt hk2));clear hk2;go_wp2;go_roundw
     case rel=>exact⟨i+1,by go_num,by omega,Hall2.o,Hk2.o⟩
     case measure=>simp [intOf];omega
    ·have he:=Xr hall hx (by rw [hq];exact hq0);have hqI:(q !=0)=true:=by simp [hq0]
     rw [hq] at he;clear hall;obtain⟨Hk,Hkw⟩:=hid2 hk hkw;clear hkw hk hx hq;obtain⟨Hcall,He⟩:=hid2 hcall he;clear he hcall;go_wp2_with fail;refine(Hcall.o _ (Hkw.o.nt (Keeps.alloc _ _))).mono ?_;rintro e w2 ⟨rfl,hk2⟩;have Hk2:=Lib.hid (Hkw.o.nt ((Keeps.alloc _ _).nt hk2));clear hk2;go_wp2;go_ret;exact⟨by have h:=Hz'.o;rw [He.o,if_neg hq0] at h;subst h;rfl,Hk2.o⟩
   ·obtain rfl:n=i:=by omega
    have he:=Adg (t:=t) (L:=L) λx hx=>by
     obtain⟨j,hj⟩:=List.getElem?_of_mem hx;exact hall j x (by rw [<-Hn.o];exact Dr hj) hj
    have h:=Hz'.o;rw [he,if_pos rfl] at h;by_cases h1:2000<n
    ·have h1I:decide ((2000:Int)<(n:Int))=true:=by rw [decide_eq_true_iff];omega
     rw [if_pos h1] at h;exact j1Q
    have h1I:decide ((2000:Int)<(n:Int))=false:=by rw [decide_eq_false_iff_not];omega
    rw [if_neg h1] at h;by_cases h2:td<t.start
    ·skip
     rw [if_pos (.inl h2)] at h;exact j1Q
    by_cases h3:2932896<td
    ·skip
     rw [if_pos (.inr h3)] at h;exact j1Q
    rw [if_neg j6] at h;obtain⟨oE,hoE⟩:=eX (ofE t.start t.cyc td);obtain⟨oV,hoV⟩:=eX (ofV t.start t.cyc td);have hof2:=Hof.o;rw [hoE,hoV] at hof2;rw [hoE] at h;by_cases h4:oE=0
    ·subst h4;rw [if_neg (by simp)] at h;rcases h5:L.any (lateQ td) with _|_
     ·rw [h5,if_neg j7] at h;exact j3z
     ·rw [h5,if_pos rfl] at h;exact j3z
    ·have h4I:(oE !=0)=true:=by simp [h4]
     rw [if_pos h4] at h;subst h;clear hall;obtain⟨Hk,Hkw,He⟩:=hid3 hk hkw he;clear he hkw hk hoE hoV;have Hof2:=Lib.hid hof2;clear hof2;go_wp2_with fail;refine(Hof2.o _).mono ?_;rintro e w3 ⟨rfl,hk3⟩;have Hk3:=Lib.hid (Hkw.o.nt hk3);clear hk3;go_wp2;go_ret;exact⟨rfl,Hk3.o⟩
 ·rw [if_neg hy0] at hz';have hy6:=Tm.err_or t;rw [hy] at hy6;obtain rfl:y=6:=hy6.resolve_left hy0;subst hz';obtain⟨Htm,Hev,Htb⟩:=hid3 htm hev htb;clear htb hev htm htr;obtain⟨Hr,Hz⟩:=hid2 hr hz;clear hz hr hy hnt;obtain⟨Hn,Hlate⟩:=hid2 hn hlate;clear hlate hn;go_enter Tryz.func102,Tryz.ntmps102;go_wp2_with fail;refine(Htm.o _ ((Keeps.alloc _ _).Af)).mono ?_;rintro e w1 ⟨rfl,hk1⟩;have Hk1:=Lib.hid (((Keeps.alloc (S:=λ_=>False) w _).Af).nt hk1);clear hk1;exact j0w
theorem Um:(Tryz.prog.info? 49).map (λi=>(i.zero,i.size,i.bytes))=some (some (.slice none 0 0),1,24):=by kernel_rfl
structure St where
 i:Nat
 day:Int
 p:Ps
 R:List Int
 e0:List (List Int)
 e1:List (List Int)
 out:List Stm
structure Fx where
 X:Nat->Prop
 Y:Nat->Prop
 Z:World
instance:CoeFun Fx (λ_=>Nat->Prop):=⟨Fx.X⟩
def OwnB(w0:World)(X:Fx)(b:Nat):Prop:=w0.heap.size<=b/\¬X b
def Own(w0:World)(X:Fx)(v:Value):Prop:=∀b,v.ownBlock=some b->OwnB w0 X b
structure RunV(w0:World)(X:Fx)(B:Nat)(t:Tm)(n:Nat)(vt:Value)(L:List Ev)(f0 f1 f2:Value)(s:St)(vl vb vr:Value)(g0 g1:Nat)(S0 S1:List SI)(vo:Value)(P:List SV)(W:World):Prop where
 blk:W.heap[B]?=some (.cells #[.int .i64 t.limit,vt,.int .i64 t.cyc,.int .i64 t.due,.int .i64 t.minFixed,.int .i64 t.minPart,.int .i64 t.start,vl,.int .i64 (s.i:Nat),.int .i64 s.day,vb,.int .i64 s.p.cr,.int .i64 s.p.du,vr,.slice (some ⟨g0,0,none⟩) n n,.slice (some ⟨g1,0,none⟩) n n,vo,f0,f1,f2] 203 (0,0))
 trs:Reads W 2 vt n (t.trs.flatMap Tn.cells)
 evs:W.ownsRow 0 186 5 vl L.length (L.flatMap Ev.cells)
 bal:W.ownsRow 0 2 1 vb n (s.p.bal.flatMap i64c)
 rts:W.ownsRow 0 2 1 vr n (s.R.flatMap i64c)
 o0:W.heap[g0]?=some (.cells (S0.map SI.v).toArray 49 (0,0))
 o1:W.heap[g1]?=some (.cells (S1.map SI.v).toArray 49 (0,0))
 i0:∀x∈S0,W.ownsRow 0 2 1 x.v x.L.length (x.L.flatMap i64c)
 i1:∀x∈S1,W.ownsRow 0 2 1 x.v x.L.length (x.L.flatMap i64c)
 out:W.ownsRow 0 59 9 vo P.length (P.flatMap SV.cells)
 ln:∀x∈P,W.ownsRow 0 212 3 x.v x.s.lines.length (x.s.lines.flatMap Ln.cells)
 l0:S0.map SI.L=s.e0
 l1:S1.map SI.L=s.e1
 lp:P.map SV.s=s.out
 n0:S0.length=n
 n1:S1.length=n
 nb:s.p.bal.length=n
 nr:s.R.length=n
 d00:∀(j k:Nat) (x y:SI),S0[j]?=some x->S0[k]?=some y->j≠k->∀b,x.v.ownBlock=some b->y.v.ownBlock≠some b
 d11:∀(j k:Nat) (x y:SI),S1[j]?=some x->S1[k]?=some y->j≠k->∀b,x.v.ownBlock=some b->y.v.ownBlock≠some b
 d01:∀(x y:SI),x∈S0->y∈S1->∀b,x.v.ownBlock=some b->y.v.ownBlock≠some b
 db0:∀x∈S0,∀b,x.v.ownBlock=some b->vb.ownBlock≠some b/\vr.ownBlock≠some b
 db1:∀x∈S1,∀b,x.v.ownBlock=some b->vb.ownBlock≠some b/\vr.ownBlock≠some b
 g01:g0≠g1
 wB:OwnB w0 X B
 w0':OwnB w0 X g0
 w1':OwnB w0 X g1
 wl:Own w0 X vl
 wb:Own w0 X vb
 wr:Own w0 X vr
 wo:Own w0 X vo
 wi0:∀x∈S0,Own w0 X x.v
 wi1:∀x∈S1,Own w0 X x.v
 wln:∀x∈P,Own w0 X x.v
 wt:∀b,vt.ownBlock=some b->b<w0.heap.size/\¬X b
 xl:∀b,X b->b<W.heap.size
 yx:∀b,X.Y b->X b
 fz:∀b,X.Y b->W.heap[b]?=X.Z.heap[b]?
 kp:Keeps X.X w0 W
section
variable {w0:World} {X:Fx} {B:Nat} {t:Tm} {n:Nat} {vt:Value} {L:List Ev} {f0 f1 f2:Value} {s:St} {vl vb vr:Value} {g0 g1:Nat} {S0 S1:List SI} {vo:Value} {P:List SV} {W W':World}
theorem RunV.keep(h:RunV w0 X B t n vt L f0 f1 f2 s vl vb vr g0 g1 S0 S1 vo P W){S:Nat->Prop}(hk:Keeps S W W')(hS:∀b,S b->X b)(hY:∀b,S b->¬X.Y b):RunV w0 X B t n vt L f0 f1 f2 s vl vb vr g0 g1 S0 S1 vo P W':=
 { h with
  blk:=Ad h.blk hk (λe=>h.wB.2 (hS _ e))
  trs:=h.trs.keeps hk (λb hb e=>(h.wt b hb).2 (hS _ e))
  evs:=hk.row h.evs (λb hb e=>(h.wl b hb).2 (hS _ e))
  bal:=hk.row h.bal (λb hb e=>(h.wb b hb).2 (hS _ e))
  rts:=hk.row h.rts (λb hb e=>(h.wr b hb).2 (hS _ e))
  o0:=Ad h.o0 hk (λe=>h.w0'.2 (hS _ e))
  o1:=Ad h.o1 hk (λe=>h.w1'.2 (hS _ e))
  i0:=λx hx=>hk.row (h.i0 x hx) (λb hb e=>(h.wi0 x hx b hb).2 (hS _ e))
  i1:=λx hx=>hk.row (h.i1 x hx) (λb hb e=>(h.wi1 x hx b hb).2 (hS _ e))
  out:=hk.row h.out (λb hb e=>(h.wo b hb).2 (hS _ e))
  ln:=λx hx=>hk.row (h.ln x hx) (λb hb e=>(h.wln x hx b hb).2 (hS _ e))
  xl:=λb hb=>Nat.lt_of_lt_of_le (h.xl b hb) hk.size
  fz:=λb hb=>(hk.block b (h.xl b (h.yx b hb)) (λe=>hY b e hb)).trans (h.fz b hb)
  kp:=h.kp.trans (hk.mono λb _ e=> .inl (hS b e)) }
theorem RunV.keep0(h:RunV w0 X B t n vt L f0 f1 f2 s vl vb vr g0 g1 S0 S1 vo P W)(hk:K0 W W'):RunV w0 X B t n vt L f0 f1 f2 s vl vb vr g0 g1 S0 S1 vo P W':=h.keep hk (by simp) (by simp)
theorem RunV.step(h:RunV w0 X B t n vt L f0 f1 f2 s vl vb vr g0 g1 S0 S1 vo P W){S X2:Nat->Prop}(hk:Keeps S W W')(hS:∀b,S b->X b)(hSY:∀b,S b->¬X.Y b)(hY:∀b,X2 b->X b\/W.heap.size<=b)(hYl:∀b,X2 b->b<W'.heap.size)(hXY:∀b,b<w0.heap.size->X b->X2 b)(hyx:∀b,X.Y b->X2 b):RunV w0 ⟨X2,X.Y,X.Z⟩ B t n vt L f0 f1 f2 s vl vb vr g0 g1 S0 S1 vo P W':=by
 have hb:∀b,b<W.heap.size->OwnB w0 X b->OwnB w0 ⟨X2,X.Y,X.Z⟩ b:=λb hl h=>⟨h.1,λe=>(hY b e).elim h.2 (λe=>by omega)⟩;have h2:=h.keep hk hS hSY
 exact { h2 with
  wB:=hb _ (lt_of_block h.blk) h.wB
  w0':=hb _ (lt_of_block h.o0) h.w0'
  w1':=hb _ (lt_of_block h.o1) h.w1'
  wl:=λb e=>hb b (Ch h.evs e) (h.wl b e)
  wb:=λb e=>hb b (Ch h.bal e) (h.wb b e)
  wr:=λb e=>hb b (Ch h.rts e) (h.wr b e)
  wo:=λb e=>hb b (Ch h.out e) (h.wo b e)
  wi0:=λx hx b e=>hb b (Ch (h.i0 x hx) e) (h.wi0 x hx b e)
  wi1:=λx hx b e=>hb b (Ch (h.i1 x hx) e) (h.wi1 x hx b e)
  wln:=λx hx b e=>hb b (Ch (h.ln x hx) e) (h.wln x hx b e)
  wt:=λb e=>⟨(h.wt b e).1,λhy=>(hY b hy).elim (h.wt b e).2 (λh1=>by have:=h.kp.size;have:=(h.wt b e).1;omega)⟩
  xl:=hYl
  yx:=hyx
  kp:=h2.kp.mono hXY }
theorem RunV.new(h:RunV w0 X B t n vt L f0 f1 f2 s vl vb vr g0 g1 S0 S1 vo P W){b:Nat}(hb:W.heap.size<=b):OwnB w0 X b:=⟨by have:=h.kp.size;omega,λe=>by have:=h.xl b e;omega⟩
theorem RunV.ownN(h:RunV w0 X B t n vt L f0 f1 f2 s vl vb vr g0 g1 S0 S1 vo P W){v:Value}(hv:∀b,v.ownBlock=some b->W.heap.size<=b):Own w0 X v:=λb e=>h.new (hv b e)
theorem Td{S:List SI}{g:Nat}{e:TypeId}{k:Nat}{x:SI}(h:W.heap[g]?=some (.cells (S.map SI.v).toArray e (0,0)))(hx:S[k]?=some x):W.cell? ⟨g,k,none⟩=some x.v:=by
 rw [Aa h,List.getElem?_toArray,List.getElem?_map,hx];rfl
theorem si_set{S:List SI}{g:Nat}{e:TypeId}{k:Nat}(x:SI)(h:W.heap[g]?=some (.cells (S.map SI.v).toArray e (0,0))):(W.setCell ⟨g,k,none⟩ x.v).heap[g]?=some (.cells ((S.set k x).map SI.v).toArray e (0,0)):=by
 rw [heap_setCell_same _ _ k _ _ x.v h,List.setIfInBounds_toArray,List.map_set]
theorem Abc(n:Nat):madeCells (Value.slice none 0 0).cells n=((List.replicate n (⟨none,0, []⟩:SI)).map SI.v).toArray:=by
 apply Array.ext'
 rw [List.map_replicate]
 apply List.ext_getElem?
 intro i;rw [List.getElem?_replicate];by_cases h:i<n
 ·rw [if_pos h];have h2:i<(madeCells (Value.slice none 0 0).cells n).toList.length:=by simp [madeCells,Value.cells];exact h
  rw [List.getElem?_eq_getElem h2];simp [madeCells,Value.cells,SI.v,Nat.mod_one]
 ·rw [if_neg h,List.getElem?_eq_none (by simp [madeCells,Value.cells];omega)]
def si0:SI:=⟨none,0, []⟩
theorem RunV.renew(h:RunV w0 X B t n vt L f0 f1 f2 s vl vb vr g0 g1 S0 S1 vo P W){W2:World}(hk:K0 W W2){a b:Nat}(ha:W.heap.size<=a)(hb:W.heap.size<=b)(hab:a≠b)
  (h0:W2.heap[a]?=some (.cells ((List.replicate n si0).map SI.v).toArray 49 (0,0))) (h1:W2.heap[b]?=some (.cells ((List.replicate n si0).map SI.v).toArray 49 (0,0))):
  RunV w0 X B t n vt L f0 f1 f2 { s with e0:=List.replicate n [],e1:=List.replicate n [] } vl vb vr a b (List.replicate n si0) (List.replicate n si0) vo P ((W2.setCell ⟨B,14,none⟩ (.slice (some ⟨a,0,none⟩) n n)).setCell ⟨B,15,none⟩ (.slice (some ⟨b,0,none⟩) n n)):=by
 have h2:=h.keep0 hk;have hBl:=lt_of_block h.blk;have kB:Keeps (λi=>i=B) W2 ((W2.setCell ⟨B,14,none⟩ (.slice (some ⟨a,0,none⟩) n n)).setCell ⟨B,15,none⟩ (.slice (some ⟨b,0,none⟩) n n)):=(Keeps.setCell (S:=λi=>i=B) _ _ _ rfl).trans (Keeps.setCell _ _ _ (.inl rfl));have hne:∀{e:TypeId} {sz m:Nat} {v:Value} {xs:List Value},W2.ownsRow 0 e sz v m xs->203≠e->∀i,v.ownBlock=some i->¬i=B:=λhr hne i hi e=>by subst e;exact Ah hr h2.blk hne hi
 refine j3A ?_;intro hnil hget
 exact { h2 with
  blk:=(heap_setCell_same _ _ 15 _ _ _ ((heap_setCell_same _ _ 14 _ _ _ h2.blk).trans rfl)).trans rfl
  trs:=h2.trs.keeps kB (λi hi e=>by have e':i=B:=e;have:=(h.wt i hi).1;have:=h.wB.1;omega)
  evs:=kB.row h2.evs (hne h2.evs j7)
  bal:=kB.row h2.bal (hne h2.bal j7)
  rts:=kB.row h2.rts (hne h2.rts j7)
  o0:=Ad h0 kB j6
  o1:=Ad h1 kB j6
  i0:=λx hx=>by rw [hnil x hx];exact World.ownsRow_nil _ _ _ _
  i1:=λx hx=>by rw [hnil x hx];exact World.ownsRow_nil _ _ _ _
  out:=kB.row h2.out (hne h2.out j7)
  ln:=λx hx=>kB.row (h2.ln x hx) (hne (h2.ln x hx) j7)
  l0:=by simp [si0]
  l1:=by simp [si0]
  n0:=by simp
  n1:=by simp
  d00:=λj k x y hx hy _ b e=>by rw [hget j x hx] at e;simp [si0,SI.v,Value.ownBlock] at e
  d11:=λj k x y hx hy _ b e=>by rw [hget j x hx] at e;simp [si0,SI.v,Value.ownBlock] at e
  d01:=λx y hx hy b e=>by rw [hnil x hx] at e;simp [si0,SI.v,Value.ownBlock] at e
  db0:=λx hx b e=>by rw [hnil x hx] at e;simp [si0,SI.v,Value.ownBlock] at e
  db1:=λx hx b e=>by rw [hnil x hx] at e;simp [si0,SI.v,Value.ownBlock] at e
  g01:=hab
  w0':=h.new ha
  w1':=h.new hb
  wi0:=λx hx b e=>by rw [hnil x hx] at e;simp [si0,SI.v,Value.ownBlock] at e
  wi1:=λx hx b e=>by rw [hnil x hx] at e;simp [si0,SI.v,Value.ownBlock] at e
  xl:=λb hb=>Nat.lt_of_lt_of_le (h2.xl b hb) kB.size
  fz:=λb hb=>(kB.block b (h2.xl b (h2.yx b hb)) (λe=>by have e':b=B:=e;exact h.wB.2 (e'▸h.yx b hb))).trans (h2.fz b hb)
  kp:=h2.kp.trans (kB.mono λi _ e=> .inr (by have e':i=B:=e;rw [e'];exact h.wB.1)) }
end
theorem Eu{w0:World}{X:Fx}{B:Nat}{t:Tm}{n:Nat}{vt:Value}{L:List Ev}{f0 f1 f2:Value}{s:St}{vl vb vr:Value}{g0 g1:Nat}{S0 S1:List SI}{vo:Value}{P:List SV}{W:World}(h:RunV w0 X B t n vt L f0 f1 f2 s vl vb vr g0 g1 S0 S1 vo P W)(hn:n<=1000):
  Calls Tryz.prog 104 #[(.pointer (some ⟨B,0,none⟩))] W λe W'=>e= .returned (.tuple #[])/\∃a b,RunV w0 X B t n vt L f0 f1 f2 { s with e0:=List.replicate n [],e1:=List.replicate n [] } vl vb vr a b (List.replicate n si0) (List.replicate n si0) vo P W':=by
 obtain⟨i0,hi,hi0,hi1,hi2⟩:=info_parts Um;obtain⟨adT,cT,rfl⟩:∃a c,vt= .slice a n c:=by obtain⟨a,c,h,_⟩:=h.trs;exact⟨a,c,h⟩
 refine j3B ?_;intro hmk;simp only [Int.toNat_natCast,hi1,Nat.mul_one] at hmk;obtain⟨Z,hZ⟩:=eY (madeCells (Value.slice none 0 0).cells n);rw [<-hZ] at hmk;rw [Abc] at hZ;have hrv:=h
 have hS:∀W',K0 W W'->(λW'=>W'.cell? ⟨B,14,none⟩=some (.slice (some ⟨g0,0,none⟩) n n)/\W'.cell? ⟨B,15,none⟩=some (.slice (some ⟨g1,0,none⟩) n n)/\W'.frozen? ⟨B,14,none⟩=false/\W'.frozen? ⟨B,15,none⟩=false/\B<W'.heap.size) W':=λW' hk=>by
  have hb:=Ad h.blk hk (by simp);exact⟨Aa hb 14,Aa hb 15,Ab hb 14,Ab hb 15,lt_of_block hb⟩
 have c1:=Aa h.blk 1;clear h;have Hrv:=Lib.hid hrv;clear hrv hi hi0 hi1 hi2;obtain⟨HZ,HS⟩:=hid2 hZ hS;clear hS hZ;go_enter Tryz.func104,Tryz.ntmps104;go_wp2_with fail;refine Ak (λ_=>True) (.take 0 (.take 1 (.take 3 (.fork 2 (.move 4 (.take 5 (.take 6 (.take 7 (.move 8 .done))))) 4 (.move 2 (.take 5 (.take 6 (.take 7 (.move 8 .done))))))))) j9 j9 ?_ ?_
 ·trivial
 intro w1 hs1 hk1;have Hk1:=Lib.hid hk1;clear hk1 hs1;refine jR ?_;refine Dx ?_ ?_ trivial
 ·skip
  refine jO ?_;refine jO ?_;obtain⟨s14,s15,s16,s17,sl⟩:=HS.o _ ((Hk1.o.Af (o:= .cells Z 49)).Af (o:= .cells Z 49));have z0:((w1.alloc (.cells Z 49)).alloc (.cells Z 49)).heap[w1.heap.size]?=some (.cells ((List.replicate n si0).map SI.v).toArray 49 (0,0)):=by rw [show((List.replicate n si0).map SI.v).toArray=Z from HZ.o.symm];exact Ap (heap_alloc_new w1 _) _
  have z1:((w1.alloc (.cells Z 49)).alloc (.cells Z 49)).heap[w1.heap.size+1]?=some (.cells ((List.replicate n si0).map SI.v).toArray 49 (0,0)):=by rw [show((List.replicate n si0).map SI.v).toArray=Z from HZ.o.symm];exact Aw _ _ (by simp)
  have hren:=Hrv.o.renew ((Hk1.o.Af (o:= .cells Z 49)).Af (o:= .cells Z 49)) (a:=w1.heap.size) (b:=w1.heap.size+1) j0x j0x j6 z0 z1;exact j3C
 ·skip
  refine jO ?_;refine jO ?_;obtain⟨s14,s15,s16,s17,sl⟩:=HS.o _ ((Hk1.o.Af (o:= .cells Z 49)).Af (o:= .cells Z 49));have z0:((w1.alloc (.cells Z 49)).alloc (.cells Z 49)).heap[w1.heap.size]?=some (.cells ((List.replicate n si0).map SI.v).toArray 49 (0,0)):=by rw [show((List.replicate n si0).map SI.v).toArray=Z from HZ.o.symm];exact Ap (heap_alloc_new w1 _) _
  have z1:((w1.alloc (.cells Z 49)).alloc (.cells Z 49)).heap[w1.heap.size+1]?=some (.cells ((List.replicate n si0).map SI.v).toArray 49 (0,0)):=by rw [show((List.replicate n si0).map SI.v).toArray=Z from HZ.o.symm];exact Aw _ _ (by simp)
  have hren:=Hrv.o.renew ((Hk1.o.Af (o:= .cells Z 49)).Af (o:= .cells Z 49)) (a:=w1.heap.size+1) (b:=w1.heap.size) j0x j0x j6 z1 z0;exact j3C
section
variable {w0:World} {X:Fx} {B:Nat} {t:Tm} {n:Nat} {vt:Value} {L:List Ev} {f0 f1 f2:Value} {s:St} {vl vb vr:Value} {g0 g1:Nat} {S0 S1:List SI} {vo:Value} {P:List SV} {W W':World}
theorem RunV.ext0(h:RunV w0 X B t n vt L f0 f1 f2 s vl vb vr g0 g1 S0 S1 vo P W){k:Nat}{x x':SI}{v:Int}{w4 w5:World}(hx:S0[k]?=some x)(hk4:K0 W w4)(hk5:Keeps (λi=>x.v.ownBlock=some i) w4 w5)
  (hr:w5.ownsRow 0 2 1 x'.v x'.L.length (x'.L.flatMap i64c)) (hL:x'.L=x.L++ [v]) (hf:x'.v.ownBlock=x.v.ownBlock\/∃g,x'.v.ownBlock=some g/\w4.heap.size<=g):
  RunV w0 X B t n vt L f0 f1 f2 { s with e0:=s.e0.set k (x.L++ [v]) } vl vb vr g0 g1 (S0.set k x') S1 vo P (w5.setCell ⟨g0,k,none⟩ x'.v):=by
 have h4:=h.keep0 hk4;have hxm:=List.mem_of_getElem? hx;have hrx:=h4.i0 x hxm;have hkl:=Dr hx;have hs4:=hk4.size;have hs5:=hk5.size
 have hnewb:∀b,x'.v.ownBlock=some b->x.v.ownBlock=some b\/W.heap.size<=b:=λb hb=>by
  exact j3D
 refine j3E ?_;intro nx nr h5o0 h5o1 h5b;have kg:Keeps (λi=>i=g0) w5 (w5.setCell ⟨g0,k,none⟩ x'.v):=Keeps.setCell _ _ _ rfl;have gb:∀{e:TypeId} {sz m:Nat} {u:Value} {xs:List Value},w5.ownsRow 0 e sz u m xs->49≠e->∀b,u.ownBlock=some b->¬b=g0:=λhr' hne b hb e=>by subst e;exact Ah hr' h5o0 hne hb
 have hBg:¬B=g0:=λe=>by
  have h1:=h5b;rw [e,h5o0] at h1;exact j0y
 have r5:∀{e:TypeId} {sz m:Nat} {u:Value} {xs:List Value},w4.ownsRow 0 e sz u m xs->(∀b,u.ownBlock=some b->¬x.v.ownBlock=some b)->49≠e->(w5.setCell ⟨g0,k,none⟩ x'.v).ownsRow 0 e sz u m xs:=λhr' hd hne=>kg.row (hk5.row hr' hd) (gb (hk5.row hr' hd) hne)
 have hmem:∀(j:Nat) (y:SI),(S0.set k x')[j]?=some y->(j=k/\y=x')\/(j≠k/\S0[j]?=some y):=λj y hy=>by
  exact j3F
 have hmem2:∀y∈S0.set k x',y=x'\/∃j,j≠k/\S0[j]?=some y:=λy hy=>by
  exact j3G
 have hx2:∀y∈S1,∀b,x'.v.ownBlock=some b->y.v.ownBlock≠some b:=λy hy b hb e=>by
  rcases hnewb b hb with h1|h1
  ·exact h.d01 x y hxm hy b h1 e
  ·have:=Ch (h.i1 y hy) e;omega
 exact { h4 with
  blk:=Ad h5b kg hBg
  trs:=(h4.trs.keeps hk5 (λb hb e=>by have:=(h.wt b hb).1;have:=(h.wi0 x hxm b e).1;omega)).keeps kg (λb hb e=>by have e':b=g0:=e;have:=(h.wt b hb).1;have:=h.w0'.1;omega)
  evs:=r5 h4.evs (nr h4.evs j7) j7
  bal:=r5 h4.bal (λb hb e=>(h.db0 x hxm b e).1 hb) j7
  rts:=r5 h4.rts (λb hb e=>(h.db0 x hxm b e).2 hb) j7
  o0:=si_set x' h5o0
  o1:=Ad h5o1 kg (λe=>h.g01 e.symm)
  i0:=λy hy=>by
   rcases hmem2 y hy with rfl|⟨j,hj,hjy⟩
   ·exact kg.row hr (gb hr j7)
   ·exact r5 (h4.i0 y (List.mem_of_getElem? hjy)) (λb hb e=>h.d00 j k y x hjy hx hj b hb e) j7
  i1:=λy hy=>r5 (h4.i1 y hy) (λb hb e=>h.d01 x y hxm hy b e hb) j7
  out:=r5 h4.out (nr h4.out j7) j7
  ln:=λy hy=>r5 (h4.ln y hy) (nr (h4.ln y hy) j7) j7
  l0:=by rw [List.map_set,h.l0,hL]
  n0:=by rw [List.length_set];exact h.n0
  d00:=λi j y z hy hz hne b hb=>by
   rcases hmem i y hy with⟨rfl,rfl⟩|⟨h1,h2⟩
   ·rcases hmem j z hz with⟨rfl,rfl⟩|⟨h3,h4'⟩
    ·exact absurd rfl hne
    ·rcases hnewb b hb with h5|h5
     ·exact h.d00 i j x z hx h4' hne b h5
     ·intro e;have:=Ch (h.i0 z (List.mem_of_getElem? h4')) e;omega
   ·rcases hmem j z hz with⟨rfl,rfl⟩|⟨h3,h4'⟩
    ·intro e;rcases hnewb b e with h5|h5
     ·exact h.d00 i j y x h2 hx hne b hb h5
     ·have:=Ch (h.i0 y (List.mem_of_getElem? h2)) hb;omega
    ·exact h.d00 i j y z h2 h4' hne b hb
  d01:=λy z hy hz b hb=>by
   rcases hmem2 y hy with rfl|⟨j,hj,hjy⟩
   ·exact hx2 z hz b hb
   ·exact h.d01 y z (List.mem_of_getElem? hjy) hz b hb
  db0:=λy hy b hb=>by
   rcases hmem2 y hy with rfl|⟨j,hj,hjy⟩
   ·rcases hnewb b hb with h5|h5
    ·exact h.db0 x hxm b h5
    ·exact⟨λe=>by have:=Ch h.bal e;omega,λe=>by have:=Ch h.rts e;omega⟩
   ·exact h.db0 y (List.mem_of_getElem? hjy) b hb
  wi0:=λy hy b hb=>by
   rcases hmem2 y hy with rfl|⟨j,hj,hjy⟩
   ·rcases hnewb b hb with h5|h5
    ·exact h.wi0 x hxm b h5
    ·exact h.new h5
   ·exact h.wi0 y (List.mem_of_getElem? hjy) b hb
  xl:=λb hb=>Nat.lt_of_lt_of_le (Nat.lt_of_lt_of_le (h4.xl b hb) hs5) kg.size
  fz:=λb hb=>((kg.block b (Nat.lt_of_lt_of_le (h4.xl b (h4.yx b hb)) hs5) (λe=>by have e':b=g0:=e;exact h.w0'.2 (e'▸h.yx b hb))).trans (hk5.block b (h4.xl b (h4.yx b hb)) (λe=>(h.wi0 x hxm b e).2 (h.yx b hb)))).trans (h4.fz b hb)
  kp:=(h4.kp.trans (hk5.mono λi _ e=> .inr (h.wi0 x hxm i e).1)).trans (kg.mono λi _ e=> .inr (by have e':i=g0:=e;rw [e'];exact h.w0'.1)) }
theorem RunV.ext1(h:RunV w0 X B t n vt L f0 f1 f2 s vl vb vr g0 g1 S0 S1 vo P W){k:Nat}{x x':SI}{v:Int}{w4 w5:World}(hx:S1[k]?=some x)(hk4:K0 W w4)(hk5:Keeps (λi=>x.v.ownBlock=some i) w4 w5)
  (hr:w5.ownsRow 0 2 1 x'.v x'.L.length (x'.L.flatMap i64c)) (hL:x'.L=x.L++ [v]) (hf:x'.v.ownBlock=x.v.ownBlock\/∃g,x'.v.ownBlock=some g/\w4.heap.size<=g):
  RunV w0 X B t n vt L f0 f1 f2 { s with e1:=s.e1.set k (x.L++ [v]) } vl vb vr g0 g1 S0 (S1.set k x') vo P (w5.setCell ⟨g1,k,none⟩ x'.v):=by
 have h4:=h.keep0 hk4;have hxm:=List.mem_of_getElem? hx;have hrx:=h4.i1 x hxm;have hkl:=Dr hx;have hs4:=hk4.size;have hs5:=hk5.size
 have hnewb:∀b,x'.v.ownBlock=some b->x.v.ownBlock=some b\/W.heap.size<=b:=λb hb=>by
  exact j3D
 refine j3E ?_;intro nx nr h5o0 h5o1 h5b;have kg:Keeps (λi=>i=g1) w5 (w5.setCell ⟨g1,k,none⟩ x'.v):=Keeps.setCell _ _ _ rfl;have gb:∀{e:TypeId} {sz m:Nat} {u:Value} {xs:List Value},w5.ownsRow 0 e sz u m xs->49≠e->∀b,u.ownBlock=some b->¬b=g1:=λhr' hne b hb e=>by subst e;exact Ah hr' h5o1 hne hb
 have hBg:¬B=g1:=λe=>by
  have h1:=h5b;rw [e,h5o1] at h1;exact j0y
 have r5:∀{e:TypeId} {sz m:Nat} {u:Value} {xs:List Value},w4.ownsRow 0 e sz u m xs->(∀b,u.ownBlock=some b->¬x.v.ownBlock=some b)->49≠e->(w5.setCell ⟨g1,k,none⟩ x'.v).ownsRow 0 e sz u m xs:=λhr' hd hne=>kg.row (hk5.row hr' hd) (gb (hk5.row hr' hd) hne)
 have hmem:∀(j:Nat) (y:SI),(S1.set k x')[j]?=some y->(j=k/\y=x')\/(j≠k/\S1[j]?=some y):=λj y hy=>by
  exact j3F
 have hmem2:∀y∈S1.set k x',y=x'\/∃j,j≠k/\S1[j]?=some y:=λy hy=>by
  exact j3G
 have hx2:∀y∈S0,∀b,x'.v.ownBlock=some b->y.v.ownBlock≠some b:=λy hy b hb e=>by
  rcases hnewb b hb with h1|h1
  ·exact h.d01 y x hy hxm b e h1
  ·have:=Ch (h.i0 y hy) e;omega
 exact { h4 with
  blk:=Ad h5b kg hBg
  trs:=(h4.trs.keeps hk5 (λb hb e=>by have:=(h.wt b hb).1;have:=(h.wi1 x hxm b e).1;omega)).keeps kg (λb hb e=>by have e':b=g1:=e;have:=(h.wt b hb).1;have:=h.w1'.1;omega)
  evs:=r5 h4.evs (nr h4.evs j7) j7
  bal:=r5 h4.bal (λb hb e=>(h.db1 x hxm b e).1 hb) j7
  rts:=r5 h4.rts (λb hb e=>(h.db1 x hxm b e).2 hb) j7
  o1:=si_set x' h5o1
  o0:=Ad h5o0 kg (λe=>h.g01 e)
  i1:=λy hy=>by
   rcases hmem2 y hy with rfl|⟨j,hj,hjy⟩
   ·exact kg.row hr (gb hr j7)
   ·exact r5 (h4.i1 y (List.mem_of_getElem? hjy)) (λb hb e=>h.d11 j k y x hjy hx hj b hb e) j7
  i0:=λy hy=>r5 (h4.i0 y hy) (λb hb e=>h.d01 y x hy hxm b hb e) j7
  out:=r5 h4.out (nr h4.out j7) j7
  ln:=λy hy=>r5 (h4.ln y hy) (nr (h4.ln y hy) j7) j7
  l1:=by rw [List.map_set,h.l1,hL]
  n1:=by rw [List.length_set];exact h.n1
  d11:=λi j y z hy hz hne b hb=>by
   rcases hmem i y hy with⟨rfl,rfl⟩|⟨h1,h2⟩
   ·rcases hmem j z hz with⟨rfl,rfl⟩|⟨h3,h4'⟩
    ·exact absurd rfl hne
    ·rcases hnewb b hb with h5|h5
     ·exact h.d11 i j x z hx h4' hne b h5
     ·intro e;have:=Ch (h.i1 z (List.mem_of_getElem? h4')) e;omega
   ·rcases hmem j z hz with⟨rfl,rfl⟩|⟨h3,h4'⟩
    ·intro e;rcases hnewb b e with h5|h5
     ·exact h.d11 i j y x h2 hx hne b hb h5
     ·have:=Ch (h.i1 y (List.mem_of_getElem? h2)) hb;omega
    ·exact h.d11 i j y z h2 h4' hne b hb
  d01:=λy z hy hz b hb=>by
   rcases hmem2 z hz with rfl|⟨j,hj,hjz⟩
   ·intro e;exact hx2 y hy b e hb
   ·exact h.d01 y z hy (List.mem_of_getElem? hjz) b hb
  db1:=λy hy b hb=>by
   rcases hmem2 y hy with rfl|⟨j,hj,hjy⟩
   ·rcases hnewb b hb with h5|h5
    ·exact h.db1 x hxm b h5
    ·exact⟨λe=>by have:=Ch h.bal e;omega,λe=>by have:=Ch h.rts e;omega⟩
   ·exact h.db1 y (List.mem_of_getElem? hjy) b hb
  wi1:=λy hy b hb=>by
   rcases hmem2 y hy with rfl|⟨j,hj,hjy⟩
   ·rcases hnewb b hb with h5|h5
    ·exact h.wi1 x hxm b h5
    ·exact h.new h5
   ·exact h.wi1 y (List.mem_of_getElem? hjy) b hb
  xl:=λb hb=>Nat.lt_of_lt_of_le (Nat.lt_of_lt_of_le (h4.xl b hb) hs5) kg.size
  fz:=λb hb=>((kg.block b (Nat.lt_of_lt_of_le (h4.xl b (h4.yx b hb)) hs5) (λe=>by have e':b=g1:=e;exact h.w1'.2 (e'▸h.yx b hb))).trans (hk5.block b (h4.xl b (h4.yx b hb)) (λe=>(h.wi1 x hxm b e).2 (h.yx b hb)))).trans (h4.fz b hb)
  kp:=(h4.kp.trans (hk5.mono λi _ e=> .inr (h.wi1 x hxm i e).1)).trans (kg.mono λi _ e=> .inr (by have e':i=g1:=e;rw [e'];exact h.w1'.1)) }
end
def extL(E:List (List Int))(V:List Int)(k:Nat):List (List Int):=(List.zipWith (λr v=>r++ [v]) E V).take k++E.drop k
theorem Xn(E:List (List Int))(V:List Int):extL E V 0=E:=by simp [extL]
theorem Xo{E:List (List Int)}{V:List Int}{n:Nat}(h:V.length=n)(hn:E.length=n):extL E V n=List.zipWith (λr v=>r++ [v]) E V:=by
 unfold extL;rw [List.take_of_length_le (by rw [List.length_zipWith];omega),List.drop_eq_nil_of_le j6,List.append_nil]
theorem Abt{E:List (List Int)}{V:List Int}(h:V.length=E.length){k:Nat}{r:List Int}(hr:E[k]?=some r):(extL E V k)[k]?=some r:=by
 have hk:=Dr hr;unfold extL;rw [List.getElem?_append_right (by rw [List.length_take,List.length_zipWith];omega),List.length_take,List.length_zipWith,List.getElem?_drop,show k+(k-min k (min E.length V.length))=k by omega];exact hr
theorem Abs{E:List (List Int)}{V:List Int}(h:V.length=E.length){k:Nat}{r:List Int}{v:Int}(hr:E[k]?=some r)(hv:V[k]?=some v):(extL E V k).set k (r++ [v])=extL E V (k+1):=by
 have hk:=Dr hr;unfold extL;have hl:((List.zipWith (λr v=>r++ [v]) E V).take k).length=k:=by rw [List.length_take,List.length_zipWith];omega
 rw [List.set_append_right _ _ j6,hl,Nat.sub_self];have hd:E.drop k=r::E.drop (k+1):=Dy hr;have hz:(List.zipWith (λr v=>r++ [v]) E V)[k]?=some (r++ [v]):=by rw [List.getElem?_zipWith,hr,hv]
 rw [hd,List.set_cons_zero,take_snoc' hz,List.append_assoc];rfl
def enS(B j g k:Nat)(vg vx:Value)(jb:Nat)(vb:Value)(gb ob:Nat)(v:Int)(W:World):Prop:=W.cell? ⟨B,j,none⟩=some vg/\W.cell? ⟨g,k,none⟩=some vx/\W.cell? ⟨B,jb,none⟩=some vb/\W.cell? ⟨gb,ob,none⟩=some (.int .i64 v)
theorem enS.keep{B j g k:Nat}{vg vx:Value}{jb:Nat}{vb:Value}{gb ob:Nat}{v:Int}{W W':World}{S:Nat->Prop}(h:enS B j g k vg vx jb vb gb ob v W)(hk:Keeps S W W')(h1:¬S B)(h2:¬S g)(h3:¬S gb):enS B j g k vg vx jb vb gb ob v W':=
 ⟨(hk.cell (Ai h.1) h1).trans h.1,(hk.cell (Ai h.2.1) h2).trans h.2.1,(hk.cell (Ai h.2.2.1) h1).trans h.2.2.1,(hk.cell (Ai h.2.2.2) h3).trans h.2.2.2⟩
def endSt(s:St)(k j:Nat):St:={ s with e0:=extL s.e0 s.p.bal k,e1:=extL s.e1 s.R j }
theorem Acr{w0:World}{X:Fx}{B:Nat}{t:Tm}{n:Nat}{vt:Value}{L:List Ev}{f0 f2:Value}{s:St}{vl vb vr:Value}{g0 g1:Nat}{S0 S1:List SI}{vo:Value}{P:List SV}{W:World}(h:RunV w0 X B t n vt L f0 .nilFunc f2 s vl vb vr g0 g1 S0 S1 vo P W)(hn:n<=1000)
  (hle0:∀r∈s.e0,r.length<=100000) (hle1:∀r∈s.e1,r.length<=100000):
  Calls Tryz.prog 106 #[(.pointer (some ⟨B,0,none⟩))] W λe W'=>e= .returned (.tuple #[])/\∃S0' S1',RunV w0 X B t n vt L f0 .nilFunc f2 (endSt s n n) vl vb vr g0 g1 S0' S1' vo P W':=by
 obtain⟨i0,hi,hi0,hi1,hi2⟩:=info_parts Gw;obtain⟨ab,cb,rfl⟩:∃a c,vb= .slice a n c:=by obtain⟨a,c,h,_⟩:=Ae h.bal;exact⟨a,c,h⟩
 obtain⟨ar,cr,rfl⟩:∃a c,vr= .slice a n c:=by obtain⟨a,c,h,_⟩:=Ae h.rts;exact⟨a,c,h⟩
 have hl0:s.p.bal.length=s.e0.length:=by rw [h.nb,<-h.l0,List.length_map,h.n0]
 have hl1:s.R.length=s.e1.length:=by rw [h.nr,<-h.l1,List.length_map,h.n1]
 have hst:RunV w0 X B t n vt L f0 .nilFunc f2 (endSt s 0 0) vl (.slice ab n cb) (.slice ar n cr) g0 g1 S0 S1 vo P W:=by
  unfold endSt;rw [Xn,Xn];exact h
 have hbn:=h.nb;have hrn:=h.nr;have he0:s.e0.length=n:=by rw [<-hl0];exact hbn
 have he1:s.e1.length=n:=by rw [<-hl1];exact hrn
 have c13:=Aa h.blk 13;obtain⟨H,Hi,Hi0,Hi1,Hi2,Hle0,Hle1,Hl0,Hl1⟩:=hid9 h hi hi0 hi1 hi2 hle0 hle1 hl0 hl1;clear hl1 hl0 hle1 hle0 hi2 hi1 hi0 hi h;obtain⟨Hst,Hbn,Hrn,He0,He1⟩:=hid5 hst hbn hrn he0 he1;clear he1 he0 hrn hbn hst;go_enter Tryz.func106,Tryz.ntmps106;go_wp2;clear c13
 go_loopw [8] (λx wx=>∃(k:Nat) (S0' S1':List SI),x= .int .i64 (k:Nat)/\k<=n/\RunV w0 X B t n vt L f0 .nilFunc f2 (endSt s k k) vl (.slice ab n cb) (.slice ar n cr) g0 g1 S0' S1' vo P wx) (λx _=>n-(intOf x).toNat)
 case atStart=>exact⟨0,S0,S1,rfl,Nat.zero_le _,Hst.o⟩
 case round=>
  obtain⟨k,S0',S1',rfl,hkn,hrv⟩:=hrel;obtain⟨wq,hwq⟩:=eY wr;subst hwq;by_cases hlt:k<n
  ·have hltI:(k:Int)<(n:Int):=j8;obtain⟨r0,hr0⟩:=Ar (L:=s.e0) (k:=k) (by rw [He0.o];exact hlt);obtain⟨r1,hr1⟩:=Ar (L:=s.e1) (k:=k) (by rw [He1.o];exact hlt);obtain⟨v0,hv0⟩:=Ar (L:=s.p.bal) (k:=k) (by rw [Hbn.o];exact hlt);obtain⟨v1,hv1⟩:=Ar (L:=s.R) (k:=k) (by rw [Hrn.o];exact hlt);have hr0:=Lib.hid hr0;have hr1:=Lib.hid hr1;have Hv0:=Lib.hid hv0;have Hv1:=Lib.hid hv1;have hle0:=Hle0;have hle1:=Hle1;clear hv0 hv1;have Hrv:=Lib.hid hrv;clear hrv;obtain⟨⟨ax,cx,Lx⟩,hx⟩:=Ar (L:=S0') (k:=k) (by rw [Hrv.o.n0];exact hlt)
   have hxL:Lx=r0:=by
    have h1:=congrArg (λl=>l[k]?) Hrv.o.l0;simp only [List.getElem?_map,hx,Option.map_some,endSt] at h1;rw [Abt Hl0.o hr0.out] at h1
    simpa using h1
   subst hxL;obtain⟨gb,ob,heb,cb0⟩:=(Reads.Bg Hrv.o.bal).int (k:= .i64) Hv0.o;subst heb;obtain⟨m,hm⟩:=eX Lx.length;have hm1:m<=100000:=by rw [<-hm];exact hle0.out _ (List.mem_of_getElem? hr0.out)
   have hxv0:(⟨ax,cx,Lx⟩:SI).v= .slice ax m cx:=by simp only [SI.v,hm]
   have hxm:=List.mem_of_getElem? hx;have hrx:=Hrv.o.i0 _ hxm;rw [hxv0] at hrx;simp only [hm] at hrx;have hS3:enS B 14 g0 k (.slice (some ⟨g0,0,none⟩) n n) (.slice ax m cx) 10 (.slice (some ⟨gb,ob,none⟩) n cb) gb (ob+k) v0 (wq).drew:=(show enS B 14 g0 k (.slice (some ⟨g0,0,none⟩) n n) (.slice ax m cx) 10 (.slice (some ⟨gb,ob,none⟩) n cb) gb (ob+k) v0 (wq) from⟨Aa Hrv.o.blk 14,hxv0▸Td Hrv.o.o0 hx,Aa Hrv.o.blk 10,cb0⟩).keep (S:=λ_=>False) (Keeps.drew _) (by simp) (by simp) (by simp);have hdb:=Hrv.o.db0 _ hxm;rw [hxv0] at hdb;clear cb0;obtain⟨Hx,Hm,Hxv0⟩:=hid3 hx hm hxv0;clear hxv0 hm hx hxm;obtain⟨Hrx,HS3,Hdb⟩:=hid3 hrx hS3 hdb;clear hdb hS3 hrx;go_wp2_with fail;refine Cm (enS B 14 g0 k (.slice (some ⟨g0,0,none⟩) n n) (.slice ax m cx) 10 (.slice (some ⟨gb,ob,none⟩) n cb) gb (ob+k) v0) 25 (.take 0 (.take 1 (.take 2 (.take 3 (.take 4 (.take 5 (.take 6 (.take 7 (.take 8 (.take 9 (.take 10 (.take 11 (.take 12 (.take 13 (.take 14 (.take 15 (.take 16 (.take 17 (.take 18 (.take 19 (.take 20 (.take 21 (.move 22 (.move 23 (.take 24 (.move 25 .done)))))))))))))))))))))))))) j9 j9 ?_ ?_
   ·exact HS3.o
   intro w8 hs8 hk8;refine j1J ?_;have hk8a:=hk8.nt (Keeps.alloc w8 (.cells #[.int .i64 v0] 2));have h8a:=Hrv.o.keep0 hk8a;refine Ag rfl (λK hK=> ?_);refine Cc rfl (.tmp 24) (.tmp 33) 49 rfl 0 2 i0 _ 1 8 Tryz.underlying49 Hi.o Hi0.o Hi1.o Hi2.o rfl j7 (.slice ax m cx) m _ rfl (Hrx.o.of_keeps hk8a) _ 1 _ rfl (Reads.litAt _ _ _ 1 1 _ jr rfl) jf jd j6 (Nat.zero_le _) ?_;intro v9 w9 hown9 hk9 hf9;obtain⟨a9,c9,rfl,_,_⟩:=Ae hown9;have hrx8:=Hrx.o.of_keeps hk8a;have o9:=Ad h8a.o0 hk9 (λe=>Ah hrx8 h8a.o0 j7 e);have hsb:¬(Value.slice ax m cx).ownBlock=some B:=λe=>Ah hrx8 h8a.blk j7 e;have hsg:¬(Value.slice ax m cx).ownBlock=some g0:=λe=>Ah hrx8 h8a.o0 j7 e;have hsv:¬(Value.slice ax m cx).ownBlock=some gb:=λe=>(Hdb.o gb e).1 rfl;have hlen:(Lx++ [v0]).length=m+1:=by rw [List.length_append,Hm.o];rfl
   have hxv:(⟨a9,c9,Lx++ [v0]⟩:SI).v= .slice a9 (m+1) c9:=by simp only [SI.v,hlen]
   have hext:=Hrv.o.ext0 (x':=⟨a9,c9,Lx++ [v0]⟩) Hx.o hk8a (by rw [Hxv0.o];exact hk9) (by rw [hxv];show w9.ownsRow 0 _ 1 _ (Lx++ [v0]).length _;rw [hlen];simpa [i64c] using hown9) rfl (by rw [hxv,Hxv0.o];exact hf9);rw [hxv] at hext;simp only [endSt] at hext;rw [Abs Hl0.o hr0.out Hv0.o] at hext;replace hext:=(show RunV w0 X B t n vt L f0 .nilFunc f2 (endSt s (k+1) k) vl _ _ g0 g1 _ _ vo P _ from hext);have of9:=Ab o9 k;have oc9:w9.cell? ⟨g0,k,none⟩=some (.slice ax m cx):=by rw [<-Hxv0.o];exact Td o9 Hx.o
   refine hK.out _ _ j3H ?_;clear hK K;refine jc ?_;clear o9 hsb hsg hsv hlen hxv;have Hext:=Lib.hid hext;clear hext hown9 hk9 hk8a hk8;have H8a:=Lib.hid h8a;clear h8a hrx8;clear hs8 hf9;refine jR ?_;refine j07 ?_;clear of9 oc9;obtain⟨W0',hW0'⟩:=eY (w9.setCell ⟨g0,k,none⟩ (.slice a9 (m+1) c9));rw [<-hW0'] at Hext⊢;clear hW0';have Hrv2:=Hext;clear Hext Hx Hm Hxv0 Hrx HS3 Hdb;clear hm1;obtain⟨⟨ax,cx,Lx⟩,hx⟩:=Ar (L:=S1') (k:=k) (by rw [Hrv2.o.n1];exact hlt)
   have hxL:Lx=r1:=by
    have h1:=congrArg (λl=>l[k]?) Hrv2.o.l1;simp only [List.getElem?_map,hx,Option.map_some,endSt] at h1;rw [Abt Hl1.o hr1.out] at h1
    simpa using h1
   subst hxL;obtain⟨gb,ob,heb,cb0⟩:=(Reads.Bg Hrv2.o.rts).int (k:= .i64) Hv1.o;subst heb;obtain⟨m,hm⟩:=eX Lx.length;have hm1:m<=100000:=by rw [<-hm];exact hle1.out _ (List.mem_of_getElem? hr1.out)
   have hxv0:(⟨ax,cx,Lx⟩:SI).v= .slice ax m cx:=by simp only [SI.v,hm]
   have hxm:=List.mem_of_getElem? hx;have hrx:=Hrv2.o.i1 _ hxm;rw [hxv0] at hrx;simp only [hm] at hrx;have hS3:enS B 15 g1 k (.slice (some ⟨g1,0,none⟩) n n) (.slice ax m cx) 13 (.slice (some ⟨gb,ob,none⟩) n cr) gb (ob+k) v1 (W0').drew:=(show enS B 15 g1 k (.slice (some ⟨g1,0,none⟩) n n) (.slice ax m cx) 13 (.slice (some ⟨gb,ob,none⟩) n cr) gb (ob+k) v1 (W0') from⟨Aa Hrv2.o.blk 15,hxv0▸Td Hrv2.o.o1 hx,Aa Hrv2.o.blk 13,cb0⟩).keep (S:=λ_=>False) (Keeps.drew _) (by simp) (by simp) (by simp);have hdb:=Hrv2.o.db1 _ hxm;rw [hxv0] at hdb;clear cb0;obtain⟨Hx,Hm,Hxv0⟩:=hid3 hx hm hxv0;clear hxv0 hm hx hxm;obtain⟨Hrx,HS3,Hdb⟩:=hid3 hrx hS3 hdb;clear hdb hS3 hrx;go_wp2_with fail;refine Cm (enS B 15 g1 k (.slice (some ⟨g1,0,none⟩) n n) (.slice ax m cx) 13 (.slice (some ⟨gb,ob,none⟩) n cr) gb (ob+k) v1) 24 (.take 0 (.take 1 (.take 2 (.take 3 (.take 4 (.take 5 (.take 6 (.take 7 (.take 8 (.take 9 (.take 10 (.take 11 (.take 12 (.take 13 (.take 14 (.take 15 (.take 16 (.take 17 (.take 18 (.take 19 (.take 20 (.move 21 (.move 22 (.take 23 (.move 24 .done))))))))))))))))))))))))) j9 j9 ?_ ?_
   ·exact HS3.o
   intro w8 hs8 hk8;refine j1J ?_;have hk8a:=hk8.nt (Keeps.alloc w8 (.cells #[.int .i64 v1] 2));have h8a:=Hrv2.o.keep0 hk8a;refine Ag rfl (λK hK=> ?_);refine Cc rfl (.tmp 49) (.tmp 57) 49 rfl 0 2 i0 _ 1 8 Tryz.underlying49 Hi.o Hi0.o Hi1.o Hi2.o rfl j7 (.slice ax m cx) m _ rfl (Hrx.o.of_keeps hk8a) _ 1 _ rfl (Reads.litAt _ _ _ 1 1 _ jr rfl) jf jd j6 (Nat.zero_le _) ?_;intro v9 w9 hown9 hk9 hf9;obtain⟨a9,c9,rfl,_,_⟩:=Ae hown9;have hrx8:=Hrx.o.of_keeps hk8a;have o9:=Ad h8a.o1 hk9 (λe=>Ah hrx8 h8a.o1 j7 e);have hsb:¬(Value.slice ax m cx).ownBlock=some B:=λe=>Ah hrx8 h8a.blk j7 e;have hsg:¬(Value.slice ax m cx).ownBlock=some g1:=λe=>Ah hrx8 h8a.o1 j7 e;have hsv:¬(Value.slice ax m cx).ownBlock=some gb:=λe=>(Hdb.o gb e).2 rfl;have hlen:(Lx++ [v1]).length=m+1:=by rw [List.length_append,Hm.o];rfl
   have hxv:(⟨a9,c9,Lx++ [v1]⟩:SI).v= .slice a9 (m+1) c9:=by simp only [SI.v,hlen]
   have hext:=Hrv2.o.ext1 (x':=⟨a9,c9,Lx++ [v1]⟩) Hx.o hk8a (by rw [Hxv0.o];exact hk9) (by rw [hxv];show w9.ownsRow 0 _ 1 _ (Lx++ [v1]).length _;rw [hlen];simpa [i64c] using hown9) rfl (by rw [hxv,Hxv0.o];exact hf9);rw [hxv] at hext;simp only [endSt] at hext;rw [Abs Hl1.o hr1.out Hv1.o] at hext;replace hext:=(show RunV w0 X B t n vt L f0 .nilFunc f2 (endSt s (k+1) (k+1)) vl _ _ g0 g1 _ _ vo P _ from hext);have of9:=Ab o9 k;have oc9:w9.cell? ⟨g1,k,none⟩=some (.slice ax m cx):=by rw [<-Hxv0.o];exact Td o9 Hx.o
   refine hK.out _ _ j3H ?_;clear hK K;refine jc ?_;clear o9 hsb hsg hsv hlen hxv;have Hext:=Lib.hid hext;clear hext hown9 hk9 hk8a hk8;have H8a:=Lib.hid h8a;clear h8a hrx8;clear hs8 hf9;refine jR ?_;refine j07 ?_;clear of9 oc9;obtain⟨W1',hW1'⟩:=eY (w9.setCell ⟨g1,k,none⟩ (.slice a9 (m+1) c9));rw [<-hW1'] at Hext⊢;clear hW1';go_wp2_with fail;go_roundw
   case rel=>exact⟨k+1,_,_,by go_num,by omega,Hext.o⟩
   case measure=>simp [intOf];omega
  ·obtain rfl:n=k:=by omega
   have hb18:=Aa hrv.blk 18;have hnil:∀w:World,(binOp .neq 175 .nilFunc .nilFunc).run Tryz.prog w= .ok (.bool false) w:=λ_=>by kernel_rfl
   have Hrv:=Lib.hid hrv;clear hrv;go_wp2;go_end0;exact⟨rfl,_,_,Hrv.o⟩
section
variable {w0:World} {X:Fx} {B:Nat} {t:Tm} {n:Nat} {vt:Value} {L:List Ev} {f0 f1 f2:Value} {s:St} {vl vb vr:Value} {g0 g1:Nat} {S0 S1:List SI} {vo:Value} {P:List SV} {W W':World}
theorem RunV.upd(h:RunV w0 X B t n vt L f0 f1 f2 s vl vb vr g0 g1 S0 S1 vo P W){W2:World}(hk0:K0 W W2)(hk:Keeps (λi=>i=B) W2 W'){i':Nat}{day':Int}{p':Ps}{R':List Int}{vb' vr':Value}
  (hb:W'.heap[B]?=some (.cells #[.int .i64 t.limit,vt,.int .i64 t.cyc,.int .i64 t.due,.int .i64 t.minFixed,.int .i64 t.minPart,.int .i64 t.start,vl,.int .i64 (i':Nat),.int .i64 day',vb',.int .i64 p'.cr,.int .i64 p'.du,vr',.slice (some ⟨g0,0,none⟩) n n,.slice (some ⟨g1,0,none⟩) n n,vo,f0,f1,f2] 203 (0,0)))
  (hvb:W2.ownsRow 0 2 1 vb' n (p'.bal.flatMap i64c)) (hvr:W2.ownsRow 0 2 1 vr' n (R'.flatMap i64c)) (hnb:p'.bal.length=n) (hnr:R'.length=n)
  (qb:vb'=vb\/∀b,vb'.ownBlock=some b->W.heap.size<=b) (qr:vr'=vr\/∀b,vr'.ownBlock=some b->W.heap.size<=b):
  RunV w0 X B t n vt L f0 f1 f2 { s with i:=i',day:=day',p:=p',R:=R' } vl vb' vr' g0 g1 S0 S1 vo P W':=by
 have h2:=h.keep0 hk0;have hne:∀{e:TypeId} {sz m:Nat} {v:Value} {xs:List Value},W2.ownsRow 0 e sz v m xs->203≠e->∀i,v.ownBlock=some i->¬i=B:=λhr hne i hi e=>by subst e;exact Ah hr h2.blk hne hi
 have nog:∀{g:Nat} {c:Array Value},W2.heap[g]?=some (.cells c 49 (0,0))->¬g=B:=λhg e=>by
  subst e;have h1:=h2.blk;rw [hg] at h1;exact j0y
 exact { h2 with
  blk:=hb
  trs:=h2.trs.keeps hk (λi hi e=>by have e':i=B:=e;have:=(h.wt i hi).1;have:=h.wB.1;omega)
  evs:=hk.row h2.evs (hne h2.evs j7)
  bal:=hk.row hvb (hne hvb j7)
  rts:=hk.row hvr (hne hvr j7)
  o0:=Ad h2.o0 hk (nog h2.o0)
  o1:=Ad h2.o1 hk (nog h2.o1)
  i0:=λx hx=>hk.row (h2.i0 x hx) (hne (h2.i0 x hx) j7)
  i1:=λx hx=>hk.row (h2.i1 x hx) (hne (h2.i1 x hx) j7)
  out:=hk.row h2.out (hne h2.out j7)
  ln:=λx hx=>hk.row (h2.ln x hx) (hne (h2.ln x hx) j7)
  nb:=hnb
  nr:=hnr
  db0:=λx hx b hb=>⟨λe=>by
   rcases qb with rfl|qb
   ·exact(h.db0 x hx b hb).1 e
   ·have:=qb b e;have:=Ch (h.i0 x hx) hb;omega,λe=>by
   rcases qr with rfl|qr
   ·exact(h.db0 x hx b hb).2 e
   ·have:=qr b e;have:=Ch (h.i0 x hx) hb;omega⟩
  db1:=λx hx b hb=>⟨λe=>by
   rcases qb with rfl|qb
   ·exact(h.db1 x hx b hb).1 e
   ·have:=qb b e;have:=Ch (h.i1 x hx) hb;omega,λe=>by
   rcases qr with rfl|qr
   ·exact(h.db1 x hx b hb).2 e
   ·have:=qr b e;have:=Ch (h.i1 x hx) hb;omega⟩
  wb:=by
   rcases qb with rfl|qb
   ·exact h.wb
   ·exact h.ownN qb
  wr:=by
   rcases qr with rfl|qr
   ·exact h.wr
   ·exact h.ownN qr
  xl:=λb hb=>Nat.lt_of_lt_of_le (h2.xl b hb) hk.size
  fz:=λb hb=>(hk.block b (h2.xl b (h2.yx b hb)) (λe=>by have e':b=B:=e;exact h.wB.2 (e'▸h.yx b hb))).trans (h2.fz b hb)
  kp:=h2.kp.trans (hk.mono λi _ e=> .inr (by have e':i=B:=e;rw [e'];exact h.wB.1)) }
theorem RunV.setI(h:RunV w0 X B t n vt L f0 f1 f2 s vl vb vr g0 g1 S0 S1 vo P W)(i':Nat):RunV w0 X B t n vt L f0 f1 f2 { s with i:=i' } vl vb vr g0 g1 S0 S1 vo P (W.setCell ⟨B,8,none⟩ (.int .i64 (i':Nat))):=
 h.upd (Keeps.refl _ _) (Keeps.setCell _ _ _ rfl) ((heap_setCell_same _ _ 8 _ _ _ h.blk).trans rfl) h.bal h.rts h.nb h.nr (.inl rfl) (.inl rfl)
theorem RunV.setDay(h:RunV w0 X B t n vt L f0 f1 f2 s vl vb vr g0 g1 S0 S1 vo P W)(d:Int):RunV w0 X B t n vt L f0 f1 f2 { s with day:=d } vl vb vr g0 g1 S0 S1 vo P (W.setCell ⟨B,9,none⟩ (.int .i64 d)):=
 h.upd (Keeps.refl _ _) (Keeps.setCell _ _ _ rfl) ((heap_setCell_same _ _ 9 _ _ _ h.blk).trans rfl) h.bal h.rts h.nb h.nr (.inl rfl) (.inl rfl)
theorem RunV.setP(h:RunV w0 X B t n vt L f0 f1 f2 s vl vb vr g0 g1 S0 S1 vo P W){W2:World}(hk0:K0 W W2){p':Ps}{R':List Int}{vb' vr':Value}
  (hvb:W2.ownsRow 0 2 1 vb' n (p'.bal.flatMap i64c)) (hvr:W2.ownsRow 0 2 1 vr' n (R'.flatMap i64c)) (hnb:p'.bal.length=n) (hnr:R'.length=n)
  (qb:∀b,vb'.ownBlock=some b->W.heap.size<=b) (qr:∀b,vr'.ownBlock=some b->W.heap.size<=b):
  RunV w0 X B t n vt L f0 f1 f2 { s with p:=p',R:=R' } vl vb' vr' g0 g1 S0 S1 vo P ((((W2.setCell ⟨B,10,none⟩ vb').setCell ⟨B,11,none⟩ (.int .i64 p'.cr)).setCell ⟨B,12,none⟩ (.int .i64 p'.du)).setCell ⟨B,13,none⟩ vr'):=by
 have hb2:=(h.keep0 hk0).blk;have h10:=(heap_setCell_same _ _ 10 _ _ vb' hb2).trans rfl;have h11:=(heap_setCell_same _ _ 11 _ _ (.int .i64 p'.cr) h10).trans rfl;have h12:=(heap_setCell_same _ _ 12 _ _ (.int .i64 p'.du) h11).trans rfl;have h13:=(heap_setCell_same _ _ 13 _ _ vr' h12).trans rfl
 have k:Keeps (λi=>i=B) W2 ((((W2.setCell ⟨B,10,none⟩ vb').setCell ⟨B,11,none⟩ (.int .i64 p'.cr)).setCell ⟨B,12,none⟩ (.int .i64 p'.du)).setCell ⟨B,13,none⟩ vr'):=
  (((Keeps.setCell (S:=λi=>i=B) _ _ _ rfl).trans (Keeps.setCell _ _ _ (.inl rfl))).trans (Keeps.setCell _ _ _ (.inl rfl))).trans (Keeps.setCell _ _ _ (.inl rfl))
 exact h.upd hk0 k h13 hvb hvr hnb hnr (.inr qb) (.inr qr)
end
theorem payL_len{B R:List Int}{du a:Int}:(payL B R du a).1.length=B.length:=by
 unfold payL;simp only [List.length_zipWith,Dn];omega
theorem Xz{p:Ps}{R:List Int}{e:Ev}(h:(Dv p R e).2.2=0):(Dv p R e).1.bal.length=p.bal.length/\(Dv p R e).2.1.length=R.length/\(Dv p R e).1.Bh=true/\(∀x∈(Dv p R e).2.1,0<=x/\x<=10000000):=by
 unfold Dv at h⊢;rcases hm:mayA p R e with _|_
 ·rw [hm,if_neg j7] at h;cases h
 rw [hm,if_pos rfl] at h;rw [if_pos rfl];have hmo:=mayA_ok hm;by_cases hq:(Fu p R e).2=0
 ·rw [if_pos hq] at h⊢;refine⟨?_, ?_, ?_, ?_⟩
  ·show(Fu p R e).1.bal.length=_;unfold Fu at hq⊢
   split at hq
   ·rename_i hk;rw [if_pos hk];unfold Ja at hq⊢
    split at hq
    ·rename_i ha;rw [if_pos ha]
     split at hq
     ·rename_i hr;rw [if_pos hr];simp [Gr]
     ·cases hq
    ·rename_i ha;exact absurd hq ha
   ·rename_i hk;rw [if_neg hk]
    split at hq
    ·rename_i hk2;rw [if_pos hk2];unfold payR at hq⊢
     split at hq
     ·rename_i ha;rw [if_pos ha]
      split at hq
      ·rename_i hr;rw [if_pos hr];simp only [payP,List.length_zipWith,payL_len];omega
      ·cases hq
     ·rename_i ha;exact absurd hq ha
    ·rename_i hk2;rw [if_neg hk2]
     split at hq
     ·rename_i hk3;rw [if_pos hk3];unfold giveR at hq⊢
      split at hq
      ·rename_i ha;rw [if_pos ha]
       split at hq
       ·rename_i hr;rw [if_pos hr];simp only [giveP,List.length_zipWith,Dn];omega
       ·cases hq
      ·rename_i ha;exact absurd hq ha
     ·rename_i hk3;rw [if_neg hk3]
  ·show(Gg R e).length=_;unfold Gg;split<;>simp
  ·show(Fu p R e).1.Bh=true;unfold Fu at hq⊢
   split at hq
   ·rename_i hk;rw [if_pos hk];unfold Ja at hq⊢;exact j1R
   ·rename_i hk;rw [if_neg hk]
    split at hq
    ·rename_i hk2;rw [if_pos hk2];unfold payR at hq⊢;exact j1R
    ·rename_i hk2;rw [if_neg hk2]
     split at hq
     ·rename_i hk3;rw [if_pos hk3];unfold giveR at hq⊢;exact j1R
     ·rename_i hk3;rw [if_neg hk3];exact hmo.pr
  ·show∀x∈Gg R e,_;intro x hx;unfold Gg at hx
   split at hx
   ·rename_i hk;rcases List.mem_or_eq_of_mem_set hx with h1|rfl
    ·exact hmo.rt x h1
    ·exact hmo.am hk
   ·exact hmo.rt x hx
 ·rw [if_neg hq] at h;exact absurd h hq
def evR(day:Int):List Ev->Nat->Ps->List Int->Nat×Ps×List Int×Int
 | [],i,p,R=>(i,p,R,0)
 |e::M,i,p,R=>if e.day=day then(if(Dv p R e).2.2=0 then evR day M (i+1) (Dv p R e).1 (Dv p R e).2.1 else(i,p,R,(Dv p R e).2.2)) else(i,p,R,0)
def evS(B:Nat)(vl:Value)(i:Int)(day:Int)(W:World):Prop:=W.cell? ⟨B,7,none⟩=some vl/\W.cell? ⟨B,8,none⟩=some (.int .i64 i)/\W.cell? ⟨B,9,none⟩=some (.int .i64 day)
def evS2(B:Nat)(vl:Value)(i:Int)(day:Int)(g o:Nat)(d:Int)(W:World):Prop:=W.cell? ⟨B,7,none⟩=some vl/\W.cell? ⟨B,8,none⟩=some (.int .i64 i)/\W.cell? ⟨B,9,none⟩=some (.int .i64 day)/\W.cell? ⟨g,o,none⟩=some (.int .i64 d)
def evS3(B:Nat)(vl vb vr:Value)(i cr du:Int)(g o:Nat)(ki da tr am re:Int)(W:World):Prop:=W.cell? ⟨B,7,none⟩=some vl/\W.cell? ⟨B,8,none⟩=some (.int .i64 i)/\W.cell? ⟨B,10,none⟩=some vb/\W.cell? ⟨B,11,none⟩=some (.int .i64 cr)/\W.cell? ⟨B,12,none⟩=some (.int .i64 du)/\W.cell? ⟨B,13,none⟩=some vr/\
 W.cell? ⟨g,o,none⟩=some (.int .i64 ki)/\W.cell? ⟨g,o+1,none⟩=some (.int .i64 da)/\W.cell? ⟨g,o+2,none⟩=some (.int .i64 tr)/\W.cell? ⟨g,o+3,none⟩=some (.int .i64 am)/\W.cell? ⟨g,o+4,none⟩=some (.int .i64 re)
theorem evS3.keep{B:Nat}{vl vb vr:Value}{i cr du:Int}{g o:Nat}{ki da tr am re:Int}{W W':World}(h:evS3 B vl vb vr i cr du g o ki da tr am re W)(hk:K0 W W'):evS3 B vl vb vr i cr du g o ki da tr am re W':=by
 obtain⟨h1,h2,h3,h4,h5,h6,h7,h8,h9,h10,h11⟩:=h;refine j0z ?_;intro k;exact⟨k h1,k h2,k h3,k h4,k h5,k h6,k h7,k h8,k h9,k h10,k h11⟩
def evSt(s:St)(z:Nat×Ps×List Int×Int):St:={ s with i:=z.1,p:=z.2.1,R:=z.2.2.1 }
theorem Vs{w0:World}{X:Fx}{B:Nat}{t:Tm}{n:Nat}{vt:Value}{L:List Ev}{f1 f2:Value}{s:St}{vl vb vr:Value}{g0 g1:Nat}{S0 S1:List SI}{vo:Value}{P:List SV}{W:World}(h:RunV w0 X B t n vt L .nilFunc f1 f2 s vl vb vr g0 g1 S0 S1 vo P W)(hn:n<=1000)
  (hl:L.length<=1000000) (hi:s.i<=L.length) (Z:Nat×Ps×List Int×Int) (hZ:evR s.day (L.drop s.i) s.i s.p s.R=Z):
  Calls Tryz.prog 105 #[(.pointer (some ⟨B,0,none⟩))] W λe W'=>e= .returned (.int .i64 Z.2.2.2)/\∃vb' vr',RunV w0 X B t n vt L .nilFunc f1 f2 (evSt s Z) vl vb' vr' g0 g1 S0 S1 vo P W':=by
 obtain⟨N,hN⟩:=eX L.length;obtain⟨adl,cl,rfl⟩:∃a c,vl= .slice a N c:=by obtain⟨a,c,h,_⟩:=Ae h.evs;rw [hN] at h;exact⟨a,c,h⟩
 rw [hN] at hl hi;have hnil:∀w:World,(binOp .neq 174 .nilFunc .nilFunc).run Tryz.prog w= .ok (.bool false) w:=λ_=>by kernel_rfl
 obtain⟨H,HN,HZ,Hnil⟩:=hid4 h hN hZ hnil;clear hnil hZ hN h;go_enter Tryz.func105,Tryz.ntmps105;go_wp2
 go_loopw [2] (λx wx=>∃(i:Nat) (p:Ps) (R:List Int) (vb vr:Value),x= .int .i64 0/\i<=N/\evR s.day (L.drop i) i p R=Z/\RunV w0 X B t n vt L .nilFunc f1 f2 { s with i:=i,p:=p,R:=R } (.slice adl N cl) vb vr g0 g1 S0 S1 vo P wx) (λ_ wx=>N-(Df wx B 8).toNat)
 case atStart=>exact⟨s.i,s.p,s.R,vb,vr,rfl,hi,HZ.o,H.o⟩
 case round=>
  obtain⟨i,p,R,vbi,vri,rfl,hin,hev,hrv⟩:=hrel;obtain⟨wq,hwq⟩:=eY wr;subst hwq;have hci:Df wq B 8=(i:Int):=Dk (Aa hrv.blk 8);have b7:=Aa hrv.blk 7;have b8:=Aa hrv.blk 8;have b9:=Aa hrv.blk 9;by_cases hlt:i<N
  ·skip
   have hltJ:(i:Int)<(N:Int):=j8;obtain⟨⟨ki,da,tr,am,re⟩,hx⟩:=Ar (L:=L) (k:=i) j0v;obtain⟨g,o,c,he,hc⟩:=(Reads.Bg hrv.evs).elem Ev.Aj hx j7;rw [HN.o] at he;simp only [Value.slice.injEq,true_and] at he;obtain⟨rfl,rfl⟩:=he;have x0:wq.cell? ⟨g,o+i*5,none⟩=some (.int .i64 ki):=hc 0 j7;have x1:wq.cell? ⟨g,o+i*5+1,none⟩=some (.int .i64 da):=hc 1 j7;have x2:wq.cell? ⟨g,o+i*5+2,none⟩=some (.int .i64 tr):=hc 2 j7;have x3:wq.cell? ⟨g,o+i*5+3,none⟩=some (.int .i64 am):=hc 3 j7;have x4:wq.cell? ⟨g,o+i*5+4,none⟩=some (.int .i64 re):=hc 4 j7;clear hc
   have hdr:evR s.day (L.drop i) i p R=if da=s.day then(if(Dv p R ⟨ki,da,tr,am,re⟩).2.2=0 then evR s.day (L.drop (i+1)) (i+1) (Dv p R ⟨ki,da,tr,am,re⟩).1 (Dv p R ⟨ki,da,tr,am,re⟩).2.1 else(i,p,R,(Dv p R ⟨ki,da,tr,am,re⟩).2.2)) else(i,p,R,0):=by
    rw [Dy hx];rfl
   rw [hdr] at hev;have hS:evS2 B (.slice (some ⟨g,o,none⟩) N cl) i s.day g (o+i*5+1) da wq:=⟨b7,b8,b9,x1⟩;have hS':evS2 B (.slice (some ⟨g,o,none⟩) N cl) i s.day g (o+i*5+1) da wq.drew:=hS;clear b7 b8 b9;by_cases hd:da=s.day
   ·have hdI:(da==s.day)=true:=by simp [hd]
    rw [if_pos hd] at hev;obtain⟨ab,cb,rfl⟩:∃a c,vbi= .slice a n c:=by obtain⟨a,c,h,_⟩:=Ae hrv.bal;exact⟨a,c,h⟩
    obtain⟨ar,cr2,rfl⟩:∃a c,vri= .slice a n c:=by obtain⟨a,c,h,_⟩:=Ae hrv.rts;exact⟨a,c,h⟩
    obtain⟨A,hA⟩:=eX (Dv p R ⟨ki,da,tr,am,re⟩);have hok:=Xz (p:=p) (R:=R) (e:=⟨ki,da,tr,am,re⟩);rw [hA] at hev hok;obtain⟨bal,pc,pd⟩:=p;have hcall:=λW (hW:K0 wq W)=>Yl bal R pc pd ki da tr am re ab ar cb cr2 n n W ((Reads.Bg hrv.bal).keeps hW (by simp)) hrv.nb hn ((Reads.Bg hrv.rts).keeps hW (by simp)) hrv.nr hn;rw [hA] at hcall;obtain⟨Hrv,Hev⟩:=hid2 hrv hev;clear hev hrv hx hdr hS;have HS':=Lib.hid hS';clear hS' hd;obtain⟨Hci,HA,Hok,Hcall,X0,X1,X2,X3,X4⟩:=hid9 hci hA hok hcall x0 x1 x2 x3 x4;clear x4 x3 x2 x1 x0 hcall hok hA hci;go_wp2_with fail;refine Ak (evS2 B (.slice (some ⟨g,o,none⟩) N cl) i s.day g (o+i*5+1) da) (.take 0 (.take 1 (.take 2 (.take 3 (.take 4 (.take 5 (.take 6 (.take 7 (.take 8 (.take 9 (.take 10 (.take 11 (.take 12 (.take 13 (.take 14 (.take 15 (.take 16 (.take 17 (.take 18 (.take 19 (.take 20 (.take 21 (.take 22 (.take 23 (.take 24 (.take 25 (.take 26 (.take 27 .done)))))))))))))))))))))))))))) j9 j9 ?_ ?_
    ·exact HS'.o
    intro w1 hs1 hk1;refine jm ?_;have hrv1:=Hrv.o.keep0 hk1;have b10:=Aa hrv1.blk 10;have b11:=Aa hrv1.blk 11;have b12:=Aa hrv1.blk 12;have hk1x:=hk1.Af (o:= .cells #[.slice ab n cb,.int .i64 pc,.int .i64 pd] 51);have hrv1x:=Hrv.o.keep0 hk1x;have hkk:∀{p:Addr} {u:Value},wq.cell? p=some u->(w1.alloc (.cells #[.slice ab n cb,.int .i64 pc,.int .i64 pd] 51)).cell? p=some u:=λhc=>(hk1x.cell (Ai hc) (by simp)).trans hc
    have hS3:evS3 B (.slice (some ⟨g,o,none⟩) N cl) (.slice ab n cb) (.slice ar n cr2) i pc pd g (o+i*5) ki da tr am re (w1.alloc (.cells #[.slice ab n cb,.int .i64 pc,.int .i64 pd] 51)).drew:=
     (show evS3 B (.slice (some ⟨g,o,none⟩) N cl) (.slice ab n cb) (.slice ar n cr2) i pc pd g (o+i*5) ki da tr am re (w1.alloc (.cells #[.slice ab n cb,.int .i64 pc,.int .i64 pd] 51)) from⟨Aa hrv1x.blk 7,Aa hrv1x.blk 8,Aa hrv1x.blk 10,Aa hrv1x.blk 11,Aa hrv1x.blk 12,Aa hrv1x.blk 13,hkk X0.o,hkk X1.o,hkk X2.o,hkk X3.o,hkk X4.o⟩).keep (Keeps.drew _)
    clear hs1 hkk;clear hk1;obtain⟨Hrv1,Hk1x⟩:=hid2 hrv1 hk1x;clear hk1x hrv1 hrv1x;have HS3:=Lib.hid hS3;clear hS3;go_wp2_with fail;refine Ak (evS3 B (.slice (some ⟨g,o,none⟩) N cl) (.slice ab n cb) (.slice ar n cr2) i pc pd g (o+i*5) ki da tr am re) (.take 0 (.take 1 (.take 2 (.take 3 (.take 4 (.take 5 (.take 6 (.take 7 (.take 8 (.take 9 (.take 10 (.take 11 (.take 12 (.take 13 (.take 14 (.take 15 (.take 16 (.take 17 (.fork 18 (.take 19 (.take 20 (.take 21 (.take 22 (.move 23 (.move 24 (.take 25 (.take 26 .done)))))))) 23 (.move 18 (.take 19 (.take 20 (.take 21 (.take 22 (.move 24 (.take 25 (.take 26 .done))))))))))))))))))))))))))) j9 j9 ?_ ?_
    ·exact HS3.o
    intro w2 hs2 hk2;refine jR ?_;obtain⟨q,R',z⟩:=A;refine Dx ?_ ?_ hs2
    ·skip
     refine ja ?_;intro K hK
     go_at_call 129
     ((with_reducible refine(Hcall.o _ (Hk1x.o.nt hk2)).mono ?_);rintro e w5 ⟨vb',vr',rfl,hrb,hrr,hk5,hgb,hgr⟩;dsimp only)
     obtain⟨a5,c5,rfl⟩:∃a c,vb'= .slice a q.bal.length c:=by obtain⟨a,c,h,_⟩:=Ae hrb;exact⟨a,c,h⟩
     obtain⟨a6,c6,rfl⟩:∃a c,vr'= .slice a R'.length c:=by obtain⟨a,c,h,_⟩:=Ae hrr;exact⟨a,c,h⟩
     refine hK.out _ _ (by exact hs2.keep hk5) ?_;clear hK K;refine jh ?_;refine ja ?_;intro K hK;refine hK.out _ _ (by exact hs2.keep (hk5.Af)) ?_;clear hK K;refine jc ?_;obtain⟨w6,hw6⟩:=eY (w5.alloc (.cells #[.slice none 0 0,.int .i64 0,.int .i64 0] 51));have hbx5:w6.heap[w5.heap.size]?=some (.cells #[.slice none 0 0,.int .i64 0,.int .i64 0] 51 (0,0)):=by rw [hw6];exact heap_alloc_new w5 _
     have k56:K0 w5 w6:=by rw [hw6];exact Keeps.alloc _ _
     rw [<-hw6];clear hw6;have k26:=hk5.nt k56;have hb4n:w2.heap.size<=w5.heap.size:=hk5.size;have hqs:wq.heap.size<=w2.heap.size:=(Hk1x.o.nt hk2).size;have hneb:∀b,(Value.slice a5 q.bal.length c5).ownBlock=some b->¬b=w5.heap.size:=λb hb e=>by have:=Ch hrb hb;omega
     have hner:∀b,(Value.slice a6 R'.length c6).ownBlock=some b->¬b=w5.heap.size:=λb hb e=>by have:=Ch hrr hb;omega
     have hrb5:=hrb.of_keeps k56;have hrr5:=hrr.of_keeps k56;have hgb6:∀b,(Value.slice a5 q.bal.length c5).ownBlock=some b->wq.heap.size<=b:=λb hb=>by have:=hgb b hb;omega
     have hgr6:∀b,(Value.slice a6 R'.length c6).ownBlock=some b->wq.heap.size<=b:=λb hb=>by have:=hgr b hb;omega
     obtain⟨b4,hb4⟩:=eY w5.heap.size;rw [<-hb4] at hbx5 hb4n hneb hner⊢;clear hb4 hrb hrr hgb hgr k56 hk5;exact j3I
    ·skip
     refine ja ?_;intro K hK;refine hK.out _ _ (by exact hs2.keep (Keeps.alloc _ _)) ?_;clear hK K;refine jc ?_;refine ja ?_;intro K hK
     go_at_call 129
     ((with_reducible refine(Hcall.o _ ((Hk1x.o.nt hk2).Af)).mono ?_);rintro e w5 ⟨vb',vr',rfl,hrb,hrr,hk5,hgb,hgr⟩;dsimp only)
     obtain⟨a5,c5,rfl⟩:∃a c,vb'= .slice a q.bal.length c:=by obtain⟨a,c,h,_⟩:=Ae hrb;exact⟨a,c,h⟩
     obtain⟨a6,c6,rfl⟩:∃a c,vr'= .slice a R'.length c:=by obtain⟨a,c,h,_⟩:=Ae hrr;exact⟨a,c,h⟩
     refine hK.out _ _ (by exact(hs2.keep (Keeps.alloc _ _)).keep hk5) ?_;clear hK K;refine jh ?_;have hbx5:=Ad (heap_alloc_new w2 (.cells #[.slice none 0 0,.int .i64 0,.int .i64 0] 51)) hk5 (by simp);have k26:=(Keeps.alloc (S:=λ_=>False) w2 (.cells #[.slice none 0 0,.int .i64 0,.int .i64 0] 51)).nt hk5;have hb4n:w2.heap.size<=w2.heap.size:=Nat.le_refl _;have hqs:wq.heap.size<=w2.heap.size:=(Hk1x.o.nt hk2).size;have hneb:∀b,(Value.slice a5 q.bal.length c5).ownBlock=some b->¬b=w2.heap.size:=λb hb e=>by have:=hgb b hb;simp at this;omega
     have hner:∀b,(Value.slice a6 R'.length c6).ownBlock=some b->¬b=w2.heap.size:=λb hb e=>by have:=hgr b hb;simp at this;omega
     have hgb6:∀b,(Value.slice a5 q.bal.length c5).ownBlock=some b->wq.heap.size<=b:=λb hb=>by have:=hgb b hb;simp at this;omega
     have hgr6:∀b,(Value.slice a6 R'.length c6).ownBlock=some b->wq.heap.size<=b:=λb hb=>by have:=hgr b hb;simp at this;omega
     have hrb5:=hrb;have hrr5:=hrr;obtain⟨w6,hw6⟩:=eY w5;obtain⟨b4,hb4⟩:=eY w2.heap.size;rw [<-hb4] at hbx5 hneb hner⊢;rw [<-hw6] at hbx5 k26 hrb5 hrr5⊢;replace hb4n:w2.heap.size<=b4:=by rw [hb4];exact Nat.le_refl _
     clear hb4 hw6 hrb hrr hgb hgr hk5;exact j3I
   ·have hdI:(da==s.day)=false:=beq_eq_false_iff_ne.2 hd;rw [if_neg hd] at hev;subst hev;have Hrv:=Lib.hid hrv;clear hrv hx hdr hS;have HS':=Lib.hid hS';clear hS' hd;obtain⟨Hci,X0,X1,X2,X3,X4⟩:=hid6 hci x0 x1 x2 x3 x4;clear x4 x3 x2 x1 x0 hci;go_wp2_with fail;refine Ak (evS2 B (.slice (some ⟨g,o,none⟩) N cl) i s.day g (o+i*5+1) da) (.take 0 (.take 1 (.take 2 (.take 3 (.take 4 (.take 5 (.take 6 (.take 7 (.take 8 (.take 9 (.take 10 (.take 11 (.take 12 (.take 13 (.take 14 (.take 15 (.take 16 (.take 17 (.take 18 (.take 19 (.take 20 (.take 21 (.take 22 (.take 23 (.take 24 (.take 25 (.take 26 (.take 27 .done)))))))))))))))))))))))))))) j9 j9 ?_ ?_
    ·exact HS'.o
    intro w1 hs1 hk1;exact j3J
  ·obtain rfl:N=i:=by omega
   rw [List.drop_eq_nil_of_le j1v] at hev;simp only [evR] at hev;subst hev;have hS':evS B (.slice adl N cl) N s.day wq.drew:=(show evS B (.slice adl N cl) N s.day wq from⟨b7,b8,b9⟩);clear b7 b8 b9;obtain⟨Hrv,HS',Hci⟩:=hid3 hrv hS' hci;clear hci hS' hrv;go_wp2_with fail;refine Ak (evS B (.slice adl N cl) N s.day) (.take 0 (.take 1 (.take 2 (.take 3 (.take 4 (.take 5 (.take 6 (.take 7 (.take 8 (.take 9 (.take 10 (.take 11 (.take 12 (.take 13 (.take 14 (.take 15 (.take 16 (.take 17 (.take 18 (.take 19 (.take 20 (.take 21 (.take 22 (.take 23 (.take 24 (.take 25 (.take 26 (.take 27 .done)))))))))))))))))))))))))))) j9 j9 ?_ ?_
   ·exact HS'.o
   intro w1 hs1 hk1;exact j3J
end Go.Proofs.YtjkdnaljkdnomaaGreatDoor
