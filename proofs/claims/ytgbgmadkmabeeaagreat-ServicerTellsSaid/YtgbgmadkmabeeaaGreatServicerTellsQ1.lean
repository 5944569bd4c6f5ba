/- Part 1 of the proof of ServicerTells: walks and plain laws. -/
import Derived.Test.YtgbgmadkmabeeaaGreatE35
set_option maxRecDepth 100000
set_option maxHeartbeats 3200000
namespace Go.Proofs.YtgbgmadkmabeeaaGreat
open Go.RowKit Go.IntWalk
theorem AcAt.tyF{W:World}{B:Nat}{x:AcV}{a:Ac}(h:AcAt W B x a){b:Nat}(hb:AcF B x b){t:TypeId}(ht:TyAt W b t):t∈ [136,60,90]:=by
 rcases hb with rfl|hb|hb
 ·rw [ht.eq ⟨_,_,h.blk⟩];decide
 ·rw [ht.eq (.row h.iss hb)];decide
 ·rw [ht.eq (.row h.adj hb)];decide
theorem Uo{L:List Stm}{n:Nat}(h:∀y∈L,y.lines.length=n)(hn:n<=8)(k:Nat):(L.getD k stm00).lines.length<=8:=by
 rw [List.getD_eq_getElem?_getD];rcases hy:L[k]? with _|y
 ·decide
 ·have:=h y (List.mem_of_getElem? hy);show y.lines.length<=8;omega
theorem AcAt.ansLe{W:World}{B:Nat}{x:AcV}{a:Ac}(h:AcAt W B x a)(c:Cmd):(a.ds c).bal.length<=1000000/\(a.ds c).R.length<=1000000/\(a.ds c).D.length<=1000000/\(a.dp c).lines.length<=1000000:=by
 have hn:=h.ok.nums;have hD:=h.bk.ok.1;have h8:=hn.n8
 have hp:(a.dp c).lines.length<=8:=by
  unfold Ac.dp tellP
  split
  ·split
   ·decide
   ·exact Uo h.ok.ill h8 _
  ·split
   ·split
    ·decide
    ·exact Uo hn.ol h8 _
   ·decide
 refine⟨?_, ?_, ?_,by omega⟩
 ·unfold Ac.ds;split
  ·show a.s.p.bal.length<=_;have:=hn.nb;omega
  ·decide
 ·unfold Ac.ds;split
  ·show a.s.R.length<=_;have:=hn.nr;omega
  ·decide
 ·unfold Ac.ds;split
  ·show a.D.length<=_;omega
  ·decide
def tlS(m n:Nat)(X Y:Array Value)(w:World):Prop:=w.heap[m]?=some (.cells X 62 (0,0))/\w.heap[n]?=some (.cells Y 23 (0,0))
theorem tlS.keep{m n:Nat}{X Y:Array Value}{w w':World}{K:Nat->Prop}(h:tlS m n X Y w)(hk:Keeps K w w')(hK:∀b t,K b->TyAt w b t->t=62\/t=23->False):tlS m n X Y w':=⟨Ad h.1 hk λe=>hK _ _ e ⟨_,_,h.1⟩ (.inl rfl),Ad h.2 hk λe=>hK _ _ e ⟨_,_,h.2⟩ (.inr rfl)⟩
structure TlI(w W:World)(S:Nat)(v:Value)(M i:Nat)(O:List Cmd):Prop where
 lv:∃q p u nr A,SvL w W q p 0 u nr A/\PadI p u 60/\q.S=S/\u<=2+i/\nr<=1+i/\A.seq<=i
 row:W.ownsRow 0 23 5 v M (O.flatMap Cmd.cells)
theorem TlI.keep{w W W':World}{S:Nat}{v:Value}{M i:Nat}{O:List Cmd}(h:TlI w W S v M i O)(hk:Keeps (λ_=>False) W W'):TlI w W' S v M i O:=by
 obtain⟨⟨q,p,u,nr,A,h1,h2⟩,h3⟩:=h;exact⟨⟨q,p,u,nr,A,h1.keep hk,h2⟩,hk.row h3 (by simp)⟩
theorem Nt(w:World)(ad:Option Addr)(cap:Nat)(L:List Cmd)(hr:Reads w 5 (.slice ad L.length cap) L.length (L.flatMap Cmd.cells))(_:∀a∈L,a.wf)(hm:L.length<=maxLen)(r2:Int)(_:(Lit.int .i64 r2).wf=true):
  Calls Tryz.prog 5 #[.slice ad L.length cap,.int .i64 r2] w λe w'=>e= .returned (.bool true)/\Below w.heap.size w w':=by
 obtain⟨N,hN⟩:∃N,L.length=N:=⟨_,rfl⟩;rw [hN] at hr hm⊢;have hNx:N<=9223372036854775807:=by unfold maxLen at hm;omega
 have hcm:=Jk L ad cap N 25 w hN hr hNx j7;rw [show((25:Nat):Int)=25 from rfl] at hcm;have hnew:=λW=>Ll 60 W j7 j7;rw [show(((60:Nat):Int))=60 from rfl] at hnew;clear hm hNx;obtain⟨Hr,HN,Hcm,Hnew⟩:=hid4 hr hN hcm hnew;clear hnew hcm hN hr;go_enter Tryz.func5,Tryz.ntmps5;go_wp2_with fail;refine Hcm.out.mono ?_;rintro e w1 ⟨v,O,rfl,hat,hol⟩;obtain⟨M,hM⟩:∃M,O.length=M:=⟨_,rfl⟩;have hrow:=hat.1;have hk1:=hat.2.1;rw [hM] at hrow hol;obtain⟨al,cl,rfl,_,_⟩:=Af hrow;clear hat;obtain⟨Hk1,Hrow,HM⟩:=hid3 hk1 hrow hM;clear hM hrow hk1;go_wp2_with fail;refine(Hnew.out w1).mono ?_;rintro e w2 ⟨g,rfl,hp2,hk2,hg⟩;obtain⟨P,hP⟩:∃P,P=w1.heap.size+1:=⟨_,rfl⟩;rw [<-hP] at hp2⊢;have hPw:w.heap.size<=P:=by have:=Hk1.out.size;omega
 have hgw:w.heap.size<=g:=by have:=Hk1.out.size;omega
 have hrow2:=hk2.row Hrow.out (by simp);have hkw2:=Hk1.out.nt hk2;clear hk2 hg;obtain⟨Hp2,Hkw2,Hrow2,HP⟩:=hid4 hp2 hkw2 hrow2 hP;clear hP hrow2 hkw2 hp2;go_wp2_with fail;refine(Kz w2).mono ?_;rintro e w3 ⟨gt,rfl,ht3,hk3,_⟩;have hp3:=Hp2.out.keeps hk3 (by simp);have hop:=open25 (w0:=w) (Hkw2.out.nt hk3) hp3 hPw hgw j7 ht3;have hrow3:=hk3.row Hrow2.out (by simp);clear ht3 hk3;obtain⟨Hp3,Hop,Hrow3⟩:=hid3 hp3 hop hrow3;clear hrow3 hop hp3;go_wp2_with fail;refine Hop.out.mono ?_;rintro e w4 ⟨q,rfl,hqP,hL4,hk4⟩
 have hrow4:=hk4.row Hrow3.out (λk hk e=>by
  rcases e with rfl|e
  ·exact absurd (TyAt.eq (.row Hrow3.out hk) ⟨_,_,Hp3.out.blk⟩) j7
  ·exact absurd (TyAt.eq (.row Hrow3.out hk) (.row Hp3.out.row e)) (by decide))
 have hpi:PadI (inkP 0 (Dr t25) ⟨List.replicate 60 lf0,0,0,false⟩) 2 60:=by
  exact j4C
 obtain⟨S,hS⟩:∃S,q.S=S:=⟨_,rfl⟩;have hI4:TlI w w4 S (.slice al M cl) M 0 O:=⟨⟨q,_,2,1,_,hL4,hpi,hS,by omega,by omega,by show(0:Int)<=_;decide⟩,hrow4⟩;rw [hS];clear hqP hL4 hk4 hrow4 hpi hS;have HI4:=Lib.hid hI4;clear hI4;go_wp2_with fail;refine(Rx w4).mono ?_;rintro e w5 ⟨rfl,hk5⟩;have hI5:=HI4.out.keep hk5;clear hk5 hPw hgw;have HI5:=Lib.hid hI5;clear hI5
 go_upto_region 6 with fail
 go_loopw [7] (λb wr=>∃i:Nat,i<=M/\b= .int .i64 (i:Nat)/\TlI w wr S (.slice al M cl) M i O) (λb _=>M-(intOf b).toNat)
 case atStart=>exact⟨0,Nat.zero_le _,rfl,HI5.out⟩
 case round=>
  obtain⟨i,hiM,rfl,hI⟩:=hrel;obtain⟨w9,hw9⟩:∃x,x=wr:=⟨_,rfl⟩;subst hw9;by_cases hlt:i<M
  ·have hltI:(i:Int)<(M:Int):=j8;obtain⟨⟨q,p,u,nr,A,hL,hpi,hqS,hu,hnr,hsq⟩,hrw⟩:=hI;obtain⟨⟨ki,da,tr,am,re⟩,hx⟩:=Ar (L:=O) (k:=i) j0H;obtain⟨gc,oc,c',he,hc⟩:=(Reads.Ay hrw).elem Cmd.Aj hx j7;simp only [Value.slice.injEq,true_and] at he;obtain⟨rfl,rfl⟩:=he;have x0:w9.cell? ⟨gc,oc+i*5,none⟩=some (.int .i64 ki):=hc 0 j7;have x1:w9.cell? ⟨gc,oc+i*5+1,none⟩=some (.int .i64 da):=hc 1 j7;have x2:w9.cell? ⟨gc,oc+i*5+2,none⟩=some (.int .i64 tr):=hc 2 j7;have x3:w9.cell? ⟨gc,oc+i*5+3,none⟩=some (.int .i64 am):=hc 3 j7;have x4:w9.cell? ⟨gc,oc+i*5+4,none⟩=some (.int .i64 re):=hc 4 j7;have xl:=Ag x0;have hdo:=svL_do hL hpi ⟨ki,da,tr,am,re⟩ j6 j6 j6;unfold SvStep at hdo;have hseq:=(A.seq_act ⟨ki,da,tr,am,re⟩).2;rw [hqS] at hdo;simp only at hdo;obtain⟨kb,hkbe⟩:∃b,keptB A ⟨ki,da,tr,am,re⟩=b:=⟨_,rfl⟩;obtain⟨A',hA'⟩:∃A',A.act ⟨ki,da,tr,am,re⟩=A':=⟨_,rfl⟩;rw [hkbe,hA'] at hdo;rw [hA'] at hseq;clear hc;obtain⟨HL,Hpi,HqS,Hrw,Hx,Hdo,Hseq,Hkbe,HA'⟩:=hid9 hL hpi hqS hrw hx hdo hseq hkbe hA';clear hA' hkbe hseq hdo hx hrw hqS hpi hL;obtain⟨Hnr,Hsq,Hu⟩:=hid3 hnr hsq hu;clear hu hsq hnr;go_wp2_with fail;refine Hdo.out.mono ?_;rintro e w10 ⟨v,rfl,hans,q',p',hL',hpi',hqS',hqP',hk10⟩;obtain⟨s0,s1,s3,s4,s7,p0,p1,p2,p3,p5,p6,p7,k1,m1,d1,k2,m2,d2,k3,m3,d3,k4,m4,d4,gr,hv⟩:=hans.letters;subst hv;have hrw10:=HL.out.row hk10 Hrw.out j7;obtain⟨u',hu'⟩:∃z,(if kb=true then u+1 else u)=z:=⟨_,rfl⟩;obtain⟨nr',hnr'⟩:∃z,(if kb=true then nr+1 else nr)=z:=⟨_,rfl⟩;have hnr1:nr'<=1+(i+1):=by rw [<-hnr'];have:=Hnr.out;split<;>omega
   have hu1:u'<=2+(i+1):=by rw [<-hu'];have:=Hu.out;split<;>omega
   have hsq1:A'.seq<=((i+1:Nat):Int):=by have:=Hsq.out;have:=Hseq.out;omega
   rw [hu',hnr'] at hL';rw [hu'] at hpi';obtain⟨RL',hS'⟩:=hL'.is;have hfk:=Je q' p' 0 u' nr' RL' A' w10 hS' j6;rw [hqS'] at hfk;clear hans x0 x1 x2 x3 x4 xl hnr' hu' hS' hk10;obtain⟨Hrw10,HL',Hpi',HqS',HqP',Hnr1,Hu1,Hsq1,Hfk⟩:=hid9 hrw10 hL' hpi' hqS' hqP' hnr1 hu1 hsq1 hfk;clear hfk hsq1 hu1 hnr1 hqP' hqS' hpi' hL' hrw10;go_wp2_with fail;refine Hfk.out.mono ?_;rintro e w11 ⟨F,xf,rfl,hA11,hk11,hf11,hr11⟩;have hT11:SvTwo w w11 q' p' u' nr' A' F xf A':=SvTwo.fork HL'.out rfl hA11 hk11 hf11 hr11;have hrw11:=hk11.row Hrw10.out (by simp);clear hA11 hk11 hf11 hr11;obtain⟨HT11,Hrw11⟩:=hid2 hT11 hrw11;clear hrw11 hT11
   go_upto_region 13 with fail
   go_loopw [9] (λk wr=>∃(n:Nat) (qk:SvV) (xk:AcV),n<=3/\k= .int .i64 (9+(n:Int))/\SvTwo w wr qk p' u' nr' A' F xk A'/\qk.S=S/\wr.ownsRow 0 23 5 (.slice (some ⟨gc,oc,none⟩) M cl) M (O.flatMap Cmd.cells)) (λk _=>(12-intOf k).toNat)
   case atStart=>exact⟨0,q',xf,by omega,rfl,HT11.out,HqS'.out,Hrw11.out⟩
   case round=>
    obtain⟨n,qk,xk,hn3,rfl,hT,hqk,hrk⟩:=hrel;obtain⟨kd,hkd⟩:∃z:Int,9+(n:Int)=z:=⟨_,rfl⟩;rw [hkd];by_cases hkl:kd<=11
    ·have hk9:9<=kd:=j8;have hqkS:=hqk;clear hqk;obtain⟨HT,Hrk,Hkd⟩:=hid3 hT hrk hkd;clear hkd hrk hT
     go_upto_region 16 with fail
     obtain⟨rv,hrv⟩:∃z,wrap64 (1+wrap64 ((IntKind.u64.wrap r2).tmod 4))=z:=⟨_,rfl⟩;rw [hrv];refine Kt λw12 hw12=> ?_;obtain⟨mc,hmc⟩:∃b,wr.heap.size=b:=⟨_,rfl⟩;have hb12:w12.heap[mc]?=some (.cells #[.int .i64 kd,.int .i64 0,.int .i64 0,.int .i64 0,.int .i64 rv] 23 (0,0)):=by rw [hw12,<-hmc];exact heap_alloc_new wr _
     have hk12:Keeps (λ_=>False) wr w12:=by rw [hw12];exact Keeps.alloc _ _
     have hT12:=HT.out.keep hk12;have hr12:=hk12.row Hrk.out (by simp);obtain⟨RLk,hS12⟩:=hT12.sv.is;have hcb:chB ⟨kd,0,0,0,rv⟩=false:=by simp [chB];omega
     have hask:=Tk qk p' 0 u' nr' RLk A' ⟨kd,0,0,0,rv⟩ w12 hS12 hcb;unfold SvAsk at hask;have hle:=hS12.acc.ansLe ⟨kd,0,0,0,rv⟩;obtain⟨z1,hz1⟩:∃z,A'.dz ⟨kd,0,0,0,rv⟩=z:=⟨_,rfl⟩;obtain⟨z2,hz2⟩:∃z,A'.dr ⟨kd,0,0,0,rv⟩=z:=⟨_,rfl⟩;obtain⟨z3,hz3⟩:∃z,A'.dc ⟨kd,0,0,0,rv⟩=z:=⟨_,rfl⟩;obtain⟨zs,hzs⟩:∃z,A'.ds ⟨kd,0,0,0,rv⟩=z:=⟨_,rfl⟩;obtain⟨zp,hzp⟩:∃z,A'.dp ⟨kd,0,0,0,rv⟩=z:=⟨_,rfl⟩;have hasq:=fun(q0:SvV) (RL0:List Value) (W:World) (h:SvAt W q0 p' 0 u' nr' RL0 A')=>Tk q0 p' 0 u' nr' RL0 A' ⟨kd,0,0,0,rv⟩ W h hcb;have hasa:=fun(x0:AcV) (W:World) (h:AcAt W F x0 A')=>Xx F x0 A' ⟨kd,0,0,0,rv⟩ W h hcb;unfold SvAsk at hasq;simp only at hasq hasa hask;rw [hz1,hz2,hz3,hzs,hzp] at hasq hasa hask;rw [hzs,hzp] at hle;rw [hqkS] at hask;have c0:=Aa hb12 0;have c1:=Aa hb12 1;have c2:=Aa hb12 2;have c3:=Aa hb12 3;have c4:=Aa hb12 4;have cl:=lt_of_block hb12;rw [hmc];clear hw12 hS12 hcb hz1 hz2 hz3 hzs hzp;obtain⟨Hb12,Hk12,HT12,Hr12,Hask,Hasq,Hasa,Hle,Hrv⟩:=hid9 hb12 hk12 hT12 hr12 hask hasq hasa hle hrv;clear hrv hle hasa hasq hask hr12 hT12 hk12 hb12;have Hmc:=Lib.hid hmc;clear hmc;go_wp2_with fail;refine Hask.out.mono ?_;rintro e w13 ⟨v,rfl,hans,q2,h1,h2,h3⟩;have hT13:=HT12.out.asked h1 h2 h3;have hb13:=HT12.out.sv.box h3 Hb12.out j7;have hr13:=HT12.out.sv.row h3 Hr12.out j7;have hq2:q2.S=S:=h2.1.trans hqkS;obtain⟨t0,t1,t3,t4,t7,b0,b1,b2,b3,b5,b6,b7,g1,o1,f1,g2,o2,f2,g3,o3,f3,g4,o4,f4,gq,hv⟩:=hans.letters;subst hv;have hput:=setRow_heap (w13.alloc (.cells #[.int .i64 0,.int .i64 0,.int .i64 0,.int .i64 0,.int .i64 0,.slice none 0 0,.int .i64 0,.int .i64 0,.slice none 0 0,.slice none 0 0,.int .i64 0,.int .i64 0,.int .i64 0,.int .i64 0,.int .i64 0,.slice none 0 0,.int .i64 0,.int .i64 0,.int .i64 0,.bool false] 62)) w13.heap.size #[.int .i64 0,.int .i64 0,.int .i64 0,.int .i64 0,.int .i64 0,.slice none 0 0,.int .i64 0,.int .i64 0,.slice none 0 0,.slice none 0 0,.int .i64 0,.int .i64 0,.int .i64 0,.int .i64 0,.int .i64 0,.slice none 0 0,.int .i64 0,.int .i64 0,.int .i64 0,.bool false] #[.int .i64 z1,.int .i64 z2,.int .i64 z3,.int .i64 t0,.int .i64 t1,.slice g1 o1 f1,.int .i64 t3,.int .i64 t4,.slice g2 o2 f2,.slice g3 o3 f3,.int .i64 t7,.int .i64 b0,.int .i64 b1,.int .i64 b2,.int .i64 b3,.slice g4 o4 f4,.int .i64 b5,.int .i64 b6,.int .i64 b7,.bool gq] 62 _ (heap_alloc_new w13 _);clear c0 c1 c2 c3 c4 cl h1 h2 h3;obtain⟨HT13,Hb13,Hr13,Hq2,Hput,Hans⟩:=hid6 hT13 hb13 hr13 hq2 hput hans;clear hans hput hq2 hr13 hb13 hT13
     go_upto_region 17 with(refine wpList_store_row rfl 62 (.tmp 11) (.tmp 59) rfl w13.heap.size #[.int .i64 z1,.int .i64 z2,.int .i64 z3,.int .i64 t0,.int .i64 t1,.slice g1 o1 f1,.int .i64 t3,.int .i64 t4,.slice g2 o2 f2,.slice g3 o3 f3,.int .i64 t7,.int .i64 b0,.int .i64 b1,.int .i64 b2,.int .i64 b3,.slice g4 o4 f4,.int .i64 b5,.int .i64 b6,.int .i64 b7,.bool gq] rfl rfl 62 _ (heap_alloc_new w13 _) Aq rfl (Ud z1 z2 z3 t0 t1 t3 t4 t7 b0 b1 b2 b3 b5 b6 b7 g1 g2 g3 g4 o1 f1 o2 f2 o3 f3 o4 f4 gq) ?_)
     refine Kt λw14 hw14=> ?_;rw [<-hw14] at Hput;have hk14:Keeps (λ_=>False) w13 w14:=by rw [hw14];exact(Keeps.alloc w13 _).trans ((Ca _ _ _).mono λi _ e=> .inr (by have e':i=w13.heap.size:=e;omega))
     obtain⟨mb,hmb⟩:∃b,w13.heap.size=b:=⟨_,rfl⟩;rw [hmb] at Hput⊢;have hT14:=HT13.out.keep hk14;have hr14:=hk14.row Hr13.out (by simp);have ha14:=Hans.out.keep0 hk14;have hs14:tlS mb mc #[.int .i64 z1,.int .i64 z2,.int .i64 z3,.int .i64 t0,.int .i64 t1,.slice g1 o1 f1,.int .i64 t3,.int .i64 t4,.slice g2 o2 f2,.slice g3 o3 f3,.int .i64 t7,.int .i64 b0,.int .i64 b1,.int .i64 b2,.int .i64 b3,.slice g4 o4 f4,.int .i64 b5,.int .i64 b6,.int .i64 b7,.bool gq] #[.int .i64 kd,.int .i64 0,.int .i64 0,.int .i64 0,.int .i64 rv] w14:=⟨Hput.out,Ad Hb13.out hk14 (by simp)⟩;clear hw14 hmb Hput;obtain⟨Hk14,HT14,Hr14,Ha14,Hs14⟩:=hid5 hk14 hT14 hr14 ha14 hs14;clear hs14 ha14 hr14 hT14 hk14;refine Ak (tlS mb mc #[.int .i64 z1,.int .i64 z2,.int .i64 z3,.int .i64 t0,.int .i64 t1,.slice g1 o1 f1,.int .i64 t3,.int .i64 t4,.slice g2 o2 f2,.slice g3 o3 f3,.int .i64 t7,.int .i64 b0,.int .i64 b1,.int .i64 b2,.int .i64 b3,.slice g4 o4 f4,.int .i64 b5,.int .i64 b6,.int .i64 b7,.bool gq] #[.int .i64 kd,.int .i64 0,.int .i64 0,.int .i64 0,.int .i64 rv]) (.take 0 (.take 1 (.take 2 (.move 3 (.move 4 (.take 5 (.take 6 (.take 7 (.take 8 (.take 9 (.move 10 (.move 11 (.take 12 (.take 13 .done)))))))))))))) j9 j9 ?_ ?_
     ·exact Hs14.out.keep (Keeps.drew (S:=λ_=>False) _) (λ_ _ e=>e.elim)
     intro wa hsa hka;have hTa:=HT14.out.keep hka;have hra:=hka.row Hr14.out (by simp);have haa:=Ha14.out.keep0 hka;refine j4G ?_;refine ja ?_;intro K hK
     go_at_call 33
     ((with_reducible refine(Hasa.out xk wa hTa.ac).mono ?_);rintro e wb ⟨v2,rfl,ha2,hp2⟩)
     obtain⟨xb,hTb,hkb⟩:=hTa.told hp2;dsimp only;have htb:∀b t,AcF F xk b->TyAt wa b t->t∈ [136,60,90]:=λb t hb ht=>hTa.ac.tyF hb ht
     have hsb:=hsa.keep hkb λb t hb ht e=>by
      have:=htb b t hb ht;rcases e with rfl|rfl<;>exact absurd this j7
     refine hK.out _ _ (by exact hsb) ?_;clear hK K;refine jc ?_
     have hab:=haa.keepT hkb λb t hb ht e=>by
      have h1:=htb b t hb ht;simp only [List.mem_cons,List.not_mem_nil,or_false] at e;rcases e with rfl|rfl|rfl<;>exact absurd h1 j7
     have hrb:=hkb.row hra λk hk e=>by
      have h1:=htb k _ e (.row hra hk);exact absurd h1 j7
     clear hTa haa hsa hra hp2 htb hka hkb;have HTb:=Lib.hid hTb;have Hsb:=Lib.hid hsb;have Hrb:=Lib.hid hrb;clear hTb hsb hrb;refine je ?_;intro K hK
     go_at_call 27
     ((with_reducible refine((Rf z1 z2 z3 zs zp _ _ _ _ wb hab ha2 Hle.out)).mono ?_);rintro e wc ⟨rfl,hkc⟩)
     dsimp only;have hsc:=Hsb.out.keep hkc (λ_ _ e=>e.elim);refine hK.out _ _ (by exact hsc) ?_;clear hK K;refine jc ?_;have hTc:=HTb.out.keep hkc;have hrc:=hkc.row Hrb.out (by simp);have hac:=hab.keep0 hkc;clear hab ha2 hkc;refine j4G ?_;obtain⟨RLc,hSc⟩:=hTc.sv.is;have hasc:=Hasq.out q2 RLc wc hSc;rw [Hq2.out] at hasc;refine ja ?_;intro K hK
     go_at_call 28
     ((with_reducible refine(hasc).mono ?_);rintro e wd ⟨v3,rfl,ha3,q3,h1,h2,h3⟩)
     have hTd:=hTc.asked h1 h2 h3
     have hsd:=hsc.keep h3 λb t hb ht e=>by
      have:=hSc.ty hb ht;rcases e with rfl|rfl<;>exact absurd this j7
     dsimp only;refine hK.out _ _ (by exact hsd) ?_;clear hK K;refine jc ?_
     have had:=hac.keepT h3 λb t hb ht e=>by
      have h4:=hSc.ty hb ht;simp only [List.mem_cons,List.not_mem_nil,or_false] at e;rcases e with rfl|rfl|rfl<;>exact absurd h4 j7
     have hrd:=hTc.sv.row h3 hrc j7;have hq3:q3.S=S:=h2.1.trans Hq2.out;clear hTc hrc hac hsc hSc hasc h1 h2 h3;have HTd:=Lib.hid hTd;have Hsd:=Lib.hid hsd;have Hrd:=Lib.hid hrd;clear hTd hsd hrd;refine je ?_;intro K hK
     go_at_call 27
     ((with_reducible refine((Rf z1 z2 z3 zs zp _ _ _ _ wd had ha3 Hle.out)).mono ?_);rintro e we ⟨rfl,hke⟩)
     dsimp only;have hse:=Hsd.out.keep hke (λ_ _ e=>e.elim);refine hK.out _ _ (by exact hse) ?_;clear hK K;refine jc ?_;have hTe:=HTd.out.keep hke;have hre:=hke.row Hrd.out (by simp);clear had ha3 hke hse;refine jk ?_;obtain⟨HTe,Hre,Hq3⟩:=hid3 hTe hre hq3;clear hq3 hre hTe;go_wp2;go_roundw
     case rel=>exact⟨n+1,q3,xb,by have:=Hkd.out;omega,by rw [show kd+1=9+((n+1:Nat):Int) by have:=Hkd.out;omega],HTe.out,Hq3.out,Hre.out⟩
     case measure=>simp [intOf];omega
    ·have hkl':¬kd<=11:=hkl;obtain⟨nb,hnb⟩:∃z,A'.s.p.bal.length=z:=⟨_,rfl⟩;obtain⟨nR,hnR⟩:∃z,A'.s.R.length=z:=⟨_,rfl⟩;obtain⟨nD,hnD⟩:∃z,A'.D.length=z:=⟨_,rfl⟩;obtain⟨td,htd⟩:∃z,A'.today=z:=⟨_,rfl⟩;obtain⟨cy,hcy⟩:∃z,A'.cyc A'.today=z:=⟨_,rfl⟩;obtain⟨sq,hsqe⟩:∃z,A'.seq=z:=⟨_,rfl⟩;obtain⟨cr,hcr⟩:∃z,A'.s.p.cr=z:=⟨_,rfl⟩;obtain⟨du,hdu⟩:∃z,A'.s.p.du=z:=⟨_,rfl⟩;have hst:=at_st hT.ac htd hcy hsqe hcr hdu hnb hnR hnD;unfold StL at hst;have hle:=hT.ac.ansLe ⟨9,0,0,0,0⟩
     have hle9:nb<=1000000/\nR<=1000000/\nD<=1000000:=by
      have h9:A'.ds ⟨9,0,0,0,0⟩=A'.st:=rfl;rw [h9] at hle;exact⟨by rw [<-hnb];exact hle.1,by rw [<-hnR];exact hle.2.1,by rw [<-hnD];exact hle.2.2.1⟩
     have hqkS:=hqk;clear hqk hle;obtain⟨HT,Hrk,Hkd,Hst,Hle9,Htd,Hcy,Hsqe,Hcr⟩:=hid9 hT hrk hkd hst hle9 htd hcy hsqe hcr;clear hcr hsqe hcy htd hle9 hst hkd hrk hT;obtain⟨Hdu,Hnb,HnR,HnD⟩:=hid4 hdu hnb hnR hnD;clear hnD hnR hnb hdu;go_wp2_with fail;refine Hst.out.mono ?_;rintro e w12 ⟨a1,e1,a2,e2,a3,e3,rfl,ra,rb,rc,hk12,_⟩;have hT12:=HT.out.keep hk12;have hr12:=hk12.row Hrk.out (by simp);obtain⟨RLk,hS12⟩:=hT12.sv.is;have hfk2:=Je qk p' 0 u' nr' RLk A' w12 hS12 (by have:=Hsq1.out;omega);rw [hqkS] at hfk2;clear hS12;obtain⟨HT12,Hr12,Hfk2,Ra,Rb,Rc,Hk12⟩:=hid7 hT12 hr12 hfk2 ra rb rc hk12;clear hk12 rc rb ra hfk2 hr12 hT12;go_wp2_with fail;refine Hfk2.out.mono ?_;rintro e w13 ⟨F2,x2,rfl,hA13,hk13,_⟩;have hst2:=at_st hA13 Htd.out Hcy.out Hsqe.out Hcr.out Hdu.out Hnb.out HnR.out HnD.out;unfold StL at hst2;clear hA13;obtain⟨Hk13,Hst2⟩:=hid2 hk13 hst2;clear hst2 hk13;go_wp2_with fail;refine Hst2.out.mono ?_;rintro e w14 ⟨g1,f1,g2,f2,g3,f3,rfl,ta,tb,tc,hk14,_⟩;have hk1214:=Hk13.out.nt hk14;have hss:=Nb td cy cr du sq A'.s.p.bal A'.s.R A'.D nb nR nD a1 a2 a3 g1 g2 g3 e1 e2 e3 f1 f2 f3 w14 Hnb.out HnR.out HnD.out Hle9.out ((Reads.Ay Ra.out).keeps hk1214 (by simp)) ((Reads.Ay Rb.out).keeps hk1214 (by simp)) ((Reads.Ay Rc.out).keeps hk1214 (by simp)) (Reads.Ay ta) (Reads.Ay tb) (Reads.Ay tc);clear ta tb tc hk14;obtain⟨Hk1214,Hss⟩:=hid2 hk1214 hss;clear hss hk1214;go_wp2_with fail;refine Hss.out.mono ?_;rintro e w15 ⟨rfl,hk15⟩;have hk1215:=Hk1214.out.nt hk15;clear hk15;have Hk1215:=Lib.hid hk1215;clear hk1215;go_wp2;go_roundw
     case rel=>exact⟨i+1,by omega,by go_num,⟨⟨qk,p',u',nr',A',HT12.out.sv.keep Hk1215.out,Hpi'.out,hqkS,Hu1.out,Hnr1.out,Hsq1.out⟩,Hk1215.out.row Hr12.out (by simp)⟩⟩
     case measure=>simp [intOf];omega
  ·have hge:¬((i:Int)<(M:Int)):=j8;obtain⟨⟨q,p,u,nr,A,hL,_⟩,_⟩:=hI;exact j4E
end Go.Proofs.YtgbgmadkmabeeaaGreat
