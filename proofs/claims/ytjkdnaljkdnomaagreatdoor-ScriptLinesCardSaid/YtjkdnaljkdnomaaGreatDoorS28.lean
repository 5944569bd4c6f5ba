/- Part 28 of what the laws of this seat share: walks of functions, and plain laws. -/
import Derived.Test.YtjkdnaljkdnomaaGreatDoorS27
set_option maxRecDepth 100000
set_option maxHeartbeats 3200000
namespace Go.Proofs.YtjkdnaljkdnomaaGreatDoor
open Go.RowKit
def acT(B:Nat)(t:Tm)(vt:Value)(td:Int)(w:World):Prop:=tbS B t vt w/\w.cell? ⟨B,7,none⟩=some (.int .i64 td)
theorem acT.keep{B:Nat}{t:Tm}{vt:Value}{td:Int}{w w':World}(h:acT B t vt td w)(hk:K0 w w'):acT B t vt td w':=⟨h.1.keep hk,(hk.cell (Ai h.2) (by simp)).trans h.2⟩
theorem acT.of{w:World}{B:Nat}{x:AcV}{a:Ac}(h:AcAt w B x a):acT B a.t x.vt a.today w:=
 ⟨⟨Aa h.blk 0,Aa h.blk 1,Aa h.blk 2,Aa h.blk 3,Aa h.blk 4,Aa h.blk 5,Aa h.blk 6⟩,Aa h.blk 7⟩
def CnRun(W2:World)(n:Nat)(Z:St×Int)(p r q z:Value)(wx:World):Prop:=∃(b7:Nat) (vb vr vo:Value) (cr du zz:Int),p=(.pointer (some ⟨b7,0,none⟩))/\z= .int .i64 zz/\vr=r/\vo=q/\W2.heap.size<=b7/\K0 W2 wx/\wx.heap[b7]?=some (.cells #[vb,.int .i64 cr,.int .i64 du] 51 (0,0))/\RunIs W2 n Z wx vb cr du r q zz/\∃a m c,vb= .slice a m c
theorem En.up{w w2 W:World}{n:Nat}{s:St}{vb vr vo:Value}{P:List SV}(h:En w2 n s vb vr vo P W)(hk:K0 w w2):En w n s vb vr vo P W:=
 ⟨h.bal,h.rts,h.out,h.ln,h.lp,h.nb,h.nr,λb hb=>by have:=h.wb b hb;have:=hk.size;omega,λb hb=>by have:=h.wr b hb;have:=hk.size;omega,λb hb=>by have:=h.wo b hb;have:=hk.size;omega,λx hx b hb=>by have:=h.wl x hx b hb;have:=hk.size;omega,hk.nt h.kp⟩
theorem RunIs.up{w w2:World}{m:Nat}{Z:St×Int}{W:World}{vb vr vo:Value}{cr du z:Int}(h:RunIs w2 m Z W vb cr du vr vo z)(hk:K0 w w2):RunIs w m Z W vb cr du vr vo z:=by
 cases h with
 |ok e g=>exact .ok e (g.up hk)
 |bad e=>exact .bad e
theorem ce_add{a:Ac}{e:Ev}(h:¬Es a.t a.L e=0):a.ce e=Es a.t a.L e/\a.count e=a:=by
 have h1:a.ce e=Es a.t a.L e:=by unfold Ac.ce;rw [if_pos h]
 exact⟨h1,by unfold Ac.count;rw [h1,if_neg h]⟩
theorem ce_run{a:Ac}{e:Ev}(h:Es a.t a.L e=0)(h2:¬(a.cz e).2=0):a.ce e=(a.cz e).2/\a.count e=a:=by
 have h1:a.ce e=(a.cz e).2:=by unfold Ac.ce;rw [if_neg j6,if_pos h2]
 exact⟨h1,by unfold Ac.count;rw [h1,if_neg h2]⟩
def cbS(B:Nat)(sq:Int)(vn:Value)(w:World):Prop:=w.cell? ⟨B,8,none⟩=some (.int .i64 sq)/\w.cell? ⟨B,15,none⟩=some vn
theorem cbS.keep{B:Nat}{sq:Int}{vn:Value}{w w':World}(h:cbS B sq vn w)(hk:K0 w w'):cbS B sq vn w':=⟨(hk.cell (Ai h.1) (by simp)).trans h.1,(hk.cell (Ai h.2) (by simp)).trans h.2⟩
theorem ce_bad{a:Ac}{e:Ev}(h:Es a.t a.L e=0)(h2:(a.cz e).2=0)(h3:¬(a.cb e).1=0):a.ce e=(a.cb e).1/\a.count e=a:=by
 have h1:a.ce e=(a.cb e).1:=by unfold Ac.ce;rw [if_neg j6,if_neg j6]
 exact⟨h1,by unfold Ac.count;rw [h1,if_neg h3]⟩
theorem ce_good{a:Ac}{e:Ev}(h:Es a.t a.L e=0)(h2:(a.cz e).2=0)(h3:(a.cb e).1=0):a.ce e=0/\a.count e={ a with L:=putL a.L e,s:=(a.cz e).1,adj:=a.adj++(a.cb e).2,seq:=a.seq+1 }:=by
 have h1:a.ce e=0:=by unfold Ac.ce;rw [if_neg j6,if_neg j6,h3]
 exact⟨h1,by unfold Ac.count;rw [h1,if_pos rfl]⟩
def b7S(b7:Nat)(vb:Value)(cr du:Int)(w:World):Prop:=w.cell? ⟨b7,0,none⟩=some vb/\w.cell? ⟨b7,1,none⟩=some (.int .i64 cr)/\w.cell? ⟨b7,2,none⟩=some (.int .i64 du)
theorem b7S.keep{b7:Nat}{vb:Value}{cr du:Int}{w w':World}{S:Nat->Prop}(h:b7S b7 vb cr du w)(hk:Keeps S w w')(hS:¬S b7):b7S b7 vb cr du w':=⟨(hk.cell (Ai h.1) hS).trans h.1,(hk.cell (Ai h.2.1) hS).trans h.2.1,(hk.cell (Ai h.2.2) hS).trans h.2.2⟩
theorem AcAt.counted{w wc Wf W2:World}{B B1 n M:Nat}{x:AcV}{a:Ac}{L1:List Ev}{Z:St×Int}{r2:List Adj}{v2 vp vr vn va:Value}{P:List SV}(h:AcAt w B x a)(hkc:K0 w wc)(hk2:K0 w W2)(hk2c:K0 W2 wc)
  (hK:Keeps (λi=>i=B\/x.va.ownBlock=some i) wc Wf) (hdl:DL W2 B1 a.t x.vtl L1 v2) (hB1:w.heap.size<=B1) (hv2:∀b,v2.ownBlock=some b->w.heap.size<=b) (hN:a.t.trs.length=n) (hZ:walkR a.t L1 a.today=Z) (hz:Z.2=0) (g:En W2 n Z.1 vp vr vn P wc)
  (hbet:betS (a.seq+1) a.s.out Z.1.out=(0,r2)) (hb:Wf.heap[B]?=some (.cells #[.int .i64 a.t.limit,x.vt,.int .i64 a.t.cyc,.int .i64 a.t.due,.int .i64 a.t.minFixed,.int .i64 a.t.minPart,.int .i64 a.t.start,.int .i64 a.today,.int .i64 (a.seq+1),(.pointer (some ⟨B1,0,none⟩)),(.pointer (some ⟨x.bb,0,none⟩)),vp,.int .i64 Z.1.p.cr,.int .i64 Z.1.p.du,vr,vn,x.vi,va] 104 (0,0)))
  (hra:Wf.ownsRow 0 142 9 va (a.adj++r2).length ((a.adj++r2).flatMap Adj.cells)) (hM1:wc.heap.size<=M) (hva:∀b,va.ownBlock=some b->x.va.ownBlock=some b\/M<=b):
  Ca w B x { a with L:=L1,s:=Z.1,adj:=a.adj++r2,seq:=a.seq+1 } Wf:=by
 have hA:=h.keep0 hkc;have hBl:=lt_of_block h.blk;have hval:∀b,x.va.ownBlock=some b->b<w.heap.size:=λb hb=>rowLt h.adj hb;have hsz:=hk2.size;have hszc:=hkc.size;have hZ1:Z=(Z.1,0):=by rw [<-hz]
 have hnum:=h.ok.nums
 have hr2:r2.length<=300300:=by
  have:=betS_le (seq:=a.seq+1) (L:=a.s.out) (M:=Z.1.out) λy hy=>by have:=hnum.ol y hy;have:=hnum.n8;omega
  rw [hbet] at this;have:=hnum.o3;simp only at *;omega
 have hok:AcOk { a with L:=L1,s:=Z.1,adj:=a.adj++r2,seq:=a.seq+1 }:=by
  refine⟨by show walkR a.t L1 a.today=(Z.1,0);rw [hZ];exact hZ1, ?_,h.ok.ill, ?_,by have:=h.ok.s0;show 0<=a.seq+1;omega⟩
  ·have:=betS_len (seq:=a.seq+1) (L:=a.s.out) (M:=Z.1.out) (by rw [hbet]);show a.iss.length=Z.1.out.length;rw [h.ok.il,this]
  ·have:=h.ok.aj;show((a.adj++r2).length:Int)<=301000*(a.seq+1);rw [List.length_append];omega
 have nwo:∀b,w.heap.size<=b->¬(b=B\/x.va.ownBlock=some b):=λb hb e=>by
  rcases e with e|e
  ·omega
  ·have:=hval b e;omega
 have nw:∀b,W2.heap.size<=b->¬(b=B\/x.va.ownBlock=some b):=λb hb=>nwo b j6;have hdc:=hdl.keep hk2c;have hold:∀b,x.rd b->¬(b=B\/x.va.ownBlock=some b):=λb hb e=>h.sep b hb (e.imp id .inr)
 have hrd:∀b,AcV.rd ({ x with vl:=v2,bl:=B1,vp:=vp,vr:=vr,vn:=vn,va:=va,P:=P }:AcV) b->x.rd b\/(w.heap.size<=b/\b<M):=by
  rintro b (hb|hb|hb|hb|hb|hb|hb|hb|⟨y,hy,hb⟩|⟨y,hy,hb⟩)
  ·exact .inl (.inl hb)
  ·have:=g.wb b hb;have:=rowLt g.bal hb;exact .inr ⟨by omega,by omega⟩
  ·have:=g.wr b hb;have:=rowLt g.rts hb;exact .inr ⟨by omega,by omega⟩
  ·have:=g.wo b hb;have:=rowLt g.out hb;exact .inr ⟨by omega,by omega⟩
  ·have hb':b=B1:=hb;subst hb';have:=lt_of_block hdc.blk;exact .inr ⟨by omega,by omega⟩
  ·exact j26
  ·have:=hv2 b hb;have:=rowLt hdc.row hb;exact .inr ⟨by omega,by omega⟩
  ·exact .inl (.inr (.inr (.inr (.inr (.inr (.inr (.inr (.inl hb))))))))
  ·have:=g.wl y hy b hb;have:=rowLt (g.ln y hy) hb;exact .inr ⟨by omega,by omega⟩
  ·exact .inl (.inr (.inr (.inr (.inr (.inr (.inr (.inr (.inr (.inr ⟨y,hy,hb⟩)))))))))
 have haf:∀b,AcF B ({ x with vl:=v2,bl:=B1,vp:=vp,vr:=vr,vn:=vn,va:=va,P:=P }:AcV) b->AcF B x b\/M<=b:=by
  rintro b (hb|hb|hb)
  ·exact .inl (.inl hb)
  ·exact .inl (.inr (.inl hb))
  ·exact(hva b hb).imp (λe=> .inr (.inr e)) id
 obtain⟨h1,h2⟩:=AcAt.build (x':={ x with vl:=v2,bl:=B1,vp:=vp,vr:=vr,vn:=vn,va:=va,P:=P }) (a':={ a with L:=L1,s:=Z.1,adj:=a.adj++r2,seq:=a.seq+1 }) h M j6 ((hkc.mono (by simp)).trans (hK.mono λi _ e=> .inl (e.imp id .inr))) rfl rfl hb
  (hdc.keepS hK (nwo B1 hB1) (λb hb=>hold b (.inr (.inr (.inr (.inr (.inr (.inl hb))))))) (λb hb=>nwo b (hv2 b hb)))
  (hA.bk.keeps hK λb hb=>hold b (.inr (.inr (.inr (.inr (.inr (.inr (.inr (.inl hb)))))))))
  j4g j4h (hK.row g.out λb hb=>nw b (g.wo b hb)) (λy hy=>hK.row (g.ln y hy) λb hb=>nw b (g.wl y hy b hb)) g.lp
  (hK.row hA.iss λb hb=>h.si b hb) (λy hy=>hK.row (hA.iln y hy) λb hb=>hold b (.inr (.inr (.inr (.inr (.inr (.inr (.inr (.inr (.inr ⟨y,hy,hb⟩)))))))))) hA.is hra hok hrd haf
 exact⟨_,h1,(hkc.mono (by simp)).trans (hK.mono λi _ e=> .inl (e.imp id .inr)),h2⟩
theorem Aa0(B:Nat)(x:AcV)(a:Ac)(e:Ev)(w:World)(h:AcAt w B x a)(hs:a.seq<=100000):Calls Tryz.prog 91 #[(.pointer (some ⟨B,0,none⟩)),.agg #[.int .i64 e.kind,.int .i64 e.day,.int .i64 e.tranche,.int .i64 e.amount,.int .i64 e.ref]] w λr w'=>r= .returned (.int .i64 (a.ce e))/\Ca w B x (a.count e) w':=by
 obtain⟨i0,hi,hi0,hi1,hi2⟩:=info_parts Gz;have hn:=h.ok.nums;have hfk:=λW (hW:K0 w W)=>Sa x.bl a.t x.vtl x.vl a.L W (h.dl.keep hW) (by have:=hn.ll;omega);obtain⟨W0,hW0⟩:=eY (w.alloc (.cells #[.int .i64 e.kind,.int .i64 e.day,.int .i64 e.tranche,.int .i64 e.amount,.int .i64 e.ref] 186));have hb0:W0.heap[w.heap.size]?=some (.cells #[.int .i64 e.kind,.int .i64 e.day,.int .i64 e.tranche,.int .i64 e.amount,.int .i64 e.ref] 186 (0,0)):=by rw [hW0];exact heap_alloc_new w _
 have hk0:K0 w W0:=by rw [hW0];exact Keeps.alloc _ _
 have c9:w.cell? ⟨B,9,none⟩=some (.pointer (some ⟨x.bl,0,none⟩)):=Aa h.blk 9;have HBl:=Lib.hid (lt_of_block h.blk);have hbl:=lt_of_block h.blk;obtain⟨H,Hn,Hfk,Hb0,Hk0,Hi,Hi0,Hi1,Hi2⟩:=hid9 h hn hfk hb0 hk0 hi hi0 hi1 hi2;clear hi2 hi1 hi0 hi hk0 hb0 hfk hn h;go_enter Tryz.func91,Tryz.ntmps91;go_wp2_with fail;rw [<-hW0];clear hW0;refine(Hfk.o _ Hk0.o).mono ?_;intro r w1 hf1;obtain⟨B1,v1,rfl,hdl1,hk1,hB1,hv1⟩:=hf1;have hb1:=Ad Hb0.o hk1 (by simp);have hkw1:=Hk0.o.nt hk1;have hsz0:=Hk0.o.size;have e0:=Aa hb1 0;have e1:=Aa hb1 1;have e2:=Aa hb1 2;have e3:=Aa hb1 3;have e4:=Aa hb1 4;have had:=Adt B1 a.t x.vtl v1 a.L e w1 hdl1 (by have:=Hn.o.ll;omega) (by have:=Hn.o.n8;omega);simp only [Ev.agg] at had;clear hdl1 hk1 hb1;obtain⟨Hkw1,Had,HB1,Hv1⟩:=hid4 hkw1 had hB1 hv1;clear hv1 hB1 had hkw1;clear c9;go_wp2_with fail;refine Had.o.mono ?_;intro r w2 hpo;obtain⟨rfl,v2,hdl2,hk2,hf2⟩:=hpo;obtain⟨z,hz⟩:=eX (Es a.t a.L e);rw [hz]
 have hkw2:K0 w w2:=Hkw1.o.trans (hk2.mono λi _ e=> .inr (by
  rcases e with e|e
  ·have e':i=B1:=e;have:=HB1.o;omega
  ·have:=Hv1.o i e;omega))
 clear e0 e1 e2 e3 e4;by_cases h0:z=0
 ·subst h0;have hdl2':DL w2 B1 a.t x.vtl (putL a.L e) v2:=by unfold addL at hdl2;rw [if_pos hz] at hdl2;exact hdl2
  obtain⟨L1,hL1⟩:=eX (putL a.L e);rw [hL1] at hdl2';have hL1l:L1.length<=3000:=by rw [<-hL1,Lu];have:=Hn.o.ll;omega
  obtain⟨n,hN⟩:=eX a.t.trs.length;obtain⟨Z,hZ⟩:=eX (walkR a.t L1 a.today);obtain⟨adt,ct,hvt,_,_⟩:=Ae H.o.trs;have hrt:=Reads.Bg H.o.trs;rw [hN] at hvt hrt;obtain⟨t,ht⟩:=eX a.t;obtain⟨td,htd⟩:=eX a.today;rw [ht,htd] at hZ;rw [ht] at hdl2' hN hrt;rw [hvt] at hrt;have hall:=λW (hW:K0 w2 W)=>Us B1 t x.vtl v2 L1 W (hdl2'.keep hW) j6;have hrun:=λW (hW:K0 w2 W) ad c (hr:Reads W 5 (.slice ad L1.length c) L1.length (L1.flatMap Ev.cells))=>Pe t adt ct n L1 ad c L1.length td W hN (hrt.keeps (hkw2.nt hW) (by simp)) rfl hr j6 (by have:=Hn.o.n8;rw [ht,hN] at this;omega);rw [hZ] at hrun;have hSk:∀W,K0 w2 W->acT B t (.slice adt n ct) td W:=λW hW=>by have:=acT.of (H.o.keep0 (hkw2.nt hW));rw [ht,htd,hvt] at this;exact this
  obtain⟨W2,hW2⟩:=eY w2;subst hW2;have HBl2:=Lib.hid (Nat.lt_of_lt_of_le HBl.o hkw2.size);clear HBl;have HBl:=HBl2;clear HBl2;have Hz:=Lib.hid hz;clear hz hdl2 hk2;obtain⟨Hf2,Hkw2,Hdl2',HL1⟩:=hid4 hf2 hkw2 hdl2' hL1;clear hL1 hdl2' hkw2 hf2 hL1l;obtain⟨HN,HZ⟩:=hid2 hN hZ;clear hZ hN hvt hrt;obtain⟨Ht,Htd,Hall,Hrun,HSk⟩:=hid5 ht htd hall hrun hSk;clear hSk hrun hall htd ht
  go_upto_region 5 with fail
  go_cut [7,8,9,10] (λp r q z wx=>CnRun W2 n Z p r q z wx)
  case first=>
   refine Ak (acT B t (.slice adt n ct) td) (.take 0 (.take 1 (.take 2 (.take 3 (.take 4 (.take 6 (.take 7 (.take 8 (.take 9 (.fork 5 (.fork 10 (.take 11 (.take 12 (.take 13 (.take 14 (.take 15 (.move 16 (.move 17 (.take 18 (.take 19 (.take 20 .done)))))))))) 16 (.move 10 (.take 11 (.take 12 (.take 13 (.take 14 (.take 15 (.move 17 (.take 18 (.take 19 (.take 20 .done))))))))))) 16 (.move 5 (.move 10 (.take 11 (.take 12 (.take 13 (.take 14 (.take 15 (.move 17 (.take 18 (.take 19 (.take 20 .done))))))))))))))))))))) j9 j9 ?_ ?_
   ·exact HSk.o _ (Keeps.drew _)
   intro w3 hs3 hk3;refine ju ?_;refine Dx ?_ ?_ (HSk.o _ hk3)
   ·skip
    refine ja ?_;intro K hK
    go_at_call 87
    ((with_reducible refine(Hall.o w3 hk3).mono ?_);rintro e w4 hg)
    obtain⟨v',rfl,hrd,hkg,hng⟩:=hg;obtain⟨ae,ce,rfl,_⟩:=id hrd;dsimp only;have hkn:K0 W2 w4:=Keeps.nt hk3 hkg;refine hK.out _ _ j16 ?_;clear hK K;refine jc ?_;refine ju ?_;refine Dx ?_ ?_ (HSk.o _ hkn)
    ·skip
     refine ja ?_;intro K hK
     go_at_call 52
     ((with_reducible refine(Hrun.o w4 hkn ae ce hrd).mono ?_);intro e w5 hpo)
     obtain⟨vb2,cr2,du2,vr2,vo2,z2,rfl,hi2,hk7,a2,n2,c2,rfl⟩:=Qv hpo;clear hpo;refine j17 ?_;intro hkr;clear hK K;refine jc ?_;refine ju ?_;obtain⟨w8,hw8⟩:=eY ((w5).alloc (.cells #[.slice none 0 0,.int .i64 0,.int .i64 0] 51));obtain⟨b7,hb7⟩:=eY ((w5).heap.size);have hkA:K0 w5 w8:=by rw [hw8];exact Keeps.alloc _ _
     have hz8:(w8).heap[b7]?=some (.cells #[.slice none 0 0,.int .i64 0,.int .i64 0] 51 (0,0)):=by rw [hw8,hb7];exact heap_alloc_new _ _
     have hb7l:W2.heap.size<=b7:=by rw [hb7];exact(hkr).size
     have hka8:K0 W2 w8:=Keeps.nt hkr hkA;have hb7B:¬B=b7:=λe=>by have:=HBl.o;omega
     have hb7w:(w5).heap.size<=b7:=by rw [hb7];exact Nat.le_refl _
     refine ja ?_;intro K hK;rw [<-hw8,<-hb7];clear hw8 hb7;refine j0k ?_;clear hK K;refine jc ?_;refine ju ?_;refine j4i ?_;intro z0 z1 z2' zf0 zf1 zf2 hbz hkz hk4z hrel;exact j27
    ·skip
     obtain⟨w8,hw8⟩:=eY ((w4).alloc (.cells #[.slice none 0 0,.int .i64 0,.int .i64 0] 51));obtain⟨b7,hb7⟩:=eY ((w4).heap.size);have hkA:K0 w4 w8:=by rw [hw8];exact Keeps.alloc _ _
     have hz8:(w8).heap[b7]?=some (.cells #[.slice none 0 0,.int .i64 0,.int .i64 0] 51 (0,0)):=by rw [hw8,hb7];exact heap_alloc_new _ _
     have hb7l:W2.heap.size<=b7:=by rw [hb7];exact(hkn).size
     have hka8:K0 W2 w8:=Keeps.nt hkn hkA;have hb7B:¬B=b7:=λe=>by have:=HBl.o;omega
     have hb7w:(w4).heap.size<=b7:=by rw [hb7];exact Nat.le_refl _
     refine ja ?_;intro K hK;rw [<-hw8,<-hb7];clear hw8 hb7;refine j0k ?_;clear hK K;refine jc ?_;refine ju ?_;have hrd8:=hrd.keeps hkA (by simp);refine ja ?_;intro K hK
     go_at_call 52
     ((with_reducible refine(Hrun.o w8 hka8 ae ce hrd8).mono ?_);intro e w5 hpo)
     obtain⟨vb2,cr2,du2,vr2,vo2,z2,rfl,hi2,hk7,a2,n2,c2,rfl⟩:=Qv hpo;clear hpo;dsimp only;have hkr:K0 W2 w5:=Keeps.nt hka8 hk7;refine hK.out _ _ (by exact HSk.o _ hkr) ?_;clear hK K;refine jc ?_;have hz5:=Ad hz8 hk7 (by simp);have hl8:=lt_of_block hz8;refine ju ?_;refine j18 ?_;intro z0 z1 z2' zf0 zf1 zf2 hbz hkz hk4z;refine j4j ?_;intro hrel;exact j27
   ·skip
    obtain⟨w8,hw8⟩:=eY ((w3).alloc (.cells #[.slice none 0 0,.int .i64 0,.int .i64 0] 51));obtain⟨b7,hb7⟩:=eY ((w3).heap.size);have hkA:K0 w3 w8:=by rw [hw8];exact Keeps.alloc _ _
    have hz8:(w8).heap[b7]?=some (.cells #[.slice none 0 0,.int .i64 0,.int .i64 0] 51 (0,0)):=by rw [hw8,hb7];exact heap_alloc_new _ _
    have hb7l:W2.heap.size<=b7:=by rw [hb7];exact(hk3).size
    have hka8:K0 W2 w8:=Keeps.nt hk3 hkA;have hb7B:¬B=b7:=λe=>by have:=HBl.o;omega
    have hb7w:(w3).heap.size<=b7:=by rw [hb7];exact Nat.le_refl _
    refine ja ?_;intro K hK;rw [<-hw8,<-hb7];clear hw8 hb7;refine j0k ?_;clear hK K;refine jc ?_;refine ju ?_;refine ja ?_;intro K hK
    go_at_call 87
    ((with_reducible refine(Hall.o w8 hka8).mono ?_);rintro e w4 hg)
    obtain⟨v',rfl,hrd,hkg,hng⟩:=hg;obtain⟨ae,ce,rfl,_⟩:=id hrd;dsimp only;have hkn:K0 W2 w4:=Keeps.nt hka8 hkg;refine hK.out _ _ j16 ?_;clear hK K;refine jc ?_;have hz4:=Ad hz8 hkg (by simp);have hl4:=lt_of_block hz4;refine ju ?_;refine ja ?_;intro K hK
    go_at_call 52
    ((with_reducible refine(Hrun.o w4 hkn ae ce hrd).mono ?_);intro e w5 hpo)
    obtain⟨vb2,cr2,du2,vr2,vo2,z2,rfl,hi2,hk7,a2,n2,c2,rfl⟩:=Qv hpo;clear hpo;refine j17 ?_;intro hkr;clear hK K;refine jc ?_;have hz5:=Ad hz4 hk7 (by simp);refine ju ?_;refine j18 ?_;intro z0 z1 z2' zf0 zf1 zf2 hbz hkz hk4z;refine j4k ?_;intro hrel;exact j27
  obtain⟨b7,vb,vr,vo,cr,du,zz,rfl,rfl,rfl,rfl,hb7,hk7,hbx7,hi7,av,mv,cv,rfl⟩:=hcut;have hcz:a.cz e=Z:=by unfold Ac.cz;rw [HL1.o,Ht.o,Htd.o];exact HZ.o
  have hkw7:=Hkw2.o.nt hk7;have hk7':=hk7
  cases hi7 with
  |bad hz7=>
   obtain⟨zz,hzz⟩:=eX Z.2;rw [hzz] at hz7⊢;have hne:(zz !=0)=true:=by simp [hz7]
   have hc:=ce_run Hz.o (by rw [hcz,hzz];exact hz7);rw [hcz,hzz] at hc;have hend:=Ca.same H.o hkw7;clear hzz;obtain⟨Hz7,Hc,Hend,Hkw7,Hcz⟩:=hid5 hz7 hc hend hkw7 hcz;clear hcz hkw7 hend hc hz7 hk7;obtain⟨Hk7',Hbx7⟩:=hid2 hk7' hbx7;clear hbx7 hk7';go_wp2;go_ret;exact⟨by rw [Hc.o.1];rfl,by rw [Hc.o.2];exact Hend.o⟩
  | @ok _ _ _ P hz7 g=>
   have hA:=H.o.keep0 hkw7;obtain⟨adn,cn,hvn,hstm,hPl⟩:=hA.stmN;obtain⟨ao,co,rfl,_,_⟩:=Ae g.out;obtain⟨ar,cr2,rfl,_,_⟩:=Ae g.rts;obtain⟨o1,o2,_,_⟩:=Mr HZ.o hz7;have hPP:P.length<=300:=by rw [show P.length=Z.1.out.length from by rw [<-g.lp,List.length_map]];exact o2
   have hll:∀y∈P,y.s.lines.length<=1000:=λy hy=>by
    exact j4l
   obtain⟨sq,hsq⟩:=eX a.seq;have hs0:=H.o.ok.s0;rw [hsq] at hs hs0;obtain⟨rr,hrr⟩:=eX (betS (sq+1) a.s.out Z.1.out);have hcb:a.cb e=rr:=by unfold Ac.cb;rw [hcz,hsq];exact hrr
   have hbet:=λW (hW:K0 wc W)=>Uy (sq+1) adn ao cn co x.P P W (hstm.row.keeps hW (by simp)) ((Reads.Bg g.out).keeps hW (by simp)) j6 j6 (λy hy=>⟨(hstm.ln y hy).keeps hW (by simp),hstm.ll y hy⟩) (λy hy=>⟨(Reads.Bg (g.ln y hy)).keeps hW (by simp),hll y hy⟩) rr (by have:=betw_S (sq+1) x.P P;rw [hA.ns,g.lp,hrr] at this;exact this)
   have hcS:∀W,K0 wc W->cbS B sq (.slice adn x.P.length cn) W:=λW hW=>by
    have hA2:=hA.keep0 hW;exact⟨by rw [<-hsq];exact Aa hA2.blk 8,by rw [<-hvn];exact Aa hA2.blk 15⟩
   have q4:IntKind.i64.wrap (sq+1)=sq+1:=IntWalk.i64_in _ ⟨by omega,by omega⟩;obtain⟨r1,r2⟩:=rr;obtain⟨Hz7,Hcz,Hkw7⟩:=hid3 hz7 hcz hkw7;clear hkw7 hcz hz7 hk7;obtain⟨Hk7',Hbx7,G,HA⟩:=hid4 hk7' hbx7 g hA;clear hA g hbx7 hk7' hvn hstm hll;obtain⟨Hrr,Hcb,Hbet,HcS,Hsq⟩:=hid5 hrr hcb hbet hcS hsq;clear hsq hcS hbet hcb hrr o1
   go_upto_region 8 with fail
   refine Ak (cbS B sq (.slice adn x.P.length cn)) (.take 0 (.take 1 (.take 2 (.take 3 (.take 4 (.take 5 (.take 6 (.take 7 (.take 8 (.take 9 (.move 10 (.take 11 (.take 12 (.take 13 (.take 14 (.take 15 .done)))))))))))))))) j9 j9 ?_ ?_
   ·exact HcS.o _ (Keeps.drew _)
   intro w9 hs9 hk9;refine jR ?_;refine Ag rfl (λK hK=> ?_);go_simp
   go_at_call 117
   ((with_reducible refine(Hbet.o w9 hk9).mono ?_);rintro e w10 hg)
   obtain⟨va,rfl,hrowa,hfra⟩:=hg;dsimp only;have hk10:=Keeps.nt hk9 hfra.1;refine hK.out _ _ (by exact HcS.o _ hk10) ?_;clear hK K
   try simp only [aps]
   refine jR ?_;refine Aq ?_;have hfa:∀b,va.ownBlock=some b->wc.heap.size<=b:=λb hb=>by have:=hfra.2 b hb;have:=hk9.size;omega
   obtain⟨aa,ca,rfl,_,_⟩:=Ae hrowa;clear hs9 hk9 hfra q4;simp only at hrowa hfa⊢;by_cases h1:r1=0
   ·subst h1;obtain⟨Hrowa,Hk10,Hfa⟩:=hid3 hrowa hk10 hfa;clear hfa hk10 hrowa
    go_upto_region 11 with fail
    have hA10:=HA.o.keep0 Hk10.o;have hb10:=hA10.blk;have hbx10:=Ad Hbx7.o Hk10.o (by simp);have hb7B:¬b7=B:=λe=>by have:=HBl.o;omega
    have hS10:b7S b7 (.slice av mv cv) Z.1.p.cr Z.1.p.du w10:=⟨Aa hbx10 0,Aa hbx10 1,Aa hbx10 2⟩;have hS0:=λW (hW:Keeps (λi=>i=B) w10 W)=>hS10.keep hW hb7B;have HA10:=Lib.hid hA10;clear hA10 hbx10 hS10;have HS0:=Lib.hid hS0;clear hS0;refine Ak (b7S b7 (.slice av mv cv) Z.1.p.cr Z.1.p.du) (.take 0 (.take 1 (.take 2 (.take 3 (.take 4 (.take 5 (.take 6 (.take 7 (.take 8 (.take 9 (.move 10 (.take 11 (.take 12 (.move 13 (.take 14 (.take 15 (.move 16 (.take 17 (.take 18 (.move 19 .done)))))))))))))))))))) j9 j9 ?_ ?_
    ·exact HS0.o _ (Keeps.drew _)
    intro w11 hs11 hk11;have hb11:=Ad hb10 hk11 (by simp);have k11:Keeps (λi=>i=B) w10 w11:=hk11.mono (by simp);clear hs11 hk11 hb10;refine jR ?_;obtain⟨oa,ca⟩:∃v,World.cell? w11 ⟨B,9,none⟩=some v:=⟨_,(Aa hb11 9).trans rfl⟩;have fa:=Ab hb11 9;have hb12:=heap_setCell_same _ _ 9 _ _ (.pointer (some ⟨B1,0,none⟩)) hb11;obtain⟨w12,hwb⟩:=eY ((w11).setCell ⟨B,9,none⟩ (.pointer (some ⟨B1,0,none⟩)));have hkb:Keeps (λi=>i=B) w11 w12:=by rw [hwb];exact(Keeps.refl _ _).setB _ _
    refine ja ?_;intro K hK;rw [<-hwb] at⊢hb12;clear hwb ca fa;have k12:=k11.trans (hkb.mono λ_ _ e=> .inl e);clear hkb;refine hK.out _ _ (by exact HS0.o _ k12) ?_;clear hK K;refine jh ?_;obtain⟨oca,ca⟩:∃v,World.cell? w12 ⟨B,11,none⟩=some v:=⟨_,(Aa hb12 11).trans rfl⟩;obtain⟨ocb,cb⟩:∃v,World.cell? w12 ⟨B,12,none⟩=some v:=⟨_,(Aa hb12 12).trans rfl⟩;obtain⟨occ,cc⟩:∃v,World.cell? w12 ⟨B,13,none⟩=some v:=⟨_,(Aa hb12 13).trans rfl⟩;have fa:=Ab hb12 11;have fb:=Ab hb12 12;have fc:=Ab hb12 13;have hbb0:=heap_setCell_same _ _ 11 _ _ (.slice av mv cv) hb12;have hbb1:=heap_setCell_same _ _ 12 _ _ (.int .i64 Z.1.p.cr) hbb0;have hb13:=heap_setCell_same _ _ 13 _ _ (.int .i64 Z.1.p.du) hbb1;clear hbb0 hbb1;obtain⟨w13,hwb⟩:=eY ((((w12).setCell ⟨B,11,none⟩ (.slice av mv cv)).setCell ⟨B,12,none⟩ (.int .i64 Z.1.p.cr)).setCell ⟨B,13,none⟩ (.int .i64 Z.1.p.du));have hkb:Keeps (λi=>i=B) w12 w13:=by rw [hwb];exact(((Keeps.refl _ _).setB _ _).setB _ _).setB _ _
    refine ja ?_;intro K hK;rw [<-hwb] at⊢hb13;clear hwb ca fa cb cc fb fc;have k13:=k12.trans (hkb.mono λ_ _ e=> .inl e);clear hkb hb12 k12;refine hK.out _ _ (by exact HS0.o _ k13) ?_;clear hK K;refine jh ?_;obtain⟨oa,ca⟩:∃v,World.cell? w13 ⟨B,14,none⟩=some v:=⟨_,(Aa hb13 14).trans rfl⟩;have fa:=Ab hb13 14;have hb14:=heap_setCell_same _ _ 14 _ _ (.slice ar n cr2) hb13;obtain⟨w14,hwb⟩:=eY ((w13).setCell ⟨B,14,none⟩ (.slice ar n cr2));have hkb:Keeps (λi=>i=B) w13 w14:=by rw [hwb];exact(Keeps.refl _ _).setB _ _
    refine ja ?_;intro K hK;rw [<-hwb] at⊢hb14;clear hwb ca fa;have k14:=k13.trans (hkb.mono λ_ _ e=> .inl e);clear hkb hb13 k13;refine hK.out _ _ (by exact HS0.o _ k14) ?_;clear hK K;refine jh ?_;obtain⟨oa,ca⟩:∃v,World.cell? w14 ⟨B,15,none⟩=some v:=⟨_,(Aa hb14 15).trans rfl⟩;have fa:=Ab hb14 15;have hb15:=heap_setCell_same _ _ 15 _ _ (.slice ao P.length co) hb14;obtain⟨w15,hwb⟩:=eY ((w14).setCell ⟨B,15,none⟩ (.slice ao P.length co));have hkb:Keeps (λi=>i=B) w14 w15:=by rw [hwb];exact(Keeps.refl _ _).setB _ _
    refine ja ?_;intro K hK;rw [<-hwb] at⊢hb15;clear hwb ca fa;have k15:=k14.trans (hkb.mono λ_ _ e=> .inl e);clear hkb hb14 k14;refine hK.out _ _ (by exact HS0.o _ k15) ?_;clear hK K;refine jk ?_;obtain⟨aj,cj,hvj,_,_⟩:=Ae HA10.o.adj;obtain⟨nj,hnj⟩:=eX a.adj.length;obtain⟨mj,hmj⟩:=eX r2.length;have hnjl:nj<=30100000000:=by have:=H.o.ok.aj;rw [hnj,Hsq.o] at this;omega
    have hmjl:mj<=300300:=by
     have:=betS_le (seq:=sq+1) (L:=a.s.out) (M:=Z.1.out) λy hy=>by have:=Hn.o.ol y hy;have:=Hn.o.n8;omega
     rw [Hrr.o] at this;have:=Hn.o.o3;simp only at *;omega
    have hsaw:=HA10.o.sa;have hrowj:=k15.row HA10.o.adj λb hb e=>hsaw b hb e;have hrown:=Reads.Bg (k15.row Hrowa.o λb hb e=>by have h1:=Hfa.o b hb;have h2:=lt_of_block HA.o.blk;have e':b=B:=e;omega);rw [hnj] at hvj;rw [hvj,hnj] at hrowj;rw [hmj] at hrown⊢;have hb15':w15.heap[B]?=some (.cells #[.int .i64 a.t.limit,x.vt,.int .i64 a.t.cyc,.int .i64 a.t.due,.int .i64 a.t.minFixed,.int .i64 a.t.minPart,.int .i64 a.t.start,.int .i64 a.today,.int .i64 sq,(.pointer (some ⟨B1,0,none⟩)),(.pointer (some ⟨x.bb,0,none⟩)),.slice av mv cv,.int .i64 Z.1.p.cr,.int .i64 Z.1.p.du,.slice ar n cr2,.slice ao P.length co,x.vi,.slice aj nj cj] 104 (0,0)):=by rw [<-hvj,<-Hsq.o];exact hb15
    have c17:w15.cell? ⟨B,17,none⟩=some (.slice aj nj cj):=Aa hb15' 17;have hl15:=lt_of_block hb15';have hone:=Adj.one r2;have hM15:wc.heap.size<=w15.heap.size:=Nat.le_trans Hk10.o.size k15.size;clear hb15;obtain⟨Hb15',Hrowj,Hrown,Hone,Hvj,Hnj,Hmj,K15,Hsaw⟩:=hid9 hb15' hrowj hrown hone hvj hnj hmj k15 hsaw;clear hsaw k15 hmj hnj hvj hone hrown hrowj hb15';have HM15:=Lib.hid hM15;clear hM15 hb11;clear k11
    go_wp2_with (at_builtin;refine Am rfl (.tmp 79) (.tmp 80) 102 rfl 0 142 i0 _ 9 72 Tryz.underlying102 Hi.o Hi0.o Hi1.o Hi2.o rfl j7 (.slice aj nj cj) nj _ rfl Hrowj.o _ mj _ rfl Hrown.o Hone.o jd j6 (Nat.zero_le _) ?_)
    intro v6 w16 hrow6 hk6 hf6;obtain⟨a6,c6,rfl,_,_⟩:=Ae hrow6;have hb16:=Ad Hb15'.o hk6 (λe=>Hsaw.o B (by rw [Hvj.o];exact e) rfl);have d17:=Aa hb16 17;have d8:=Aa hb16 8;have f17:=Ab hb16 17;have f8:=Ab hb16 8;have hbf1:=heap_setCell_same _ _ 17 _ _ (.slice a6 (nj+mj) c6) hb16;have hbf:=(heap_setCell_same _ _ 8 _ _ (.int .i64 (sq+1)) hbf1).trans rfl;obtain⟨Wf,hWf⟩:=eY ((w16.setCell ⟨B,17,none⟩ (.slice a6 (nj+mj) c6)).setCell ⟨B,8,none⟩ (.int .i64 (sq+1)));have kf:Keeps (λi=>i=B) w16 Wf:=by rw [hWf];exact((Keeps.refl _ _).setB _ _).setB _ _
    rw [<-hWf] at hbf;have hK:Keeps (λi=>i=B\/x.va.ownBlock=some i) wc Wf:=(((Hk10.o.mono (by simp)).trans (K15.o.mono λ_ _ e=> .inl (.inl e))).trans (hk6.mono λi _ e=> .inl (.inr (by rw [Hvj.o];exact e)))).trans (kf.mono λ_ _ e=> .inl (.inl e))
    have hva6:∀b,(Value.slice a6 (nj+mj) c6).ownBlock=some b->x.va.ownBlock=some b\/w15.heap.size<=b:=λb hb=>by
     rcases hf6 with h1|⟨g',h1,h2⟩
     ·rw [h1] at hb;exact .inl (by rw [Hvj.o];exact hb)
     ·rw [h1] at hb;simp only [Option.some.injEq] at hb;exact .inr j6
    have hra:=kf.row hrow6 (λb hb e=>by
     have e':b=B:=e;rcases hva6 b hb with h1|h1
     ·exact Hsaw.o b h1 e'
     ·omega)
    have hra':Wf.ownsRow 0 142 9 (.slice a6 (nj+mj) c6) (a.adj++r2).length ((a.adj++r2).flatMap Adj.cells):=by
     rw [List.length_append,Hnj.o,Hmj.o,List.flatMap_append];exact hra
    have hpost:=AcAt.counted H.o Hkw7.o Hkw2.o Hk7'.o hK (by rw [Ht.o];exact Hdl2'.o) (by have:=HB1.o;omega) (λb hb=>by
     rcases Hf2.o with h1|⟨g',h1,h2⟩
     ·rw [h1] at hb;have:=Hv1.o b hb;omega
     ·rw [h1] at hb;simp only [Option.some.injEq] at hb;have:=Hkw1.o.size;omega) (by rw [Ht.o];exact HN.o) (by rw [Ht.o,Htd.o];exact HZ.o) Hz7.o G.o (by rw [Hsq.o];exact Hrr.o) (by rw [Hsq.o];exact hbf) hra' HM15.o hva6
    have hc:=ce_good Hz.o (by rw [Hcz.o];exact Hz7.o) (by rw [Hcb.o]);rw [HL1.o,Hcz.o,Hcb.o] at hc;have q4:IntKind.i64.wrap (sq+1)=sq+1:=IntWalk.i64_in _ ⟨by omega,by omega⟩;clear hbf1 hK hra hra' hva6;clear hrow6 hk6 hf6 hb16 hbf kf;obtain⟨Hpost,Hc⟩:=hid2 hpost hc;clear hc hpost;go_wp2_with fail;rw [<-hWf];go_ret;exact⟨by rw [Hc.o.1];rfl,by rw [Hc.o.2];exact Hpost.o⟩
   ·have hne:(r1 !=0)=true:=by simp [h1]
    have hc:=ce_bad Hz.o (by rw [Hcz.o];exact Hz7.o) (by rw [Hcb.o];exact h1);rw [Hcb.o] at hc;simp only at hc;have hend:=Ca.same H.o (Hkw7.o.nt hk10);obtain⟨Hrowa,Hk10,Hfa⟩:=hid3 hrowa hk10 hfa;clear hfa hk10 hrowa h1;obtain⟨Hc,Hend⟩:=hid2 hc hend;clear hend hc;go_wp2;go_ret;exact⟨by rw [Hc.o.1];rfl,by rw [Hc.o.2];exact Hend.o⟩
 ·have hne:(z !=0)=true:=by simp [h0]
  have hc:=ce_add (a:=a) (e:=e) (by rw [hz];exact h0);rw [hz] at hc;have hend:=Ca.same H.o hkw2;have Hz:=Lib.hid hz;clear hz hdl2 hk2;obtain⟨Hf2,Hkw2⟩:=hid2 hf2 hkw2;clear hkw2 hf2 h0;obtain⟨Hend,Hc⟩:=hid2 hend hc;clear hc hend;go_wp2;go_ret;exact⟨by rw [Hc.o.1];rfl,by rw [Hc.o.2];exact Hend.o⟩
def Asks(B b:Nat)(v:Value)(c:Cmd)(w:World)(D:List Disp)(x:Ev)(z:Int)(F:FuncId):Prop:=Calls Tryz.prog F #[(.pointer (some ⟨B,0,none⟩)),.agg #[.int .i64 c.kind,.int .i64 c.day,.int .i64 c.tranche,.int .i64 c.amount,.int .i64 c.ref],(.pointer (some ⟨b,0,none⟩))] w (Vj w b v D x z)
theorem Wn(B:Nat)(x:AcV)(a:Ac)(c:Cmd)(w:World)(h:AcAt w B x a)(hs:a.seq<=100000)(hk:1<=c.kind/\c.kind<=7):
  Calls Tryz.prog 63 #[(.pointer (some ⟨B,0,none⟩)),.agg #[.int .i64 c.kind,.int .i64 c.day,.int .i64 c.tranche,.int .i64 c.amount,.int .i64 c.ref]] w λe w'=>e= .returned (.agg #[.int .i64 (a.xe c),.int .i64 (a.xr c),.int .i64 0,.int .i64 0,.int .i64 0,.slice none 0 0,.int .i64 0,.int .i64 0,.slice none 0 0,.slice none 0 0,.int .i64 0,.int .i64 0,.int .i64 0,.int .i64 0,.int .i64 0,.slice none 0 0,.int .i64 0,.int .i64 0,.int .i64 0,.bool false])/\Ca w B x (a.chg c) w':=by
 obtain⟨ki,da,tr,am,re⟩:=c;simp only at hk⊢;have hfk:=j4m;refine j0l ?_;intro W0 hW0;have hc0:W0.heap[w.heap.size]?=some (.cells #[.int .i64 ki,.int .i64 da,.int .i64 tr,.int .i64 am,.int .i64 re] 33 (0,0)):=by rw [hW0];exact Ap (heap_alloc_new w _) _
 have hr0:W0.heap[w.heap.size+1]?=some (.cells #[.int .i64 0,.int .i64 0,.int .i64 0,.int .i64 0,.int .i64 0,.slice none 0 0,.int .i64 0,.int .i64 0,.slice none 0 0,.slice none 0 0,.int .i64 0,.int .i64 0,.int .i64 0,.int .i64 0,.int .i64 0,.slice none 0 0,.int .i64 0,.int .i64 0,.int .i64 0,.bool false] 61 (0,0)):=by rw [hW0];exact Aw _ _ (by simp)
 have hk0:K0 w W0:=by rw [hW0];(repeat (first|exact Keeps.refl _ _|exact Keeps.alloc _ _|exact Keeps.drew _|exact Keeps.drewN _ _|refine Keeps.Ao ?_|refine Keeps.Al ?_|refine Keeps.Af ?_))
 have hs0:w.heap.size+1<W0.heap.size:=lt_of_block hr0;have hbl:=lt_of_block h.blk;have c10:w.cell? ⟨B,10,none⟩=some (.pointer (some ⟨x.bb,0,none⟩)):=Aa h.blk 10;obtain⟨H,Hfk,Hc0,Hr0,Hk0⟩:=hid5 h hfk hc0 hr0 hk0;clear hk0 hr0 hc0 hfk h;go_enter Tryz.func63,Tryz.ntmps63;go_wp2_with fail;rw [<-hW0];clear hW0 c10;refine(Hfk.o W0 Hk0.o).mono ?_;intro r w1 hf1;obtain⟨b,v,rfl,hb,hk1,hft⟩:=hf1;have hkw1:=Hk0.o.nt hk1;have hA1:=H.o.keep0 hkw1;have hftw:∀k,Foot b v k->w.heap.size<=k:=λk hk=>by have:=hft k hk;have:=Hk0.o.size;omega
 have hsep:∀k,Foot b v k->¬(AcF B x k\/x.rd k):=λk hk e=>by have:=hftw k hk;have:=H.o.lt k e;omega
 obtain⟨h5,h6⟩:=Ae5 B x a ⟨ki,da,tr,am,re⟩ b v w1 hA1 hb hsep hk;have hc1:=Ad Hc0.o hk1 (by simp);have hr1:=j0A;have c0:=Aa hc1 0;have c1:=Aa hc1 1;have c2:=Aa hc1 2;have c3:=Aa hc1 3;have c4:=Aa hc1 4;have cl:=lt_of_block hc1;obtain⟨D2,hD2⟩:=eX (a.xD ⟨ki,da,tr,am,re⟩);obtain⟨ev,hev⟩:=eX (a.xev ⟨ki,da,tr,am,re⟩);obtain⟨z,hz⟩:=eX (a.xz ⟨ki,da,tr,am,re⟩);rw [hD2,hev,hz] at h5 h6
 have hask:∃q:Bool,((ki==5)||(ki==6))=q/\((q=true/\Asks B b v ⟨ki,da,tr,am,re⟩ w1 D2 ev z 90)\/(q=false/\Asks B b v ⟨ki,da,tr,am,re⟩ w1 D2 ev z 89)):=by
  by_cases h56:ki=5\/ki=6
  ·exact⟨true,by simpa using h56,.inl ⟨rfl,h5 h56⟩⟩
  ·exact⟨false,by simpa using h56,.inr ⟨rfl,h6 h56⟩⟩
 obtain⟨q,hq,hask⟩:=hask;clear h5 h6;clear hb hk1;have Hkw1:=Lib.hid hkw1;clear hkw1 hA1;obtain⟨Hft,Hftw⟩:=hid2 hft hftw;clear hftw hft hsep;obtain⟨Hc1,Hr1,HD2,Hev,Hz,Hq,Hask,Hk⟩:=hid8 hc1 hr1 hD2 hev hz hq hask hk;clear hk hask hq hz hev hD2 hr1 hc1
 go_upto_region 3 with fail
 go_cut [23] (λt wx=>t= .bool q/\wx=w1)
 case first=>
  by_cases k5:ki=5
  ·have k5':(ki==5)=true:=by simp [k5]
   have hq':q=true:=by rw [<-Hq.o,k5'];rfl
   subst hq';clear k5;exact j28
  ·have k5':(ki==5)=false:=by simp [k5]
   by_cases k6:ki=6
   ·have k6':(ki==6)=true:=by simp [k6]
    have hq':q=true:=by rw [<-Hq.o,k6'];simp
    subst hq';clear k5 k6;exact j28
   ·have k6':(ki==6)=false:=by simp [k6]
    have hq':q=false:=by rw [<-Hq.o,k5',k6'];rfl
    subst hq';exact j28
 obtain⟨rfl,rfl⟩:=hcut
 go_upto_if 23 with fail
 go_cut [6] (λp wx=>(∃F,p= .func (.func F) #[(.pointer (some ⟨B,0,none⟩))] #[]/\Asks B b v ⟨ki,da,tr,am,re⟩ wc D2 ev z F/\Enters Tryz.prog F)/\wx=wc)
 case first=>
  rcases Hask.o with⟨rfl,ha⟩|⟨rfl,ha⟩
  ·have Ha:=Lib.hid ha;clear ha;go_wp2_with fail;go_meet;exact⟨⟨_,rfl,Ha.o,enters_of Tryz.func90 j9 rfl⟩,rfl⟩
  ·have Ha:=Lib.hid ha;clear ha;go_wp2_with fail;go_meet;exact⟨⟨_,rfl,Ha.o,enters_of Tryz.func89 j9 rfl⟩,rfl⟩
 obtain⟨⟨F,rfl,hF,hEF⟩,hwc⟩:=hcut;unfold Enters at hEF;subst hwc;unfold Asks at hF;obtain⟨ek,ed,et,ea,er⟩:=ev;simp only at hF;have HF:=Lib.hid hF;clear hF;go_wp2_with fail
 go_at_fn F
 refine HF.o.mono ?_;rintro e w2 ⟨rfl,v2,hb2,hk2,hf2⟩;obtain⟨W2,hW2⟩:=eY (w2.alloc (.cells #[.int .i64 ek,.int .i64 ed,.int .i64 et,.int .i64 ea,.int .i64 er] 186));have hkA:K0 w2 W2:=by rw [hW2];exact Keeps.alloc _ _
 have hkw2:K0 w W2:=Keeps.nt (Hkw1.o.trans (hk2.mono λi _ e=> .inr (Hftw.o i e))) hkA;have hb2':=hb2.keeps hkA (by simp);have hft2:∀k,Foot b v2 k->w.heap.size<=k:=λk hk=>(hf2 k hk).elim (Hftw.o k) (λe=>by have:=Hkw1.o.size;omega);have hA2:=H.o.keep0 hkw2;have hx2:W2.heap[w2.heap.size]?=some (.cells #[.int .i64 ek,.int .i64 ed,.int .i64 et,.int .i64 ea,.int .i64 er] 186 (0,0)):=by rw [hW2];exact heap_alloc_new _ _
 obtain⟨E,hE⟩:=eY w2.heap.size;have hEl:w.heap.size<=E:=by have:=Hkw1.o.size;have:=hk2.size;omega
 have hnC:¬Foot b v w.heap.size:=λe=>by have:=Hft.o _ e;omega
 have hnR:¬Foot b v (w.heap.size+1):=λe=>by have:=Hft.o _ e;omega
 have hc2:=Ad (Ad Hc1.o hk2 hnC) hkA (by simp);have hr2:=Ad (Ad Hr1.o hk2 hnR) hkA (by simp);rw [<-hE] at hx2;clear c0 c1 c2 c3 c4 cl hnC hnR;clear hb2 hk2 hf2 hkA;obtain⟨Hkw2,Hb2',Hft2,HA2,Hx2,Hc2,Hr2⟩:=hid7 hkw2 hb2' hft2 hA2 hx2 hc2 hr2;clear hr2 hc2 hx2 hA2 hft2 hb2' hkw2
 go_upto_region 9 with fail
 rw [<-hW2,<-hE];clear hW2 hE;by_cases hz0:z=0
 ·subst hz0;have c0:=Aa Hc2.o 0;have cl:=lt_of_block Hc2.o;by_cases k6:ki=6
  ·subst k6;have d8:W2.cell? ⟨B,8,none⟩=some (.int .i64 a.seq):=Aa HA2.o.blk 8;have d10:W2.cell? ⟨B,10,none⟩=some (.pointer (some ⟨x.bb,0,none⟩)):=Aa HA2.o.blk 10;have f8:=Ab HA2.o.blk 8;have f10:=Ab HA2.o.blk 10;have dl:=lt_of_block HA2.o.blk;have nCB:¬w.heap.size=B:=λe=>by omega
   have hs0':=H.o.ok.s0;obtain⟨W3,hW3⟩:=eY (W2.setCell ⟨B,8,none⟩ (.int .i64 (a.seq+1)));obtain⟨W4,hW4⟩:=eY (W3.setCell ⟨B,10,none⟩ (.pointer (some ⟨b,0,none⟩)));have hA3:=HA2.o.seq1 hW3;have hp3:Ca W2 B x { a with seq:=a.seq+1 } W3:=⟨x,hA3,by rw [hW3];exact(Keeps.setCell (S:=λi=>i=B) _ _ _ rfl).mono λi _ e=> .inl e,λk hk=> .inl hk,λk hk=> .inl hk⟩;obtain⟨hR4,hfin⟩:=Ca.fin (V:= #[.int .i64 0,.int .i64 0,.int .i64 0,.int .i64 0,.int .i64 0,.slice none 0 0,.int .i64 0,.int .i64 0,.slice none 0 0,.slice none 0 0,.int .i64 0,.int .i64 0,.int .i64 0,.int .i64 0,.int .i64 0,.slice none 0 0,.int .i64 0,.int .i64 0,.int .i64 0,.bool false]) H.o Hkw2.o hp3 Hb2'.o Hft2.o Hr2.o (Nat.le_succ _) hW4
   have hC4:W4.heap[w.heap.size]?=some (.cells #[.int .i64 6,.int .i64 da,.int .i64 tr,.int .i64 am,.int .i64 re] 33 (0,0)):=by
    rw [hW4];exact Ad (Ca.box H.o hp3 Hc2.o (Nat.le_refl _)) (Keeps.setCell (S:=λi=>i=B) _ _ _ rfl) nCB
   refine j4n ?_;intro hput;have hxe:=Ac.xe_won Hz.o rfl;obtain⟨hch,hxr⟩:=Ac.chg_yes hxe;have hnx:a.nx ⟨6,da,tr,am,re⟩={ a with seq:=a.seq+1 }:=by unfold Ac.nx;rw [if_pos rfl]
   rw [hnx,HD2.o] at hch;obtain⟨sq,hsq⟩:=eX a.seq;rw [hsq] at d8 hW3 hs hs0';have q2:IntKind.i64.wrap (sq+1)=sq+1:=IntWalk.i64_in _ ⟨by omega,by omega⟩;clear hA3 hp3;obtain⟨HR4,Hfin,HC4,Hput,Hxe,Hch,Hxr⟩:=hid7 hR4 hfin hC4 hput hxe hch hxr;clear hxr hch hxe hput hC4 hfin hR4 hnx hsq
   go_upto_region 14 with fail
   rw [<-hW3,<-hW4];clear hW3 hW4 d8 d10 f8 f10 dl nCB c0 cl;have c0:=Aa HC4.o 0;have cl:=lt_of_block HC4.o
   go_wp2_with (refine wpList_store_row rfl 61 (.tmp 4) (.tmp 66) rfl (w.heap.size+1) #[.int .i64 0,.int .i64 0,.int .i64 0,.int .i64 0,.int .i64 0,.slice none 0 0,.int .i64 0,.int .i64 0,.slice none 0 0,.slice none 0 0,.int .i64 0,.int .i64 0,.int .i64 0,.int .i64 0,.int .i64 0,.slice none 0 0,.int .i64 0,.int .i64 0,.int .i64 0,.bool false] rfl rfl 61 #[.int .i64 0,.int .i64 0,.int .i64 0,.int .i64 0,.int .i64 0,.slice none 0 0,.int .i64 0,.int .i64 0,.slice none 0 0,.slice none 0 0,.int .i64 0,.int .i64 0,.int .i64 0,.int .i64 0,.int .i64 0,.slice none 0 0,.int .i64 0,.int .i64 0,.int .i64 0,.bool false] HR4.o Au rfl (Da _ _ _) ?_)
   exact bodyPost_ret (results_cell_row rfl _ _ (w.heap.size+1) 61 #[.int .i64 0,.int .i64 0,.int .i64 0,.int .i64 0,.int .i64 0,.slice none 0 0,.int .i64 0,.int .i64 0,.slice none 0 0,.slice none 0 0,.int .i64 0,.int .i64 0,.int .i64 0,.int .i64 0,.int .i64 0,.slice none 0 0,.int .i64 0,.int .i64 0,.int .i64 0,.bool false] _ _ rfl Hput.o Tryz.underlying61 rfl Au) rfl ⟨by rw [Hxe.o,Hxr.o];rfl,by rw [Hch.o];exact Hfin.o⟩
  ·have k6':(ki==6)=false:=by simp [k6]
   have x0:=Aa Hx2.o 0;have x1:=Aa Hx2.o 1;have x2:=Aa Hx2.o 2;have x3:=Aa Hx2.o 3;have x4:=Aa Hx2.o 4;have hcnt:=Aa0 B x a ⟨ek,ed,et,ea,er⟩ W2 HA2.o hs;simp only at hcnt;obtain⟨ce,hce⟩:=eX (a.ce ⟨ek,ed,et,ea,er⟩);rw [hce] at hcnt;have hxe:=Ac.xe_cnt Hz.o k6;rw [Hev.o,hce] at hxe;clear k6;obtain⟨Hcnt,Hce,Hxe⟩:=hid3 hcnt hce hxe;clear hxe hce hcnt;go_wp2_with fail;refine Hcnt.o.mono ?_;rintro e w3 ⟨rfl,hp⟩;clear x0 x1 x2 x3 x4 c0 cl;by_cases hce0:ce=0
   ·subst hce0;have hC3:=Ca.box H.o hp Hc2.o (Nat.le_refl _);have hE3:=Ca.box H.o hp Hx2.o hEl;have hd3:∃v,w3.cell? ⟨B,10,none⟩=some v/\w3.frozen? ⟨B,10,none⟩=false/\B<w3.heap.size:=by obtain⟨x',hA,_⟩:=hp;exact⟨_,(Aa hA.blk 10).trans rfl,Ab hA.blk 10,lt_of_block hA.blk⟩
    obtain⟨o10,d10,f10,dl⟩:=hd3;obtain⟨W4,hW4⟩:=eY (w3.setCell ⟨B,10,none⟩ (.pointer (some ⟨b,0,none⟩)));have hk34:Keeps (λi=>i=B) w3 W4:=by rw [hW4];exact Keeps.setCell _ _ _ rfl
    have hC4:=Ad hC3 hk34 (λe=>by omega);have hE4:=Ad hE3 hk34 (λe=>by omega);obtain⟨hch,hxr⟩:=Ac.chg_yes Hxe.o;have hfinV:=λV=>Ca.fin (V:=V) H.o Hkw2.o hp Hb2'.o Hft2.o Hr2.o (Nat.le_succ _) hW4;rw [HD2.o] at hch;rw [Hev.o] at hxr;have hnx:(¬ki=6)->a.nx ⟨ki,da,tr,am,re⟩=a.count ⟨ek,ed,et,ea,er⟩:=λk=>by unfold Ac.nx;rw [if_neg k,Hev.o]
    rw [hnx (by simpa using k6')] at hch;simp only at hxr;clear hnx hp;have HC3:=Lib.hid hC3;clear hC3 hE3 hk34;obtain⟨HC4,HE4,Hch,Hxr,HfinV⟩:=hid5 hC4 hE4 hch hxr hfinV;clear hfinV hxr hch hE4 hC4
    go_upto_region 14 with fail
    rw [<-hW4];clear hW4 d10 f10 dl;have c0:=Aa HC4.o 0;have cl:=lt_of_block HC4.o;have e4:=Aa HE4.o 4;by_cases k4:ki=4
    ·subst k4;rw [if_pos rfl] at Hxr;obtain⟨hR4,hfin⟩:=HfinV.o #[.int .i64 0,.int .i64 er,.int .i64 0,.int .i64 0,.int .i64 0,.slice none 0 0,.int .i64 0,.int .i64 0,.slice none 0 0,.slice none 0 0,.int .i64 0,.int .i64 0,.int .i64 0,.int .i64 0,.int .i64 0,.slice none 0 0,.int .i64 0,.int .i64 0,.int .i64 0,.bool false];have hput:=setRow_heap W4 (w.heap.size+1) #[.int .i64 0,.int .i64 0,.int .i64 0,.int .i64 0,.int .i64 0,.slice none 0 0,.int .i64 0,.int .i64 0,.slice none 0 0,.slice none 0 0,.int .i64 0,.int .i64 0,.int .i64 0,.int .i64 0,.int .i64 0,.slice none 0 0,.int .i64 0,.int .i64 0,.int .i64 0,.bool false] #[.int .i64 0,.int .i64 er,.int .i64 0,.int .i64 0,.int .i64 0,.slice none 0 0,.int .i64 0,.int .i64 0,.slice none 0 0,.slice none 0 0,.int .i64 0,.int .i64 0,.int .i64 0,.int .i64 0,.int .i64 0,.slice none 0 0,.int .i64 0,.int .i64 0,.int .i64 0,.bool false] 61 _ hR4;obtain⟨HR4,Hfin,Hput⟩:=hid3 hR4 hfin hput;clear hput hfin hR4
     go_wp2_with (refine wpList_store_row rfl 61 (.tmp 4) (.tmp 65) rfl (w.heap.size+1) #[.int .i64 0,.int .i64 er,.int .i64 0,.int .i64 0,.int .i64 0,.slice none 0 0,.int .i64 0,.int .i64 0,.slice none 0 0,.slice none 0 0,.int .i64 0,.int .i64 0,.int .i64 0,.int .i64 0,.int .i64 0,.slice none 0 0,.int .i64 0,.int .i64 0,.int .i64 0,.bool false] rfl rfl 61 #[.int .i64 0,.int .i64 0,.int .i64 0,.int .i64 0,.int .i64 0,.slice none 0 0,.int .i64 0,.int .i64 0,.slice none 0 0,.slice none 0 0,.int .i64 0,.int .i64 0,.int .i64 0,.int .i64 0,.int .i64 0,.slice none 0 0,.int .i64 0,.int .i64 0,.int .i64 0,.bool false] HR4.o Au rfl (Da _ _ _) ?_)
     exact bodyPost_ret (results_cell_row rfl _ _ (w.heap.size+1) 61 #[.int .i64 0,.int .i64 er,.int .i64 0,.int .i64 0,.int .i64 0,.slice none 0 0,.int .i64 0,.int .i64 0,.slice none 0 0,.slice none 0 0,.int .i64 0,.int .i64 0,.int .i64 0,.int .i64 0,.int .i64 0,.slice none 0 0,.int .i64 0,.int .i64 0,.int .i64 0,.bool false] _ _ rfl Hput.o Tryz.underlying61 rfl Au) rfl ⟨by rw [Hxe.o,Hxr.o],by rw [Hch.o];exact Hfin.o⟩
    ·have k4':(ki==4)=false:=by simp [k4]
     rw [if_neg k4] at Hxr;obtain⟨hR4,hfin⟩:=HfinV.o #[.int .i64 0,.int .i64 0,.int .i64 0,.int .i64 0,.int .i64 0,.slice none 0 0,.int .i64 0,.int .i64 0,.slice none 0 0,.slice none 0 0,.int .i64 0,.int .i64 0,.int .i64 0,.int .i64 0,.int .i64 0,.slice none 0 0,.int .i64 0,.int .i64 0,.int .i64 0,.bool false];refine j4n ?_;intro hput;clear k4;obtain⟨HR4,Hfin,Hput⟩:=hid3 hR4 hfin hput;clear hput hfin hR4
     go_wp2_with (refine wpList_store_row rfl 61 (.tmp 4) (.tmp 66) rfl (w.heap.size+1) #[.int .i64 0,.int .i64 0,.int .i64 0,.int .i64 0,.int .i64 0,.slice none 0 0,.int .i64 0,.int .i64 0,.slice none 0 0,.slice none 0 0,.int .i64 0,.int .i64 0,.int .i64 0,.int .i64 0,.int .i64 0,.slice none 0 0,.int .i64 0,.int .i64 0,.int .i64 0,.bool false] rfl rfl 61 #[.int .i64 0,.int .i64 0,.int .i64 0,.int .i64 0,.int .i64 0,.slice none 0 0,.int .i64 0,.int .i64 0,.slice none 0 0,.slice none 0 0,.int .i64 0,.int .i64 0,.int .i64 0,.int .i64 0,.int .i64 0,.slice none 0 0,.int .i64 0,.int .i64 0,.int .i64 0,.bool false] HR4.o Au rfl (Da _ _ _) ?_)
     exact bodyPost_ret (results_cell_row rfl _ _ (w.heap.size+1) 61 #[.int .i64 0,.int .i64 0,.int .i64 0,.int .i64 0,.int .i64 0,.slice none 0 0,.int .i64 0,.int .i64 0,.slice none 0 0,.slice none 0 0,.int .i64 0,.int .i64 0,.int .i64 0,.int .i64 0,.int .i64 0,.slice none 0 0,.int .i64 0,.int .i64 0,.int .i64 0,.bool false] _ _ rfl Hput.o Tryz.underlying61 rfl Au) rfl ⟨by rw [Hxe.o,Hxr.o],by rw [Hch.o];exact Hfin.o⟩
   ·have hne2:(ce !=0)=true:=by simp [hce0]
    have hca:=Ac.count_no (a:=a) (e:=⟨ek,ed,et,ea,er⟩) (by rw [Hce.o];exact hce0);rw [hca] at hp;obtain⟨hch,hxr⟩:=Ac.chg_no Hxe.o hce0;clear hca;obtain⟨Hch,Hxr,Hp⟩:=hid3 hch hxr hp;clear hp hxr hch hce0;go_wp2_with fail;refine(Dg ce _).mono ?_;rintro e w4 ⟨rfl,hk4⟩;obtain⟨hR4,hfin⟩:=Ca.ret (V:= #[.int .i64 ce,.int .i64 0,.int .i64 0,.int .i64 0,.int .i64 0,.slice none 0 0,.int .i64 0,.int .i64 0,.slice none 0 0,.slice none 0 0,.int .i64 0,.int .i64 0,.int .i64 0,.int .i64 0,.int .i64 0,.slice none 0 0,.int .i64 0,.int .i64 0,.int .i64 0,.bool false]) H.o Hkw2.o (Hp.o.more hk4) Hr2.o (Nat.le_succ _);have hput:=setRow_heap w4 (w.heap.size+1) #[.int .i64 0,.int .i64 0,.int .i64 0,.int .i64 0,.int .i64 0,.slice none 0 0,.int .i64 0,.int .i64 0,.slice none 0 0,.slice none 0 0,.int .i64 0,.int .i64 0,.int .i64 0,.int .i64 0,.int .i64 0,.slice none 0 0,.int .i64 0,.int .i64 0,.int .i64 0,.bool false] #[.int .i64 ce,.int .i64 0,.int .i64 0,.int .i64 0,.int .i64 0,.slice none 0 0,.int .i64 0,.int .i64 0,.slice none 0 0,.slice none 0 0,.int .i64 0,.int .i64 0,.int .i64 0,.int .i64 0,.int .i64 0,.slice none 0 0,.int .i64 0,.int .i64 0,.int .i64 0,.bool false] 61 _ hR4;clear hk4;obtain⟨HR4,Hfin,Hput⟩:=hid3 hR4 hfin hput;clear hput hfin hR4
    go_wp2_with (refine wpList_store_row rfl 61 (.tmp 4) (.tmp 39) rfl (w.heap.size+1) #[.int .i64 ce,.int .i64 0,.int .i64 0,.int .i64 0,.int .i64 0,.slice none 0 0,.int .i64 0,.int .i64 0,.slice none 0 0,.slice none 0 0,.int .i64 0,.int .i64 0,.int .i64 0,.int .i64 0,.int .i64 0,.slice none 0 0,.int .i64 0,.int .i64 0,.int .i64 0,.bool false] rfl rfl 61 #[.int .i64 0,.int .i64 0,.int .i64 0,.int .i64 0,.int .i64 0,.slice none 0 0,.int .i64 0,.int .i64 0,.slice none 0 0,.slice none 0 0,.int .i64 0,.int .i64 0,.int .i64 0,.int .i64 0,.int .i64 0,.slice none 0 0,.int .i64 0,.int .i64 0,.int .i64 0,.bool false] HR4.o Au rfl (Da _ _ _) ?_)
    exact bodyPost_ret (results_cell_row rfl _ _ (w.heap.size+1) 61 #[.int .i64 ce,.int .i64 0,.int .i64 0,.int .i64 0,.int .i64 0,.slice none 0 0,.int .i64 0,.int .i64 0,.slice none 0 0,.slice none 0 0,.int .i64 0,.int .i64 0,.int .i64 0,.int .i64 0,.int .i64 0,.slice none 0 0,.int .i64 0,.int .i64 0,.int .i64 0,.bool false] _ _ rfl Hput.o Tryz.underlying61 rfl Au) rfl ⟨by rw [Hxe.o,Hxr.o],by rw [Hch.o];exact Hfin.o⟩
 ·have hne:(z !=0)=true:=by simp [hz0]
  have hxe:=Ac.xe_bad Hz.o hz0;obtain⟨hch,hxr⟩:=Ac.chg_no hxe hz0;obtain⟨Hxe,Hch,Hxr⟩:=hid3 hxe hch hxr;clear hxr hch hxe hz0;go_wp2_with fail;refine(Dg z _).mono ?_;rintro e w4 ⟨rfl,hk4⟩;obtain⟨hR4,hfin⟩:=Ca.ret (V:= #[.int .i64 z,.int .i64 0,.int .i64 0,.int .i64 0,.int .i64 0,.slice none 0 0,.int .i64 0,.int .i64 0,.slice none 0 0,.slice none 0 0,.int .i64 0,.int .i64 0,.int .i64 0,.int .i64 0,.int .i64 0,.slice none 0 0,.int .i64 0,.int .i64 0,.int .i64 0,.bool false]) H.o (Hkw2.o.nt hk4) (Ca.same (H.o.keep0 (Hkw2.o.nt hk4)) (Keeps.refl _ _)) (Ad Hr2.o hk4 (by simp)) (Nat.le_succ _);have hput:=setRow_heap w4 (w.heap.size+1) #[.int .i64 0,.int .i64 0,.int .i64 0,.int .i64 0,.int .i64 0,.slice none 0 0,.int .i64 0,.int .i64 0,.slice none 0 0,.slice none 0 0,.int .i64 0,.int .i64 0,.int .i64 0,.int .i64 0,.int .i64 0,.slice none 0 0,.int .i64 0,.int .i64 0,.int .i64 0,.bool false] #[.int .i64 z,.int .i64 0,.int .i64 0,.int .i64 0,.int .i64 0,.slice none 0 0,.int .i64 0,.int .i64 0,.slice none 0 0,.slice none 0 0,.int .i64 0,.int .i64 0,.int .i64 0,.int .i64 0,.int .i64 0,.slice none 0 0,.int .i64 0,.int .i64 0,.int .i64 0,.bool false] 61 _ hR4;clear hk4;obtain⟨HR4,Hfin,Hput⟩:=hid3 hR4 hfin hput;clear hput hfin hR4
  go_wp2_with (refine wpList_store_row rfl 61 (.tmp 4) (.tmp 44) rfl (w.heap.size+1) #[.int .i64 z,.int .i64 0,.int .i64 0,.int .i64 0,.int .i64 0,.slice none 0 0,.int .i64 0,.int .i64 0,.slice none 0 0,.slice none 0 0,.int .i64 0,.int .i64 0,.int .i64 0,.int .i64 0,.int .i64 0,.slice none 0 0,.int .i64 0,.int .i64 0,.int .i64 0,.bool false] rfl rfl 61 #[.int .i64 0,.int .i64 0,.int .i64 0,.int .i64 0,.int .i64 0,.slice none 0 0,.int .i64 0,.int .i64 0,.slice none 0 0,.slice none 0 0,.int .i64 0,.int .i64 0,.int .i64 0,.int .i64 0,.int .i64 0,.slice none 0 0,.int .i64 0,.int .i64 0,.int .i64 0,.bool false] HR4.o Au rfl (Da _ _ _) ?_)
  exact bodyPost_ret (results_cell_row rfl _ _ (w.heap.size+1) 61 #[.int .i64 z,.int .i64 0,.int .i64 0,.int .i64 0,.int .i64 0,.slice none 0 0,.int .i64 0,.int .i64 0,.slice none 0 0,.slice none 0 0,.int .i64 0,.int .i64 0,.int .i64 0,.int .i64 0,.int .i64 0,.slice none 0 0,.int .i64 0,.int .i64 0,.int .i64 0,.bool false] _ _ rfl Hput.o Tryz.underlying61 rfl Au) rfl ⟨by rw [Hxe.o,Hxr.o],by rw [Hch.o];exact Hfin.o⟩
structure PSt where
 today:Int
 cyc:Int
 bal:List Int
 cr:Int
 du:Int
 R:List Int
 D:List Disp
 seq:Int
def st00:PSt:=⟨0,0, [],0,0, [], [],0⟩
def stm00:Stm:=⟨0,0,0,0,0,0,0,false, []⟩
def Ac.st(a:Ac):PSt:=⟨a.today,a.cyc a.today,a.s.p.bal,a.s.p.cr,a.s.p.du,a.s.R,a.D,a.seq⟩
def AnsIs(_ W:World)(z r cy:Int)(s:PSt)(p:Stm)(v:Value):Prop:=∃a1 c1 a2 c2 a3 c3 a4 c4,v= .agg #[.int .i64 z,.int .i64 r,.int .i64 cy,.int .i64 s.today,.int .i64 s.cyc,.slice a1 s.bal.length c1,.int .i64 s.cr,.int .i64 s.du,.slice a2 s.R.length c2,.slice a3 s.D.length c3,.int .i64 s.seq,
 .int .i64 p.cycle,.int .i64 p.fr,.int .i64 p.te,.int .i64 p.due,.slice a4 p.lines.length c4,.int .i64 p.total,.int .i64 p.credit,.int .i64 p.min,.bool p.grace]/\
 W.ownsRow 0 2 1 (.slice a1 s.bal.length c1) s.bal.length (s.bal.flatMap i64c)/\W.ownsRow 0 2 1 (.slice a2 s.R.length c2) s.R.length (s.R.flatMap i64c)/\W.ownsRow 0 148 5 (.slice a3 s.D.length c3) s.D.length (s.D.flatMap Disp.cells)/\W.ownsRow 0 212 3 (.slice a4 p.lines.length c4) p.lines.length (p.lines.flatMap Ln.cells)
theorem AnsIs.mk0(w W:World)(z r cy:Int):AnsIs w W z r cy st00 stm00 (.agg #[.int .i64 z,.int .i64 r,.int .i64 cy,.int .i64 0,.int .i64 0,.slice none 0 0,.int .i64 0,.int .i64 0,.slice none 0 0,.slice none 0 0,.int .i64 0,.int .i64 0,.int .i64 0,.int .i64 0,.int .i64 0,.slice none 0 0,.int .i64 0,.int .i64 0,.int .i64 0,.bool false]):=⟨none,0,none,0,none,0,none,0,rfl,World.ownsRow_nil _ _ _ _,World.ownsRow_nil _ _ _ _,World.ownsRow_nil _ _ _ _,World.ownsRow_nil _ _ _ _⟩
def tellE(M:List Stm)(ref:Int):Int:=if ref<1\/(M.length:Int)<ref then 12 else 0
def tellP(M:List Stm)(ref:Int):Stm:=if ref<1\/(M.length:Int)<ref then stm00 else M.getD (ref-1).toNat stm00
def Ac.dz(a:Ac)(c:Cmd):Int:=if c.kind=8 then a.te c.day else if c.kind=9 then 0 else if c.kind=10 then tellE a.iss c.ref else if c.kind=11 then tellE a.s.out c.ref else if 1<=c.kind/\c.kind<=7 then a.xe c else 1
def Ac.dr(a:Ac)(c:Cmd):Int:=if 1<=c.kind/\c.kind<=7 then a.xr c else 0
def Ac.dc(a:Ac)(c:Cmd):Int:=if c.kind=8 then a.tc c.day else 0
def Ac.ds(a:Ac)(c:Cmd):PSt:=if c.kind=9 then a.st else st00
def Ac.dp(a:Ac)(c:Cmd):Stm:=if c.kind=10 then tellP a.iss c.ref else if c.kind=11 then tellP a.s.out c.ref else stm00
def Ac.act(a:Ac)(c:Cmd):Ac:=if c.kind=8 then a.tick c.day else if 1<=c.kind/\c.kind<=7 then a.chg c else a
theorem accDo_chg(B:Nat)(x:AcV)(a:Ac)(c:Cmd)(w:World)(h:AcAt w B x a)(hs:a.seq<=100000)(hk:1<=c.kind/\c.kind<=7):
  Calls Tryz.prog 28 #[(.pointer (some ⟨B,0,none⟩)),.agg #[.int .i64 c.kind,.int .i64 c.day,.int .i64 c.tranche,.int .i64 c.amount,.int .i64 c.ref]] w λe w'=>e= .returned (.agg #[.int .i64 (a.xe c),.int .i64 (a.xr c),.int .i64 0,.int .i64 0,.int .i64 0,.slice none 0 0,.int .i64 0,.int .i64 0,.slice none 0 0,.slice none 0 0,.int .i64 0,.int .i64 0,.int .i64 0,.int .i64 0,.int .i64 0,.slice none 0 0,.int .i64 0,.int .i64 0,.int .i64 0,.bool false])/\Ca w B x (a.chg c) w':=by
 have hcb:chB c=true:=by simp [chB];omega
 have hchg:=fun(W:World) (hW:K0 w W)=>Wn B x a c W (h.keep0 hW) hs hk;have hcc:=λW=>Et c W;rw [hcb] at hcc;obtain⟨ki,da,tr,am,re⟩:=c;simp only at hk hchg hcc⊢;have k8:(ki==8)=false:=by simp;omega
 have k9:(ki==9)=false:=by simp;omega
 have k10:(ki==10)=false:=by simp;omega
 have k11:(ki==11)=false:=by simp;omega
 obtain⟨xe,hxe⟩:=eX (a.xe ⟨ki,da,tr,am,re⟩);obtain⟨xr,hxr⟩:=eX (a.xr ⟨ki,da,tr,am,re⟩);rw [hxe,hxr] at hchg⊢;refine j0l ?_;intro W0 hW0;have hc0:W0.heap[w.heap.size]?=some (.cells #[.int .i64 ki,.int .i64 da,.int .i64 tr,.int .i64 am,.int .i64 re] 33 (0,0)):=by rw [hW0];exact Ap (heap_alloc_new w _) _
 have hr0:W0.heap[w.heap.size+1]?=some (.cells #[.int .i64 0,.int .i64 0,.int .i64 0,.int .i64 0,.int .i64 0,.slice none 0 0,.int .i64 0,.int .i64 0,.slice none 0 0,.slice none 0 0,.int .i64 0,.int .i64 0,.int .i64 0,.int .i64 0,.int .i64 0,.slice none 0 0,.int .i64 0,.int .i64 0,.int .i64 0,.bool false] 61 (0,0)):=by rw [hW0];exact Aw _ _ (by simp)
 have hk0:K0 w W0:=by rw [hW0];(repeat (first|exact Keeps.refl _ _|exact Keeps.alloc _ _|exact Keeps.drew _|exact Keeps.drewN _ _|refine Keeps.Ao ?_|refine Keeps.Al ?_|refine Keeps.Af ?_))
 obtain⟨H,Hchg,Hcc⟩:=hid3 h hchg hcc;clear hcc hchg h hxe hxr hk hcb;obtain⟨Hc0,Hr0,Hk0⟩:=hid3 hc0 hr0 hk0;clear hk0 hr0 hc0;go_enter Tryz.func28,Tryz.ntmps28;go_wp2_with fail;rw [<-hW0];clear hW0;refine(Hcc.o W0).mono ?_;rintro e w1 ⟨rfl,hk1⟩;have hkw1:=Hk0.o.nt hk1;have hc1:=Ad Hc0.o hk1 (by simp);have hr1:=j0A;have c0:=Aa hc1 0;have c1:=Aa hc1 1;have c2:=Aa hc1 2;have c3:=Aa hc1 3;have c4:=Aa hc1 4;clear hk1;have Hkw1:=Lib.hid hkw1;clear hkw1 hc1;have Hr1:=Lib.hid hr1;clear hr1;go_wp2_with fail;refine(Hchg.o w1 Hkw1.o).mono ?_;rintro e w2 ⟨rfl,hp⟩;obtain⟨hR,hq⟩:=Ca.ret (V:= #[.int .i64 xe,.int .i64 xr,.int .i64 0,.int .i64 0,.int .i64 0,.slice none 0 0,.int .i64 0,.int .i64 0,.slice none 0 0,.slice none 0 0,.int .i64 0,.int .i64 0,.int .i64 0,.int .i64 0,.int .i64 0,.slice none 0 0,.int .i64 0,.int .i64 0,.int .i64 0,.bool false]) H.o Hkw1.o hp Hr1.o (Nat.le_succ _);have hput:=setRow_heap w2 (w.heap.size+1) #[.int .i64 0,.int .i64 0,.int .i64 0,.int .i64 0,.int .i64 0,.slice none 0 0,.int .i64 0,.int .i64 0,.slice none 0 0,.slice none 0 0,.int .i64 0,.int .i64 0,.int .i64 0,.int .i64 0,.int .i64 0,.slice none 0 0,.int .i64 0,.int .i64 0,.int .i64 0,.bool false] #[.int .i64 xe,.int .i64 xr,.int .i64 0,.int .i64 0,.int .i64 0,.slice none 0 0,.int .i64 0,.int .i64 0,.slice none 0 0,.slice none 0 0,.int .i64 0,.int .i64 0,.int .i64 0,.int .i64 0,.int .i64 0,.slice none 0 0,.int .i64 0,.int .i64 0,.int .i64 0,.bool false] 61 _ hR;clear hp c0 c1 c2 c3 c4;obtain⟨HR,Hq,Hput⟩:=hid3 hR hq hput;clear hput hq hR
 go_wp2_with (refine wpList_store_row rfl 61 (.tmp 4) (.tmp 45) rfl (w.heap.size+1) #[.int .i64 xe,.int .i64 xr,.int .i64 0,.int .i64 0,.int .i64 0,.slice none 0 0,.int .i64 0,.int .i64 0,.slice none 0 0,.slice none 0 0,.int .i64 0,.int .i64 0,.int .i64 0,.int .i64 0,.int .i64 0,.slice none 0 0,.int .i64 0,.int .i64 0,.int .i64 0,.bool false] rfl rfl 61 #[.int .i64 0,.int .i64 0,.int .i64 0,.int .i64 0,.int .i64 0,.slice none 0 0,.int .i64 0,.int .i64 0,.slice none 0 0,.slice none 0 0,.int .i64 0,.int .i64 0,.int .i64 0,.int .i64 0,.int .i64 0,.slice none 0 0,.int .i64 0,.int .i64 0,.int .i64 0,.bool false] HR.o Au rfl (Da _ _ _) ?_)
 exact bodyPost_ret (results_cell_row rfl _ _ (w.heap.size+1) 61 #[.int .i64 xe,.int .i64 xr,.int .i64 0,.int .i64 0,.int .i64 0,.slice none 0 0,.int .i64 0,.int .i64 0,.slice none 0 0,.slice none 0 0,.int .i64 0,.int .i64 0,.int .i64 0,.int .i64 0,.int .i64 0,.slice none 0 0,.int .i64 0,.int .i64 0,.int .i64 0,.bool false] _ _ rfl Hput.o Tryz.underlying61 rfl Au) rfl ⟨rfl,Hq.o⟩
theorem AnsIs.setRow{w W:World}{R:Nat}{V:Array Value}{z r cy:Int}{s:PSt}{p:Stm}{v:Value}{C:Array Value}(h:AnsIs w W z r cy s p v)(hR:W.heap[R]?=some (.cells C 61 (0,0))):AnsIs w (W.setRow R V) z r cy s p v:=by
 obtain⟨a1,c1,a2,c2,a3,c3,a4,c4,he,h1,h2,h3,h4⟩:=h;have hk:=Cg W R V
 exact⟨a1,c1,a2,c2,a3,c3,a4,c4,he,hk.row h1 λb hb e=>Ah h1 hR j7 (by rw [<-show b=R from e];exact hb),hk.row h2 λb hb e=>Ah h2 hR j7 (by rw [<-show b=R from e];exact hb),
  hk.row h3 λb hb e=>Ah h3 hR (by decide) (by rw [<-show b=R from e];exact hb),hk.row h4 λb hb e=>Ah h4 hR (by decide) (by rw [<-show b=R from e];exact hb)⟩
theorem Ae4(B:Nat)(x:AcV)(a:Ac)(c:Cmd)(w:World)(h:AcAt w B x a)(hk:¬(1<=c.kind/\c.kind<=11)):
  Calls Tryz.prog 28 #[(.pointer (some ⟨B,0,none⟩)),.agg #[.int .i64 c.kind,.int .i64 c.day,.int .i64 c.tranche,.int .i64 c.amount,.int .i64 c.ref]] w λe w'=>e= .returned (.agg #[.int .i64 1,.int .i64 0,.int .i64 0,.int .i64 0,.int .i64 0,.slice none 0 0,.int .i64 0,.int .i64 0,.slice none 0 0,.slice none 0 0,.int .i64 0,.int .i64 0,.int .i64 0,.int .i64 0,.int .i64 0,.slice none 0 0,.int .i64 0,.int .i64 0,.int .i64 0,.bool false])/\Ca w B x a w':=by
 have hcb:chB c=false:=by simp [chB];omega
 have hcc:=λW=>Et c W;rw [hcb] at hcc;obtain⟨ki,da,tr,am,re⟩:=c;simp only at hk hcc⊢;have k8:(ki==8)=false:=by simp;omega
 have k9:(ki==9)=false:=by simp;omega
 have k10:(ki==10)=false:=by simp;omega
 have k11:(ki==11)=false:=by simp;omega
 refine j0l ?_;intro W0 hW0;have hr0:W0.heap[w.heap.size+1]?=some (.cells #[.int .i64 0,.int .i64 0,.int .i64 0,.int .i64 0,.int .i64 0,.slice none 0 0,.int .i64 0,.int .i64 0,.slice none 0 0,.slice none 0 0,.int .i64 0,.int .i64 0,.int .i64 0,.int .i64 0,.int .i64 0,.slice none 0 0,.int .i64 0,.int .i64 0,.int .i64 0,.bool false] 61 (0,0)):=by rw [hW0];exact Aw _ _ (by simp)
 have hk0:K0 w W0:=by rw [hW0];(repeat (first|exact Keeps.refl _ _|exact Keeps.alloc _ _|exact Keeps.drew _|exact Keeps.drewN _ _|refine Keeps.Ao ?_|refine Keeps.Al ?_|refine Keeps.Af ?_))
 obtain⟨H,Hcc⟩:=hid2 h hcc;clear hcc h hk hcb;obtain⟨Hr0,Hk0⟩:=hid2 hr0 hk0;clear hk0 hr0;go_enter Tryz.func28,Tryz.ntmps28;go_wp2_with fail;rw [<-hW0];clear hW0;refine(Hcc.o W0).mono ?_;rintro e w1 ⟨rfl,hk1⟩;clear k8 k9 k10 k11;have hkw1:=Hk0.o.nt hk1;have hr1:=j0A;clear hk1;obtain⟨Hkw1,Hr1⟩:=hid2 hkw1 hr1;clear hr1 hkw1;go_wp2_with fail;refine(Dg 1 _).mono ?_;rintro e w2 ⟨rfl,hk2⟩;have hR:=Ad Hr1.o hk2 (by simp);have hput:=setRow_heap w2 (w.heap.size+1) #[.int .i64 0,.int .i64 0,.int .i64 0,.int .i64 0,.int .i64 0,.slice none 0 0,.int .i64 0,.int .i64 0,.slice none 0 0,.slice none 0 0,.int .i64 0,.int .i64 0,.int .i64 0,.int .i64 0,.int .i64 0,.slice none 0 0,.int .i64 0,.int .i64 0,.int .i64 0,.bool false] #[.int .i64 1,.int .i64 0,.int .i64 0,.int .i64 0,.int .i64 0,.slice none 0 0,.int .i64 0,.int .i64 0,.slice none 0 0,.slice none 0 0,.int .i64 0,.int .i64 0,.int .i64 0,.int .i64 0,.int .i64 0,.slice none 0 0,.int .i64 0,.int .i64 0,.int .i64 0,.bool false] 61 _ hR;have hone:=Da 1 0 0;have hq:=(Ca.ret (V:= #[.int .i64 1,.int .i64 0,.int .i64 0,.int .i64 0,.int .i64 0,.slice none 0 0,.int .i64 0,.int .i64 0,.slice none 0 0,.slice none 0 0,.int .i64 0,.int .i64 0,.int .i64 0,.int .i64 0,.int .i64 0,.slice none 0 0,.int .i64 0,.int .i64 0,.int .i64 0,.bool false]) H.o (Hkw1.o.nt hk2) (Ca.same (H.o.keep0 (Hkw1.o.nt hk2)) (Keeps.refl _ _)) hR (Nat.le_succ _)).2;clear hk2;obtain⟨HR,Hput,Hone,Hq⟩:=hid4 hR hput hone hq;clear hq hone hput hR
 go_wp2_with (refine wpList_store_row rfl 61 (.tmp 4) (.tmp 42) rfl (w.heap.size+1) #[.int .i64 1,.int .i64 0,.int .i64 0,.int .i64 0,.int .i64 0,.slice none 0 0,.int .i64 0,.int .i64 0,.slice none 0 0,.slice none 0 0,.int .i64 0,.int .i64 0,.int .i64 0,.int .i64 0,.int .i64 0,.slice none 0 0,.int .i64 0,.int .i64 0,.int .i64 0,.bool false] rfl rfl 61 #[.int .i64 0,.int .i64 0,.int .i64 0,.int .i64 0,.int .i64 0,.slice none 0 0,.int .i64 0,.int .i64 0,.slice none 0 0,.slice none 0 0,.int .i64 0,.int .i64 0,.int .i64 0,.int .i64 0,.int .i64 0,.slice none 0 0,.int .i64 0,.int .i64 0,.int .i64 0,.bool false] HR.o Au rfl Hone.o ?_)
 exact bodyPost_ret (results_cell_row rfl _ _ (w.heap.size+1) 61 #[.int .i64 1,.int .i64 0,.int .i64 0,.int .i64 0,.int .i64 0,.slice none 0 0,.int .i64 0,.int .i64 0,.slice none 0 0,.slice none 0 0,.int .i64 0,.int .i64 0,.int .i64 0,.int .i64 0,.int .i64 0,.slice none 0 0,.int .i64 0,.int .i64 0,.int .i64 0,.bool false] _ _ rfl Hput.o Tryz.underlying61 rfl Au) rfl ⟨rfl,Hq.o⟩
theorem Ae2(B:Nat)(x:AcV)(a:Ac)(c:Cmd)(w:World)(h:AcAt w B x a)(hk:c.kind=9):
  Calls Tryz.prog 28 #[(.pointer (some ⟨B,0,none⟩)),.agg #[.int .i64 c.kind,.int .i64 c.day,.int .i64 c.tranche,.int .i64 c.amount,.int .i64 c.ref]] w λe w'=>∃v,e= .returned v/\AnsIs w w' 0 0 0 a.st stm00 v/\Ca w B x a w':=by
 obtain⟨ki,da,tr,am,re⟩:=c;simp only at hk⊢;subst hk;have hst:=fun(W:World) (hW:K0 w W)=>Qh B x a W (h.keep0 hW);obtain⟨n,hN⟩:=eX a.s.p.bal.length;obtain⟨m,hM⟩:=eX a.s.R.length;obtain⟨q,hQ⟩:=eX a.D.length;obtain⟨td,htd⟩:=eX a.today;obtain⟨cy,hcy⟩:=eX (a.cyc a.today);obtain⟨sq,hsq⟩:=eX a.seq;obtain⟨cr,hcr⟩:=eX a.s.p.cr;obtain⟨du,hdu⟩:=eX a.s.p.du;unfold Nf at hst;rw [hN,hM,hQ,hcy,htd,hsq,hcr,hdu] at hst;obtain⟨ki,hki⟩:∃k:Int,9=k:=⟨_,rfl⟩;rw [hki];refine j0l ?_;intro W0 hW0;have hc0:W0.heap[w.heap.size]?=some (.cells #[.int .i64 ki,.int .i64 da,.int .i64 tr,.int .i64 am,.int .i64 re] 33 (0,0)):=by rw [hW0];exact Ap (heap_alloc_new w _) _
 have hr0:W0.heap[w.heap.size+1]?=some (.cells #[.int .i64 0,.int .i64 0,.int .i64 0,.int .i64 0,.int .i64 0,.slice none 0 0,.int .i64 0,.int .i64 0,.slice none 0 0,.slice none 0 0,.int .i64 0,.int .i64 0,.int .i64 0,.int .i64 0,.int .i64 0,.slice none 0 0,.int .i64 0,.int .i64 0,.int .i64 0,.bool false] 61 (0,0)):=by rw [hW0];exact Aw _ _ (by simp)
 have hk0:K0 w W0:=by rw [hW0];(repeat (first|exact Keeps.refl _ _|exact Keeps.alloc _ _|exact Keeps.drew _|exact Keeps.drewN _ _|refine Keeps.Ao ?_|refine Keeps.Al ?_|refine Keeps.Af ?_))
 rw [<-hki] at hW0 hc0⊢;obtain⟨H,Hst,HN,HM,HQ,Htd,Hcy,Hsq,Hcr⟩:=hid9 h hst hN hM hQ htd hcy hsq hcr;clear hcr hsq hcy htd hQ hM hN hst h;obtain⟨Hdu,Hki,Hc0,Hr0,Hk0⟩:=hid5 hdu hki hc0 hr0 hk0;clear hk0 hr0 hc0 hki hdu;go_enter Tryz.func28,Tryz.ntmps28;go_wp2_with fail;rw [<-hW0];clear hW0;refine(Hst.o W0 Hk0.o).mono ?_;rintro e w1 ⟨a1,c1,a2,c2,a3,c3,rfl,h1,h2,h3,hk1,hf⟩;rw [HN.o] at h1;rw [HM.o] at h2;rw [HQ.o] at h3;have hR:=j0A;have hput:=setRow_heap w1 (w.heap.size+1) #[.int .i64 0,.int .i64 0,.int .i64 0,.int .i64 0,.int .i64 0,.slice none 0 0,.int .i64 0,.int .i64 0,.slice none 0 0,.slice none 0 0,.int .i64 0,.int .i64 0,.int .i64 0,.int .i64 0,.int .i64 0,.slice none 0 0,.int .i64 0,.int .i64 0,.int .i64 0,.bool false] #[.int .i64 0,.int .i64 0,.int .i64 0,.int .i64 td,.int .i64 cy,.slice a1 n c1,.int .i64 cr,.int .i64 du,.slice a2 m c2,.slice a3 q c3,.int .i64 sq,.int .i64 0,.int .i64 0,.int .i64 0,.int .i64 0,.slice none 0 0,.int .i64 0,.int .i64 0,.int .i64 0,.bool false] 61 _ hR;have hone:=one_ansS td cy cr du sq a1 a2 a3 n c1 m c2 q c3;have hq:=(Ca.ret (V:= #[.int .i64 0,.int .i64 0,.int .i64 0,.int .i64 td,.int .i64 cy,.slice a1 n c1,.int .i64 cr,.int .i64 du,.slice a2 m c2,.slice a3 q c3,.int .i64 sq,.int .i64 0,.int .i64 0,.int .i64 0,.int .i64 0,.slice none 0 0,.int .i64 0,.int .i64 0,.int .i64 0,.bool false]) H.o (Hk0.o.nt hk1) (Ca.same (H.o.keep0 (Hk0.o.nt hk1)) (Keeps.refl _ _)) hR (Nat.le_succ _)).2
 have hans:AnsIs w w1 0 0 0 a.st stm00 (.agg #[.int .i64 0,.int .i64 0,.int .i64 0,.int .i64 td,.int .i64 cy,.slice a1 n c1,.int .i64 cr,.int .i64 du,.slice a2 m c2,.slice a3 q c3,.int .i64 sq,.int .i64 0,.int .i64 0,.int .i64 0,.int .i64 0,.slice none 0 0,.int .i64 0,.int .i64 0,.int .i64 0,.bool false]):=by
  refine⟨a1,c1,a2,c2,a3,c3,none,0, ?_, ?_, ?_, ?_,World.ownsRow_nil _ _ _ _⟩
  ·simp only [Ac.st];rw [HN.o,HM.o,HQ.o,Hcy.o,Htd.o,Hsq.o,Hcr.o,Hdu.o];rfl
  ·simp only [Ac.st];rw [HN.o];exact h1
  ·simp only [Ac.st];rw [HM.o];exact h2
  ·simp only [Ac.st];rw [HQ.o];exact h3
 have hans2:=hans.setRow (V:= #[.int .i64 0,.int .i64 0,.int .i64 0,.int .i64 td,.int .i64 cy,.slice a1 n c1,.int .i64 cr,.int .i64 du,.slice a2 m c2,.slice a3 q c3,.int .i64 sq,.int .i64 0,.int .i64 0,.int .i64 0,.int .i64 0,.slice none 0 0,.int .i64 0,.int .i64 0,.int .i64 0,.bool false]) hR;clear hk1 h1 h2 h3 hf hans;obtain⟨HR,Hput,Hone,Hq,Hans2⟩:=hid5 hR hput hone hq hans2;clear hans2 hq hone hput hR
 go_wp2_with (refine wpList_store_row rfl 61 (.tmp 4) (.tmp 20) rfl (w.heap.size+1) #[.int .i64 0,.int .i64 0,.int .i64 0,.int .i64 td,.int .i64 cy,.slice a1 n c1,.int .i64 cr,.int .i64 du,.slice a2 m c2,.slice a3 q c3,.int .i64 sq,.int .i64 0,.int .i64 0,.int .i64 0,.int .i64 0,.slice none 0 0,.int .i64 0,.int .i64 0,.int .i64 0,.bool false] rfl rfl 61 #[.int .i64 0,.int .i64 0,.int .i64 0,.int .i64 0,.int .i64 0,.slice none 0 0,.int .i64 0,.int .i64 0,.slice none 0 0,.slice none 0 0,.int .i64 0,.int .i64 0,.int .i64 0,.int .i64 0,.int .i64 0,.slice none 0 0,.int .i64 0,.int .i64 0,.int .i64 0,.bool false] HR.o Au rfl Hone.o ?_)
 exact bodyPost_ret (results_cell_row rfl _ _ (w.heap.size+1) 61 #[.int .i64 0,.int .i64 0,.int .i64 0,.int .i64 td,.int .i64 cy,.slice a1 n c1,.int .i64 cr,.int .i64 du,.slice a2 m c2,.slice a3 q c3,.int .i64 sq,.int .i64 0,.int .i64 0,.int .i64 0,.int .i64 0,.slice none 0 0,.int .i64 0,.int .i64 0,.int .i64 0,.bool false] _ _ rfl Hput.o Tryz.underlying61 rfl Au) rfl ⟨_,rfl,Hans2.o,Hq.o⟩
def pgS(B C j:Nat)(v:Value)(re:Int)(w:World):Prop:=w.cell? ⟨B,j,none⟩=some v/\w.cell? ⟨C,4,none⟩=some (.int .i64 re)
theorem pgS.keep{B C j:Nat}{v:Value}{re:Int}{w w':World}{S:Nat->Prop}(h:pgS B C j v re w)(hk:Keeps S w w')(h1:¬S B)(h2:¬S C):pgS B C j v re w':=⟨(hk.cell (Ai h.1) h1).trans h.1,(hk.cell (Ai h.2) h2).trans h.2⟩
theorem Aa8{M:List Stm}{r:Int}(h:r<1\/(M.length:Int)<r):tellE M r=12/\tellP M r=stm00:=⟨by unfold tellE;rw [if_pos h],by unfold tellP;rw [if_pos h]⟩
theorem Ww{M:List Stm}{r:Int}(h:¬(r<1\/(M.length:Int)<r)){k:Nat}(hk:r-1=(k:Int)){s:Stm}(hs:M[k]?=some s):tellE M r=0/\tellP M r=s:=⟨by unfold tellE;rw [if_neg h],by unfold tellP;rw [if_neg h,hk,Int.toNat_natCast,List.getD_eq_getElem?_getD,hs];rfl⟩
theorem Ae3(B:Nat)(x:AcV)(a:Ac)(c:Cmd)(w:World)(h:AcAt w B x a)(hk:c.kind=10):
  Calls Tryz.prog 28 #[(.pointer (some ⟨B,0,none⟩)),.agg #[.int .i64 c.kind,.int .i64 c.day,.int .i64 c.tranche,.int .i64 c.amount,.int .i64 c.ref]] w λe w'=>∃v,e= .returned v/\AnsIs w w' (tellE a.iss c.ref) 0 0 st00 (tellP a.iss c.ref) v/\Ca w B x a w':=by
 obtain⟨ki,da,tr,am,re⟩:=c;simp only at hk⊢;subst hk;obtain⟨ad,cp,hv,hsr,hsl⟩:=h.stmI;have hlen:(x.I).length=(a.iss).length:=by rw [<-h.is,List.length_map]
 obtain⟨N,hN⟩:=eX ((x.I).length);rw [hN] at hv hsr hsl hlen;obtain⟨ki,hki⟩:∃k:Int,10=k:=⟨_,rfl⟩;rw [hki];refine j0l ?_;intro W0 hW0;have hc0:W0.heap[w.heap.size]?=some (.cells #[.int .i64 ki,.int .i64 da,.int .i64 tr,.int .i64 am,.int .i64 re] 33 (0,0)):=by rw [hW0];exact Ap (heap_alloc_new w _) _
 have hr0:W0.heap[w.heap.size+1]?=some (.cells #[.int .i64 0,.int .i64 0,.int .i64 0,.int .i64 0,.int .i64 0,.slice none 0 0,.int .i64 0,.int .i64 0,.slice none 0 0,.slice none 0 0,.int .i64 0,.int .i64 0,.int .i64 0,.int .i64 0,.int .i64 0,.slice none 0 0,.int .i64 0,.int .i64 0,.int .i64 0,.bool false] 61 (0,0)):=by rw [hW0];exact Aw _ _ (by simp)
 have hk0:K0 w W0:=by rw [hW0];(repeat (first|exact Keeps.refl _ _|exact Keeps.alloc _ _|exact Keeps.drew _|exact Keeps.drewN _ _|refine Keeps.Ao ?_|refine Keeps.Al ?_|refine Keeps.Af ?_))
 rw [<-hki] at hW0 hc0⊢;have hS:pgS B w.heap.size 16 (.slice ad N cp) re W0:=⟨by rw [<-hv];exact Aa (h.keep0 hk0).blk 16,Aa hc0 4⟩;have nBR:¬B=w.heap.size+1:=λe=>by have:=lt_of_block h.blk;omega
 have nCR:¬w.heap.size=w.heap.size+1:=j8;by_cases hr:re<1\/(N:Int)<re
 ·have htl:=λW=>Va ad cp N re W hr;have hte:=Aa8 (M:=a.iss) (r:=re) j19;clear hr;have H:=Lib.hid h;clear h hv hsr hsl hlen hN hki hc0;obtain⟨Hr0,Hk0,HS,Htl,Hte⟩:=hid5 hr0 hk0 hS htl hte;clear hte htl hS hk0 hr0;go_enter Tryz.func28,Tryz.ntmps28
  go_upto_region 9 with fail
  rw [<-hW0];clear hW0;refine Ak (pgS B w.heap.size 16 (.slice ad N cp) re) (.take 0 (.take 1 (.take 2 (.take 3 (.take 4 (.take 5 (.move 6 (.move 7 .done)))))))) j9 j9 ?_ ?_
  ·exact j1a
  intro w1 hs1 hk1;refine je ?_;intro K hK
  go_at_call 62
  ((with_reducible refine(Htl.o w1).mono ?_);rintro e w2 ⟨rfl,hk2⟩;dsimp only)
  refine j1b ?_;clear hK K;refine j4o ?_;intro hk02 hR hs3 hput hone hq hans2;clear hs1 hk1 hk2;clear hk02;obtain⟨HR,Hs3,Hput,Hone,Hq,Hans2⟩:=hid6 hR hs3 hput hone hq hans2;clear hans2 hq hone hput hs3 hR;refine Ag rfl (λK hK=> ?_);refine wp_store_row 61 (.tmp 4) (.tmp 29) rfl (w.heap.size+1) #[.int .i64 12,.int .i64 0,.int .i64 0,.int .i64 0,.int .i64 0,.slice none 0 0,.int .i64 0,.int .i64 0,.slice none 0 0,.slice none 0 0,.int .i64 0,.int .i64 0,.int .i64 0,.int .i64 0,.int .i64 0,.slice none 0 0,.int .i64 0,.int .i64 0,.int .i64 0,.bool false] rfl rfl 61 #[.int .i64 0,.int .i64 0,.int .i64 0,.int .i64 0,.int .i64 0,.slice none 0 0,.int .i64 0,.int .i64 0,.slice none 0 0,.slice none 0 0,.int .i64 0,.int .i64 0,.int .i64 0,.int .i64 0,.int .i64 0,.slice none 0 0,.int .i64 0,.int .i64 0,.int .i64 0,.bool false] HR.o Au rfl Hone.o ?_;exact j4p
 ·obtain⟨k,hk⟩:∃k:Nat,re-1=(k:Int):=⟨(re-1).toNat,by omega⟩;obtain⟨y,hy⟩:=Ar (L:=x.I) (k:=k) (by rw [hN];omega);have htl:=fun(W:World) (hW:K0 w W)=>Sl ad cp N (x.I) y k re W (hsr.keep hW) hsl hk hy;have hte:=Ww (M:=a.iss) (r:=re) j19 hk (s:=y.s) (by rw [<-h.is,List.getElem?_map,hy];rfl);obtain⟨⟨cy,fr,te,du,tot,cre,mi,gr,X⟩,hss⟩:=eX y.s;rw [hss] at htl hte;unfold Vh at htl;simp only at htl;obtain⟨m,hm⟩:=eX X.length;rw [hm] at htl;clear hr;have H:=Lib.hid h;clear h hv hsr hsl hlen hN hki hc0;obtain⟨Hr0,Hk0,HS,Htl,Hte⟩:=hid5 hr0 hk0 hS htl hte;clear hte htl hS hk0 hr0 hk hy hss;have Hm:=Lib.hid hm;clear hm;go_enter Tryz.func28,Tryz.ntmps28
  go_upto_region 9 with fail
  rw [<-hW0];clear hW0;refine Ak (pgS B w.heap.size 16 (.slice ad N cp) re) (.take 0 (.take 1 (.take 2 (.take 3 (.take 4 (.take 5 (.move 6 (.move 7 .done)))))))) j9 j9 ?_ ?_
  ·exact j1a
  intro w1 hs1 hk1;refine je ?_;intro K hK
  go_at_call 62
  ((with_reducible refine(Htl.o w1 (Hk0.o.nt hk1)).mono ?_);rintro e w2 ⟨al,cl,rfl,hrow,hk2,hf2⟩;dsimp only)
  refine j1b ?_;clear hK K
  refine jc ?_;have hk02:=Hk0.o.nt (hk1.nt hk2);have hR:=Ad Hr0.o (hk1.nt hk2) (by simp);have hs3:=(hs1.keep hk2 (by simp) (by simp)).keep (Cg w2 (w.heap.size+1) #[.int .i64 0,.int .i64 0,.int .i64 0,.int .i64 0,.int .i64 0,.slice none 0 0,.int .i64 0,.int .i64 0,.slice none 0 0,.slice none 0 0,.int .i64 0,.int .i64 cy,.int .i64 fr,.int .i64 te,.int .i64 du,.slice al m cl,.int .i64 tot,.int .i64 cre,.int .i64 mi,.bool gr]) nBR nCR;have hput:=setRow_heap w2 (w.heap.size+1) #[.int .i64 0,.int .i64 0,.int .i64 0,.int .i64 0,.int .i64 0,.slice none 0 0,.int .i64 0,.int .i64 0,.slice none 0 0,.slice none 0 0,.int .i64 0,.int .i64 0,.int .i64 0,.int .i64 0,.int .i64 0,.slice none 0 0,.int .i64 0,.int .i64 0,.int .i64 0,.bool false] #[.int .i64 0,.int .i64 0,.int .i64 0,.int .i64 0,.int .i64 0,.slice none 0 0,.int .i64 0,.int .i64 0,.slice none 0 0,.slice none 0 0,.int .i64 0,.int .i64 cy,.int .i64 fr,.int .i64 te,.int .i64 du,.slice al m cl,.int .i64 tot,.int .i64 cre,.int .i64 mi,.bool gr] 61 _ hR;have hone:=Ue cy fr te du tot cre mi al m cl gr;have hq:=(Ca.ret (V:= #[.int .i64 0,.int .i64 0,.int .i64 0,.int .i64 0,.int .i64 0,.slice none 0 0,.int .i64 0,.int .i64 0,.slice none 0 0,.slice none 0 0,.int .i64 0,.int .i64 cy,.int .i64 fr,.int .i64 te,.int .i64 du,.slice al m cl,.int .i64 tot,.int .i64 cre,.int .i64 mi,.bool gr]) H.o hk02 (Ca.same (H.o.keep0 hk02) (Keeps.refl _ _)) hR (Nat.le_succ _)).2;have hans:AnsIs w w2 0 0 0 st00 ⟨cy,fr,te,du,tot,cre,mi,gr,X⟩ (.agg #[.int .i64 0,.int .i64 0,.int .i64 0,.int .i64 0,.int .i64 0,.slice none 0 0,.int .i64 0,.int .i64 0,.slice none 0 0,.slice none 0 0,.int .i64 0,.int .i64 cy,.int .i64 fr,.int .i64 te,.int .i64 du,.slice al m cl,.int .i64 tot,.int .i64 cre,.int .i64 mi,.bool gr]):=⟨none,0,none,0,none,0,al,cl,by rw [<-Hm.o];rfl,World.ownsRow_nil _ _ _ _,World.ownsRow_nil _ _ _ _,World.ownsRow_nil _ _ _ _,by rw [<-Hm.o] at hrow;exact hrow⟩;have hans2:=hans.setRow (V:= #[.int .i64 0,.int .i64 0,.int .i64 0,.int .i64 0,.int .i64 0,.slice none 0 0,.int .i64 0,.int .i64 0,.slice none 0 0,.slice none 0 0,.int .i64 0,.int .i64 cy,.int .i64 fr,.int .i64 te,.int .i64 du,.slice al m cl,.int .i64 tot,.int .i64 cre,.int .i64 mi,.bool gr]) hR
  clear hs1 hk1 hk2 hrow hf2 hans;clear hk02;obtain⟨HR,Hs3,Hput,Hone,Hq,Hans2⟩:=hid6 hR hs3 hput hone hq hans2;clear hans2 hq hone hput hs3 hR;refine Ag rfl (λK hK=> ?_);refine wp_store_row 61 (.tmp 4) (.tmp 29) rfl (w.heap.size+1) #[.int .i64 0,.int .i64 0,.int .i64 0,.int .i64 0,.int .i64 0,.slice none 0 0,.int .i64 0,.int .i64 0,.slice none 0 0,.slice none 0 0,.int .i64 0,.int .i64 cy,.int .i64 fr,.int .i64 te,.int .i64 du,.slice al m cl,.int .i64 tot,.int .i64 cre,.int .i64 mi,.bool gr] rfl rfl 61 #[.int .i64 0,.int .i64 0,.int .i64 0,.int .i64 0,.int .i64 0,.slice none 0 0,.int .i64 0,.int .i64 0,.slice none 0 0,.slice none 0 0,.int .i64 0,.int .i64 0,.int .i64 0,.int .i64 0,.int .i64 0,.slice none 0 0,.int .i64 0,.int .i64 0,.int .i64 0,.bool false] HR.o Au rfl Hone.o ?_;exact j4r
theorem Wm(B:Nat)(x:AcV)(a:Ac)(c:Cmd)(w:World)(h:AcAt w B x a)(hk:c.kind=11):
  Calls Tryz.prog 28 #[(.pointer (some ⟨B,0,none⟩)),.agg #[.int .i64 c.kind,.int .i64 c.day,.int .i64 c.tranche,.int .i64 c.amount,.int .i64 c.ref]] w λe w'=>∃v,e= .returned v/\AnsIs w w' (tellE a.s.out c.ref) 0 0 st00 (tellP a.s.out c.ref) v/\Ca w B x a w':=by
 obtain⟨ki,da,tr,am,re⟩:=c;simp only at hk⊢;subst hk;obtain⟨ad,cp,hv,hsr,hsl⟩:=h.stmN;have hlen:(x.P).length=(a.s.out).length:=by rw [<-h.ns,List.length_map]
 obtain⟨N,hN⟩:=eX ((x.P).length);rw [hN] at hv hsr hsl hlen;obtain⟨ki,hki⟩:∃k:Int,11=k:=⟨_,rfl⟩;rw [hki];refine j0l ?_;intro W0 hW0;have hc0:W0.heap[w.heap.size]?=some (.cells #[.int .i64 ki,.int .i64 da,.int .i64 tr,.int .i64 am,.int .i64 re] 33 (0,0)):=by rw [hW0];exact Ap (heap_alloc_new w _) _
 have hr0:W0.heap[w.heap.size+1]?=some (.cells #[.int .i64 0,.int .i64 0,.int .i64 0,.int .i64 0,.int .i64 0,.slice none 0 0,.int .i64 0,.int .i64 0,.slice none 0 0,.slice none 0 0,.int .i64 0,.int .i64 0,.int .i64 0,.int .i64 0,.int .i64 0,.slice none 0 0,.int .i64 0,.int .i64 0,.int .i64 0,.bool false] 61 (0,0)):=by rw [hW0];exact Aw _ _ (by simp)
 have hk0:K0 w W0:=by rw [hW0];(repeat (first|exact Keeps.refl _ _|exact Keeps.alloc _ _|exact Keeps.drew _|exact Keeps.drewN _ _|refine Keeps.Ao ?_|refine Keeps.Al ?_|refine Keeps.Af ?_))
 rw [<-hki] at hW0 hc0⊢;have hS:pgS B w.heap.size 15 (.slice ad N cp) re W0:=⟨by rw [<-hv];exact Aa (h.keep0 hk0).blk 15,Aa hc0 4⟩;have nBR:¬B=w.heap.size+1:=λe=>by have:=lt_of_block h.blk;omega
 have nCR:¬w.heap.size=w.heap.size+1:=j8;by_cases hr:re<1\/(N:Int)<re
 ·have htl:=λW=>Va ad cp N re W hr;have hte:=Aa8 (M:=a.s.out) (r:=re) j19;clear hr;have H:=Lib.hid h;clear h hv hsr hsl hlen hN hki hc0;obtain⟨Hr0,Hk0,HS,Htl,Hte⟩:=hid5 hr0 hk0 hS htl hte;clear hte htl hS hk0 hr0;go_enter Tryz.func28,Tryz.ntmps28
  go_upto_region 11 with fail
  rw [<-hW0];clear hW0;refine Ak (pgS B w.heap.size 15 (.slice ad N cp) re) (.take 0 (.take 1 (.take 2 (.take 3 (.take 4 (.take 5 (.move 6 (.move 7 .done)))))))) j9 j9 ?_ ?_
  ·exact j1a
  intro w1 hs1 hk1;refine je ?_;intro K hK
  go_at_call 62
  ((with_reducible refine(Htl.o w1).mono ?_);rintro e w2 ⟨rfl,hk2⟩;dsimp only)
  refine j1b ?_;clear hK K;refine j4o ?_;intro hk02 hR hs3 hput hone hq hans2;clear hs1 hk1 hk2;clear hk02;obtain⟨HR,Hs3,Hput,Hone,Hq,Hans2⟩:=hid6 hR hs3 hput hone hq hans2;clear hans2 hq hone hput hs3 hR;refine Ag rfl (λK hK=> ?_);refine wp_store_row 61 (.tmp 4) (.tmp 38) rfl (w.heap.size+1) #[.int .i64 12,.int .i64 0,.int .i64 0,.int .i64 0,.int .i64 0,.slice none 0 0,.int .i64 0,.int .i64 0,.slice none 0 0,.slice none 0 0,.int .i64 0,.int .i64 0,.int .i64 0,.int .i64 0,.int .i64 0,.slice none 0 0,.int .i64 0,.int .i64 0,.int .i64 0,.bool false] rfl rfl 61 #[.int .i64 0,.int .i64 0,.int .i64 0,.int .i64 0,.int .i64 0,.slice none 0 0,.int .i64 0,.int .i64 0,.slice none 0 0,.slice none 0 0,.int .i64 0,.int .i64 0,.int .i64 0,.int .i64 0,.int .i64 0,.slice none 0 0,.int .i64 0,.int .i64 0,.int .i64 0,.bool false] HR.o Au rfl Hone.o ?_;exact j4p
 ·obtain⟨k,hk⟩:∃k:Nat,re-1=(k:Int):=⟨(re-1).toNat,by omega⟩;obtain⟨y,hy⟩:=Ar (L:=x.P) (k:=k) (by rw [hN];omega);have htl:=fun(W:World) (hW:K0 w W)=>Sl ad cp N (x.P) y k re W (hsr.keep hW) hsl hk hy;have hte:=Ww (M:=a.s.out) (r:=re) j19 hk (s:=y.s) (by rw [<-h.ns,List.getElem?_map,hy];rfl);obtain⟨⟨cy,fr,te,du,tot,cre,mi,gr,X⟩,hss⟩:=eX y.s;rw [hss] at htl hte;unfold Vh at htl;simp only at htl;obtain⟨m,hm⟩:=eX X.length;rw [hm] at htl;clear hr;have H:=Lib.hid h;clear h hv hsr hsl hlen hN hki hc0;obtain⟨Hr0,Hk0,HS,Htl,Hte⟩:=hid5 hr0 hk0 hS htl hte;clear hte htl hS hk0 hr0 hk hy hss;have Hm:=Lib.hid hm;clear hm;go_enter Tryz.func28,Tryz.ntmps28
  go_upto_region 11 with fail
  rw [<-hW0];clear hW0;refine Ak (pgS B w.heap.size 15 (.slice ad N cp) re) (.take 0 (.take 1 (.take 2 (.take 3 (.take 4 (.take 5 (.move 6 (.move 7 .done)))))))) j9 j9 ?_ ?_
  ·exact j1a
  intro w1 hs1 hk1;refine je ?_;intro K hK
  go_at_call 62
  ((with_reducible refine(Htl.o w1 (Hk0.o.nt hk1)).mono ?_);rintro e w2 ⟨al,cl,rfl,hrow,hk2,hf2⟩;dsimp only)
  refine j1b ?_;clear hK K
  refine jc ?_;have hk02:=Hk0.o.nt (hk1.nt hk2);have hR:=Ad Hr0.o (hk1.nt hk2) (by simp);have hs3:=(hs1.keep hk2 (by simp) (by simp)).keep (Cg w2 (w.heap.size+1) #[.int .i64 0,.int .i64 0,.int .i64 0,.int .i64 0,.int .i64 0,.slice none 0 0,.int .i64 0,.int .i64 0,.slice none 0 0,.slice none 0 0,.int .i64 0,.int .i64 cy,.int .i64 fr,.int .i64 te,.int .i64 du,.slice al m cl,.int .i64 tot,.int .i64 cre,.int .i64 mi,.bool gr]) nBR nCR;have hput:=setRow_heap w2 (w.heap.size+1) #[.int .i64 0,.int .i64 0,.int .i64 0,.int .i64 0,.int .i64 0,.slice none 0 0,.int .i64 0,.int .i64 0,.slice none 0 0,.slice none 0 0,.int .i64 0,.int .i64 0,.int .i64 0,.int .i64 0,.int .i64 0,.slice none 0 0,.int .i64 0,.int .i64 0,.int .i64 0,.bool false] #[.int .i64 0,.int .i64 0,.int .i64 0,.int .i64 0,.int .i64 0,.slice none 0 0,.int .i64 0,.int .i64 0,.slice none 0 0,.slice none 0 0,.int .i64 0,.int .i64 cy,.int .i64 fr,.int .i64 te,.int .i64 du,.slice al m cl,.int .i64 tot,.int .i64 cre,.int .i64 mi,.bool gr] 61 _ hR;have hone:=Ue cy fr te du tot cre mi al m cl gr;have hq:=(Ca.ret (V:= #[.int .i64 0,.int .i64 0,.int .i64 0,.int .i64 0,.int .i64 0,.slice none 0 0,.int .i64 0,.int .i64 0,.slice none 0 0,.slice none 0 0,.int .i64 0,.int .i64 cy,.int .i64 fr,.int .i64 te,.int .i64 du,.slice al m cl,.int .i64 tot,.int .i64 cre,.int .i64 mi,.bool gr]) H.o hk02 (Ca.same (H.o.keep0 hk02) (Keeps.refl _ _)) hR (Nat.le_succ _)).2;have hans:AnsIs w w2 0 0 0 st00 ⟨cy,fr,te,du,tot,cre,mi,gr,X⟩ (.agg #[.int .i64 0,.int .i64 0,.int .i64 0,.int .i64 0,.int .i64 0,.slice none 0 0,.int .i64 0,.int .i64 0,.slice none 0 0,.slice none 0 0,.int .i64 0,.int .i64 cy,.int .i64 fr,.int .i64 te,.int .i64 du,.slice al m cl,.int .i64 tot,.int .i64 cre,.int .i64 mi,.bool gr]):=⟨none,0,none,0,none,0,al,cl,by rw [<-Hm.o];rfl,World.ownsRow_nil _ _ _ _,World.ownsRow_nil _ _ _ _,World.ownsRow_nil _ _ _ _,by rw [<-Hm.o] at hrow;exact hrow⟩;have hans2:=hans.setRow (V:= #[.int .i64 0,.int .i64 0,.int .i64 0,.int .i64 0,.int .i64 0,.slice none 0 0,.int .i64 0,.int .i64 0,.slice none 0 0,.slice none 0 0,.int .i64 0,.int .i64 cy,.int .i64 fr,.int .i64 te,.int .i64 du,.slice al m cl,.int .i64 tot,.int .i64 cre,.int .i64 mi,.bool gr]) hR
  clear hs1 hk1 hk2 hrow hf2 hans;clear hk02;obtain⟨HR,Hs3,Hput,Hone,Hq,Hans2⟩:=hid6 hR hs3 hput hone hq hans2;clear hans2 hq hone hput hs3 hR;refine Ag rfl (λK hK=> ?_);refine wp_store_row 61 (.tmp 4) (.tmp 38) rfl (w.heap.size+1) #[.int .i64 0,.int .i64 0,.int .i64 0,.int .i64 0,.int .i64 0,.slice none 0 0,.int .i64 0,.int .i64 0,.slice none 0 0,.slice none 0 0,.int .i64 0,.int .i64 cy,.int .i64 fr,.int .i64 te,.int .i64 du,.slice al m cl,.int .i64 tot,.int .i64 cre,.int .i64 mi,.bool gr] rfl rfl 61 #[.int .i64 0,.int .i64 0,.int .i64 0,.int .i64 0,.int .i64 0,.slice none 0 0,.int .i64 0,.int .i64 0,.slice none 0 0,.slice none 0 0,.int .i64 0,.int .i64 0,.int .i64 0,.int .i64 0,.int .i64 0,.slice none 0 0,.int .i64 0,.int .i64 0,.int .i64 0,.bool false] HR.o Au rfl Hone.o ?_;exact j4r
def StL(a:Ac)(W:World)(td cy sq cr du:Int)(n m q:Nat)(e:Ending)(W':World):Prop:=∃a1 c1 a2 c2 a3 c3,e= .returned (.agg #[.int .i64 td,.int .i64 cy,.slice a1 n c1,.int .i64 cr,.int .i64 du,.slice a2 m c2,.slice a3 q c3,.int .i64 sq])/\
 W'.ownsRow 0 2 1 (.slice a1 n c1) n (a.s.p.bal.flatMap i64c)/\W'.ownsRow 0 2 1 (.slice a2 m c2) m (a.s.R.flatMap i64c)/\W'.ownsRow 0 148 5 (.slice a3 q c3) q (a.D.flatMap Disp.cells)/\K0 W W'/\∀b,(Value.slice a1 n c1).ownBlock=some b\/(Value.slice a2 m c2).ownBlock=some b\/(Value.slice a3 q c3).ownBlock=some b->W.heap.size<=b
end Go.Proofs.YtjkdnaljkdnomaaGreatDoor
