/- Part 31 of what the laws of this seat share: walks of functions, and plain laws. -/
import Derived.Test.YtgbgmadkmabeeaaGreatG28
set_option maxRecDepth 100000
set_option maxHeartbeats 3200000
namespace Go.Proofs.YtgbgmadkmabeeaaGreat
open Go.RowKit
def acT9(B:Nat)(t:Tm)(vt:Value)(td:Int)(bl:Nat)(w:World):Prop:=tbS B t vt w/\w.cell? ⟨B,7,none⟩=some (.int .i64 td)/\w.cell? ⟨B,9,none⟩=some (.pointer (some ⟨bl,0,none⟩))
theorem acT9.of{w:World}{B:Nat}{x:AcV}{a:Ac}(h:AcAt w B x a):acT9 B a.t x.vt a.today x.bl w:=
 ⟨⟨Aa h.blk 0,Aa h.blk 1,Aa h.blk 2,Aa h.blk 3,Aa h.blk 4,Aa h.blk 5,Aa h.blk 6⟩,Aa h.blk 7,Aa h.blk 9⟩
def cy7S(B:Nat)(st cd td:Int)(w:World):Prop:=w.cell? ⟨B,6,none⟩=some (.int .i64 st)/\w.cell? ⟨B,2,none⟩=some (.int .i64 cd)/\w.cell? ⟨B,7,none⟩=some (.int .i64 td)
theorem te_arg{a:Ac}{d:Int}(h:d<1\/400<d):a.te d=1/\a.tc d=0/\a.tick d=a:=by
 have h1:a.te d=1:=by unfold Ac.te;rw [if_pos h]
 exact⟨h1,by unfold Ac.tc;rw [h1];simp,by unfold Ac.tick;rw [h1];simp⟩
theorem te_day{a:Ac}{d:Int}(h:¬(d<1\/400<d))(h2:¬ofE a.t.start a.t.cyc (a.today+d)=0):a.te d=10/\a.tc d=0/\a.tick d=a:=by
 have h1:a.te d=10:=by unfold Ac.te;rw [if_neg h,if_pos h2]
 exact⟨h1,by unfold Ac.tc;rw [h1];simp,by unfold Ac.tick;rw [h1];simp⟩
theorem te_run{a:Ac}{d:Int}(h:¬(d<1\/400<d))(h2:ofE a.t.start a.t.cyc (a.today+d)=0):a.te d=(a.tz d).2:=by
 unfold Ac.te;rw [if_neg h,if_neg j6]
theorem te_bad{a:Ac}{d:Int}(h:¬(d<1\/400<d))(h2:ofE a.t.start a.t.cyc (a.today+d)=0)(h3:¬(a.tz d).2=0):a.te d=(a.tz d).2/\a.tc d=0/\a.tick d=a:=by
 have h1:=te_run h h2;exact⟨h1,by unfold Ac.tc;rw [h1,if_neg (λe=>h3 e.1)],by unfold Ac.tick;rw [h1,if_neg h3]⟩
theorem te_ok{a:Ac}{d:Int}(h:¬(d<1\/400<d))(h2:ofE a.t.start a.t.cyc (a.today+d)=0)(h3:(a.tz d).2=0):a.te d=0/\a.tc d=(if a.s.out.length<(a.tz d).1.out.length then((a.tz d).1.out.length:Int) else 0)/\a.tick d={ a with today:=a.today+d,s:=(a.tz d).1,iss:=a.iss++(a.tz d).1.out.drop a.s.out.length,seq:=a.seq+1 }:=by
 have h1:a.te d=0:=(te_run h h2).trans h3;refine⟨h1, ?_,by unfold Ac.tick;rw [h1,if_pos rfl]⟩;unfold Ac.tc;rw [h1];by_cases h4:a.s.out.length<(a.tz d).1.out.length
 ·rw [if_pos ⟨rfl,h4⟩,if_pos h4]
 ·rw [if_neg (λe=>h4 e.2),if_neg h4]
def t12S(B:Nat)(vi vn:Value)(w:World):Prop:=w.cell? ⟨B,16,none⟩=some vi/\w.cell? ⟨B,15,none⟩=some vn
theorem t12S.of{w W:World}{B:Nat}{x:AcV}{a:Ac}(h:AcAt w B x a)(hk:K0 w W):t12S B x.vi x.vn W:=by
 have hA:=h.keep0 hk;exact⟨Aa hA.blk 16,Aa hA.blk 15⟩
theorem drop_stms{w:World}{ao:Option Addr}{n2 co n1:Nat}{P:List SV}(h:StmsR w ao n2 co P)(hn:n1<=n2):StmsR w (if co=n1 then ao else Option.map (λx=>x.add (n1*9)) ao) (n2-n1) (co-n1) (P.drop n1):=by
 obtain⟨⟨ad,c,he,hnc,hl,hnone,hcells⟩,h2,h3,h4⟩:=h;simp only [Value.slice.injEq,true_and] at he;obtain⟨rfl,rfl⟩:=he;refine⟨⟨_,_,rfl,by omega, ?_,λhz=> ?_,λj u hj=> ?_⟩,λx hx=>h2 x (List.mem_of_mem_drop hx),λx hx=>h3 x (List.mem_of_mem_drop hx),by rw [List.length_drop,h4]⟩
 ·rw [Df SV.Aj,List.length_drop,h4]
 ·by_cases hc:co=n1
  ·omega
  ·rw [if_neg hc] at hz;rw [Option.map_eq_none_iff] at hz;have:=hnone hz;omega
 ·rw [<-Pi SV.Aj,List.getElem?_drop] at hj;obtain⟨g,o,rfl,hh⟩:=hcells _ _ hj;by_cases hc:co=n1
  ·have h5:n2=n1:=j8;have h6:=(List.getElem?_eq_some_iff.1 hj).1;rw [hl] at h6;exact absurd h6 (by rw [h5];omega)
  ·rw [if_neg hc];exact⟨g,o+n1*9,by rw [Option.map_some,Dx],by rw [Nat.add_assoc];exact hh⟩
theorem SV.one(L:List SV):∀u∈L.flatMap SV.cells,u.oneCell'=true:=by
 intro u hu;obtain⟨y,_,hy⟩:=List.mem_flatMap.1 hu;simp only [SV.cells,SV.v,List.mem_cons,List.not_mem_nil,or_false] at hy;rcases hy with rfl|rfl|rfl|rfl|rfl|rfl|rfl|rfl|rfl<;>simp [Value.oneCell']
theorem t12S.keepS{B:Nat}{vi vn:Value}{w w':World}{S:Nat->Prop}(h:t12S B vi vn w)(hk:Keeps S w w')(hS:¬S B):t12S B vi vn w':=⟨(hk.cell (Ag h.1) hS).trans h.1,(hk.cell (Ag h.2) hS).trans h.2⟩
theorem Eg.keep0{w0 W W':World}{n:Nat}{s:St}{vb vr vo:Value}{P:List SV}(g:Eg w0 n s vb vr vo P W)(hk:K0 W W'):Eg w0 n s vb vr vo P W':=
 ⟨g.bal.of_keeps hk,g.rts.of_keeps hk,g.out.of_keeps hk,λx hx=>(g.ln x hx).of_keeps hk,g.lp,g.nb,g.nr,g.wb,g.wr,g.wo,g.wl,g.kp.nt hk⟩
def TkS(B:Nat)(x:AcV)(w W2:World)(i:Nat):Prop:=(i=B\/x.vi.ownBlock=some i)\/(w.heap.size<=i/\i<W2.heap.size)
theorem AcAt.ticked{w wc Wf W2:World}{B n M:Nat}{x:AcV}{a:Ac}{d:Int}{Z:St×Int}{vp vr vn vi:Value}{P Q:List SV}(h:AcAt w B x a)(hkc:K0 w wc)(hk2:K0 w W2)(hk2c:K0 W2 wc)
  (hK:Keeps (TkS B x w W2) wc Wf) (_:a.t.trs.length=n) (hZ:walkR a.t a.L (a.today+d)=Z) (hz:Z.2=0) (g:Eg W2 n Z.1 vp vr vn P wc) (hmo:a.s.out.length<=Z.1.out.length) (hq:Q.map SV.s=Z.1.out.drop a.s.out.length)
  (hql:∀y∈Q,wc.ownsRow 0 160 3 y.v y.s.lines.length (y.s.lines.flatMap Ln.cells)) (hqf:∀y∈Q,∀b,y.v.ownBlock=some b->W2.heap.size<=b)
  (hb:Wf.heap[B]?=some (.cells #[.int .i64 a.t.limit,x.vt,.int .i64 a.t.cyc,.int .i64 a.t.due,.int .i64 a.t.minFixed,.int .i64 a.t.minPart,.int .i64 a.t.start,.int .i64 (a.today+d),.int .i64 (a.seq+1),(.pointer (some ⟨x.bl,0,none⟩)),(.pointer (some ⟨x.bb,0,none⟩)),vp,.int .i64 Z.1.p.cr,.int .i64 Z.1.p.du,vr,vn,vi,x.va] 136 (0,0)))
  (hri:Wf.ownsRow 0 60 9 vi (x.I++Q).length ((x.I++Q).flatMap SV.cells)) (hM1:wc.heap.size<=M) (hvi:∀b,vi.ownBlock=some b->x.vi.ownBlock=some b\/M<=b):
  Bv w B x { a with today:=a.today+d,s:=Z.1,iss:=a.iss++Z.1.out.drop a.s.out.length,seq:=a.seq+1 } Wf:=by
 have hA:=h.keep0 hkc;have hBl:=lt_of_block h.blk;have hvil:∀b,x.vi.ownBlock=some b->b<w.heap.size:=λb hb=>rowLt h.iss hb;have hsz:=hk2.size;have hszc:=hkc.size;have hsz2c:=hk2c.size;have hZ1:Z=(Z.1,0):=by rw [<-hz]
 have hnum:=h.ok.nums;obtain⟨o1,o2,_,_⟩:=Mq hZ hz
 have hok:AcOk { a with today:=a.today+d,s:=Z.1,iss:=a.iss++Z.1.out.drop a.s.out.length,seq:=a.seq+1 }:=by
  refine⟨by show walkR a.t a.L (a.today+d)=(Z.1,0);rw [hZ];exact hZ1, ?_,λy hy=> ?_, ?_,by have:=h.ok.s0;show 0<=a.seq+1;omega⟩
  ·show(a.iss++Z.1.out.drop a.s.out.length).length=Z.1.out.length;rw [List.length_append,List.length_drop,h.ok.il];omega
  ·have hy':y∈a.iss++Z.1.out.drop a.s.out.length:=hy;rcases List.mem_append.1 hy' with h1|h1
   ·exact h.ok.ill y h1
   ·exact o1 y (List.mem_of_mem_drop h1)
  ·have:=h.ok.aj;show(a.adj.length:Int)<=301000*(a.seq+1);omega
 have nw:∀b,W2.heap.size<=b->¬TkS B x w W2 b:=λb hb e=>by
  rcases e with(e|e)|⟨_,e⟩
  ·omega
  ·have:=hvil b e;omega
  ·omega
 have hold:∀b,x.rd b->¬TkS B x w W2 b:=λb hb e=>by
  rcases e with e|⟨e,_⟩
  ·exact h.sep b hb (e.elim .inl λe=> .inr (.inl e))
  ·have:=h.lt b (.inr hb);omega
 have hrd:∀b,AcV.rd ({ x with vp:=vp,vr:=vr,vn:=vn,vi:=vi,P:=P,I:=x.I++Q }:AcV) b->x.rd b\/(w.heap.size<=b/\b<M):=by
  rintro b (hb|hb|hb|hb|hb|hb|hb|hb|⟨y,hy,hb⟩|⟨y,hy,hb⟩)
  ·exact .inl (.inl hb)
  ·have:=g.wb b hb;have:=rowLt g.bal hb;exact .inr ⟨by omega,by omega⟩
  ·have:=g.wr b hb;have:=rowLt g.rts hb;exact .inr ⟨by omega,by omega⟩
  ·have:=g.wo b hb;have:=rowLt g.out hb;exact .inr ⟨by omega,by omega⟩
  ·exact .inl (.inr (.inr (.inr (.inr (.inl hb)))))
  ·exact j1Z
  ·exact .inl (.inr (.inr (.inr (.inr (.inr (.inr (.inl hb)))))))
  ·exact .inl (.inr (.inr (.inr (.inr (.inr (.inr (.inr (.inl hb))))))))
  ·have:=g.wl y hy b hb;have:=rowLt (g.ln y hy) hb;exact .inr ⟨by omega,by omega⟩
  ·rcases List.mem_append.1 hy with h1|h1
   ·exact .inl (.inr (.inr (.inr (.inr (.inr (.inr (.inr (.inr (.inr ⟨y,h1,hb⟩)))))))))
   ·have:=hqf y h1 b hb;have:=rowLt (hql y h1) hb;exact .inr ⟨by omega,by omega⟩
 have haf:∀b,AcF B ({ x with vp:=vp,vr:=vr,vn:=vn,vi:=vi,P:=P,I:=x.I++Q }:AcV) b->AcF B x b\/M<=b:=by
  rintro b (hb|hb|hb)
  ·exact .inl (.inl hb)
  ·exact(hvi b hb).imp (λe=> .inr (.inl e)) id
  ·exact .inl (.inr (.inr hb))
 have hKF:=(hkc.mono (T:=AcF B x) (by simp)).trans (hK.mono λi _ e=>e.elim (λe=> .inl (e.elim .inl λe=> .inr (.inl e))) λe=> .inr e.1)
 obtain⟨h1,h2⟩:=AcAt.build (x':={ x with vp:=vp,vr:=vr,vn:=vn,vi:=vi,P:=P,I:=x.I++Q }) (a':={ a with today:=a.today+d,s:=Z.1,iss:=a.iss++Z.1.out.drop a.s.out.length,seq:=a.seq+1 }) h M j6 hKF rfl rfl hb
  (hA.dl.keepS hK (hold _ (.inr (.inr (.inr (.inr (.inl rfl)))))) (λb hb=>hold b (.inr (.inr (.inr (.inr (.inr (.inl hb))))))) (λb hb=>hold b (.inr (.inr (.inr (.inr (.inr (.inr (.inl hb)))))))))
  (hA.bk.keeps hK λb hb=>hold b (.inr (.inr (.inr (.inr (.inr (.inr (.inr (.inl hb)))))))))
  j4s j4t (hK.row g.out λb hb=>nw b (g.wo b hb)) (λy hy=>hK.row (g.ln y hy) λb hb=>nw b (g.wl y hy b hb)) g.lp
  hri (λy hy=>by
   rcases List.mem_append.1 hy with h1|h1
   ·exact hK.row (hA.iln y h1) λb hb=>hold b (.inr (.inr (.inr (.inr (.inr (.inr (.inr (.inr (.inr ⟨y,h1,hb⟩)))))))))
   ·exact hK.row (hql y h1) λb hb=>nw b (hqf y h1 b hb)) (by rw [List.map_append,hA.is,hq]) (hK.row hA.adj λb hb e=>by
   rcases e with(e|e)|⟨e,_⟩
   ·exact h.sa b hb e
   ·exact h.si b e (.inr hb)
   ·have:=rowLt h.adj hb;omega) hok hrd haf
 exact⟨_,h1,hKF,h2⟩
def Vw(a:Ac)(d:Int)(w:World)(B:Nat)(x:AcV)(e:Ending)(w':World):Prop:=e= .returned (.agg #[.int .i64 (a.te d),.int .i64 0,.int .i64 (a.tc d),.int .i64 0,.int .i64 0,.slice none 0 0,.int .i64 0,.int .i64 0,.slice none 0 0,.slice none 0 0,.int .i64 0,.int .i64 0,.int .i64 0,.int .i64 0,.int .i64 0,.slice none 0 0,.int .i64 0,.int .i64 0,.int .i64 0,.bool false])/\Bv w B x (a.tick d) w'
theorem Aci(B:Nat)(x:AcV)(a:Ac)(d:Int)(w:World)(h:AcAt w B x a)(hd:d<1\/400<d):Calls Tryz.prog 78 #[(.pointer (some ⟨B,0,none⟩)),.int .i64 d] w (Vw a d w B x):=by
 by_cases h1:d<1
 ·exact j4F
 ·have h2:400<d:=j8;exact j4F
theorem Acj(B:Nat)(x:AcV)(a:Ac)(d:Int)(w:World)(h:AcAt w B x a)(hs:a.seq<=100000)(hmo:a.te d=0->a.s.out.length<=(a.tz d).1.out.length):Calls Tryz.prog 78 #[(.pointer (some ⟨B,0,none⟩)),.int .i64 d] w (Vw a d w B x):=by
 by_cases hd:d<1\/400<d
 ·exact Aci B x a d w h hd
 obtain⟨i0,hi,hi0,hi1,hi2⟩:=info_parts Na;have hn:=h.ok.nums;have hd1:¬d<1:=j8;have hd2:¬400<d:=j8;obtain⟨W0,hW0⟩:=eY (w.alloc (.cells #[.int .i64 0,.int .i64 0,.int .i64 0,.int .i64 0,.int .i64 0,.slice none 0 0,.int .i64 0,.int .i64 0,.slice none 0 0,.slice none 0 0,.int .i64 0,.int .i64 0,.int .i64 0,.int .i64 0,.int .i64 0,.slice none 0 0,.int .i64 0,.int .i64 0,.int .i64 0,.bool false] 62));have hb0:W0.heap[w.heap.size]?=some (.cells #[.int .i64 0,.int .i64 0,.int .i64 0,.int .i64 0,.int .i64 0,.slice none 0 0,.int .i64 0,.int .i64 0,.slice none 0 0,.slice none 0 0,.int .i64 0,.int .i64 0,.int .i64 0,.int .i64 0,.int .i64 0,.slice none 0 0,.int .i64 0,.int .i64 0,.int .i64 0,.bool false] 62 (0,0)):=by rw [hW0];exact heap_alloc_new w _
 have hk0:K0 w W0:=by rw [hW0];exact Keeps.alloc _ _
 obtain⟨st,hst⟩:=eX a.t.start;obtain⟨cd,hcd⟩:=eX a.t.cyc;obtain⟨td,htd⟩:=eX a.today;have td0: -135140<=td:=by have:=hn.ds;have:=hn.d0;omega
 have td1:td<=2932896:=by have:=hn.d1;omega
 have hcy:=λW=>Qz st cd (td+d) W ⟨by have:=hn.ds;omega,by have:=hn.d0;have:=hn.d1;omega⟩;obtain⟨z1,hz1⟩:=eX (ofE st cd (td+d));obtain⟨y1,hy1⟩:=eX (ofV st cd (td+d));rw [hz1,hy1] at hcy
 have hcS:∀W,K0 w W->cy7S B st cd td W:=λW hW=>by
  have hA:=h.keep0 hW;exact⟨by rw [<-hst];exact Aa hA.blk 6,by rw [<-hcd];exact Aa hA.blk 2,by rw [<-htd];exact Aa hA.blk 7⟩
 have q1:IntKind.i64.wrap (td+d)=td+d:=IntWalk.i64_in _ ⟨by omega,by omega⟩;have HBl:=Lib.hid (lt_of_block h.blk);have hbl:=lt_of_block h.blk;obtain⟨H,Hn,Hb0,Hk0,Hcy,Hz1,Hy1,HcS,Hst⟩:=hid9 h hn hb0 hk0 hcy hz1 hy1 hcS hst;clear hst hcS hy1 hz1 hcy hk0 hb0 hn h;obtain⟨Hcd,Htd,Hmo,Hd,Hi,Hi0,Hi1,Hi2⟩:=hid8 hcd htd hmo hd hi hi0 hi1 hi2;clear hi2 hi1 hi0 hi hd hmo htd hcd;go_enter Tryz.func78,Tryz.ntmps78
 go_upto_region 3 with fail
 rw [<-hW0];clear hW0;refine Ak (cy7S B st cd td) (.take 0 (.take 1 (.take 2 (.take 3 (.take 4 (.take 5 (.take 6 (.take 7 (.take 8 (.take 9 (.take 10 (.take 11 (.take 12 (.take 13 (.take 14 (.take 15 (.move 16 (.take 17 (.take 18 (.take 19 (.take 20 (.take 21 .done)))))))))))))))))))))) j9 j9 ?_ ?_
 ·exact HcS.o _ (Hk0.o.nt (Keeps.drew _))
 intro w1 hs1 hk1;refine je ?_;intro K hK
 go_at_call 131
 ((with_reducible refine(Hcy.o w1).mono ?_);rintro e w2 ⟨rfl,hk2⟩;dsimp only)
 have hk02:=Keeps.nt (Keeps.nt Hk0.o hk1) hk2;refine hK.out _ _ (by exact HcS.o _ hk02) ?_;clear hK K;refine jc ?_;have hb2:=Ad (Ad Hb0.o hk1 (by simp)) hk2 (by simp);clear hs1 hk1 hk2;obtain⟨Hk02,Hb2⟩:=hid2 hk02 hb2;clear hb2 hk02;refine jo ?_;by_cases h0:z1=0
 ·subst h0;have hofz:ofE a.t.start a.t.cyc (a.today+d)=0:=by rw [Hst.o,Hcd.o,Htd.o,Hz1.o]
  have hkw2:=Hk02.o;obtain⟨n,hN⟩:=eX a.t.trs.length;obtain⟨Z,hZ⟩:=eX (walkR a.t a.L (a.today+d));have hcz:a.tz d=Z:=hZ;obtain⟨adt,ct,hvt,_,_⟩:=Ae H.o.trs;have hrt:=Reads.Bb H.o.trs;rw [hN] at hvt hrt;obtain⟨t,ht⟩:=eX a.t;obtain⟨L1,hL1⟩:=eX a.L;have hL1l:L1.length<=3000:=by rw [<-hL1];have:=Hn.o.ll;omega
  rw [ht,hL1,Htd.o] at hZ;rw [ht] at hN hrt;rw [hvt] at hrt;have hdl2:=H.o.dl.keep hkw2;rw [ht,hL1] at hdl2;obtain⟨B1,hB1⟩:=eX x.bl;rw [hB1] at hdl2;have hall:=λW (hW:K0 w2 W)=>Vg B1 t x.vtl x.vl L1 W (hdl2.keep hW) j6;have hrun:=λW (hW:K0 w2 W) ad c (hr:Reads W 5 (.slice ad L1.length c) L1.length (L1.flatMap Ev.cells))=>Pf t adt ct n L1 ad c L1.length (td+d) W hN (hrt.keeps (hkw2.nt hW) (by simp)) rfl hr j6 (by have:=Hn.o.n8;rw [ht,hN] at this;omega);rw [hZ] at hrun;have hSk:∀W,K0 w2 W->acT9 B t (.slice adt n ct) td B1 W:=λW hW=>by have:=acT9.of (H.o.keep0 (hkw2.nt hW));rw [ht,Htd.o,hvt,hB1] at this;exact this
  obtain⟨W2,hW2⟩:=eY w2;subst hW2;have HBl2:=Lib.hid (Nat.lt_of_lt_of_le HBl.o hkw2.size);clear HBl;have HBl:=HBl2;clear HBl2;obtain⟨Hkw2,Hdl2,HL1,HL1l,HN,HZ,Hvt,Hrt,Ht⟩:=hid9 hkw2 hdl2 hL1 hL1l hN hZ hvt hrt ht;clear ht hrt hvt hZ hN hL1l hL1 hdl2 hkw2;obtain⟨Hall,Hrun,HSk,Hcz,Hofz,HB1⟩:=hid6 hall hrun hSk hcz hofz hB1;clear hB1 hofz hcz hSk hrun hall
  go_upto_region 6 with fail
  go_cut [7,8,9,10] (λp r q z wx=>CnRun W2 n Z p r q z wx)
  case first=>
   refine Ak (acT9 B t (.slice adt n ct) td B1) (.take 0 (.take 1 (.take 2 (.take 3 (.take 4 (.take 5 (.take 6 (.take 7 (.take 9 (.take 10 (.take 11 (.take 12 (.take 13 (.take 14 (.fork 8 (.fork 15 (.take 16 (.take 17 (.take 18 (.take 19 (.take 20 (.move 21 (.move 22 (.take 23 (.take 24 (.take 25 .done)))))))))) 21 (.move 15 (.take 16 (.take 17 (.take 18 (.take 19 (.take 20 (.move 22 (.take 23 (.take 24 (.take 25 .done))))))))))) 21 (.move 8 (.move 15 (.take 16 (.take 17 (.take 18 (.take 19 (.take 20 (.move 22 (.take 23 (.take 24 (.take 25 .done)))))))))))))))))))))))))) j9 j9 ?_ ?_
   ·exact HSk.o _ (Keeps.drew _)
   intro w3 hs3 hk3;refine jx ?_;refine Dk ?_ ?_ (HSk.o _ hk3)
   ·skip
    refine ja ?_;intro K hK
    go_at_call 96
    ((with_reducible refine(Hall.o w3 hk3).mono ?_);rintro e w4 hg)
    obtain⟨v',rfl,hrd,hkg,hng⟩:=hg;obtain⟨ae,ce,rfl,_⟩:=id hrd;dsimp only;have hkn:K0 W2 w4:=Keeps.nt hk3 hkg;refine hK.out _ _ j0V ?_;clear hK K;refine jc ?_;refine jx ?_;refine Dk ?_ ?_ (HSk.o _ hkn)
    ·skip
     refine ja ?_;intro K hK
     go_at_call 108
     ((with_reducible refine(Hrun.o w4 hkn ae ce hrd).mono ?_);intro e w5 hpo)
     obtain⟨vb2,cr2,du2,vr2,vo2,z2,rfl,hi2,hk7,a2,n2,c2,rfl⟩:=Qs hpo;clear hpo;refine j0W ?_;intro hkr;clear hK K;refine jc ?_;refine jx ?_;obtain⟨w8,hw8⟩:=eY ((w5).alloc (.cells #[.slice none 0 0,.int .i64 0,.int .i64 0] 52));obtain⟨b7,hb7⟩:=eY ((w5).heap.size);have hkA:K0 w5 w8:=by rw [hw8];exact Keeps.alloc _ _
     have hz8:(w8).heap[b7]?=some (.cells #[.slice none 0 0,.int .i64 0,.int .i64 0] 52 (0,0)):=by rw [hw8,hb7];exact heap_alloc_new _ _
     have hb7l:W2.heap.size<=b7:=by rw [hb7];exact(hkr).size
     have hka8:K0 W2 w8:=Keeps.nt hkr hkA;have hb7B:¬B=b7:=λe=>by have:=HBl.o;omega
     have hb7w:(w5).heap.size<=b7:=by rw [hb7];exact Nat.le_refl _
     refine ja ?_;intro K hK;rw [<-hw8,<-hb7];clear hw8 hb7;refine j09 ?_;clear hK K;refine jc ?_;refine jx ?_;refine j4u ?_;intro hlz z0 z1 z2' zf0 zf1 zf2 hbz hkz hk4z hrel;exact j22
    ·skip
     obtain⟨w8,hw8⟩:=eY ((w4).alloc (.cells #[.slice none 0 0,.int .i64 0,.int .i64 0] 52));obtain⟨b7,hb7⟩:=eY ((w4).heap.size);have hkA:K0 w4 w8:=by rw [hw8];exact Keeps.alloc _ _
     have hz8:(w8).heap[b7]?=some (.cells #[.slice none 0 0,.int .i64 0,.int .i64 0] 52 (0,0)):=by rw [hw8,hb7];exact heap_alloc_new _ _
     have hb7l:W2.heap.size<=b7:=by rw [hb7];exact(hkn).size
     have hka8:K0 W2 w8:=Keeps.nt hkn hkA;have hb7B:¬B=b7:=λe=>by have:=HBl.o;omega
     have hb7w:(w4).heap.size<=b7:=by rw [hb7];exact Nat.le_refl _
     refine ja ?_;intro K hK;rw [<-hw8,<-hb7];clear hw8 hb7;refine j09 ?_;clear hK K;refine jc ?_;refine jx ?_;have hrd8:=hrd.keeps hkA (by simp);refine ja ?_;intro K hK
     go_at_call 108
     ((with_reducible refine(Hrun.o w8 hka8 ae ce hrd8).mono ?_);intro e w5 hpo)
     obtain⟨vb2,cr2,du2,vr2,vo2,z2,rfl,hi2,hk7,a2,n2,c2,rfl⟩:=Qs hpo;clear hpo;dsimp only;have hkr:K0 W2 w5:=Keeps.nt hka8 hk7;refine hK.out _ _ (by exact HSk.o _ hkr) ?_;clear hK K;refine jc ?_;have hz5:=Ad hz8 hk7 (by simp);have hl8:=lt_of_block hz8;refine jx ?_;refine j0X ?_;intro hlz z0 z1 z2' zf0 zf1 zf2 hbz hkz hk4z;refine j4v ?_;intro hrel;exact j22
   ·skip
    obtain⟨w8,hw8⟩:=eY ((w3).alloc (.cells #[.slice none 0 0,.int .i64 0,.int .i64 0] 52));obtain⟨b7,hb7⟩:=eY ((w3).heap.size);have hkA:K0 w3 w8:=by rw [hw8];exact Keeps.alloc _ _
    have hz8:(w8).heap[b7]?=some (.cells #[.slice none 0 0,.int .i64 0,.int .i64 0] 52 (0,0)):=by rw [hw8,hb7];exact heap_alloc_new _ _
    have hb7l:W2.heap.size<=b7:=by rw [hb7];exact(hk3).size
    have hka8:K0 W2 w8:=Keeps.nt hk3 hkA;have hb7B:¬B=b7:=λe=>by have:=HBl.o;omega
    have hb7w:(w3).heap.size<=b7:=by rw [hb7];exact Nat.le_refl _
    refine ja ?_;intro K hK;rw [<-hw8,<-hb7];clear hw8 hb7;refine j09 ?_;clear hK K;refine jc ?_;refine jx ?_;refine ja ?_;intro K hK
    go_at_call 96
    ((with_reducible refine(Hall.o w8 hka8).mono ?_);rintro e w4 hg)
    obtain⟨v',rfl,hrd,hkg,hng⟩:=hg;obtain⟨ae,ce,rfl,_⟩:=id hrd;dsimp only;have hkn:K0 W2 w4:=Keeps.nt hka8 hkg;refine hK.out _ _ j0V ?_;clear hK K;refine jc ?_;have hz4:=Ad hz8 hkg (by simp);have hl4:=lt_of_block hz4;refine jx ?_;refine ja ?_;intro K hK
    go_at_call 108
    ((with_reducible refine(Hrun.o w4 hkn ae ce hrd).mono ?_);intro e w5 hpo)
    obtain⟨vb2,cr2,du2,vr2,vo2,z2,rfl,hi2,hk7,a2,n2,c2,rfl⟩:=Qs hpo;clear hpo;refine j0W ?_;intro hkr;clear hK K;refine jc ?_;have hz5:=Ad hz4 hk7 (by simp);refine jx ?_;refine j0X ?_;intro hlz z0 z1 z2' zf0 zf1 zf2 hbz hkz hk4z;refine j4w ?_;intro hrel;exact j22
  obtain⟨b7,vb,vr,vo,cr,du,zz,rfl,rfl,rfl,rfl,hb7,hk7,hbx7,hi7,av,mv,cv,rfl⟩:=hcut;obtain⟨W7,hW7⟩:=eY wc;subst hW7;have hkw7:=Hkw2.o.nt hk7;have hb7':=Ad Hb2.o hk7 (by simp);clear q1
  cases hi7 with
  |bad hz7=>
   obtain⟨zz,hzz⟩:=eX Z.2;rw [hzz] at hz7⊢;have hne:(zz !=0)=true:=by simp [hz7]
   have hc:=te_bad (a:=a) Hd.o Hofz.o (by rw [Hcz.o,hzz];exact hz7);rw [Hcz.o,hzz] at hc;obtain⟨Hzz,Hz7,Hc,Hkw7,Hk7,Hbx7,Hb7'⟩:=hid7 hzz hz7 hc hkw7 hk7 hbx7 hb7';clear hb7' hbx7 hk7 hkw7 hc hz7 hzz;go_wp2_with fail;refine(De zz _).mono ?_;rintro e w8 ⟨rfl,hk8⟩;have hb8:=Ad Hb7'.o hk8 (by simp);have hk08:=Hkw7.o.nt hk8;clear hk8;obtain⟨Hb8,Hk08⟩:=hid2 hb8 hk08;clear hk08 hb8;obtain⟨hput1,hput2⟩:=putRow (V:= #[.int .i64 zz,.int .i64 0,.int .i64 0,.int .i64 0,.int .i64 0,.slice none 0 0,.int .i64 0,.int .i64 0,.slice none 0 0,.slice none 0 0,.int .i64 0,.int .i64 0,.int .i64 0,.int .i64 0,.int .i64 0,.slice none 0 0,.int .i64 0,.int .i64 0,.int .i64 0,.bool false]) Hb8.o Hk08.o (Nat.le_refl _);obtain⟨Hput1,Hput2⟩:=hid2 hput1 hput2;clear hput2 hput1
   go_wp2_with (refine wpList_store_row rfl 62 (.tmp 4) (.tmp 66) rfl w.heap.size #[.int .i64 zz,.int .i64 0,.int .i64 0,.int .i64 0,.int .i64 0,.slice none 0 0,.int .i64 0,.int .i64 0,.slice none 0 0,.slice none 0 0,.int .i64 0,.int .i64 0,.int .i64 0,.int .i64 0,.int .i64 0,.slice none 0 0,.int .i64 0,.int .i64 0,.int .i64 0,.bool false] rfl rfl 62 #[.int .i64 0,.int .i64 0,.int .i64 0,.int .i64 0,.int .i64 0,.slice none 0 0,.int .i64 0,.int .i64 0,.slice none 0 0,.slice none 0 0,.int .i64 0,.int .i64 0,.int .i64 0,.int .i64 0,.int .i64 0,.slice none 0 0,.int .i64 0,.int .i64 0,.int .i64 0,.bool false] Hb8.o Ar rfl (Cu zz 0 0) ?_)
   exact bodyPost_ret (results_cell_row rfl _ _ w.heap.size 62 #[.int .i64 zz,.int .i64 0,.int .i64 0,.int .i64 0,.int .i64 0,.slice none 0 0,.int .i64 0,.int .i64 0,.slice none 0 0,.slice none 0 0,.int .i64 0,.int .i64 0,.int .i64 0,.int .i64 0,.int .i64 0,.slice none 0 0,.int .i64 0,.int .i64 0,.int .i64 0,.bool false] _ _ rfl Hput1.o Tryz.underlying62 rfl Ar) rfl ⟨by rw [Hc.o.1,Hc.o.2.1],by rw [Hc.o.2.2];exact Bv.same H.o Hput2.o⟩
  | @ok _ _ _ P hz7 g=>
   have hA:=H.o.keep0 hkw7;obtain⟨hte,htc,htk⟩:=te_ok (a:=a) Hd.o Hofz.o (by rw [Hcz.o];exact hz7);have hmo:=Hmo.o hte;rw [Hcz.o] at htc htk hmo;obtain⟨adn,cn,hvn,hstm,hPl⟩:=hA.stmN;obtain⟨ao,co,rfl,hco,hao⟩:=Ae g.out;obtain⟨ar,cr2,rfl,_,_⟩:=Ae g.rts;obtain⟨o1,o2,_,_⟩:=Mq HZ.o hz7;obtain⟨n1,hn1⟩:=eX x.P.length;obtain⟨n2,hn2⟩:=eX P.length;have hn1':a.s.out.length=n1:=by rw [<-hn1,<-H.o.ns,List.length_map]
   have hn2':Z.1.out.length=n2:=by rw [<-hn2,<-g.lp,List.length_map]
   rw [hn1',hn2'] at hmo htc;rw [hn2];rw [hn1] at hvn hPl;rw [hn2] at hco
   have hll:∀y∈P,y.s.lines.length<=1000:=λy hy=>by
    exact j4x
   have hn2l:n2<=300:=by rw [<-hn2'];exact o2
   obtain⟨tcv,htcv⟩:=eX (a.tc d);rw [htcv] at htc;obtain⟨w8,hw8⟩:=eY ((W7.alloc (.cells #[.int .i64 0,.int .i64 0,.int .i64 0,.int .i64 0,.int .i64 0,.slice none 0 0,.int .i64 0,.int .i64 0,.slice none 0 0,.slice none 0 0,.int .i64 0,.int .i64 0,.int .i64 0,.int .i64 0,.int .i64 0,.slice none 0 0,.int .i64 0,.int .i64 0,.int .i64 0,.bool false] 62)).setRow W7.heap.size #[.int .i64 0,.int .i64 0,.int .i64 0,.int .i64 0,.int .i64 0,.slice none 0 0,.int .i64 0,.int .i64 0,.slice none 0 0,.slice none 0 0,.int .i64 0,.int .i64 0,.int .i64 0,.int .i64 0,.int .i64 0,.slice none 0 0,.int .i64 0,.int .i64 0,.int .i64 0,.bool false]);obtain⟨b11,hb11⟩:=eY W7.heap.size;have hb11l:W7.heap.size<=b11:=by rw [hb11];exact Nat.le_refl _
   have hk8:K0 W7 w8:=by rw [hw8];exact(Keeps.alloc (S:=λ_=>False) W7 (.cells #[.int .i64 0,.int .i64 0,.int .i64 0,.int .i64 0,.int .i64 0,.slice none 0 0,.int .i64 0,.int .i64 0,.slice none 0 0,.slice none 0 0,.int .i64 0,.int .i64 0,.int .i64 0,.int .i64 0,.int .i64 0,.slice none 0 0,.int .i64 0,.int .i64 0,.int .i64 0,.bool false] 62)).trans ((Cc _ _ _).mono λi _ e=> .inr (by have e':i=W7.heap.size:=e;omega))
   have c15:w8.cell? ⟨B,15,none⟩=some (.slice adn n1 cn):=by rw [<-hvn];exact Aa (hA.keep0 hk8).blk 15
   have hblc:=lt_of_block (hA.keep0 hk8).blk;have hbx8:w8.heap[b11]?=some (.cells #[.int .i64 0,.int .i64 0,.int .i64 0,.int .i64 0,.int .i64 0,.slice none 0 0,.int .i64 0,.int .i64 0,.slice none 0 0,.slice none 0 0,.int .i64 0,.int .i64 0,.int .i64 0,.int .i64 0,.int .i64 0,.slice none 0 0,.int .i64 0,.int .i64 0,.int .i64 0,.bool false] 62 (0,0)):=by rw [hw8,hb11];exact setRow_heap _ _ _ _ _ _ (heap_alloc_new W7 (.cells #[.int .i64 0,.int .i64 0,.int .i64 0,.int .i64 0,.int .i64 0,.slice none 0 0,.int .i64 0,.int .i64 0,.slice none 0 0,.slice none 0 0,.int .i64 0,.int .i64 0,.int .i64 0,.int .i64 0,.int .i64 0,.slice none 0 0,.int .i64 0,.int .i64 0,.int .i64 0,.bool false] 62))
   obtain⟨Hz7,Hk7,Hbx7,Hkw7,Hb7',G,HA,Hte,Htk⟩:=hid9 hz7 hk7 hbx7 hkw7 hb7' g hA hte htk;clear htk hte hA g hb7' hkw7 hbx7 hk7 hz7;obtain⟨Hvn,Hstm,Hn1,Hn2,Hn1',Hn2',Hll,Htcv,Hk8⟩:=hid9 hvn hstm hn1 hn2 hn1' hn2' hll htcv hk8;clear hk8 htcv hll hn2' hn1' hn2 hn1 hstm hvn;obtain⟨Hbx8,O1,Hao⟩:=hid3 hbx8 o1 hao;clear hao o1 hbx8
   go_upto_if 75 with(refine wpList_store_row rfl 62 (.tmp 11) (.tmp 67) rfl W7.heap.size #[.int .i64 0,.int .i64 0,.int .i64 0,.int .i64 0,.int .i64 0,.slice none 0 0,.int .i64 0,.int .i64 0,.slice none 0 0,.slice none 0 0,.int .i64 0,.int .i64 0,.int .i64 0,.int .i64 0,.int .i64 0,.slice none 0 0,.int .i64 0,.int .i64 0,.int .i64 0,.bool false] rfl rfl 62 #[.int .i64 0,.int .i64 0,.int .i64 0,.int .i64 0,.int .i64 0,.slice none 0 0,.int .i64 0,.int .i64 0,.slice none 0 0,.slice none 0 0,.int .i64 0,.int .i64 0,.int .i64 0,.int .i64 0,.int .i64 0,.slice none 0 0,.int .i64 0,.int .i64 0,.int .i64 0,.bool false] (heap_alloc_new W7 _) Ar rfl (Cu 0 0 0) ?_;rw [<-hw8,<-hb11];clear hw8 hb11)
   go_cut [11] (λp wx=>p=(.pointer (some ⟨b11,0,none⟩))/\wx.heap[b11]?=some (.cells #[.int .i64 0,.int .i64 0,.int .i64 tcv,.int .i64 0,.int .i64 0,.slice none 0 0,.int .i64 0,.int .i64 0,.slice none 0 0,.slice none 0 0,.int .i64 0,.int .i64 0,.int .i64 0,.int .i64 0,.int .i64 0,.slice none 0 0,.int .i64 0,.int .i64 0,.int .i64 0,.bool false] 62 (0,0))/\K0 W7 wx)
   case first=>
    by_cases hlt:n1<n2
    ·have hltI:(n1:Int)<(n2:Int):=j8;rw [if_pos hlt] at htc;subst htc;have x2:=Aa Hbx8.o 2;have y2:=Ab Hbx8.o 2;have xl:=lt_of_block Hbx8.o;have hz9:=(heap_setCell_same _ _ 2 _ _ (.int .i64 (n2:Int)) Hbx8.o).trans rfl;have hk9:K0 W7 (w8.setCell ⟨b11,2,none⟩ (.int .i64 (n2:Int))):=Hk8.o.trans ((Keeps.setCell (S:=λi=>i=b11) _ _ _ rfl).mono λi _ e=> .inr (by have e':i=b11:=e;omega));obtain⟨Hz9,Hk9⟩:=hid2 hz9 hk9;clear hk9 hz9;go_wp2_with fail;go_meet;exact⟨by first|rfl|trivial,Hz9.o,Hk9.o⟩
    ·have hltI:¬(n1:Int)<(n2:Int):=j8;rw [if_neg hlt] at htc;subst htc;go_wp2_with fail;go_meet;exact⟨by first|rfl|trivial,Hbx8.o,Hk8.o⟩
   have Htc:=Lib.hid htc;clear htc;obtain⟨rfl,hbxz,hkz⟩:=hcut;have hA2:=HA.o.keep0 hkz;obtain⟨nI,hnI⟩:=eX x.I.length;obtain⟨ai,ci,hvi,_,_⟩:=Ae H.o.iss;rw [hnI] at hvi
   have hnI1:nI<=300:=by
    have:nI=n1:=by rw [<-hnI,<-Hn1'.o,<-H.o.ok.il,<-H.o.is,List.length_map]
    omega
   have htS:∀W,K0 wc W->t12S B (.slice ai nI ci) (.slice adn n1 cn) W:=λW hW=>by
    have:=t12S.of hA2 hW;rw [hvi,Hvn.o] at this;exact this
   have hbl2:=lt_of_block hA2.blk;clear c15 hblc;have hvi':=hvi;obtain⟨Hbxz,Hkz,HA2,HnI,Hvi,HtS⟩:=hid6 hbxz hkz hA2 hnI hvi htS;clear htS hvi hnI hA2 hkz hbxz;obtain⟨ad9,had9⟩:∃x,x=(if co=n1 then ao else Option.map (λx=>x.add (n1*9)) ao):=⟨_,rfl⟩
   have hst9:StmsR wc ad9 (n2-n1) (co-n1) (P.drop n1):=by
    rw [had9];exact drop_stms (⟨by rw [<-Hn2.o];exact(Reads.Bb G.o.out).keeps Hkz.o (by simp),λy hy=>(Reads.Bb (G.o.ln y hy)).keeps Hkz.o (by simp),Hll.o,Hn2.o⟩:StmsR wc ao n2 co P) hmo
   have hown:=λW (hW:K0 wc W)=>Vs ad9 (co-n1) (n2-n1) (P.drop n1) W (hst9.keep hW) j6;obtain⟨Hst9,Hown⟩:=hid2 hst9 hown;clear hown hst9
   go_upto_region 12 with fail
   refine Cy (t12S B (.slice ai nI ci) (.slice adn n1 cn)) 16 (.take 0 (.take 1 (.take 2 (.take 3 (.take 4 (.take 5 (.take 6 (.take 7 (.take 8 (.take 9 (.take 10 (.take 11 (.move 12 (.move 13 (.move 14 (.move 15 (.move 16 .done))))))))))))))))) j9 j9 ?_ ?_
   ·exact HtS.o _ (Keeps.drew _)
   intro w9 hs9 hk9;refine jR ?_;rw [<-had9];clear had9;refine Ah rfl (λK hK=> ?_);go_simp
   go_at_call 92
   ((with_reducible refine(Hown.o w9 hk9).mono ?_);rintro e w10 hg)
   obtain⟨v10,Q,rfl,hp,hq⟩:=hg;dsimp only;have hk10:=Keeps.nt hk9 hp.fr.1;refine hK.out _ _ (by exact HtS.o _ hk10) ?_;clear hK K
   try simp only [aps]
   obtain⟨aq,cq,rfl,_,_⟩:=Ae hp.row;obtain⟨nq,hnq⟩:=eX Q.length
   have hnq1:nq<=300:=by
    have:nq=n2-n1:=by rw [<-hnq];have:=congrArg List.length hq;simpa [Hn2.o] using this
    omega
   have hA3:=HA2.o.keep0 hk10;have hrowI:=hA3.iss;rw [hvi',HnI.o] at hrowI;have hrdQ:=Reads.Bb hp.row;rw [hnq] at hrdQ⊢;have hbxA:=Ad Hbxz.o hk10 (by simp);have hbx7A:=Ad Hbx7.o (Hkz.o.nt hk10) (by simp);have hb7A:=Ad Hb7'.o (Hkz.o.nt hk10) (by simp);have hkz10:=Hkz.o.nt hk10;have hqlf:∀y∈Q,∀b,y.v.ownBlock=some b->W2.heap.size<=b:=λy hy b hb=>by have h1:=hp.lf y hy b hb;have h2:=(Hk7.o.nt (Hkz.o.nt hk9)).size;omega
   have hqln:=hp.ln;have hone:=SV.one Q;have hl3:=lt_of_block hA3.blk;clear hp hs9 hk9;obtain⟨Hq,Hnq,HbxA,Hbx7A,Hb7A,Hkz10,Hqlf,Hqln,Hone⟩:=hid9 hq hnq hbxA hbx7A hb7A hkz10 hqlf hqln hone;clear hone hqln hqlf hkz10 hb7A hbx7A hbxA hnq hq;obtain⟨HA3,HrdQ,HrowI⟩:=hid3 hA3 hrdQ hrowI;clear hrowI hrdQ hA3;refine jR ?_;refine Ah rfl (λK hK=> ?_);refine Ca rfl (.tmp 83) (.tmp 91) 84 rfl 0 60 i0 _ 9 88 Tryz.underlying84 Hi.o Hi0.o Hi1.o Hi2.o rfl j7 (.slice ai nI ci) nI _ rfl HrowI.o _ nq _ rfl HrdQ.o Hone.o jd j6 (Nat.zero_le _) ?_;intro v14 w14 hown14 hk14 hf14;obtain⟨a14,c14,rfl,_,_⟩:=Ae hown14;have hnB14:¬(Value.slice ai nI ci).ownBlock=some B:=λe=>HA3.o.si B j0t (.inl rfl);have hb14:=Ad HA3.o.blk hk14 hnB14;obtain⟨oc,o16⟩:∃v,w14.cell? ⟨B,16,none⟩=some v:=⟨_,(Aa hb14 16).trans rfl⟩;have of16:=Ab hb14 16;have ol16:=lt_of_block hb14;refine hK.out _ _ (by exact(HtS.o _ hk10).keepS hk14 hnB14) ?_;clear hK K
   try simp only [aps]
   obtain⟨Hb14,Hown14,Hk14,Hf14,Hk10⟩:=hid5 hb14 hown14 hk14 hf14 hk10;clear hk10 hf14 hk14 hown14 hb14
   repeat (refine Ee (v:= ?_) rfl (by rfl) ?_ ?_;rotate_left;(· intro w' hSw;unfold t12S at hSw;go_simp;(try with_reducible rfl));rotate_right;try simp only [aps])
   refine Cq rfl (λK hK=> ?_);go_simp;refine hK.out _ _ ?_;clear hK K
   try simp only [aps]
   refine Ao ?_;obtain⟨sq,hsq⟩:=eX a.seq;have hs0:=H.o.ok.s0;rw [hsq] at hs hs0;have q1:IntKind.i64.wrap (td+d)=td+d:=IntWalk.i64_in _ ⟨by omega,by omega⟩;have q2:IntKind.i64.wrap (sq+1)=sq+1:=IntWalk.i64_in _ ⟨by omega,by omega⟩;obtain⟨W17,hW17⟩:=eY (w14.setCell ⟨B,16,none⟩ (.slice a14 (nI+nq) c14));have k17:Keeps (λi=>i=B) w14 W17:=by rw [hW17];exact(Keeps.refl _ _).setB _ _
   have hb17:W17.heap[B]?=some (.cells #[.int .i64 a.t.limit,x.vt,.int .i64 a.t.cyc,.int .i64 a.t.due,.int .i64 a.t.minFixed,.int .i64 a.t.minPart,.int .i64 a.t.start,.int .i64 td,.int .i64 sq,(.pointer (some ⟨x.bl,0,none⟩)),(.pointer (some ⟨x.bb,0,none⟩)),x.vp,.int .i64 a.s.p.cr,.int .i64 a.s.p.du,x.vr,x.vn,.slice a14 (nI+nq) c14,x.va] 136 (0,0)):=by rw [hW17,<-hsq,<-Htd.o];exact heap_setCell_same _ _ 16 _ _ (.slice a14 (nI+nq) c14) Hb14.o
   rw [<-hW17];clear hW17 ol16 of16 o16;have hvilt:∀b,x.vi.ownBlock=some b->b<w.heap.size:=λb hb=>rowLt H.o.iss hb;have hsz2:=Hkw2.o.size;have hb7B:¬b7=B:=λe=>by have:=HBl.o;omega
   have hBb7:¬B=b7:=λe=>hb7B e.symm;have hW7l:=Hk7.o.size;have hwl:=Hk0.o.size;have hRB:¬w.heap.size=B:=λe=>by omega
   have hb11B:¬b11=B:=λe=>by have:=HBl.o;omega
   have hx7:=Ad (Ad Hbx7A.o Hk14.o (λe=>by have:=hvilt b7 j0t;omega)) k17 hb7B;have hx11:=Ad (Ad HbxA.o Hk14.o (λe=>by have:=hvilt b11 j0t;omega)) k17 hb11B;have hxR:=Ad (Ad Hb7A.o Hk14.o (λe=>by have:=hvilt _ j0t;omega)) k17 hRB;have p0:=Aa hx7 0;have p1:=Aa hx7 1;have p2:=Aa hx7 2;have pl:=lt_of_block hx7;have d7:=Aa hb17 7;have d8:=Aa hb17 8;have d11:=Aa hb17 11;have d12:=Aa hb17 12;have d13:=Aa hb17 13;have d14:=Aa hb17 14;have d15:=Aa hb17 15;have f7:=Ab hb17 7;have f8:=Ab hb17 8;have f11:=Ab hb17 11;have f12:=Ab hb17 12;have f13:=Ab hb17 13;have f14:=Ab hb17 14;have f15:=Ab hb17 15;have fl:=lt_of_block hb17;have g1:=heap_setCell_same _ _ 7 _ _ (.int .i64 (td+d)) hb17;have g2:=heap_setCell_same _ _ 11 _ _ (.slice av mv cv) g1;have g3:=heap_setCell_same _ _ 12 _ _ (.int .i64 Z.1.p.cr) g2;have g4:=heap_setCell_same _ _ 13 _ _ (.int .i64 Z.1.p.du) g3;have g5:=heap_setCell_same _ _ 14 _ _ (.slice ar n cr2) g4;have g6:=heap_setCell_same _ _ 15 _ _ (.slice ao n2 co) g5;have g7:=heap_setCell_same _ _ 8 _ _ (.int .i64 (sq+1)) g6;obtain⟨Wf,hWf⟩:=eY (((((((W17.setCell ⟨B,7,none⟩ (.int .i64 (td+d))).setCell ⟨B,11,none⟩ (.slice av mv cv)).setCell ⟨B,12,none⟩ (.int .i64 Z.1.p.cr)).setCell ⟨B,13,none⟩ (.int .i64 Z.1.p.du)).setCell ⟨B,14,none⟩ (.slice ar n cr2)).setCell ⟨B,15,none⟩ (.slice ao n2 co)).setCell ⟨B,8,none⟩ (.int .i64 (sq+1)));have kf:Keeps (λi=>i=B) W17 Wf:=by rw [hWf];exact(((((((Keeps.refl _ _).setB _ _).setB _ _).setB _ _).setB _ _).setB _ _).setB _ _).setB _ _
   rw [<-hWf] at g7;have hgf:Wf.heap[B]?=some (.cells #[.int .i64 a.t.limit,x.vt,.int .i64 a.t.cyc,.int .i64 a.t.due,.int .i64 a.t.minFixed,.int .i64 a.t.minPart,.int .i64 a.t.start,.int .i64 (td+d),.int .i64 (sq+1),(.pointer (some ⟨x.bl,0,none⟩)),(.pointer (some ⟨x.bb,0,none⟩)),.slice av mv cv,.int .i64 Z.1.p.cr,.int .i64 Z.1.p.du,.slice ar n cr2,.slice ao n2 co,.slice a14 (nI+nq) c14,x.va] 136 (0,0)):=g7;have hx11f:=Ad hx11 kf hb11B;have hxRf:=Ad hxR kf hRB;have kR:=Cc Wf w.heap.size #[.int .i64 0,.int .i64 0,.int .i64 tcv,.int .i64 0,.int .i64 0,.slice none 0 0,.int .i64 0,.int .i64 0,.slice none 0 0,.slice none 0 0,.int .i64 0,.int .i64 0,.int .i64 0,.int .i64 0,.int .i64 0,.slice none 0 0,.int .i64 0,.int .i64 0,.int .i64 0,.bool false];have hxF:=setRow_heap Wf w.heap.size #[.int .i64 0,.int .i64 0,.int .i64 0,.int .i64 0,.int .i64 0,.slice none 0 0,.int .i64 0,.int .i64 0,.slice none 0 0,.slice none 0 0,.int .i64 0,.int .i64 0,.int .i64 0,.int .i64 0,.int .i64 0,.slice none 0 0,.int .i64 0,.int .i64 0,.int .i64 0,.bool false] #[.int .i64 0,.int .i64 0,.int .i64 tcv,.int .i64 0,.int .i64 0,.slice none 0 0,.int .i64 0,.int .i64 0,.slice none 0 0,.slice none 0 0,.int .i64 0,.int .i64 0,.int .i64 0,.int .i64 0,.int .i64 0,.slice none 0 0,.int .i64 0,.int .i64 0,.int .i64 0,.bool false] 62 _ hxRf
   have hvi14:∀b,(Value.slice a14 (nI+nq) c14).ownBlock=some b->x.vi.ownBlock=some b\/w10.heap.size<=b:=λb hb=>by
    rcases Hf14.o with h1|⟨g',h1,h2⟩
    ·rw [h1] at hb;exact .inl (by rw [hvi'];exact hb)
    ·rw [h1] at hb;simp only [Option.some.injEq] at hb;exact .inr j6
   have hw10l:W2.heap.size<=w10.heap.size:=(Hk7.o.nt Hkz10.o).size;have hKf:Keeps (TkS B x w W2) w10 (Wf.setRow w.heap.size #[.int .i64 0,.int .i64 0,.int .i64 tcv,.int .i64 0,.int .i64 0,.slice none 0 0,.int .i64 0,.int .i64 0,.slice none 0 0,.slice none 0 0,.int .i64 0,.int .i64 0,.int .i64 0,.int .i64 0,.int .i64 0,.slice none 0 0,.int .i64 0,.int .i64 0,.int .i64 0,.bool false]):=(((Hk14.o.mono λi _ e=> .inl (.inr j0t)).trans (k17.mono λi _ e=> .inl (.inl (.inl e)))).trans (kf.mono λi _ e=> .inl (.inl (.inl e)))).trans (kR.mono λi _ e=> .inl (.inr ⟨by have e':i=w.heap.size:=e;omega,by have e':i=w.heap.size:=e;have:=lt_of_block Hb2.o;omega⟩))
   have hri:(Wf.setRow w.heap.size #[.int .i64 0,.int .i64 0,.int .i64 tcv,.int .i64 0,.int .i64 0,.slice none 0 0,.int .i64 0,.int .i64 0,.slice none 0 0,.slice none 0 0,.int .i64 0,.int .i64 0,.int .i64 0,.int .i64 0,.int .i64 0,.slice none 0 0,.int .i64 0,.int .i64 0,.int .i64 0,.bool false]).ownsRow 0 60 9 (.slice a14 (nI+nq) c14) (x.I++Q).length ((x.I++Q).flatMap SV.cells):=by
    rw [List.length_append,HnI.o,Hnq.o,List.flatMap_append];refine kR.row (kf.row (k17.row Hown14.o λb hb e=> ?_) λb hb e=> ?_) λb hb e=> ?_
    ·exact j4G
    ·exact j4G
    ·have e':b=w.heap.size:=e;have:=lt_of_block Hb2.o;rcases hvi14 b hb with h1|h1
     ·have:=hvilt b h1;omega
     ·omega
   have hpost:=AcAt.ticked (d:=d) H.o (Hkw7.o.nt Hkz10.o) Hkw2.o (Hk7.o.nt Hkz10.o) hKf (by rw [Ht.o];exact HN.o) (by rw [Ht.o,HL1.o,Htd.o];exact HZ.o) Hz7.o (G.o.keep0 Hkz10.o) (by rw [Hn1'.o,Hn2'.o];exact hmo) (by rw [Hq.o,List.map_drop,G.o.lp,Hn1'.o]) Hqln.o Hqlf.o (by rw [Htd.o,hsq,Hn2.o];exact Ad hgf kR (λe=>hRB e.symm)) hri (Nat.le_refl _) hvi14;clear g1 g2 g3 g4 g5 g6 g7 hKf hri hvi14 hvilt;obtain⟨Hsq,K17,Hb17,Hx7,Hx11,HxR,Kf,Hgf,Hx11f⟩:=hid9 hsq k17 hb17 hx7 hx11 hxR kf hgf hx11f;clear hx11f hgf kf hxR hx11 hx7 hb17 k17 hsq;obtain⟨HxRf,KR,HxF,Hpost,HRB,Hb11B⟩:=hid6 hxRf kR hxF hpost hRB hb11B;clear hb11B hRB hpost hxF kR hxRf;have hc1:=Hte.o;have hc2:=Htk.o;have hc3:=Htcv.o;obtain⟨Hc1,Hc2,Hc3⟩:=hid3 hc1 hc2 hc3;clear hc3 hc2 hc1
   go_upto_region 16 with fail
   rw [<-hWf];clear hWf p0 p1 p2 pl d7 d8 d11 d12 d13 d14 d15 f7 f8 f11 f12 f13 f14 f15 fl q1 q2
   go_wp2_with (first|(refine wpList_store_row (o:=⟨none,_,_,_,_,_⟩) rfl 62 (.tmp 4) (.tmp 122) rfl w.heap.size #[.int .i64 0,.int .i64 0,.int .i64 tcv,.int .i64 0,.int .i64 0,.slice none 0 0,.int .i64 0,.int .i64 0,.slice none 0 0,.slice none 0 0,.int .i64 0,.int .i64 0,.int .i64 0,.int .i64 0,.int .i64 0,.slice none 0 0,.int .i64 0,.int .i64 0,.int .i64 0,.bool false] rfl rfl 62 #[.int .i64 0,.int .i64 0,.int .i64 0,.int .i64 0,.int .i64 0,.slice none 0 0,.int .i64 0,.int .i64 0,.slice none 0 0,.slice none 0 0,.int .i64 0,.int .i64 0,.int .i64 0,.int .i64 0,.int .i64 0,.slice none 0 0,.int .i64 0,.int .i64 0,.int .i64 0,.bool false] HxRf.o Ar rfl (Cu 0 0 tcv) ?_)|(refine wpList_load_row (o:=⟨some 122,_,_,_,_,_⟩) rfl 62 (.tmp 11) rfl b11 rfl 62 #[.int .i64 0,.int .i64 0,.int .i64 tcv,.int .i64 0,.int .i64 0,.slice none 0 0,.int .i64 0,.int .i64 0,.slice none 0 0,.slice none 0 0,.int .i64 0,.int .i64 0,.int .i64 0,.int .i64 0,.int .i64 0,.slice none 0 0,.int .i64 0,.int .i64 0,.int .i64 0,.bool false] _ _ Hx11f.o Tryz.underlying62 rfl Ar ?_))
   exact bodyPost_ret (results_cell_row rfl _ _ w.heap.size 62 #[.int .i64 0,.int .i64 0,.int .i64 tcv,.int .i64 0,.int .i64 0,.slice none 0 0,.int .i64 0,.int .i64 0,.slice none 0 0,.slice none 0 0,.int .i64 0,.int .i64 0,.int .i64 0,.int .i64 0,.int .i64 0,.slice none 0 0,.int .i64 0,.int .i64 0,.int .i64 0,.bool false] _ _ rfl HxF.o Tryz.underlying62 rfl Ar) rfl ⟨by rw [Hc1.o,Hc3.o],by rw [Hc2.o];exact Hpost.o⟩
 ·have hne:(z1 !=0)=true:=by simp [h0]
  have hc:=te_day (a:=a) Hd.o (by rw [Hst.o,Hcd.o,Htd.o,Hz1.o];exact h0);clear q1;obtain⟨Hc,H0⟩:=hid2 hc h0;clear h0 hc;go_wp2_with fail;refine(De 10 _).mono ?_;rintro e w3 ⟨rfl,hk3⟩;have hb3:=Ad Hb2.o hk3 (by simp);have hk03:=Hk02.o.nt hk3;clear hk3;obtain⟨Hb3,Hk03⟩:=hid2 hb3 hk03;clear hk03 hb3;obtain⟨hput1,hput2⟩:=putRow (V:= #[.int .i64 10,.int .i64 0,.int .i64 0,.int .i64 0,.int .i64 0,.slice none 0 0,.int .i64 0,.int .i64 0,.slice none 0 0,.slice none 0 0,.int .i64 0,.int .i64 0,.int .i64 0,.int .i64 0,.int .i64 0,.slice none 0 0,.int .i64 0,.int .i64 0,.int .i64 0,.bool false]) Hb3.o Hk03.o (Nat.le_refl _);obtain⟨Hput1,Hput2⟩:=hid2 hput1 hput2;clear hput2 hput1
  go_wp2_with (refine wpList_store_row rfl 62 (.tmp 4) (.tmp 41) rfl w.heap.size #[.int .i64 10,.int .i64 0,.int .i64 0,.int .i64 0,.int .i64 0,.slice none 0 0,.int .i64 0,.int .i64 0,.slice none 0 0,.slice none 0 0,.int .i64 0,.int .i64 0,.int .i64 0,.int .i64 0,.int .i64 0,.slice none 0 0,.int .i64 0,.int .i64 0,.int .i64 0,.bool false] rfl rfl 62 #[.int .i64 0,.int .i64 0,.int .i64 0,.int .i64 0,.int .i64 0,.slice none 0 0,.int .i64 0,.int .i64 0,.slice none 0 0,.slice none 0 0,.int .i64 0,.int .i64 0,.int .i64 0,.int .i64 0,.int .i64 0,.slice none 0 0,.int .i64 0,.int .i64 0,.int .i64 0,.bool false] Hb3.o Ar rfl (Cu 10 0 0) ?_)
  exact bodyPost_ret (results_cell_row rfl _ _ w.heap.size 62 #[.int .i64 10,.int .i64 0,.int .i64 0,.int .i64 0,.int .i64 0,.slice none 0 0,.int .i64 0,.int .i64 0,.slice none 0 0,.slice none 0 0,.int .i64 0,.int .i64 0,.int .i64 0,.int .i64 0,.int .i64 0,.slice none 0 0,.int .i64 0,.int .i64 0,.int .i64 0,.bool false] _ _ rfl Hput1.o Tryz.underlying62 rfl Ar) rfl ⟨by rw [Hc.o.1,Hc.o.2.1],by rw [Hc.o.2.2];exact Bv.same H.o Hput2.o⟩
end Go.Proofs.YtgbgmadkmabeeaaGreat
