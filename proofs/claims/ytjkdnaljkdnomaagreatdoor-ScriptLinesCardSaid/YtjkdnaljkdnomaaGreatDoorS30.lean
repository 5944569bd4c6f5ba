/- Part 30 of what the laws of this seat share: walks of functions, and plain laws. -/
import Derived.Test.YtjkdnaljkdnomaaGreatDoorS28
import Derived.Test.YtjkdnaljkdnomaaGreatDoorS29
set_option maxRecDepth 100000
set_option maxHeartbeats 3200000
namespace Go.Proofs.YtjkdnaljkdnomaaGreatDoor
open Go.RowKit
def acT9(B:Nat)(t:Tm)(vt:Value)(td:Int)(bl:Nat)(w:World):Prop:=tbS B t vt w/\w.cell? ⟨B,7,none⟩=some (.int .i64 td)/\w.cell? ⟨B,9,none⟩=some (.pointer (some ⟨bl,0,none⟩))
theorem acT9.of{w:World}{B:Nat}{x:AcV}{a:Ac}(h:AcAt w B x a):acT9 B a.t x.vt a.today x.bl w:=
 ⟨⟨Aa h.blk 0,Aa h.blk 1,Aa h.blk 2,Aa h.blk 3,Aa h.blk 4,Aa h.blk 5,Aa h.blk 6⟩,Aa h.blk 7,Aa h.blk 9⟩
def cy7S(B:Nat)(st cd td:Int)(w:World):Prop:=w.cell? ⟨B,6,none⟩=some (.int .i64 st)/\w.cell? ⟨B,2,none⟩=some (.int .i64 cd)/\w.cell? ⟨B,7,none⟩=some (.int .i64 td)
theorem te_arg{a:Ac}{d:Int}(h:d<1\/400<d):a.te d=1/\a.tc d=0/\a.tick d=a:=by
 have h1:a.te d=1:=by unfold Ac.te;rw [if_pos h]
 exact⟨h1,by unfold Ac.tc;rw [h1];simp,by unfold Ac.tick;rw [h1];simp⟩
theorem te_day{a:Ac}{d:Int}(h:¬(d<1\/400<d))(h2:¬ofE a.t.start a.t.cyc (a.today+d)=0):a.te d=10/\a.tc d=0/\a.tick d=a:=by
 have h1:a.te d=10:=by unfold Ac.te;rw [if_neg h,if_pos h2]
 exact⟨h1,by unfold Ac.tc;rw [h1];simp,by unfold Ac.tick;rw [h1];simp⟩
theorem te_run{a:Ac}{d:Int}(h:¬(d<1\/400<d))(h2:ofE a.t.start a.t.cyc (a.today+d)=0):a.te d=(a.tz d).2:=by
 unfold Ac.te;rw [if_neg h,if_neg j6]
theorem te_bad{a:Ac}{d:Int}(h:¬(d<1\/400<d))(h2:ofE a.t.start a.t.cyc (a.today+d)=0)(h3:¬(a.tz d).2=0):a.te d=(a.tz d).2/\a.tc d=0/\a.tick d=a:=by
 have h1:=te_run h h2;exact⟨h1,by unfold Ac.tc;rw [h1,if_neg (λe=>h3 e.1)],by unfold Ac.tick;rw [h1,if_neg h3]⟩
theorem te_ok{a:Ac}{d:Int}(h:¬(d<1\/400<d))(h2:ofE a.t.start a.t.cyc (a.today+d)=0)(h3:(a.tz d).2=0):a.te d=0/\a.tc d=(if a.s.out.length<(a.tz d).1.out.length then((a.tz d).1.out.length:Int) else 0)/\a.tick d={ a with today:=a.today+d,s:=(a.tz d).1,iss:=a.iss++(a.tz d).1.out.drop a.s.out.length,seq:=a.seq+1 }:=by
 have h1:a.te d=0:=(te_run h h2).trans h3;refine⟨h1, ?_,by unfold Ac.tick;rw [h1,if_pos rfl]⟩;unfold Ac.tc;rw [h1];by_cases h4:a.s.out.length<(a.tz d).1.out.length
 ·rw [if_pos ⟨rfl,h4⟩,if_pos h4]
 ·rw [if_neg (λe=>h4 e.2),if_neg h4]
def t12S(B:Nat)(vi vn:Value)(w:World):Prop:=w.cell? ⟨B,16,none⟩=some vi/\w.cell? ⟨B,15,none⟩=some vn
theorem t12S.of{w W:World}{B:Nat}{x:AcV}{a:Ac}(h:AcAt w B x a)(hk:K0 w W):t12S B x.vi x.vn W:=by
 have hA:=h.keep0 hk;exact⟨Aa hA.blk 16,Aa hA.blk 15⟩
theorem drop_stms{w:World}{ao:Option Addr}{n2 co n1:Nat}{P:List SV}(h:StmsR w ao n2 co P)(hn:n1<=n2):StmsR w (if co=n1 then ao else Option.map (λx=>x.add (n1*9)) ao) (n2-n1) (co-n1) (P.drop n1):=by
 obtain⟨⟨ad,c,he,hnc,hl,hnone,hcells⟩,h2,h3,h4⟩:=h;simp only [Value.slice.injEq,true_and] at he;obtain⟨rfl,rfl⟩:=he;refine⟨⟨_,_,rfl,by omega, ?_,λhz=> ?_,λj u hj=> ?_⟩,λx hx=>h2 x (List.mem_of_mem_drop hx),λx hx=>h3 x (List.mem_of_mem_drop hx),by rw [List.length_drop,h4]⟩
 ·rw [Cs SV.Aj,List.length_drop,h4]
 ·by_cases hc:co=n1
  ·omega
  ·rw [if_neg hc] at hz;rw [Option.map_eq_none_iff] at hz;have:=hnone hz;omega
 ·rw [<-Pg SV.Aj,List.getElem?_drop] at hj;obtain⟨g,o,rfl,hh⟩:=hcells _ _ hj;by_cases hc:co=n1
  ·have h5:n2=n1:=j8;have h6:=(List.getElem?_eq_some_iff.1 hj).1;rw [hl] at h6;exact absurd h6 (by rw [h5];omega)
  ·rw [if_neg hc];exact⟨g,o+n1*9,by rw [Option.map_some,Ef],by rw [Nat.add_assoc];exact hh⟩
theorem SV.one(L:List SV):∀u∈L.flatMap SV.cells,u.oneCell'=true:=by
 intro u hu;obtain⟨y,_,hy⟩:=List.mem_flatMap.1 hu;simp only [SV.cells,SV.v,List.mem_cons,List.not_mem_nil,or_false] at hy;rcases hy with rfl|rfl|rfl|rfl|rfl|rfl|rfl|rfl|rfl<;>simp [Value.oneCell']
theorem t12S.keepS{B:Nat}{vi vn:Value}{w w':World}{S:Nat->Prop}(h:t12S B vi vn w)(hk:Keeps S w w')(hS:¬S B):t12S B vi vn w':=⟨(hk.cell (Ai h.1) hS).trans h.1,(hk.cell (Ai h.2) hS).trans h.2⟩
theorem En.keep0{w0 W W':World}{n:Nat}{s:St}{vb vr vo:Value}{P:List SV}(g:En w0 n s vb vr vo P W)(hk:K0 W W'):En w0 n s vb vr vo P W':=
 ⟨g.bal.of_keeps hk,g.rts.of_keeps hk,g.out.of_keeps hk,λx hx=>(g.ln x hx).of_keeps hk,g.lp,g.nb,g.nr,g.wb,g.wr,g.wo,g.wl,g.kp.nt hk⟩
def TkS(B:Nat)(x:AcV)(w W2:World)(i:Nat):Prop:=(i=B\/x.vi.ownBlock=some i)\/(w.heap.size<=i/\i<W2.heap.size)
theorem AcAt.ticked{w wc Wf W2:World}{B n M:Nat}{x:AcV}{a:Ac}{d:Int}{Z:St×Int}{vp vr vn vi:Value}{P Q:List SV}(h:AcAt w B x a)(hkc:K0 w wc)(hk2:K0 w W2)(_:K0 W2 wc)
  (hK:Keeps (TkS B x w W2) wc Wf) (_:a.t.trs.length=n) (hZ:walkR a.t a.L (a.today+d)=Z) (hz:Z.2=0) (g:En W2 n Z.1 vp vr vn P wc) (hmo:a.s.out.length<=Z.1.out.length) (hq:Q.map SV.s=Z.1.out.drop a.s.out.length)
  (hql:∀y∈Q,wc.ownsRow 0 212 3 y.v y.s.lines.length (y.s.lines.flatMap Ln.cells)) (hqf:∀y∈Q,∀b,y.v.ownBlock=some b->W2.heap.size<=b)
  (hb:Wf.heap[B]?=some (.cells #[.int .i64 a.t.limit,x.vt,.int .i64 a.t.cyc,.int .i64 a.t.due,.int .i64 a.t.minFixed,.int .i64 a.t.minPart,.int .i64 a.t.start,.int .i64 (a.today+d),.int .i64 (a.seq+1),(.pointer (some ⟨x.bl,0,none⟩)),(.pointer (some ⟨x.bb,0,none⟩)),vp,.int .i64 Z.1.p.cr,.int .i64 Z.1.p.du,vr,vn,vi,x.va] 104 (0,0)))
  (hri:Wf.ownsRow 0 59 9 vi (x.I++Q).length ((x.I++Q).flatMap SV.cells)) (hM1:wc.heap.size<=M) (hvi:∀b,vi.ownBlock=some b->x.vi.ownBlock=some b\/M<=b):
  Ca w B x { a with today:=a.today+d,s:=Z.1,iss:=a.iss++Z.1.out.drop a.s.out.length,seq:=a.seq+1 } Wf:=by
 have hA:=h.keep0 hkc;have hBl:=lt_of_block h.blk;have hvil:∀b,x.vi.ownBlock=some b->b<w.heap.size:=λb hb=>rowLt h.iss hb;have hsz:=hk2.size;have hszc:=hkc.size;have hZ1:Z=(Z.1,0):=by rw [<-hz]
 obtain⟨o1,o2,_,_⟩:=Mr hZ hz
 have hok:AcOk { a with today:=a.today+d,s:=Z.1,iss:=a.iss++Z.1.out.drop a.s.out.length,seq:=a.seq+1 }:=by
  refine⟨by show walkR a.t a.L (a.today+d)=(Z.1,0);rw [hZ];exact hZ1, ?_,λy hy=> ?_, ?_,by have:=h.ok.s0;show 0<=a.seq+1;omega⟩
  ·show(a.iss++Z.1.out.drop a.s.out.length).length=Z.1.out.length;rw [List.length_append,List.length_drop,h.ok.il];omega
  ·have hy':y∈a.iss++Z.1.out.drop a.s.out.length:=hy;rcases List.mem_append.1 hy' with h1|h1
   ·exact h.ok.ill y h1
   ·exact o1 y (List.mem_of_mem_drop h1)
  ·have:=h.ok.aj;show(a.adj.length:Int)<=301000*(a.seq+1);omega
 have nw:∀b,W2.heap.size<=b->¬TkS B x w W2 b:=λb hb e=>by
  rcases e with(e|e)|⟨_,e⟩
  ·omega
  ·have:=hvil b e;omega
  ·omega
 have hold:∀b,x.rd b->¬TkS B x w W2 b:=λb hb e=>by
  rcases e with e|⟨e,_⟩
  ·exact h.sep b hb (e.elim .inl λe=> .inr (.inl e))
  ·have:=h.lt b (.inr hb);omega
 have hrd:∀b,AcV.rd ({ x with vp:=vp,vr:=vr,vn:=vn,vi:=vi,P:=P,I:=x.I++Q }:AcV) b->x.rd b\/(w.heap.size<=b/\b<M):=by
  rintro b (hb|hb|hb|hb|hb|hb|hb|hb|⟨y,hy,hb⟩|⟨y,hy,hb⟩)
  ·exact .inl (.inl hb)
  ·have:=g.wb b hb;have:=rowLt g.bal hb;exact .inr ⟨by omega,by omega⟩
  ·have:=g.wr b hb;have:=rowLt g.rts hb;exact .inr ⟨by omega,by omega⟩
  ·have:=g.wo b hb;have:=rowLt g.out hb;exact .inr ⟨by omega,by omega⟩
  ·exact .inl (.inr (.inr (.inr (.inr (.inl hb)))))
  ·exact j26
  ·exact .inl (.inr (.inr (.inr (.inr (.inr (.inr (.inl hb)))))))
  ·exact .inl (.inr (.inr (.inr (.inr (.inr (.inr (.inr (.inl hb))))))))
  ·have:=g.wl y hy b hb;have:=rowLt (g.ln y hy) hb;exact .inr ⟨by omega,by omega⟩
  ·rcases List.mem_append.1 hy with h1|h1
   ·exact .inl (.inr (.inr (.inr (.inr (.inr (.inr (.inr (.inr (.inr ⟨y,h1,hb⟩)))))))))
   ·have:=hqf y h1 b hb;have:=rowLt (hql y h1) hb;exact .inr ⟨by omega,by omega⟩
 have haf:∀b,AcF B ({ x with vp:=vp,vr:=vr,vn:=vn,vi:=vi,P:=P,I:=x.I++Q }:AcV) b->AcF B x b\/M<=b:=by
  rintro b (hb|hb|hb)
  ·exact .inl (.inl hb)
  ·exact(hvi b hb).imp (λe=> .inr (.inl e)) id
  ·exact .inl (.inr (.inr hb))
 have hKF:=(hkc.mono (T:=AcF B x) (by simp)).trans (hK.mono λi _ e=>e.elim (λe=> .inl (e.elim .inl λe=> .inr (.inl e))) λe=> .inr e.1)
 obtain⟨h1,h2⟩:=AcAt.build (x':={ x with vp:=vp,vr:=vr,vn:=vn,vi:=vi,P:=P,I:=x.I++Q }) (a':={ a with today:=a.today+d,s:=Z.1,iss:=a.iss++Z.1.out.drop a.s.out.length,seq:=a.seq+1 }) h M j6 hKF rfl rfl hb
  (hA.dl.keepS hK (hold _ (.inr (.inr (.inr (.inr (.inl rfl)))))) (λb hb=>hold b (.inr (.inr (.inr (.inr (.inr (.inl hb))))))) (λb hb=>hold b (.inr (.inr (.inr (.inr (.inr (.inr (.inl hb)))))))))
  (hA.bk.keeps hK λb hb=>hold b (.inr (.inr (.inr (.inr (.inr (.inr (.inr (.inl hb)))))))))
  j4g j4h (hK.row g.out λb hb=>nw b (g.wo b hb)) (λy hy=>hK.row (g.ln y hy) λb hb=>nw b (g.wl y hy b hb)) g.lp
  hri (λy hy=>by
   rcases List.mem_append.1 hy with h1|h1
   ·exact hK.row (hA.iln y h1) λb hb=>hold b (.inr (.inr (.inr (.inr (.inr (.inr (.inr (.inr (.inr ⟨y,h1,hb⟩)))))))))
   ·exact hK.row (hql y h1) λb hb=>nw b (hqf y h1 b hb)) (by rw [List.map_append,hA.is,hq]) (hK.row hA.adj λb hb e=>by
   rcases e with(e|e)|⟨e,_⟩
   ·exact h.sa b hb e
   ·exact h.si b e (.inr hb)
   ·have:=rowLt h.adj hb;omega) hok hrd haf
 exact⟨_,h1,hKF,h2⟩
def Vg(a:Ac)(d:Int)(w:World)(B:Nat)(x:AcV)(e:Ending)(w':World):Prop:=e= .returned (.agg #[.int .i64 (a.te d),.int .i64 0,.int .i64 (a.tc d),.int .i64 0,.int .i64 0,.slice none 0 0,.int .i64 0,.int .i64 0,.slice none 0 0,.slice none 0 0,.int .i64 0,.int .i64 0,.int .i64 0,.int .i64 0,.int .i64 0,.slice none 0 0,.int .i64 0,.int .i64 0,.int .i64 0,.bool false])/\Ca w B x (a.tick d) w'
theorem Acf(B:Nat)(x:AcV)(a:Ac)(d:Int)(w:World)(h:AcAt w B x a)(hd:d<1\/400<d):Calls Tryz.prog 61 #[(.pointer (some ⟨B,0,none⟩)),.int .i64 d] w (Vg a d w B x):=by
 by_cases h1:d<1
 ·exact j4s
 ·have h2:400<d:=j8;exact j4s
theorem Acg(B:Nat)(x:AcV)(a:Ac)(d:Int)(w:World)(h:AcAt w B x a)(hs:a.seq<=100000)(hmo:a.te d=0->a.s.out.length<=(a.tz d).1.out.length):Calls Tryz.prog 61 #[(.pointer (some ⟨B,0,none⟩)),.int .i64 d] w (Vg a d w B x):=by
 by_cases hd:d<1\/400<d
 ·exact Acf B x a d w h hd
 obtain⟨i0,hi,hi0,hi1,hi2⟩:=info_parts Nb;have hn:=h.ok.nums;have hd1:¬d<1:=j8;have hd2:¬400<d:=j8;obtain⟨W0,hW0⟩:=eY (w.alloc (.cells #[.int .i64 0,.int .i64 0,.int .i64 0,.int .i64 0,.int .i64 0,.slice none 0 0,.int .i64 0,.int .i64 0,.slice none 0 0,.slice none 0 0,.int .i64 0,.int .i64 0,.int .i64 0,.int .i64 0,.int .i64 0,.slice none 0 0,.int .i64 0,.int .i64 0,.int .i64 0,.bool false] 61));have hb0:W0.heap[w.heap.size]?=some (.cells #[.int .i64 0,.int .i64 0,.int .i64 0,.int .i64 0,.int .i64 0,.slice none 0 0,.int .i64 0,.int .i64 0,.slice none 0 0,.slice none 0 0,.int .i64 0,.int .i64 0,.int .i64 0,.int .i64 0,.int .i64 0,.slice none 0 0,.int .i64 0,.int .i64 0,.int .i64 0,.bool false] 61 (0,0)):=by rw [hW0];exact heap_alloc_new w _
 have hk0:K0 w W0:=by rw [hW0];exact Keeps.alloc _ _
 obtain⟨st,hst⟩:=eX a.t.start;obtain⟨cd,hcd⟩:=eX a.t.cyc;obtain⟨td,htd⟩:=eX a.today;have td0: -135140<=td:=by have:=hn.ds;have:=hn.d0;omega
 have td1:td<=2932896:=by have:=hn.d1;omega
 have hcy:=λW=>Qy st cd (td+d) W ⟨by have:=hn.ds;omega,by have:=hn.d0;have:=hn.d1;omega⟩;obtain⟨z1,hz1⟩:=eX (ofE st cd (td+d));obtain⟨y1,hy1⟩:=eX (ofV st cd (td+d));rw [hz1,hy1] at hcy
 have hcS:∀W,K0 w W->cy7S B st cd td W:=λW hW=>by
  have hA:=h.keep0 hW;exact⟨by rw [<-hst];exact Aa hA.blk 6,by rw [<-hcd];exact Aa hA.blk 2,by rw [<-htd];exact Aa hA.blk 7⟩
 have q1:IntKind.i64.wrap (td+d)=td+d:=IntWalk.i64_in _ ⟨by omega,by omega⟩;have HBl:=Lib.hid (lt_of_block h.blk);have hbl:=lt_of_block h.blk;obtain⟨H,Hn,Hb0,Hk0,Hcy,Hz1⟩:=hid6 h hn hb0 hk0 hcy hz1;clear hz1 hcy hk0 hb0 hn h hy1;obtain⟨HcS,Hst,Hcd,Htd,Hmo,Hd,Hi,Hi0,Hi1⟩:=hid9 hcS hst hcd htd hmo hd hi hi0 hi1;clear hi1 hi0 hi hd hmo htd hcd hst hcS;have Hi2:=Lib.hid hi2;clear hi2;go_enter Tryz.func61,Tryz.ntmps61
 go_upto_region 3 with fail
 rw [<-hW0];clear hW0;refine Ak (cy7S B st cd td) (.take 0 (.take 1 (.take 2 (.take 3 (.take 4 (.take 5 (.take 6 (.take 7 (.take 8 (.take 9 (.take 10 (.take 11 (.take 12 (.take 13 (.take 14 (.take 15 (.move 16 (.take 17 (.take 18 (.take 19 (.take 20 (.take 21 .done)))))))))))))))))))))) j9 j9 ?_ ?_
 ·exact HcS.o _ (Hk0.o.nt (Keeps.drew _))
 intro w1 hs1 hk1;refine je ?_;intro K hK
 go_at_call 68
 ((with_reducible refine(Hcy.o w1).mono ?_);rintro e w2 ⟨rfl,hk2⟩;dsimp only)
 have hk02:=Keeps.nt (Keeps.nt Hk0.o hk1) hk2;refine hK.out _ _ (by exact HcS.o _ hk02) ?_;clear hK K;refine jc ?_;have hb2:=Ad (Ad Hb0.o hk1 (by simp)) hk2 (by simp);clear hs1 hk1 hk2;obtain⟨Hk02,Hb2⟩:=hid2 hk02 hb2;clear hb2 hk02;refine jm ?_;by_cases h0:z1=0
 ·subst h0;have hofz:ofE a.t.start a.t.cyc (a.today+d)=0:=by rw [Hst.o,Hcd.o,Htd.o,Hz1.o]
  have hkw2:=Hk02.o;obtain⟨n,hN⟩:=eX a.t.trs.length;obtain⟨Z,hZ⟩:=eX (walkR a.t a.L (a.today+d));have hcz:a.tz d=Z:=hZ;obtain⟨adt,ct,hvt,_,_⟩:=Ae H.o.trs;have hrt:=Reads.Bg H.o.trs;rw [hN] at hvt hrt;obtain⟨t,ht⟩:=eX a.t;obtain⟨L1,hL1⟩:=eX a.L;have hL1l:L1.length<=3000:=by rw [<-hL1];have:=Hn.o.ll;omega
  rw [ht,hL1,Htd.o] at hZ;rw [ht] at hN hrt;rw [hvt] at hrt;have hdl2:=H.o.dl.keep hkw2;rw [ht,hL1] at hdl2;obtain⟨B1,hB1⟩:=eX x.bl;rw [hB1] at hdl2;have hall:=λW (hW:K0 w2 W)=>Us B1 t x.vtl x.vl L1 W (hdl2.keep hW) j6;have hrun:=λW (hW:K0 w2 W) ad c (hr:Reads W 5 (.slice ad L1.length c) L1.length (L1.flatMap Ev.cells))=>Pe t adt ct n L1 ad c L1.length (td+d) W hN (hrt.keeps (hkw2.nt hW) (by simp)) rfl hr j6 (by have:=Hn.o.n8;rw [ht,hN] at this;omega);rw [hZ] at hrun;have hSk:∀W,K0 w2 W->acT9 B t (.slice adt n ct) td B1 W:=λW hW=>by have:=acT9.of (H.o.keep0 (hkw2.nt hW));rw [ht,Htd.o,hvt,hB1] at this;exact this
  obtain⟨W2,hW2⟩:=eY w2;subst hW2;have HBl2:=Lib.hid (Nat.lt_of_lt_of_le HBl.o hkw2.size);clear HBl;have HBl:=HBl2;clear HBl2;have Hkw2:=Lib.hid hkw2;clear hkw2 hdl2;have HL1:=Lib.hid hL1;clear hL1 hL1l;obtain⟨HN,HZ⟩:=hid2 hN hZ;clear hZ hN hvt hrt;obtain⟨Ht,Hall,Hrun,HSk,Hcz,Hofz⟩:=hid6 ht hall hrun hSk hcz hofz;clear hofz hcz hSk hrun hall ht hB1
  go_upto_region 6 with fail
  go_cut [7,8,9,10] (λp r q z wx=>CnRun W2 n Z p r q z wx)
  case first=>
   refine Ak (acT9 B t (.slice adt n ct) td B1) (.take 0 (.take 1 (.take 2 (.take 3 (.take 4 (.take 5 (.take 6 (.take 7 (.take 9 (.take 10 (.take 11 (.take 12 (.take 13 (.take 14 (.fork 8 (.fork 15 (.take 16 (.take 17 (.take 18 (.take 19 (.take 20 (.move 21 (.move 22 (.take 23 (.take 24 (.take 25 .done)))))))))) 21 (.move 15 (.take 16 (.take 17 (.take 18 (.take 19 (.take 20 (.move 22 (.take 23 (.take 24 (.take 25 .done))))))))))) 21 (.move 8 (.move 15 (.take 16 (.take 17 (.take 18 (.take 19 (.take 20 (.move 22 (.take 23 (.take 24 (.take 25 .done)))))))))))))))))))))))))) j9 j9 ?_ ?_
   ·exact HSk.o _ (Keeps.drew _)
   intro w3 hs3 hk3;refine jv ?_;refine Dx ?_ ?_ (HSk.o _ hk3)
   ·skip
    refine ja ?_;intro K hK
    go_at_call 87
    ((with_reducible refine(Hall.o w3 hk3).mono ?_);rintro e w4 hg)
    obtain⟨v',rfl,hrd,hkg,hng⟩:=hg;obtain⟨ae,ce,rfl,_⟩:=id hrd;dsimp only;have hkn:K0 W2 w4:=Keeps.nt hk3 hkg;refine hK.out _ _ j16 ?_;clear hK K;refine jc ?_;refine jv ?_;refine Dx ?_ ?_ (HSk.o _ hkn)
    ·skip
     refine ja ?_;intro K hK
     go_at_call 52
     ((with_reducible refine(Hrun.o w4 hkn ae ce hrd).mono ?_);intro e w5 hpo)
     obtain⟨vb2,cr2,du2,vr2,vo2,z2,rfl,hi2,hk7,a2,n2,c2,rfl⟩:=Qv hpo;clear hpo;refine j17 ?_;intro hkr;clear hK K;refine jc ?_;refine jv ?_;obtain⟨w8,hw8⟩:=eY ((w5).alloc (.cells #[.slice none 0 0,.int .i64 0,.int .i64 0] 51));obtain⟨b7,hb7⟩:=eY ((w5).heap.size);have hkA:K0 w5 w8:=by rw [hw8];exact Keeps.alloc _ _
     have hz8:(w8).heap[b7]?=some (.cells #[.slice none 0 0,.int .i64 0,.int .i64 0] 51 (0,0)):=by rw [hw8,hb7];exact heap_alloc_new _ _
     have hb7l:W2.heap.size<=b7:=by rw [hb7];exact(hkr).size
     have hka8:K0 W2 w8:=Keeps.nt hkr hkA;have hb7B:¬B=b7:=λe=>by have:=HBl.o;omega
     have hb7w:(w5).heap.size<=b7:=by rw [hb7];exact Nat.le_refl _
     refine ja ?_;intro K hK;rw [<-hw8,<-hb7];clear hw8 hb7;refine j0k ?_;clear hK K;refine jc ?_;refine jv ?_;refine j4i ?_;intro z0 z1 z2' zf0 zf1 zf2 hbz hkz hk4z hrel;exact j29
    ·skip
     obtain⟨w8,hw8⟩:=eY ((w4).alloc (.cells #[.slice none 0 0,.int .i64 0,.int .i64 0] 51));obtain⟨b7,hb7⟩:=eY ((w4).heap.size);have hkA:K0 w4 w8:=by rw [hw8];exact Keeps.alloc _ _
     have hz8:(w8).heap[b7]?=some (.cells #[.slice none 0 0,.int .i64 0,.int .i64 0] 51 (0,0)):=by rw [hw8,hb7];exact heap_alloc_new _ _
     have hb7l:W2.heap.size<=b7:=by rw [hb7];exact(hkn).size
     have hka8:K0 W2 w8:=Keeps.nt hkn hkA;have hb7B:¬B=b7:=λe=>by have:=HBl.o;omega
     have hb7w:(w4).heap.size<=b7:=by rw [hb7];exact Nat.le_refl _
     refine ja ?_;intro K hK;rw [<-hw8,<-hb7];clear hw8 hb7;refine j0k ?_;clear hK K;refine jc ?_;refine jv ?_;have hrd8:=hrd.keeps hkA (by simp);refine ja ?_;intro K hK
     go_at_call 52
     ((with_reducible refine(Hrun.o w8 hka8 ae ce hrd8).mono ?_);intro e w5 hpo)
     obtain⟨vb2,cr2,du2,vr2,vo2,z2,rfl,hi2,hk7,a2,n2,c2,rfl⟩:=Qv hpo;clear hpo;dsimp only;have hkr:K0 W2 w5:=Keeps.nt hka8 hk7;refine hK.out _ _ (by exact HSk.o _ hkr) ?_;clear hK K;refine jc ?_;have hz5:=Ad hz8 hk7 (by simp);have hl8:=lt_of_block hz8;refine jv ?_;refine j18 ?_;intro z0 z1 z2' zf0 zf1 zf2 hbz hkz hk4z;refine j4j ?_;intro hrel;exact j29
   ·skip
    obtain⟨w8,hw8⟩:=eY ((w3).alloc (.cells #[.slice none 0 0,.int .i64 0,.int .i64 0] 51));obtain⟨b7,hb7⟩:=eY ((w3).heap.size);have hkA:K0 w3 w8:=by rw [hw8];exact Keeps.alloc _ _
    have hz8:(w8).heap[b7]?=some (.cells #[.slice none 0 0,.int .i64 0,.int .i64 0] 51 (0,0)):=by rw [hw8,hb7];exact heap_alloc_new _ _
    have hb7l:W2.heap.size<=b7:=by rw [hb7];exact(hk3).size
    have hka8:K0 W2 w8:=Keeps.nt hk3 hkA;have hb7B:¬B=b7:=λe=>by have:=HBl.o;omega
    have hb7w:(w3).heap.size<=b7:=by rw [hb7];exact Nat.le_refl _
    refine ja ?_;intro K hK;rw [<-hw8,<-hb7];clear hw8 hb7;refine j0k ?_;clear hK K;refine jc ?_;refine jv ?_;refine ja ?_;intro K hK
    go_at_call 87
    ((with_reducible refine(Hall.o w8 hka8).mono ?_);rintro e w4 hg)
    obtain⟨v',rfl,hrd,hkg,hng⟩:=hg;obtain⟨ae,ce,rfl,_⟩:=id hrd;dsimp only;have hkn:K0 W2 w4:=Keeps.nt hka8 hkg;refine hK.out _ _ j16 ?_;clear hK K;refine jc ?_;have hz4:=Ad hz8 hkg (by simp);have hl4:=lt_of_block hz4;refine jv ?_;refine ja ?_;intro K hK
    go_at_call 52
    ((with_reducible refine(Hrun.o w4 hkn ae ce hrd).mono ?_);intro e w5 hpo)
    obtain⟨vb2,cr2,du2,vr2,vo2,z2,rfl,hi2,hk7,a2,n2,c2,rfl⟩:=Qv hpo;clear hpo;refine j17 ?_;intro hkr;clear hK K;refine jc ?_;have hz5:=Ad hz4 hk7 (by simp);refine jv ?_;refine j18 ?_;intro z0 z1 z2' zf0 zf1 zf2 hbz hkz hk4z;refine j4k ?_;intro hrel;exact j29
  obtain⟨b7,vb,vr,vo,cr,du,zz,rfl,rfl,rfl,rfl,hb7,hk7,hbx7,hi7,av,mv,cv,rfl⟩:=hcut;obtain⟨W7,hW7⟩:=eY wc;subst hW7;have hkw7:=Hkw2.o.nt hk7;have hb7':=Ad Hb2.o hk7 (by simp);clear q1
  cases hi7 with
  |bad hz7=>
   obtain⟨zz,hzz⟩:=eX Z.2;rw [hzz] at hz7⊢;have hne:(zz !=0)=true:=by simp [hz7]
   have hc:=te_bad (a:=a) Hd.o Hofz.o (by rw [Hcz.o,hzz];exact hz7);rw [Hcz.o,hzz] at hc;clear hzz;obtain⟨Hz7,Hc,Hkw7,Hk7,Hbx7,Hb7'⟩:=hid6 hz7 hc hkw7 hk7 hbx7 hb7';clear hb7' hbx7 hk7 hkw7 hc hz7;go_wp2_with fail;refine(Dg zz _).mono ?_;rintro e w8 ⟨rfl,hk8⟩;have hb8:=Ad Hb7'.o hk8 (by simp);have hk08:=Hkw7.o.nt hk8;clear hk8;obtain⟨Hb8,Hk08⟩:=hid2 hb8 hk08;clear hk08 hb8;obtain⟨hput1,hput2⟩:=putRow (V:= #[.int .i64 zz,.int .i64 0,.int .i64 0,.int .i64 0,.int .i64 0,.slice none 0 0,.int .i64 0,.int .i64 0,.slice none 0 0,.slice none 0 0,.int .i64 0,.int .i64 0,.int .i64 0,.int .i64 0,.int .i64 0,.slice none 0 0,.int .i64 0,.int .i64 0,.int .i64 0,.bool false]) Hb8.o Hk08.o (Nat.le_refl _);obtain⟨Hput1,Hput2⟩:=hid2 hput1 hput2;clear hput2 hput1
   go_wp2_with (refine wpList_store_row rfl 61 (.tmp 4) (.tmp 66) rfl w.heap.size #[.int .i64 zz,.int .i64 0,.int .i64 0,.int .i64 0,.int .i64 0,.slice none 0 0,.int .i64 0,.int .i64 0,.slice none 0 0,.slice none 0 0,.int .i64 0,.int .i64 0,.int .i64 0,.int .i64 0,.int .i64 0,.slice none 0 0,.int .i64 0,.int .i64 0,.int .i64 0,.bool false] rfl rfl 61 #[.int .i64 0,.int .i64 0,.int .i64 0,.int .i64 0,.int .i64 0,.slice none 0 0,.int .i64 0,.int .i64 0,.slice none 0 0,.slice none 0 0,.int .i64 0,.int .i64 0,.int .i64 0,.int .i64 0,.int .i64 0,.slice none 0 0,.int .i64 0,.int .i64 0,.int .i64 0,.bool false] Hb8.o Au rfl (Da zz 0 0) ?_)
   exact bodyPost_ret (results_cell_row rfl _ _ w.heap.size 61 #[.int .i64 zz,.int .i64 0,.int .i64 0,.int .i64 0,.int .i64 0,.slice none 0 0,.int .i64 0,.int .i64 0,.slice none 0 0,.slice none 0 0,.int .i64 0,.int .i64 0,.int .i64 0,.int .i64 0,.int .i64 0,.slice none 0 0,.int .i64 0,.int .i64 0,.int .i64 0,.bool false] _ _ rfl Hput1.o Tryz.underlying61 rfl Au) rfl ⟨by rw [Hc.o.1,Hc.o.2.1],by rw [Hc.o.2.2];exact Ca.same H.o Hput2.o⟩
  | @ok _ _ _ P hz7 g=>
   have hA:=H.o.keep0 hkw7;obtain⟨hte,htc,htk⟩:=te_ok (a:=a) Hd.o Hofz.o (by rw [Hcz.o];exact hz7);have hmo:=Hmo.o hte;rw [Hcz.o] at htc htk hmo;obtain⟨adn,cn,hvn,hstm,hPl⟩:=hA.stmN;obtain⟨ao,co,rfl,hco,hao⟩:=Ae g.out;obtain⟨ar,cr2,rfl,_,_⟩:=Ae g.rts;obtain⟨o1,o2,_,_⟩:=Mr HZ.o hz7;obtain⟨n1,hn1⟩:=eX x.P.length;obtain⟨n2,hn2⟩:=eX P.length;have hn1':a.s.out.length=n1:=by rw [<-hn1,<-H.o.ns,List.length_map]
   have hn2':Z.1.out.length=n2:=by rw [<-hn2,<-g.lp,List.length_map]
   rw [hn1',hn2'] at hmo htc;rw [hn2];rw [hn1] at hvn hPl;rw [hn2] at hco
   have hll:∀y∈P,y.s.lines.length<=1000:=λy hy=>by
    exact j4l
   have hn2l:n2<=300:=by rw [<-hn2'];exact o2
   obtain⟨tcv,htcv⟩:=eX (a.tc d);rw [htcv] at htc;obtain⟨w8,hw8⟩:=eY ((W7.alloc (.cells #[.int .i64 0,.int .i64 0,.int .i64 0,.int .i64 0,.int .i64 0,.slice none 0 0,.int .i64 0,.int .i64 0,.slice none 0 0,.slice none 0 0,.int .i64 0,.int .i64 0,.int .i64 0,.int .i64 0,.int .i64 0,.slice none 0 0,.int .i64 0,.int .i64 0,.int .i64 0,.bool false] 61)).setRow W7.heap.size #[.int .i64 0,.int .i64 0,.int .i64 0,.int .i64 0,.int .i64 0,.slice none 0 0,.int .i64 0,.int .i64 0,.slice none 0 0,.slice none 0 0,.int .i64 0,.int .i64 0,.int .i64 0,.int .i64 0,.int .i64 0,.slice none 0 0,.int .i64 0,.int .i64 0,.int .i64 0,.bool false]);obtain⟨b11,hb11⟩:=eY W7.heap.size;have hb11l:W7.heap.size<=b11:=by rw [hb11];exact Nat.le_refl _
   have hk8:K0 W7 w8:=by rw [hw8];exact(Keeps.alloc (S:=λ_=>False) W7 (.cells #[.int .i64 0,.int .i64 0,.int .i64 0,.int .i64 0,.int .i64 0,.slice none 0 0,.int .i64 0,.int .i64 0,.slice none 0 0,.slice none 0 0,.int .i64 0,.int .i64 0,.int .i64 0,.int .i64 0,.int .i64 0,.slice none 0 0,.int .i64 0,.int .i64 0,.int .i64 0,.bool false] 61)).trans ((Cg _ _ _).mono λi _ e=> .inr (by have e':i=W7.heap.size:=e;omega))
   have c15:w8.cell? ⟨B,15,none⟩=some (.slice adn n1 cn):=by rw [<-hvn];exact Aa (hA.keep0 hk8).blk 15
   have hbx8:w8.heap[b11]?=some (.cells #[.int .i64 0,.int .i64 0,.int .i64 0,.int .i64 0,.int .i64 0,.slice none 0 0,.int .i64 0,.int .i64 0,.slice none 0 0,.slice none 0 0,.int .i64 0,.int .i64 0,.int .i64 0,.int .i64 0,.int .i64 0,.slice none 0 0,.int .i64 0,.int .i64 0,.int .i64 0,.bool false] 61 (0,0)):=by rw [hw8,hb11];exact setRow_heap _ _ _ _ _ _ (heap_alloc_new W7 (.cells #[.int .i64 0,.int .i64 0,.int .i64 0,.int .i64 0,.int .i64 0,.slice none 0 0,.int .i64 0,.int .i64 0,.slice none 0 0,.slice none 0 0,.int .i64 0,.int .i64 0,.int .i64 0,.int .i64 0,.int .i64 0,.slice none 0 0,.int .i64 0,.int .i64 0,.int .i64 0,.bool false] 61))
   obtain⟨Hz7,Hk7,Hbx7,Hkw7,Hb7',G,HA,Hte,Htk⟩:=hid9 hz7 hk7 hbx7 hkw7 hb7' g hA hte htk;clear htk hte hA g hb7' hkw7 hbx7 hk7 hz7;have Hvn:=Lib.hid hvn;clear hvn hstm hn1;obtain⟨Hn2,Hn1',Hn2',Hll,Htcv,Hk8,Hbx8⟩:=hid7 hn2 hn1' hn2' hll htcv hk8 hbx8;clear hbx8 hk8 htcv hll hn2' hn1' hn2 o1 hao
   go_upto_if 75 with(refine wpList_store_row rfl 61 (.tmp 11) (.tmp 67) rfl W7.heap.size #[.int .i64 0,.int .i64 0,.int .i64 0,.int .i64 0,.int .i64 0,.slice none 0 0,.int .i64 0,.int .i64 0,.slice none 0 0,.slice none 0 0,.int .i64 0,.int .i64 0,.int .i64 0,.int .i64 0,.int .i64 0,.slice none 0 0,.int .i64 0,.int .i64 0,.int .i64 0,.bool false] rfl rfl 61 #[.int .i64 0,.int .i64 0,.int .i64 0,.int .i64 0,.int .i64 0,.slice none 0 0,.int .i64 0,.int .i64 0,.slice none 0 0,.slice none 0 0,.int .i64 0,.int .i64 0,.int .i64 0,.int .i64 0,.int .i64 0,.slice none 0 0,.int .i64 0,.int .i64 0,.int .i64 0,.bool false] (heap_alloc_new W7 _) Au rfl (Da 0 0 0) ?_;rw [<-hw8,<-hb11];clear hw8 hb11)
   go_cut [11] (λp wx=>p=(.pointer (some ⟨b11,0,none⟩))/\wx.heap[b11]?=some (.cells #[.int .i64 0,.int .i64 0,.int .i64 tcv,.int .i64 0,.int .i64 0,.slice none 0 0,.int .i64 0,.int .i64 0,.slice none 0 0,.slice none 0 0,.int .i64 0,.int .i64 0,.int .i64 0,.int .i64 0,.int .i64 0,.slice none 0 0,.int .i64 0,.int .i64 0,.int .i64 0,.bool false] 61 (0,0))/\K0 W7 wx)
   case first=>
    by_cases hlt:n1<n2
    ·skip
     rw [if_pos hlt] at htc;subst htc;have x2:=Aa Hbx8.o 2;have y2:=Ab Hbx8.o 2;have hz9:=(heap_setCell_same _ _ 2 _ _ (.int .i64 (n2:Int)) Hbx8.o).trans rfl;have hk9:K0 W7 (w8.setCell ⟨b11,2,none⟩ (.int .i64 (n2:Int))):=Hk8.o.trans ((Keeps.setCell (S:=λi=>i=b11) _ _ _ rfl).mono λi _ e=> .inr (by have e':i=b11:=e;omega));obtain⟨Hz9,Hk9⟩:=hid2 hz9 hk9;clear hk9 hz9;go_wp2_with fail;go_meet;exact⟨by first|rfl|trivial,Hz9.o,Hk9.o⟩
    ·skip
     rw [if_neg hlt] at htc;subst htc;go_wp2_with fail;go_meet;exact⟨by first|rfl|trivial,Hbx8.o,Hk8.o⟩
   clear htc;obtain⟨rfl,hbxz,hkz⟩:=hcut;have hA2:=HA.o.keep0 hkz;obtain⟨nI,hnI⟩:=eX x.I.length;obtain⟨ai,ci,hvi,_,_⟩:=Ae H.o.iss;rw [hnI] at hvi
   have hnI1:nI<=300:=by
    have:nI=n1:=by rw [<-hnI,<-Hn1'.o,<-H.o.ok.il,<-H.o.is,List.length_map]
    omega
   have htS:∀W,K0 wc W->t12S B (.slice ai nI ci) (.slice adn n1 cn) W:=λW hW=>by
    have:=t12S.of hA2 hW;rw [hvi,Hvn.o] at this;exact this
   clear c15;have hvi':=hvi;obtain⟨Hbxz,Hkz,HA2,HnI⟩:=hid4 hbxz hkz hA2 hnI;clear hnI hA2 hkz hbxz hvi;have HtS:=Lib.hid htS;clear htS;obtain⟨ad9,had9⟩:∃x,x=(if co=n1 then ao else Option.map (λx=>x.add (n1*9)) ao):=⟨_,rfl⟩
   have hst9:StmsR wc ad9 (n2-n1) (co-n1) (P.drop n1):=by
    rw [had9];exact drop_stms (⟨by rw [<-Hn2.o];exact(Reads.Bg G.o.out).keeps Hkz.o (by simp),λy hy=>(Reads.Bg (G.o.ln y hy)).keeps Hkz.o (by simp),Hll.o,Hn2.o⟩:StmsR wc ao n2 co P) hmo
   have hown:=λW (hW:K0 wc W)=>Vb ad9 (co-n1) (n2-n1) (P.drop n1) W (hst9.keep hW) j6;clear hst9;have Hown:=Lib.hid hown;clear hown
   go_upto_region 12 with fail
   refine Cz (t12S B (.slice ai nI ci) (.slice adn n1 cn)) 16 (.take 0 (.take 1 (.take 2 (.take 3 (.take 4 (.take 5 (.take 6 (.take 7 (.take 8 (.take 9 (.take 10 (.take 11 (.move 12 (.move 13 (.move 14 (.move 15 (.move 16 .done))))))))))))))))) j9 j9 ?_ ?_
   ·exact HtS.o _ (Keeps.drew _)
   intro w9 hs9 hk9;refine jR ?_;rw [<-had9];clear had9;refine Ag rfl (λK hK=> ?_);go_simp
   go_at_call 88
   ((with_reducible refine(Hown.o w9 hk9).mono ?_);rintro e w10 hg)
   obtain⟨v10,Q,rfl,hp,hq⟩:=hg;dsimp only;have hk10:=Keeps.nt hk9 hp.fr.1;refine hK.out _ _ (by exact HtS.o _ hk10) ?_;clear hK K
   try simp only [aps]
   obtain⟨aq,cq,rfl,_,_⟩:=Ae hp.row;obtain⟨nq,hnq⟩:=eX Q.length
   have hnq1:nq<=300:=by
    have:nq=n2-n1:=by rw [<-hnq];have:=congrArg List.length hq;simpa [Hn2.o] using this
    omega
   have hA3:=HA2.o.keep0 hk10;have hrowI:=hA3.iss;rw [hvi',HnI.o] at hrowI;have hrdQ:=Reads.Bg hp.row;rw [hnq] at hrdQ⊢;have hbxA:=Ad Hbxz.o hk10 (by simp);have hbx7A:=Ad Hbx7.o (Hkz.o.nt hk10) (by simp);have hb7A:=Ad Hb7'.o (Hkz.o.nt hk10) (by simp);have hkz10:=Hkz.o.nt hk10;have hqlf:∀y∈Q,∀b,y.v.ownBlock=some b->W2.heap.size<=b:=λy hy b hb=>by have h1:=hp.lf y hy b hb;have h2:=(Hk7.o.nt (Hkz.o.nt hk9)).size;omega
   have hqln:=hp.ln;have hone:=SV.one Q;have hl3:=lt_of_block hA3.blk;clear hp hs9 hk9;obtain⟨Hq,Hnq,HbxA,Hbx7A,Hb7A,Hkz10,Hqlf,Hqln,Hone⟩:=hid9 hq hnq hbxA hbx7A hb7A hkz10 hqlf hqln hone;clear hone hqln hqlf hkz10 hb7A hbx7A hbxA hnq hq;obtain⟨HA3,HrdQ,HrowI⟩:=hid3 hA3 hrdQ hrowI;clear hrowI hrdQ hA3;refine jR ?_;refine Ag rfl (λK hK=> ?_);refine Cc rfl (.tmp 83) (.tmp 91) 101 rfl 0 59 i0 _ 9 88 Tryz.underlying101 Hi.o Hi0.o Hi1.o Hi2.o rfl j7 (.slice ai nI ci) nI _ rfl HrowI.o _ nq _ rfl HrdQ.o Hone.o jd j6 (Nat.zero_le _) ?_;intro v14 w14 hown14 hk14 hf14;obtain⟨a14,c14,rfl,_,_⟩:=Ae hown14;have hnB14:¬(Value.slice ai nI ci).ownBlock=some B:=λe=>HA3.o.si B j0D (.inl rfl);have hb14:=Ad HA3.o.blk hk14 hnB14;obtain⟨oc,o16⟩:∃v,w14.cell? ⟨B,16,none⟩=some v:=⟨_,(Aa hb14 16).trans rfl⟩;have of16:=Ab hb14 16;refine hK.out _ _ (by exact(HtS.o _ hk10).keepS hk14 hnB14) ?_;clear hK K
   try simp only [aps]
   obtain⟨Hb14,Hown14,Hk14,Hf14⟩:=hid4 hb14 hown14 hk14 hf14;clear hf14 hk14 hown14 hb14 hk10
   repeat (refine Ej (v:= ?_) rfl (by rfl) ?_ ?_;rotate_left;(· intro w' hSw;unfold t12S at hSw;go_simp;(try with_reducible rfl));rotate_right;try simp only [aps])
   refine Cu rfl (λK hK=> ?_);go_simp;refine hK.out _ _ ?_;clear hK K
   try simp only [aps]
   refine Aq ?_;obtain⟨sq,hsq⟩:=eX a.seq;have hs0:=H.o.ok.s0;rw [hsq] at hs hs0;have q1:IntKind.i64.wrap (td+d)=td+d:=IntWalk.i64_in _ ⟨by omega,by omega⟩;have q2:IntKind.i64.wrap (sq+1)=sq+1:=IntWalk.i64_in _ ⟨by omega,by omega⟩;obtain⟨W17,hW17⟩:=eY (w14.setCell ⟨B,16,none⟩ (.slice a14 (nI+nq) c14));have k17:Keeps (λi=>i=B) w14 W17:=by rw [hW17];exact(Keeps.refl _ _).setB _ _
   have hb17:W17.heap[B]?=some (.cells #[.int .i64 a.t.limit,x.vt,.int .i64 a.t.cyc,.int .i64 a.t.due,.int .i64 a.t.minFixed,.int .i64 a.t.minPart,.int .i64 a.t.start,.int .i64 td,.int .i64 sq,(.pointer (some ⟨x.bl,0,none⟩)),(.pointer (some ⟨x.bb,0,none⟩)),x.vp,.int .i64 a.s.p.cr,.int .i64 a.s.p.du,x.vr,x.vn,.slice a14 (nI+nq) c14,x.va] 104 (0,0)):=by rw [hW17,<-hsq,<-Htd.o];exact heap_setCell_same _ _ 16 _ _ (.slice a14 (nI+nq) c14) Hb14.o
   rw [<-hW17];clear hW17 of16 o16;have hvilt:∀b,x.vi.ownBlock=some b->b<w.heap.size:=λb hb=>rowLt H.o.iss hb;have hsz2:=Hkw2.o.size;have hb7B:¬b7=B:=λe=>by have:=HBl.o;omega
   have hW7l:=Hk7.o.size;have hRB:¬w.heap.size=B:=λe=>by omega
   have hb11B:¬b11=B:=λe=>by have:=HBl.o;omega
   have hx7:=Ad (Ad Hbx7A.o Hk14.o (λe=>by have:=hvilt b7 j0D;omega)) k17 hb7B;have hx11:=Ad (Ad HbxA.o Hk14.o (λe=>by have:=hvilt b11 j0D;omega)) k17 hb11B;have hxR:=Ad (Ad Hb7A.o Hk14.o (λe=>by have:=hvilt _ j0D;omega)) k17 hRB;have p0:=Aa hx7 0;have p1:=Aa hx7 1;have p2:=Aa hx7 2;have d7:=Aa hb17 7;have d8:=Aa hb17 8;have d11:=Aa hb17 11;have d12:=Aa hb17 12;have d13:=Aa hb17 13;have d14:=Aa hb17 14;have d15:=Aa hb17 15;have f7:=Ab hb17 7;have f8:=Ab hb17 8;have f11:=Ab hb17 11;have f12:=Ab hb17 12;have f13:=Ab hb17 13;have f14:=Ab hb17 14;have f15:=Ab hb17 15;have g1:=heap_setCell_same _ _ 7 _ _ (.int .i64 (td+d)) hb17;have g2:=heap_setCell_same _ _ 11 _ _ (.slice av mv cv) g1;have g3:=heap_setCell_same _ _ 12 _ _ (.int .i64 Z.1.p.cr) g2;have g4:=heap_setCell_same _ _ 13 _ _ (.int .i64 Z.1.p.du) g3;have g5:=heap_setCell_same _ _ 14 _ _ (.slice ar n cr2) g4;have g6:=heap_setCell_same _ _ 15 _ _ (.slice ao n2 co) g5;have g7:=heap_setCell_same _ _ 8 _ _ (.int .i64 (sq+1)) g6;obtain⟨Wf,hWf⟩:=eY (((((((W17.setCell ⟨B,7,none⟩ (.int .i64 (td+d))).setCell ⟨B,11,none⟩ (.slice av mv cv)).setCell ⟨B,12,none⟩ (.int .i64 Z.1.p.cr)).setCell ⟨B,13,none⟩ (.int .i64 Z.1.p.du)).setCell ⟨B,14,none⟩ (.slice ar n cr2)).setCell ⟨B,15,none⟩ (.slice ao n2 co)).setCell ⟨B,8,none⟩ (.int .i64 (sq+1)));have kf:Keeps (λi=>i=B) W17 Wf:=by rw [hWf];exact(((((((Keeps.refl _ _).setB _ _).setB _ _).setB _ _).setB _ _).setB _ _).setB _ _).setB _ _
   rw [<-hWf] at g7;have hgf:Wf.heap[B]?=some (.cells #[.int .i64 a.t.limit,x.vt,.int .i64 a.t.cyc,.int .i64 a.t.due,.int .i64 a.t.minFixed,.int .i64 a.t.minPart,.int .i64 a.t.start,.int .i64 (td+d),.int .i64 (sq+1),(.pointer (some ⟨x.bl,0,none⟩)),(.pointer (some ⟨x.bb,0,none⟩)),.slice av mv cv,.int .i64 Z.1.p.cr,.int .i64 Z.1.p.du,.slice ar n cr2,.slice ao n2 co,.slice a14 (nI+nq) c14,x.va] 104 (0,0)):=g7;have hx11f:=Ad hx11 kf hb11B;have hxRf:=Ad hxR kf hRB;have kR:=Cg Wf w.heap.size #[.int .i64 0,.int .i64 0,.int .i64 tcv,.int .i64 0,.int .i64 0,.slice none 0 0,.int .i64 0,.int .i64 0,.slice none 0 0,.slice none 0 0,.int .i64 0,.int .i64 0,.int .i64 0,.int .i64 0,.int .i64 0,.slice none 0 0,.int .i64 0,.int .i64 0,.int .i64 0,.bool false];have hxF:=setRow_heap Wf w.heap.size #[.int .i64 0,.int .i64 0,.int .i64 0,.int .i64 0,.int .i64 0,.slice none 0 0,.int .i64 0,.int .i64 0,.slice none 0 0,.slice none 0 0,.int .i64 0,.int .i64 0,.int .i64 0,.int .i64 0,.int .i64 0,.slice none 0 0,.int .i64 0,.int .i64 0,.int .i64 0,.bool false] #[.int .i64 0,.int .i64 0,.int .i64 tcv,.int .i64 0,.int .i64 0,.slice none 0 0,.int .i64 0,.int .i64 0,.slice none 0 0,.slice none 0 0,.int .i64 0,.int .i64 0,.int .i64 0,.int .i64 0,.int .i64 0,.slice none 0 0,.int .i64 0,.int .i64 0,.int .i64 0,.bool false] 61 _ hxRf
   have hvi14:∀b,(Value.slice a14 (nI+nq) c14).ownBlock=some b->x.vi.ownBlock=some b\/w10.heap.size<=b:=λb hb=>by
    rcases Hf14.o with h1|⟨g',h1,h2⟩
    ·rw [h1] at hb;exact .inl (by rw [hvi'];exact hb)
    ·rw [h1] at hb;simp only [Option.some.injEq] at hb;exact .inr j6
   have hw10l:W2.heap.size<=w10.heap.size:=(Hk7.o.nt Hkz10.o).size;have hKf:Keeps (TkS B x w W2) w10 (Wf.setRow w.heap.size #[.int .i64 0,.int .i64 0,.int .i64 tcv,.int .i64 0,.int .i64 0,.slice none 0 0,.int .i64 0,.int .i64 0,.slice none 0 0,.slice none 0 0,.int .i64 0,.int .i64 0,.int .i64 0,.int .i64 0,.int .i64 0,.slice none 0 0,.int .i64 0,.int .i64 0,.int .i64 0,.bool false]):=(((Hk14.o.mono λi _ e=> .inl (.inr j0D)).trans (k17.mono λi _ e=> .inl (.inl (.inl e)))).trans (kf.mono λi _ e=> .inl (.inl (.inl e)))).trans (kR.mono λi _ e=> .inl (.inr ⟨by have e':i=w.heap.size:=e;omega,by have e':i=w.heap.size:=e;have:=lt_of_block Hb2.o;omega⟩))
   have hri:(Wf.setRow w.heap.size #[.int .i64 0,.int .i64 0,.int .i64 tcv,.int .i64 0,.int .i64 0,.slice none 0 0,.int .i64 0,.int .i64 0,.slice none 0 0,.slice none 0 0,.int .i64 0,.int .i64 0,.int .i64 0,.int .i64 0,.int .i64 0,.slice none 0 0,.int .i64 0,.int .i64 0,.int .i64 0,.bool false]).ownsRow 0 59 9 (.slice a14 (nI+nq) c14) (x.I++Q).length ((x.I++Q).flatMap SV.cells):=by
    rw [List.length_append,HnI.o,Hnq.o,List.flatMap_append];refine kR.row (kf.row (k17.row Hown14.o λb hb e=> ?_) λb hb e=> ?_) λb hb e=> ?_
    ·exact j4t
    ·exact j4t
    ·have e':b=w.heap.size:=e;have:=lt_of_block Hb2.o;rcases hvi14 b hb with h1|h1
     ·have:=hvilt b h1;omega
     ·omega
   have hpost:=AcAt.ticked (d:=d) H.o (Hkw7.o.nt Hkz10.o) Hkw2.o (Hk7.o.nt Hkz10.o) hKf (by rw [Ht.o];exact HN.o) (by rw [Ht.o,HL1.o,Htd.o];exact HZ.o) Hz7.o (G.o.keep0 Hkz10.o) (by rw [Hn1'.o,Hn2'.o];exact hmo) (by rw [Hq.o,List.map_drop,G.o.lp,Hn1'.o]) Hqln.o Hqlf.o (by rw [Htd.o,hsq,Hn2.o];exact Ad hgf kR (λe=>hRB e.symm)) hri (Nat.le_refl _) hvi14;clear g1 g2 g3 g4 g5 g6 g7 hKf hri hvi14 hvilt;clear hsq k17 hb17 hx7 hx11 hxR kf hgf;obtain⟨Hx11f,HxRf⟩:=hid2 hx11f hxRf;clear hxRf hx11f kR;obtain⟨HxF,Hpost⟩:=hid2 hxF hpost;clear hpost hxF hRB hb11B;have hc1:=Hte.o;have hc2:=Htk.o;have hc3:=Htcv.o;obtain⟨Hc1,Hc2,Hc3⟩:=hid3 hc1 hc2 hc3;clear hc3 hc2 hc1
   go_upto_region 16 with fail
   rw [<-hWf];clear hWf p0 p1 p2 d7 d8 d11 d12 d13 d14 d15 f7 f8 f11 f12 f13 f14 f15 q1 q2
   go_wp2_with (first|(refine wpList_store_row (o:=⟨none,_,_,_,_,_⟩) rfl 61 (.tmp 4) (.tmp 122) rfl w.heap.size #[.int .i64 0,.int .i64 0,.int .i64 tcv,.int .i64 0,.int .i64 0,.slice none 0 0,.int .i64 0,.int .i64 0,.slice none 0 0,.slice none 0 0,.int .i64 0,.int .i64 0,.int .i64 0,.int .i64 0,.int .i64 0,.slice none 0 0,.int .i64 0,.int .i64 0,.int .i64 0,.bool false] rfl rfl 61 #[.int .i64 0,.int .i64 0,.int .i64 0,.int .i64 0,.int .i64 0,.slice none 0 0,.int .i64 0,.int .i64 0,.slice none 0 0,.slice none 0 0,.int .i64 0,.int .i64 0,.int .i64 0,.int .i64 0,.int .i64 0,.slice none 0 0,.int .i64 0,.int .i64 0,.int .i64 0,.bool false] HxRf.o Au rfl (Da 0 0 tcv) ?_)|(refine wpList_load_row (o:=⟨some 122,_,_,_,_,_⟩) rfl 61 (.tmp 11) rfl b11 rfl 61 #[.int .i64 0,.int .i64 0,.int .i64 tcv,.int .i64 0,.int .i64 0,.slice none 0 0,.int .i64 0,.int .i64 0,.slice none 0 0,.slice none 0 0,.int .i64 0,.int .i64 0,.int .i64 0,.int .i64 0,.int .i64 0,.slice none 0 0,.int .i64 0,.int .i64 0,.int .i64 0,.bool false] _ _ Hx11f.o Tryz.underlying61 rfl Au ?_))
   exact bodyPost_ret (results_cell_row rfl _ _ w.heap.size 61 #[.int .i64 0,.int .i64 0,.int .i64 tcv,.int .i64 0,.int .i64 0,.slice none 0 0,.int .i64 0,.int .i64 0,.slice none 0 0,.slice none 0 0,.int .i64 0,.int .i64 0,.int .i64 0,.int .i64 0,.int .i64 0,.slice none 0 0,.int .i64 0,.int .i64 0,.int .i64 0,.bool false] _ _ rfl HxF.o Tryz.underlying61 rfl Au) rfl ⟨by rw [Hc1.o,Hc3.o],by rw [Hc2.o];exact Hpost.o⟩
 ·have hne:(z1 !=0)=true:=by simp [h0]
  have hc:=te_day (a:=a) Hd.o (by rw [Hst.o,Hcd.o,Htd.o,Hz1.o];exact h0);clear q1;have Hc:=Lib.hid hc;clear hc h0;go_wp2_with fail;refine(Dg 10 _).mono ?_;rintro e w3 ⟨rfl,hk3⟩;have hb3:=Ad Hb2.o hk3 (by simp);have hk03:=Hk02.o.nt hk3;clear hk3;obtain⟨Hb3,Hk03⟩:=hid2 hb3 hk03;clear hk03 hb3;obtain⟨hput1,hput2⟩:=putRow (V:= #[.int .i64 10,.int .i64 0,.int .i64 0,.int .i64 0,.int .i64 0,.slice none 0 0,.int .i64 0,.int .i64 0,.slice none 0 0,.slice none 0 0,.int .i64 0,.int .i64 0,.int .i64 0,.int .i64 0,.int .i64 0,.slice none 0 0,.int .i64 0,.int .i64 0,.int .i64 0,.bool false]) Hb3.o Hk03.o (Nat.le_refl _);obtain⟨Hput1,Hput2⟩:=hid2 hput1 hput2;clear hput2 hput1
  go_wp2_with (refine wpList_store_row rfl 61 (.tmp 4) (.tmp 41) rfl w.heap.size #[.int .i64 10,.int .i64 0,.int .i64 0,.int .i64 0,.int .i64 0,.slice none 0 0,.int .i64 0,.int .i64 0,.slice none 0 0,.slice none 0 0,.int .i64 0,.int .i64 0,.int .i64 0,.int .i64 0,.int .i64 0,.slice none 0 0,.int .i64 0,.int .i64 0,.int .i64 0,.bool false] rfl rfl 61 #[.int .i64 0,.int .i64 0,.int .i64 0,.int .i64 0,.int .i64 0,.slice none 0 0,.int .i64 0,.int .i64 0,.slice none 0 0,.slice none 0 0,.int .i64 0,.int .i64 0,.int .i64 0,.int .i64 0,.int .i64 0,.slice none 0 0,.int .i64 0,.int .i64 0,.int .i64 0,.bool false] Hb3.o Au rfl (Da 10 0 0) ?_)
  exact bodyPost_ret (results_cell_row rfl _ _ w.heap.size 61 #[.int .i64 10,.int .i64 0,.int .i64 0,.int .i64 0,.int .i64 0,.slice none 0 0,.int .i64 0,.int .i64 0,.slice none 0 0,.slice none 0 0,.int .i64 0,.int .i64 0,.int .i64 0,.int .i64 0,.int .i64 0,.slice none 0 0,.int .i64 0,.int .i64 0,.int .i64 0,.bool false] _ _ rfl Hput1.o Tryz.underlying61 rfl Au) rfl ⟨by rw [Hc.o.1,Hc.o.2.1],by rw [Hc.o.2.2];exact Ca.same H.o Hput2.o⟩
theorem Ae1(B:Nat)(x:AcV)(a:Ac)(c:Cmd)(w:World)(h:AcAt w B x a)(hs:a.seq<=100000)(hk:c.kind=8):
  Calls Tryz.prog 28 #[(.pointer (some ⟨B,0,none⟩)),.agg #[.int .i64 c.kind,.int .i64 c.day,.int .i64 c.tranche,.int .i64 c.amount,.int .i64 c.ref]] w λe w'=>e= .returned (.agg #[.int .i64 (a.te c.day),.int .i64 0,.int .i64 (a.tc c.day),.int .i64 0,.int .i64 0,.slice none 0 0,.int .i64 0,.int .i64 0,.slice none 0 0,.slice none 0 0,.int .i64 0,.int .i64 0,.int .i64 0,.int .i64 0,.int .i64 0,.slice none 0 0,.int .i64 0,.int .i64 0,.int .i64 0,.bool false])/\Ca w B x (a.tick c.day) w':=by
 obtain⟨ki,da,tr,am,re⟩:=c;simp only at hk⊢;subst hk;have hti:=fun(W:World) (hW:K0 w W)=>Acg B x a da W (h.keep0 hW) hs (λht=>Ac.mono h.ok ht);unfold Vg at hti;obtain⟨te,hte⟩:=eX (a.te da);obtain⟨tc,htc⟩:=eX (a.tc da);rw [hte,htc] at hti⊢;obtain⟨W0,hW0⟩:=eY ((w.alloc (.cells #[.int .i64 8,.int .i64 da,.int .i64 tr,.int .i64 am,.int .i64 re] 33)).alloc (.cells #[.int .i64 0,.int .i64 0,.int .i64 0,.int .i64 0,.int .i64 0,.slice none 0 0,.int .i64 0,.int .i64 0,.slice none 0 0,.slice none 0 0,.int .i64 0,.int .i64 0,.int .i64 0,.int .i64 0,.int .i64 0,.slice none 0 0,.int .i64 0,.int .i64 0,.int .i64 0,.bool false] 61));have hr0:W0.heap[w.heap.size+1]?=some (.cells #[.int .i64 0,.int .i64 0,.int .i64 0,.int .i64 0,.int .i64 0,.slice none 0 0,.int .i64 0,.int .i64 0,.slice none 0 0,.slice none 0 0,.int .i64 0,.int .i64 0,.int .i64 0,.int .i64 0,.int .i64 0,.slice none 0 0,.int .i64 0,.int .i64 0,.int .i64 0,.bool false] 61 (0,0)):=by rw [hW0];exact Aw _ _ (by simp)
 have hk0:K0 w W0:=by rw [hW0];(repeat (first|exact Keeps.refl _ _|exact Keeps.alloc _ _|exact Keeps.drew _|exact Keeps.drewN _ _|refine Keeps.Ao ?_|refine Keeps.Al ?_|refine Keeps.Af ?_))
 obtain⟨H,Hti⟩:=hid2 h hti;clear hti h hte htc;obtain⟨Hr0,Hk0⟩:=hid2 hr0 hk0;clear hk0 hr0;go_enter Tryz.func28,Tryz.ntmps28;go_wp2_with fail;rw [<-hW0];clear hW0;refine(Hti.o W0 Hk0.o).mono ?_;rintro e w2 ⟨rfl,hp⟩;obtain⟨hR,hq⟩:=Ca.ret (V:= #[.int .i64 te,.int .i64 0,.int .i64 tc,.int .i64 0,.int .i64 0,.slice none 0 0,.int .i64 0,.int .i64 0,.slice none 0 0,.slice none 0 0,.int .i64 0,.int .i64 0,.int .i64 0,.int .i64 0,.int .i64 0,.slice none 0 0,.int .i64 0,.int .i64 0,.int .i64 0,.bool false]) H.o Hk0.o hp Hr0.o (Nat.le_succ _);have hput:=setRow_heap w2 (w.heap.size+1) #[.int .i64 0,.int .i64 0,.int .i64 0,.int .i64 0,.int .i64 0,.slice none 0 0,.int .i64 0,.int .i64 0,.slice none 0 0,.slice none 0 0,.int .i64 0,.int .i64 0,.int .i64 0,.int .i64 0,.int .i64 0,.slice none 0 0,.int .i64 0,.int .i64 0,.int .i64 0,.bool false] #[.int .i64 te,.int .i64 0,.int .i64 tc,.int .i64 0,.int .i64 0,.slice none 0 0,.int .i64 0,.int .i64 0,.slice none 0 0,.slice none 0 0,.int .i64 0,.int .i64 0,.int .i64 0,.int .i64 0,.int .i64 0,.slice none 0 0,.int .i64 0,.int .i64 0,.int .i64 0,.bool false] 61 _ hR;clear hp;obtain⟨HR,Hq,Hput⟩:=hid3 hR hq hput;clear hput hq hR
 go_wp2_with (refine wpList_store_row rfl 61 (.tmp 4) (.tmp 15) rfl (w.heap.size+1) #[.int .i64 te,.int .i64 0,.int .i64 tc,.int .i64 0,.int .i64 0,.slice none 0 0,.int .i64 0,.int .i64 0,.slice none 0 0,.slice none 0 0,.int .i64 0,.int .i64 0,.int .i64 0,.int .i64 0,.int .i64 0,.slice none 0 0,.int .i64 0,.int .i64 0,.int .i64 0,.bool false] rfl rfl 61 #[.int .i64 0,.int .i64 0,.int .i64 0,.int .i64 0,.int .i64 0,.slice none 0 0,.int .i64 0,.int .i64 0,.slice none 0 0,.slice none 0 0,.int .i64 0,.int .i64 0,.int .i64 0,.int .i64 0,.int .i64 0,.slice none 0 0,.int .i64 0,.int .i64 0,.int .i64 0,.bool false] HR.o Au rfl (Da _ _ _) ?_)
 exact bodyPost_ret (results_cell_row rfl _ _ (w.heap.size+1) 61 #[.int .i64 te,.int .i64 0,.int .i64 tc,.int .i64 0,.int .i64 0,.slice none 0 0,.int .i64 0,.int .i64 0,.slice none 0 0,.slice none 0 0,.int .i64 0,.int .i64 0,.int .i64 0,.int .i64 0,.int .i64 0,.slice none 0 0,.int .i64 0,.int .i64 0,.int .i64 0,.bool false] _ _ rfl Hput.o Tryz.underlying61 rfl Au) rfl ⟨rfl,Hq.o⟩
def AnsL(z r y:Int)(v:Value):Prop:=∃s0 s1 s3 s4 s7 p0 p1 p2 p3 p5 p6 p7 q1 n1 c1 q2 n2 c2 q3 n3 c3 q4 n4 c4 gr,v= .agg #[.int .i64 z,.int .i64 r,.int .i64 y,.int .i64 s0,.int .i64 s1,.slice q1 n1 c1,.int .i64 s3,.int .i64 s4,.slice q2 n2 c2,.slice q3 n3 c3,.int .i64 s7,.int .i64 p0,.int .i64 p1,.int .i64 p2,.int .i64 p3,.slice q4 n4 c4,.int .i64 p5,.int .i64 p6,.int .i64 p7,.bool gr]
theorem AnsIs.letters{w W:World}{z r cy:Int}{s:PSt}{p:Stm}{v:Value}(h:AnsIs w W z r cy s p v):AnsL z r cy v:=by
 obtain⟨a1,c1,a2,c2,a3,c3,a4,c4,h,_⟩:=h;exact⟨_,_,_,_,_,_,_,_,_,_,_,_,_,_,_,_,_,_,_,_,_,_,_,_,_,h⟩
theorem Ab7(z r y s0 s1 s3 s4 s7 p0 p1 p2 p3 p5 p6 p7:Int)(q1 q2 q3 q4:Option Addr)(n1 c1 n2 c2 n3 c3 n4 c4:Nat)(gr:Bool):(#[.int .i64 z,.int .i64 r,.int .i64 y,.int .i64 s0,.int .i64 s1,.slice q1 n1 c1,.int .i64 s3,.int .i64 s4,.slice q2 n2 c2,.slice q3 n3 c3,.int .i64 s7,.int .i64 p0,.int .i64 p1,.int .i64 p2,.int .i64 p3,.slice q4 n4 c4,.int .i64 p5,.int .i64 p6,.int .i64 p7,.bool gr]:Array Value).all (·.oneCell')=true:=by simp [Value.oneCell']
theorem Ac.seq_chg(a:Ac)(c:Cmd):a.seq<=(a.chg c).seq/\(a.chg c).seq<=a.seq+1:=by
 unfold Ac.chg Ac.nx Ac.count
 split
 ·omega
 ·split
  ·simp only;omega
  ·split
   ·simp only;omega
   ·simp only;omega
theorem Ac.seq_act(a:Ac)(c:Cmd):a.seq<=(a.act c).seq/\(a.act c).seq<=a.seq+1:=by
 unfold Ac.act
 split
 ·unfold Ac.tick;split
  ·simp only;omega
  ·omega
 ·split
  ·exact a.seq_chg c
  ·omega
theorem Xk:(Tryz.prog.info? 33).map (λi=>(i.zero,i.size,i.bytes))=some (some (.agg #[.int .i64 0,.int .i64 0,.int .i64 0,.int .i64 0,.int .i64 0]),5,40):=by kernel_rfl
def Tm.cells(t:Tm)(v:Value):Array Value:= #[.int .i64 t.limit,v,.int .i64 t.cyc,.int .i64 t.due,.int .i64 t.minFixed,.int .i64 t.minPart,.int .i64 t.start]
def scrN(B:List Int):Nat:=(bt B 0 % 3+1).toNat
def scrTr(B:List Int)(k:Nat):Tn:=⟨bt B k*10000,bt B (k+1) % 2==1⟩
def Co(B:List Int):Nat->List Tn
 |0=> []
 |n+1=>Co B n++ [scrTr B (1+2*n)]
def scrO(B:List Int):Nat:=1+2*scrN B
def Bz(B:List Int):Tm:=
 ⟨bt B (scrO B+2)*1000,bt B (scrO B) % 28+1,bt B (scrO B+1) % 25+1,bt B (scrO B+3),bt B (scrO B+4) % 100,10957+bt B (scrO B+5),Co B (scrN B)⟩
def cmdOf(today a x c d:Int):Cmd:=
 let k:=a % 11+1
 if k=1\/k=4 then⟨k,0,x % 4,256*c+d,0⟩
 else if k=2 then⟨k,0,0,256*c+d,0⟩
 else if k=3 then⟨k,today-d,x % 4,256*c+d,0⟩
 else if k=7 then⟨k,0,x % 4,(256*c+d)*100,0⟩
 else if k=8 then⟨k,d % 40+1,0,0,0⟩
 else if k=5\/k=6\/k=10\/k=11 then⟨k,0,0,0,c % 8+1⟩
 else⟨k,0,0,0,0⟩
def cmdAt(B:List Int)(today:Int)(k:Nat):Cmd:=cmdOf today (bt B k) (bt B (k+1)) (bt B (k+2)) (bt B (k+3))
def Cn(c:Cmd):Int:=if c.kind=8 then c.day else 0
def Bq(B:List Int):Nat->Int
 |0=>10957+bt B (scrO B+5)
 |j+1=>Bq B j+Cn (cmdAt B (Bq B j) (scrO B+6+4*j))
def Bt(B:List Int):Nat->List Cmd
 |0=> []
 |j+1=>Bt B j++ [cmdAt B (Bq B j) (scrO B+6+4*j)]
def scrM(B:List Int):Nat:=min 200 ((B.length-(scrO B+6)+3) / 4)
theorem Te{B:List Int}(h:ByOk B):1<=scrN B/\scrN B<=3:=by have:=Mk h 0;unfold scrN;omega
theorem Cy(B:List Int)(n:Nat):(Co B n).length=n:=by induction n with
 |zero=>rfl
 |succ n ih=>simp [Co,ih]
theorem Tx(B:List Int)(n:Nat):(Bt B n).length=n:=by induction n with
 |zero=>rfl
 |succ n ih=>simp [Bt,ih]
theorem Qp{B:List Int}(h:ByOk B)(t:Int)(k:Nat):0<=Cn (cmdAt B t k)/\Cn (cmdAt B t k)<=40:=by
 have:=Mk h k;have:=Mk h (k+3);unfold Cn cmdAt cmdOf;simp only
 split<;>(try split)<;>(try split)<;>(try split)<;>(try split)<;>(try split)<;>(try split)<;>simp_all<;>omega
theorem Qu{B:List Int}(h:ByOk B)(j:Nat):10957<=Bq B j/\Bq B j<=11212+40*j:=by
 induction j with
 |zero=>have:=Mk h (scrO B+5);unfold Bq;omega
 |succ j ih=>have:=Qp h (Bq B j) (scrO B+6+4*j);unfold Bq;omega
structure RdAt(lo:Nat)(w:World)(b:Nat)(B:List Int)(k:Nat):Prop where
 ex:∃ad c,w.heap[b]?=some (.cells #[.slice ad (B.length-k) c] 75 (0,0))/\Reads w 1 (.slice ad (B.length-k) c) (B.length-k) ((B.drop k).flatMap u8c)/\(k<B.length->∀g,(Value.slice ad (B.length-k) c).ownBlock=some g->g<lo)
 lob:lo<=b
theorem RdAt.keeps{lo:Nat}{S:Nat->Prop}{w w':World}{b:Nat}{B:List Int}{k:Nat}(h:RdAt lo w b B k)(hk:Keeps S w w')(hS:∀j,S j->lo<=j/\j≠b):RdAt lo w' b B k:=by
 obtain⟨⟨ad,c,h1,h2,h3⟩,h4⟩:=h;refine⟨⟨ad,c,by rw [hk.block b (lt_of_block h1) (λhs=>(hS b hs).2 rfl)];exact h1, ?_,h3⟩,h4⟩;by_cases hkl:k<B.length
 ·exact h2.keeps hk λg hg hs=>by have:=h3 hkl g hg;have:=(hS g hs).1;omega
 ·obtain⟨ad',c',he,a1,a2,a3,a4⟩:=h2;refine⟨ad',c',he,a1,a2,a3,λj u hj=> ?_⟩;rw [List.drop_eq_nil_of_le j6] at hj;simp at hj
theorem rdNum_any(lo b k:Nat)(B:List Int)(w:World)(h:RdAt lo w b B k)(hB:ByOk B):
  Calls Tryz.prog 39 #[(.pointer (some ⟨b,0,none⟩))] w λe w'=>e= .returned (.int .i64 (bt B k))/\RdAt lo w' b B (k+1)/\Keeps (λj=>j=b) w w':=by
 obtain⟨⟨ad,c,hb,hr,hlo⟩,hlb⟩:=h;have c0:=Aa hb 0;have e0:=Ab hb 0;have hlen:=hB.2;by_cases hk:k<B.length
 ·obtain⟨n,hn⟩:=eX (B.length-k);obtain⟨z,hz⟩:=Ar hk;have hz':(B.drop k)[0]?=some z:=by rw [List.getElem?_drop];exact hz
  rw [hn] at hb hr hlo c0;obtain⟨g,o,c',he,hc⟩:=hr.elem Fq hz' j7;simp only [Value.slice.injEq,true_and] at he;obtain⟨rfl,rfl⟩:=he;have x0:w.cell? ⟨g,o,none⟩=some (.int .u8 z):=by have:=hc 0 j7;simpa [u8c] using this
  have hzb:=hB.1 z (List.mem_of_getElem? hz);have hgb:=hlo hk g rfl;have hn0:0<n:=j8;have hn1:(1:Int)<=(n:Int):=j8;have hn2:((n:Int)==0)=false:=beq_eq_false_iff_ne.2 j6;have hnb:(n:Int)<=1000000000000:=j8;have hcn:n<=c:=by obtain⟨_,_,he,h1,_⟩:=hr;simp only [Value.slice.injEq,true_and] at he;omega
  obtain⟨z0,z1⟩:=hzb;have hbt:=bt_some hz
  have hsuf:Reads w 1 (.slice (some ⟨g,o+1,none⟩) (n-1) (c-1)) (n-1) ((B.drop (k+1)).flatMap u8c):=by
   have:=hr.sufL Fq 1 j6;rw [List.drop_drop] at this
   simpa using this
  have hm':B.length-(k+1)=n-1:=j8
  have hpost:∀ad',(Reads w 1 (.slice ad' (n-1) (c-1)) (n-1) ((B.drop (k+1)).flatMap u8c))->(∀g',(Value.slice ad' (n-1) (c-1)).ownBlock=some g'->g'<lo)->
   RdAt lo (w.setCell ⟨b,0,none⟩ (.slice ad' (n-1) (c-1))) b B (k+1)/\Keeps (λj=>j=b) w (w.setCell ⟨b,0,none⟩ (.slice ad' (n-1) (c-1))):=λad' h1 h2=>by
   have hk1:Keeps (λj=>j=b) w (w.setCell ⟨b,0,none⟩ (.slice ad' (n-1) (c-1))):=Keeps.setCell _ _ _ rfl;refine⟨⟨⟨ad',c-1, ?_, ?_,λ_ g' hg'=> ?_⟩,hlb⟩,hk1⟩
   ·rw [hm'];exact heap_setCell_same _ _ 0 _ _ _ hb
   ·rw [hm'];exact h1.keeps hk1 λg' hg' e=>by have:=h2 g' hg';omega
   ·rw [hm'] at hg';exact h2 g' hg'
  by_cases hc1:c=1
  ·subst hc1;obtain rfl:n=1:=by omega
   have hfin:=hpost (some ⟨g,o,none⟩) (by rw [List.drop_eq_nil_of_le j6];exact Reads.none_of (by simp)) (λg' hg'=>by simp only [Value.ownBlock,Option.some.injEq] at hg';omega);exact j4u
  ·have hfin:=hpost (some ⟨g,o+1,none⟩) hsuf (λg' hg'=>by simp only [Value.ownBlock,Option.some.injEq] at hg';omega);exact j4u
 ·have hm:B.length-k=0:=j8;have hbt:=bt_none (B:=B) (k:=k) j6
  have hfin:RdAt lo w b B (k+1):=⟨⟨ad,c,by rw [hm] at hb;rw [show B.length-(k+1)=0 by omega];exact hb,by
   rw [show B.length-(k+1)=0 by omega,List.drop_eq_nil_of_le j6];rw [hm,List.drop_eq_nil_of_le j6] at hr
   exact hr,λh=>by omega⟩,hlb⟩
  rw [hm] at c0;clear hb hr hlo;have Hbt:=Lib.hid hbt;clear hbt hm;have Hfin:=Lib.hid hfin;clear hfin hB;go_enter Tryz.func39,Tryz.ntmps39;go_wp2;go_ret;exact⟨by rw [Hbt.o];rfl,Hfin.o,Keeps.refl _ _⟩
theorem Be{lo b k:Nat}{B:List Int}{w:World}(h:RdAt lo w b B k)(hB:ByOk B){z:Int}(hz:bt B k=z):
  Calls Tryz.prog 39 #[(.pointer (some ⟨b,0,none⟩))] w λe w'=>e= .returned (.int .i64 z)/\RdAt lo w' b B (k+1)/\Keeps (λj=>j=b) w w':=by
 subst hz;exact rdNum_any lo b k B w h hB
theorem Ed{B:List Int}(h:ByOk B)(k:Nat):∃z,bt B k=z/\0<=z/\z<=255:=⟨_,rfl,Mk h k⟩
structure RRdAt(lo:Nat)(w:World)(b:Nat)(v:Value)(B:List Int)(k:Nat):Prop where
 blk:w.heap[b]?=some (.cells #[v,.int .i64 (min k B.length:Nat)] 36 (0,0))
 rd:Reads w 1 v B.length (B.flatMap u8c)
 ap:0<B.length->∀g,v.ownBlock=some g->g<lo
 lob:lo<=b
theorem RRdAt.keeps{lo:Nat}{S:Nat->Prop}{w w':World}{b:Nat}{v:Value}{B:List Int}{k:Nat}(h:RRdAt lo w b v B k)(hk:Keeps S w w')(hS:∀j,S j->lo<=j/\j≠b):RRdAt lo w' b v B k:=by
 refine⟨by rw [hk.block b (lt_of_block h.blk) (λhs=>(hS b hs).2 rfl)];exact h.blk, ?_,h.ap,h.lob⟩;by_cases hB:0<B.length
 ·exact h.rd.keeps hk λg hg hs=>by have:=h.ap hB g hg;have:=(hS g hs).1;omega
 ·obtain⟨ad',c',he,a1,a2,a3,a4⟩:=h.rd;refine⟨ad',c',he,a1,a2,a3,λj u hj=> ?_⟩;rw [List.eq_nil_of_length_eq_zero (by omega:B.length=0)] at hj;simp at hj
theorem rNext_any(lo b k:Nat)(v:Value)(B:List Int)(w:World)(h:RRdAt lo w b v B k)(hB:ByOk B):
  Calls Tryz.prog 8 #[(.pointer (some ⟨b,0,none⟩))] w λe w'=>e= .returned (.int .i64 (bt B k))/\RRdAt lo w' b v B (k+1)/\Keeps (λj=>j=b) w w':=by
 have hb:=h.blk;have hlen:=hB.2;have hr:=h.rd;have hap:=h.ap;have hlob:=h.lob;have c0:=Aa hb 0;have c1:=Aa hb 1;have e1:=Ab hb 1;by_cases hk:k<B.length
 ·obtain⟨z,hz⟩:=Ar hk;obtain⟨g,o,c,rfl,hc⟩:=hr.elem Fq hz j7;have x0:w.cell? ⟨g,o+k,none⟩=some (.int .u8 z):=by have:=hc 0 j7;simpa [u8c] using this
  obtain⟨z0,z1⟩:=hB.1 z (List.mem_of_getElem? hz);have hbt:=bt_some hz;have hmin:min k B.length=k:=j8;rw [hmin] at c1;have hgb:¬g=b:=by have:=hap j6 g rfl;omega
  have hk1:Keeps (λj=>j=b) w (w.setCell ⟨b,1,none⟩ (.int .i64 ((k:Int)+1))):=Keeps.setCell _ _ _ rfl
  have hfin:RRdAt lo (w.setCell ⟨b,1,none⟩ (.int .i64 ((k:Int)+1))) b (.slice (some ⟨g,o,none⟩) B.length c) B (k+1):=by
   refine⟨?_,hr.keeps hk1 (λg' hg' e=>by have:=hap j6 g' hg';omega),hap,hlob⟩;have:=heap_setCell_same _ _ 1 _ _ (.int .i64 ((k:Int)+1)) hb;rw [show min (k+1) B.length=k+1 by omega]
   simpa using this
  have hw1:IntKind.i64.wrap ((k:Int)+1-1)=(k:Int):=by rw [show(k:Int)+1-1=k by omega];exact IntWalk.i64_in _ j6
  clear hc;clear h hb hr hap hz;have Hbt:=Lib.hid hbt;clear hbt hmin;obtain⟨Hk1,Hfin⟩:=hid2 hk1 hfin;clear hfin hk1 hB;go_enter Tryz.func8,Tryz.ntmps8;go_wp2
  go_quiet (fail)
  go_wp2
  go_quiet (fail)
  go_wp2;go_ret;exact⟨by rw [Hbt.o];rfl,Hfin.o.keeps (S:=λ_=>False) j4v (by simp),Keeps.trans (S:=λj=>j=b) Hk1.o j4v⟩
 ·have hbt:=bt_none (B:=B) (k:=k) j6;have hmin:min k B.length=B.length:=j8;rw [hmin] at c1;have hfin:RRdAt lo w b v B (k+1):=⟨by rw [show min (k+1) B.length=min k B.length by omega];exact hb,hr,hap,hlob⟩;obtain⟨ad,c,rfl,_⟩:=hr;clear h hb hap;have Hbt:=Lib.hid hbt;clear hbt hmin;have Hfin:=Lib.hid hfin;clear hfin hB;go_enter Tryz.func8,Tryz.ntmps8;go_wp2
  go_quiet (fail)
  go_wp2;go_ret;exact⟨by rw [Hbt.o];rfl,Hfin.o.keeps (S:=λ_=>False) (Keeps.drewN _ _) (by simp),Keeps.drewN _ _⟩
theorem Eb{lo b k:Nat}{v:Value}{B:List Int}{w:World}(h:RRdAt lo w b v B k)(hB:ByOk B){z:Int}(hz:bt B k=z):
  Calls Tryz.prog 8 #[(.pointer (some ⟨b,0,none⟩))] w λe w'=>e= .returned (.int .i64 z)/\RRdAt lo w' b v B (k+1)/\Keeps (λj=>j=b) w w':=by
 subst hz;exact rNext_any lo b k v B w h hB
def zTm(v:Value):Array Value:= #[.int .i64 0,v,.int .i64 0,.int .i64 0,.int .i64 0,.int .i64 0,.int .i64 0]
structure TS(lo:Nat)(w0 w:World)(b:Nat)(B:List Int)(R T:Nat)(C:Array Value)(v:Value)(L:List Tn)(k:Nat):Prop where
 rd:RdAt lo w b B k
 res:w.heap[R]?=some (.cells (zTm (.slice none 0 0)) 26 (0,0))
 blk:w.heap[T]?=some (.cells C 26 (0,0))
 row:w.ownsRow 0 39 2 v L.length (L.flatMap Tn.cells)
 new:∀g,v.ownBlock=some g->w0.heap.size<=g
 kp:Keeps (λj=>j=b) w0 w
 ord:lo<=w0.heap.size/\b<w0.heap.size/\R=w0.heap.size/\T=w0.heap.size+1
section
variable {lo:Nat} {w0 w w':World} {b:Nat} {B:List Int} {R T:Nat} {C:Array Value} {v:Value} {L:List Tn} {k:Nat}
theorem TS.num(h:TS lo w0 w b B R T C v L k)(hr:RdAt lo w' b B (k+1))(hk:Keeps (λj=>j=b) w w'):TS lo w0 w' b B R T C v L (k+1):=by
 obtain⟨o1,o2,o3,o4⟩:=h.ord;refine⟨hr,Ad h.res hk j6,Ad h.blk hk j6,hk.row h.row (λg hg e=>by have:=h.new g hg;omega),h.new,h.kp.trans (hk.mono λ_ _ e=> .inl e),h.ord⟩
theorem TS.keep{S:Nat->Prop}(h:TS lo w0 w b B R T C v L k)(hk:Keeps S w w')(hS:∀j,S j->w0.heap.size+1<j/\v.ownBlock≠some j):TS lo w0 w' b B R T C v L k:=by
 obtain⟨o1,o2,o3,o4⟩:=h.ord;refine⟨h.rd.keeps hk (λj hj=>by have:=(hS j hj).1;omega),Ad h.res hk (λhs=>by have:=(hS _ hs).1;omega),Ad h.blk hk (λhs=>by have:=(hS _ hs).1;omega),hk.row h.row (λg hg e=>(hS g e).2 hg),h.new,h.kp.trans (hk.mono λj _ hj=>by have:=(hS j hj).1;right;omega),h.ord⟩
theorem TS.set(h:TS lo w0 w b B R T C v L k)(i:Nat)(x:Value)(hi:(w.setCell ⟨T,i,none⟩ x).heap[T]?=some (.cells (C.setIfInBounds i x) 26 (0,0))):TS lo w0 (w.setCell ⟨T,i,none⟩ x) b B R T (C.setIfInBounds i x) v L k:=by
 obtain⟨o1,o2,o3,o4⟩:=h.ord;have hk:Keeps (λj=>j=T) w (w.setCell ⟨T,i,none⟩ x):=Keeps.setCell _ _ _ rfl;refine⟨h.rd.keeps hk (λj hj=>by omega),Ad h.res hk j6,hi,ownsRow_setCell_other h.row (Ah h.row h.blk j7) _,h.new,h.kp.trans (hk.mono λj _ hj=>by right;omega),h.ord⟩
end
theorem Keeps.set7{S:Nat->Prop}{w0 w:World}(h:Keeps S w0 w)(g:Nat)(hg:S g\/w0.heap.size<=g)(u0 u1 u2 u3 u4 u5 u6:Value):
  Keeps S w0 (((((((w.setCell ⟨g,0,none⟩ u0).setCell ⟨g,1,none⟩ u1).setCell ⟨g,2,none⟩ u2).setCell ⟨g,3,none⟩ u3).setCell ⟨g,4,none⟩ u4).setCell ⟨g,5,none⟩ u5).setCell ⟨g,6,none⟩ u6):=
 ((((((h.trans (Keeps.setCell _ _ _ hg)).trans (Keeps.setCell _ _ _ hg)).trans (Keeps.setCell _ _ _ hg)).trans (Keeps.setCell _ _ _ hg)).trans (Keeps.setCell _ _ _ hg)).trans (Keeps.setCell _ _ _ hg)).trans (Keeps.setCell _ _ _ hg)
def Yb(lo:Nat)(w:World)(b:Nat)(B:List Int)(e:Ending)(w':World):Prop:=
 ∃v,e= .returned (.agg ((Bz B).cells v))/\RdAt lo w' b B (scrO B+6)/\w'.ownsRow 0 39 2 v (scrN B) ((Co B (scrN B)).flatMap Tn.cells)/\(∀g,v.ownBlock=some g->w.heap.size<=g)/\Keeps (λj=>j=b) w w'
theorem Aao(lo b:Nat)(B:List Int)(w:World)(h:RdAt lo w b B 0)(hB:ByOk B)(hlo:lo<=w.heap.size)(hbl:b<w.heap.size):
  Calls Tryz.prog 18 #[(.pointer (some ⟨b,0,none⟩))] w (Yb lo w b B):=by
 obtain⟨i0,hi,hi0,hi1,hi2⟩:=info_parts Qb
 have hts:TS lo w ((w.alloc (.cells (zTm (.slice none 0 0)) 26)).alloc (.cells (zTm (.slice none 0 0)) 26)) b B w.heap.size (w.heap.size+1) (zTm (.slice none 0 0)) (.slice none 0 0) [] 0:=by
  have hk:K0 w ((w.alloc (.cells (zTm (.slice none 0 0)) 26)).alloc (.cells (zTm (.slice none 0 0)) 26)):=(Keeps.alloc _ _).trans (Keeps.alloc _ _);refine⟨h.keeps hk (by simp),Ap (heap_alloc_new w _) _, ?_,World.ownsRow_nil _ _ _ _,by simp [Value.ownBlock],hk.mono (by simp),hlo,hbl,rfl,rfl⟩;have:=heap_alloc_new (w.alloc (.cells (zTm (.slice none 0 0)) 26)) (.cells (zTm (.slice none 0 0)) 26)
  simpa using this
 have hN:=Te hB;obtain⟨N,hNe⟩:=eY (scrN B);obtain⟨z0,hz0,hz0a,hz0b⟩:=Ed hB 0;have hNi:(N:Int)=z0 % 3+1:=by have:=Mk hB 0;rw [hNe,<-hz0];unfold scrN;omega
 rw [<-hNe] at hN;obtain⟨hN1,hN3⟩:=hN;clear h;obtain⟨HB,Hts,HNe,HNi,Hz0⟩:=hid5 hB hts hNe hNi hz0;clear hz0 hNi hNe hts hB;go_enter Tryz.func18,Tryz.ntmps18;go_wp2_with fail;refine(Be Hts.o.rd HB.o Hz0.o).mono ?_;rintro e w1 ⟨rfl,hr,hk⟩;have Hts1:=Lib.hid (Hts.o.num hr hk);clear hr hk;go_wp2
 go_loopw [4] (λc wr=>∃(i:Nat) (v:Value),i<=N/\c= .int .i64 ((N:Int)-i)/\TS lo w wr b B w.heap.size (w.heap.size+1) (zTm v) v (Co B i) (1+2*i)) (λc _=>(intOf c).toNat)
 case atStart=>exact⟨0,_,Nat.zero_le _,by rw [HNi.o];simp,Hts1.o⟩
 case round=>
  obtain⟨i,v,hiN,rfl,hts⟩:=hrel;have hsh:=Ae hts.row;rw [Cy] at hsh;obtain⟨adv,capv,rfl,hcv,_⟩:=hsh;have Hts:=Lib.hid hts;clear hts;obtain⟨z,hz,hza,hzb⟩:=Ed HB.o (1+2*i);obtain⟨y,hy,hya,hyb⟩:=Ed HB.o (1+2*i+1);by_cases hiN1:i<N
  ·skip
   have hstr:Co B (i+1)=Co B i++ [⟨z*10000,y % 2==1⟩]:=by rw [Co,scrTr,hz,hy]
   obtain⟨Hz,Hy,Hstr⟩:=hid3 hz hy hstr;clear hstr hy hz;go_wp2_with fail;refine(Be Hts.o.rd HB.o Hz.o).mono ?_;rintro e w2 ⟨rfl,hr,hk⟩;have Hts2:=Lib.hid (Hts.o.num hr hk);have hsz2:=hk.size;clear hr hk;go_wp2_with fail;have Hts2a:=Lib.hid (Hts2.o.keep (S:=λ_=>False) (Keeps.alloc w2 (.cells #[.int .i64 (z*10000),.bool false] 39)) (by simp));refine(Be Hts2a.o.rd HB.o Hy.o).mono ?_;rintro e w3 ⟨rfl,hr,hk⟩;have Hts3:=Lib.hid (Hts2a.o.num hr hk);have hlt:=lt_of_block Hts2.o.blk;have hx:=Nc hk j6;have xo:=Aa hx;have xf:=Ab hx;have hxl:=lt_of_block hx;have xo0:=xo 0;have xo1:=xo 1;have xf1:=xf 1;have ho:=Hts3.o.blk;have tc1:w3.cell? ⟨w.heap.size+1,1,none⟩=some (.slice adv i capv):=Aa ho 1;have hvx:(Value.slice adv i capv).ownBlock≠some w2.heap.size:=λe=>by have:=(Hts.o.row.lt _ e).2;omega
   have hts4:=Hts3.o.keep j4w (λj hj=>by subst hj;exact⟨by omega,hvx⟩);have hrow4:=hts4.row;rw [Cy] at hrow4;have Hts4:=Lib.hid hts4;have Hrow4:=Lib.hid hrow4;clear xo xf hr hk hx ho hts4 hrow4
   go_wp2_with (at_builtin;refine Am rfl (.tmp 24) (.tmp 26) 24 rfl 0 39 i0 _ 2 16 Tryz.underlying24 hi hi0 hi1 hi2 rfl j7 (.slice adv i capv) i _ rfl (Hrow4.o.alloc _) _ 1 [.int .i64 (z*10000),.bool (y % 2==1)] rfl (Reads.litAt _ _ _ _ _ _ (by simp) rfl) jf jd j6 j6 ?_)
   intro v' w4 hown4 hk4 hf4;have hs4:(w3.setCell ⟨w2.heap.size,1,none⟩ (.bool (y % 2==1))).heap.size=w3.heap.size:=by simp [World.setCell]
   have hk4':Keeps (λj=>(Value.slice adv i capv).ownBlock=some j) (w3.setCell ⟨w2.heap.size,1,none⟩ (.bool (y % 2==1))) w4:=(Keeps.alloc _ _).trans (hk4.mono λj _ hj=> .inl hj)
   have hvb:∀g,(Value.slice adv i capv).ownBlock=some g->w.heap.size<=g/\g≠w.heap.size/\g≠w.heap.size+1:=λg hg=>
    ⟨Hts4.o.new g hg,λe=>Ah Hts4.o.row Hts4.o.res j7 (by rw [hg,e]),λe=>Ah Hts4.o.row Hts4.o.blk j7 (by rw [hg,e])⟩
   have hres4:=Ad Hts4.o.res hk4' (λhs=>(hvb _ hs).2.1 rfl);have hblk4:=Ad Hts4.o.blk hk4' (λhs=>(hvb _ hs).2.2 rfl);have hrd4:=Hts4.o.rd.keeps hk4' (λj hj=>by have:=(hvb j hj).1;omega)
   have hnew4:∀g,v'.ownBlock=some g->w.heap.size<=g:=λg hg=>by
    rcases hf4 with hf|⟨g',hg',hh⟩
    ·exact(hvb g (by rw [<-hf];exact hg)).1
    ·rw [hg'] at hg;simp only [Option.some.injEq] at hg;first|omega|(simp only [World.size_alloc,hs4] at hh;omega)|(simp [World.setCell] at hh;omega)
   have hkp4:Keeps (λj=>j=b) w w4:=Hts4.o.kp.trans (hk4'.mono λj _ hj=> .inr (hvb j hj).1)
   have hrow5:w4.ownsRow 0 39 2 v' (Co B (i+1)).length ((Co B (i+1)).flatMap Tn.cells):=by
    rw [Cy,Hstr.o];simpa [List.flatMap_append,Tn.cells] using hown4
   obtain⟨adv',capv',rfl,hcv',_⟩:=Ae hown4;have tc5:w4.cell? ⟨w.heap.size+1,1,none⟩=some (.slice adv i capv):=Aa hblk4 1;have tf5:=Ab hblk4 1
   have hts5:TS lo w (w4.setCell ⟨w.heap.size+1,1,none⟩ (.slice adv' (i+1) capv')) b B w.heap.size (w.heap.size+1) (zTm (.slice adv' (i+1) capv')) (.slice adv' (i+1) capv') (Co B (i+1)) (1+2*(i+1)):=
    TS.set (C:=zTm (.slice adv i capv)) ⟨hrd4,hres4,hblk4,hrow5,hnew4,hkp4,Hts4.o.ord⟩ 1 _ (heap_setCell_same _ _ 1 _ _ _ hblk4)
   have Hts5:=Lib.hid hts5;clear hts5;clear hown4 hk4 hf4 hk4' hvb hres4 hblk4 hrd4 hnew4 hkp4 hrow5;go_wp2;go_roundw
   case rel=>exact⟨i+1,_,by omega,by go_num,Hts5.o⟩
   case measure=>simp [intOf];omega
  ·have hiN':i=N:=j8;subst hiN';clear hiN1 hcv;have hoo:1+2*i=scrO B:=by unfold scrO;rw [<-HNe.o]
   obtain⟨y0,hy0,hy0a,hy0b⟩:=Ed HB.o (1+2*i);obtain⟨y1,hy1,hy1a,hy1b⟩:=Ed HB.o (1+2*i+1);obtain⟨y2,hy2,hy2a,hy2b⟩:=Ed HB.o (1+2*i+2);obtain⟨y3,hy3,hy3a,hy3b⟩:=Ed HB.o (1+2*i+3);obtain⟨y4,hy4,hy4a,hy4b⟩:=Ed HB.o (1+2*i+4);obtain⟨y5,hy5,hy5a,hy5b⟩:=Ed HB.o (1+2*i+5)
   have hterms:Bz B=⟨y2*1000,y0 % 28+1,y1 % 25+1,y3,y4 % 100,10957+y5,Co B i⟩:=by
    unfold Bz;rw [<-hoo,<-HNe.o,hy0,hy1,hy2,hy3,hy4,hy5]
   obtain⟨Hz,Hy,Hoo,Hy0,Hy1,Hy2,Hy3,Hy4,Hy5⟩:=hid9 hz hy hoo hy0 hy1 hy2 hy3 hy4 hy5;clear hy5 hy4 hy3 hy2 hy1 hy0 hoo hy hz;have Hterms:=Lib.hid hterms;clear hterms;go_wp2_with fail;refine(Be Hts.o.rd HB.o Hy0.o).mono ?_;rintro e q0 ⟨rfl,hr,hk⟩;have Hq0a:=Hts.o.num hr hk;have q0o:=Aa Hq0a.blk 2;have q0f:=Ab Hq0a.blk 2;have q0k:TS lo w (q0.setCell ⟨w.heap.size+1,2,none⟩ (.int .i64 (y0 % 28+1))) b B w.heap.size (w.heap.size+1) #[.int .i64 0,.slice adv i capv,.int .i64 (y0 % 28+1),.int .i64 0,.int .i64 0,.int .i64 0,.int .i64 0] (.slice adv i capv) (Co B i) ((1+2*i)+1):=TS.set Hq0a 2 _ (heap_setCell_same _ _ 2 _ _ _ Hq0a.blk);have Hq0:=Lib.hid q0k;clear hr hk Hq0a q0k;go_wp2_with fail;refine(Be Hq0.o.rd HB.o Hy1.o).mono ?_;rintro e q1 ⟨rfl,hr,hk⟩;have Hq1a:=Hq0.o.num hr hk;have q1o:=Aa Hq1a.blk 3;have q1f:=Ab Hq1a.blk 3;have q1k:TS lo w (q1.setCell ⟨w.heap.size+1,3,none⟩ (.int .i64 (y1 % 25+1))) b B w.heap.size (w.heap.size+1) #[.int .i64 0,.slice adv i capv,.int .i64 (y0 % 28+1),.int .i64 (y1 % 25+1),.int .i64 0,.int .i64 0,.int .i64 0] (.slice adv i capv) (Co B i) ((1+2*i+1)+1):=TS.set Hq1a 3 _ (heap_setCell_same _ _ 3 _ _ _ Hq1a.blk);have Hq1:=Lib.hid q1k;clear hr hk Hq1a q1k;go_wp2_with fail;refine(Be Hq1.o.rd HB.o Hy2.o).mono ?_;rintro e q2 ⟨rfl,hr,hk⟩;have Hq2a:=Hq1.o.num hr hk;have q2o:=Aa Hq2a.blk 0;have q2f:=Ab Hq2a.blk 0;have q2k:TS lo w (q2.setCell ⟨w.heap.size+1,0,none⟩ (.int .i64 (y2*1000))) b B w.heap.size (w.heap.size+1) #[.int .i64 (y2*1000),.slice adv i capv,.int .i64 (y0 % 28+1),.int .i64 (y1 % 25+1),.int .i64 0,.int .i64 0,.int .i64 0] (.slice adv i capv) (Co B i) ((1+2*i+2)+1):=TS.set Hq2a 0 _ (heap_setCell_same _ _ 0 _ _ _ Hq2a.blk);have Hq2:=Lib.hid q2k;clear hr hk Hq2a q2k;go_wp2_with fail;refine(Be Hq2.o.rd HB.o Hy3.o).mono ?_;rintro e q3 ⟨rfl,hr,hk⟩;have Hq3a:=Hq2.o.num hr hk;have q3o:=Aa Hq3a.blk 4;have q3f:=Ab Hq3a.blk 4;have q3k:TS lo w (q3.setCell ⟨w.heap.size+1,4,none⟩ (.int .i64 y3)) b B w.heap.size (w.heap.size+1) #[.int .i64 (y2*1000),.slice adv i capv,.int .i64 (y0 % 28+1),.int .i64 (y1 % 25+1),.int .i64 y3,.int .i64 0,.int .i64 0] (.slice adv i capv) (Co B i) ((1+2*i+3)+1):=TS.set Hq3a 4 _ (heap_setCell_same _ _ 4 _ _ _ Hq3a.blk);have Hq3:=Lib.hid q3k;clear hr hk Hq3a q3k;go_wp2_with fail;refine(Be Hq3.o.rd HB.o Hy4.o).mono ?_;rintro e q4 ⟨rfl,hr,hk⟩;have Hq4a:=Hq3.o.num hr hk;have q4o:=Aa Hq4a.blk 5;have q4f:=Ab Hq4a.blk 5;have q4k:TS lo w (q4.setCell ⟨w.heap.size+1,5,none⟩ (.int .i64 (y4 % 100))) b B w.heap.size (w.heap.size+1) #[.int .i64 (y2*1000),.slice adv i capv,.int .i64 (y0 % 28+1),.int .i64 (y1 % 25+1),.int .i64 y3,.int .i64 (y4 % 100),.int .i64 0] (.slice adv i capv) (Co B i) ((1+2*i+4)+1):=TS.set Hq4a 5 _ (heap_setCell_same _ _ 5 _ _ _ Hq4a.blk);have Hq4:=Lib.hid q4k;clear hr hk Hq4a q4k;go_wp2_with fail;refine(Be Hq4.o.rd HB.o Hy5.o).mono ?_;rintro e q5 ⟨rfl,hr,hk⟩;have hq5:=Hq4.o.num hr hk;have o0:=Aa hq5.blk 0;have o1:=Aa hq5.blk 1;have o2:=Aa hq5.blk 2
   have o3:=Aa hq5.blk 3;have o4:=Aa hq5.blk 4;have o5:=Aa hq5.blk 5;have o6:=Aa hq5.blk 6;have o6f:=Ab hq5.blk 6;have hres:=hq5.res;unfold zTm at hres;have r0:=Aa hres 0;have r1:=Aa hres 1;have r2:=Aa hres 2;have r3:=Aa hres 3;have r4:=Aa hres 4;have r5:=Aa hres 5;have r6:=Aa hres 6;have rf:=Ab hres;have Hq5:=Lib.hid hq5;clear hr hk hq5 hres;go_wp2_with fail
   have hend:∀u0 u1 u2 u3 u4 u5 u6:Value,let W:=(((((((q5.setCell ⟨w.heap.size+1,6,none⟩ (.int .i64 (10957+y5))).setCell ⟨w.heap.size,0,none⟩ u0).setCell ⟨w.heap.size,1,none⟩ u1).setCell ⟨w.heap.size,2,none⟩ u2).setCell ⟨w.heap.size,3,none⟩ u3).setCell ⟨w.heap.size,4,none⟩ u4).setCell ⟨w.heap.size,5,none⟩ u5).setCell ⟨w.heap.size,6,none⟩ u6
    Yb lo w b B (.returned (.agg #[.int .i64 (y2*1000),.slice adv i capv,.int .i64 (y0 % 28+1),.int .i64 (y1 % 25+1),.int .i64 y3,.int .i64 (y4 % 100),.int .i64 (10957+y5)])) W:=by
    intro u0 u1 u2 u3 u4 u5 u6 W;obtain⟨d1,d2,d3,d4⟩:=Hq5.o.ord;have hk6:Keeps (λj=>j=w.heap.size+1\/j=w.heap.size) q5 W:=Keeps.set7 (S:=λj=>j=w.heap.size+1\/j=w.heap.size) (Keeps.setCell q5 ⟨w.heap.size+1,6,none⟩ _ (.inl rfl)) w.heap.size (.inl (.inr rfl)) u0 u1 u2 u3 u4 u5 u6;refine⟨.slice adv i capv,by rw [Hterms.o];rfl, ?_, ?_,Hq5.o.new,Hq5.o.kp.trans (hk6.mono λj _ hj=>by right;omega)⟩
    ·rw [<-Hoo.o];exact Hq5.o.rd.keeps hk6 (λj hj=>by omega)
    ·have:=hk6.row Hq5.o.row (λg hg e=>by
      rcases e with e|e
      ·exact Ah Hq5.o.row Hq5.o.blk j7 (by rw [hg,e])
      ·exact Ah Hq5.o.row Hq5.o.res (by decide) (by rw [hg,e]))
     rw [Cy] at this;rw [<-HNe.o];exact this
   have Hend:=Lib.hid hend;clear hend;exact bodyPost_ret (v:= .agg #[.int .i64 (y2*1000),.slice adv i capv,.int .i64 (y0 % 28+1),.int .i64 (y1 % 25+1),.int .i64 y3,.int .i64 (y4 % 100),.int .i64 (10957+y5)]) (by simp [results,Tryz.results18,go_sem,r0,r1,r2,r3,r4,r5,r6]) rfl (Hend.o _ _ _ _ _ _ _)
def Cmd.val(c:Cmd):Value:= .agg #[.int .i64 c.kind,.int .i64 c.day,.int .i64 c.tranche,.int .i64 c.amount,.int .i64 c.ref]
theorem Keeps.set5{S:Nat->Prop}{w0 w:World}(h:Keeps S w0 w)(g:Nat)(hg:S g\/w0.heap.size<=g)(u0 u1 u2 u3 u4:Value):
  Keeps S w0 (((((w.setCell ⟨g,0,none⟩ u0).setCell ⟨g,1,none⟩ u1).setCell ⟨g,2,none⟩ u2).setCell ⟨g,3,none⟩ u3).setCell ⟨g,4,none⟩ u4):=
 ((((h.trans (Keeps.setCell _ _ _ hg)).trans (Keeps.setCell _ _ _ hg)).trans (Keeps.setCell _ _ _ hg)).trans (Keeps.setCell _ _ _ hg)).trans (Keeps.setCell _ _ _ hg)
def Dh(lo:Nat)(w:World)(b:Nat)(B:List Int)(today:Int)(k:Nat)(e:Ending)(w':World):Prop:=
 e= .returned (cmdAt B today k).val/\RdAt lo w' b B (k+4)/\Keeps (λj=>j=b) w w'
theorem Aay(lo b k:Nat)(y0 y1 y2 y3:Int)(B:List Int)(today:Int)(w:World)(h:RdAt lo w b B k)(hB:ByOk B)(hlo:lo<=w.heap.size)(hbl:b<w.heap.size)(_:0<=today)(_:today<=1000000000)
  (hy0:bt B k=y0) (hy1:bt B (k+1)=y1) (hy2:bt B (k+2)=y2) (hy3:bt B (k+3)=y3) (hy0a:0<=y0) (hy0b:y0<=255) (hy1a:0<=y1) (hy1b:y1<=255) (hy2a:0<=y2) (hy2b:y2<=255) (hy3a:0<=y3) (hy3b:y3<=255) (hm:y0 % 11=0):
  Calls Tryz.prog 19 #[(.pointer (some ⟨b,0,none⟩)),.int .i64 today] w (Dh lo w b B today k):=by
 have hcmd:cmdAt B today k=⟨1,0,y1 % 4,256*y2+y3,0⟩:=by unfold cmdAt;rw [hy0,hy1,hy2,hy3];simp [cmdOf,hm]
 refine jw ?_;intro hw0 ha0;clear h;obtain⟨HB,Hy0,Hy1,Hy2,Hy3,Hcmd,Hw0,Ha0⟩:=hid8 hB hy0 hy1 hy2 hy3 hcmd hw0 ha0;clear ha0 hw0 hcmd hy3 hy2 hy1 hy0 hB;go_enter Tryz.func19,Tryz.ntmps19;go_wp2_with fail;refine jx ?_;rintro e w1 ⟨rfl,hr1,hk1⟩;refine jy ?_;intro Hr1 Hb1 Hk1;clear hr1 hk1;go_wp2_with fail;refine jz ?_;rintro e w2 ⟨rfl,hr2,hk2⟩;refine jB ?_;intro Hr2 Hb2 Hk2;clear hr2 hk2;go_wp2_with fail;refine jC ?_;rintro e w3 ⟨rfl,hr3,hk3⟩;refine jD ?_;intro Hr3 Hb3 Hk3;clear hr3 hk3;go_wp2_with fail;refine jE ?_;rintro e w4 ⟨rfl,hr4,hk4⟩;refine jF ?_;intro hb4 r0 r1 r2 r3 r4 f0 f1 f2 f3 f4 rl
 have hend:∀(o:Obj) (u0 u1 u2 u3 u4:Value),Dh lo w b B today k (.returned (.agg #[.int .i64 (1),.int .i64 (0),.int .i64 (y1 % 4),.int .i64 (256*y2+y3),.int .i64 (0)])) ((((((w4.setCell ⟨w.heap.size,0,none⟩ u0).setCell ⟨w.heap.size,1,none⟩ u1).setCell ⟨w.heap.size,2,none⟩ u2).setCell ⟨w.heap.size,3,none⟩ u3).setCell ⟨w.heap.size,4,none⟩ u4).alloc o):=by
  exact jG
 have Hend:=Lib.hid hend;clear hend hr4 hb4 hk4;go_wp2;exact bodyPost_ret (v:= .agg #[.int .i64 (1),.int .i64 (0),.int .i64 (y1 % 4),.int .i64 (256*y2+y3),.int .i64 (0)]) jH rfl (Hend.o _ _ _ _ _ _)
theorem Aax(lo b k:Nat)(y0 y1 y2 y3:Int)(B:List Int)(today:Int)(w:World)(h:RdAt lo w b B k)(hB:ByOk B)(hlo:lo<=w.heap.size)(hbl:b<w.heap.size)(_:0<=today)(_:today<=1000000000)
  (hy0:bt B k=y0) (hy1:bt B (k+1)=y1) (hy2:bt B (k+2)=y2) (hy3:bt B (k+3)=y3) (hy0a:0<=y0) (hy0b:y0<=255) (_:0<=y1) (_:y1<=255) (hy2a:0<=y2) (hy2b:y2<=255) (hy3a:0<=y3) (hy3b:y3<=255) (hm:y0 % 11=1):
  Calls Tryz.prog 19 #[(.pointer (some ⟨b,0,none⟩)),.int .i64 today] w (Dh lo w b B today k):=by
 have hcmd:cmdAt B today k=⟨2,0,0,256*y2+y3,0⟩:=by unfold cmdAt;rw [hy0,hy1,hy2,hy3];simp [cmdOf,hm]
 refine jw ?_;intro hw0 ha0;clear h;obtain⟨HB,Hy0,Hy1,Hy2,Hy3,Hcmd,Hw0,Ha0⟩:=hid8 hB hy0 hy1 hy2 hy3 hcmd hw0 ha0;clear ha0 hw0 hcmd hy3 hy2 hy1 hy0 hB;go_enter Tryz.func19,Tryz.ntmps19;go_wp2_with fail;refine jx ?_;rintro e w1 ⟨rfl,hr1,hk1⟩;refine jy ?_;intro Hr1 Hb1 Hk1;clear hr1 hk1;go_wp2_with fail;refine jz ?_;rintro e w2 ⟨rfl,hr2,hk2⟩;refine jB ?_;intro Hr2 Hb2 Hk2;clear hr2 hk2;go_wp2_with fail;refine jC ?_;rintro e w3 ⟨rfl,hr3,hk3⟩;refine jD ?_;intro Hr3 Hb3 Hk3;clear hr3 hk3;go_wp2_with fail;refine jE ?_;rintro e w4 ⟨rfl,hr4,hk4⟩;refine jF ?_;intro hb4 r0 r1 r2 r3 r4 f0 f1 f2 f3 f4 rl
 have hend:∀(o:Obj) (u0 u1 u2 u3 u4:Value),Dh lo w b B today k (.returned (.agg #[.int .i64 (2),.int .i64 (0),.int .i64 (0),.int .i64 (256*y2+y3),.int .i64 (0)])) ((((((w4.setCell ⟨w.heap.size,0,none⟩ u0).setCell ⟨w.heap.size,1,none⟩ u1).setCell ⟨w.heap.size,2,none⟩ u2).setCell ⟨w.heap.size,3,none⟩ u3).setCell ⟨w.heap.size,4,none⟩ u4).alloc o):=by
  exact jG
 have Hend:=Lib.hid hend;clear hend hr4 hb4 hk4;go_wp2;exact bodyPost_ret (v:= .agg #[.int .i64 (2),.int .i64 (0),.int .i64 (0),.int .i64 (256*y2+y3),.int .i64 (0)]) jH rfl (Hend.o _ _ _ _ _ _)
theorem Aaw(lo b k:Nat)(y0 y1 y2 y3:Int)(B:List Int)(today:Int)(w:World)(h:RdAt lo w b B k)(hB:ByOk B)(hlo:lo<=w.heap.size)(hbl:b<w.heap.size)(ht0:0<=today)(ht1:today<=1000000000)
  (hy0:bt B k=y0) (hy1:bt B (k+1)=y1) (hy2:bt B (k+2)=y2) (hy3:bt B (k+3)=y3) (hy0a:0<=y0) (hy0b:y0<=255) (hy1a:0<=y1) (hy1b:y1<=255) (hy2a:0<=y2) (hy2b:y2<=255) (hy3a:0<=y3) (hy3b:y3<=255) (hm:y0 % 11=2):
  Calls Tryz.prog 19 #[(.pointer (some ⟨b,0,none⟩)),.int .i64 today] w (Dh lo w b B today k):=by
 have hcmd:cmdAt B today k=⟨3,today-y3,y1 % 4,256*y2+y3,0⟩:=by unfold cmdAt;rw [hy0,hy1,hy2,hy3];simp [cmdOf,hm]
 refine jw ?_;intro hw0 ha0;clear h;obtain⟨HB,Hy0,Hy1,Hy2,Hy3,Hcmd,Hw0,Ha0⟩:=hid8 hB hy0 hy1 hy2 hy3 hcmd hw0 ha0;clear ha0 hw0 hcmd hy3 hy2 hy1 hy0 hB;go_enter Tryz.func19,Tryz.ntmps19;go_wp2_with fail;refine jx ?_;rintro e w1 ⟨rfl,hr1,hk1⟩;refine jy ?_;intro Hr1 Hb1 Hk1;clear hr1 hk1;go_wp2_with fail;refine jz ?_;rintro e w2 ⟨rfl,hr2,hk2⟩;refine jB ?_;intro Hr2 Hb2 Hk2;clear hr2 hk2;go_wp2_with fail;refine jC ?_;rintro e w3 ⟨rfl,hr3,hk3⟩;refine jD ?_;intro Hr3 Hb3 Hk3;clear hr3 hk3;go_wp2_with fail;refine jE ?_;rintro e w4 ⟨rfl,hr4,hk4⟩;refine jF ?_;intro hb4 r0 r1 r2 r3 r4 f0 f1 f2 f3 f4 rl
 have hend:∀(o:Obj) (u0 u1 u2 u3 u4:Value),Dh lo w b B today k (.returned (.agg #[.int .i64 (3),.int .i64 (today-y3),.int .i64 (y1 % 4),.int .i64 (256*y2+y3),.int .i64 (0)])) ((((((w4.setCell ⟨w.heap.size,0,none⟩ u0).setCell ⟨w.heap.size,1,none⟩ u1).setCell ⟨w.heap.size,2,none⟩ u2).setCell ⟨w.heap.size,3,none⟩ u3).setCell ⟨w.heap.size,4,none⟩ u4).alloc o):=by
  exact jG
 have Hend:=Lib.hid hend;clear hend hr4 hb4 hk4;go_wp2;exact bodyPost_ret (v:= .agg #[.int .i64 (3),.int .i64 (today-y3),.int .i64 (y1 % 4),.int .i64 (256*y2+y3),.int .i64 (0)]) jH rfl (Hend.o _ _ _ _ _ _)
theorem Aav(lo b k:Nat)(y0 y1 y2 y3:Int)(B:List Int)(today:Int)(w:World)(h:RdAt lo w b B k)(hB:ByOk B)(hlo:lo<=w.heap.size)(hbl:b<w.heap.size)(_:0<=today)(_:today<=1000000000)
  (hy0:bt B k=y0) (hy1:bt B (k+1)=y1) (hy2:bt B (k+2)=y2) (hy3:bt B (k+3)=y3) (hy0a:0<=y0) (hy0b:y0<=255) (hy1a:0<=y1) (hy1b:y1<=255) (hy2a:0<=y2) (hy2b:y2<=255) (hy3a:0<=y3) (hy3b:y3<=255) (hm:y0 % 11=3):
  Calls Tryz.prog 19 #[(.pointer (some ⟨b,0,none⟩)),.int .i64 today] w (Dh lo w b B today k):=by
 have hcmd:cmdAt B today k=⟨4,0,y1 % 4,256*y2+y3,0⟩:=by unfold cmdAt;rw [hy0,hy1,hy2,hy3];simp [cmdOf,hm]
 refine jw ?_;intro hw0 ha0;clear h;obtain⟨HB,Hy0,Hy1,Hy2,Hy3,Hcmd,Hw0,Ha0⟩:=hid8 hB hy0 hy1 hy2 hy3 hcmd hw0 ha0;clear ha0 hw0 hcmd hy3 hy2 hy1 hy0 hB;go_enter Tryz.func19,Tryz.ntmps19;go_wp2_with fail;refine jx ?_;rintro e w1 ⟨rfl,hr1,hk1⟩;refine jy ?_;intro Hr1 Hb1 Hk1;clear hr1 hk1;go_wp2_with fail;refine jz ?_;rintro e w2 ⟨rfl,hr2,hk2⟩;refine jB ?_;intro Hr2 Hb2 Hk2;clear hr2 hk2;go_wp2_with fail;refine jC ?_;rintro e w3 ⟨rfl,hr3,hk3⟩;refine jD ?_;intro Hr3 Hb3 Hk3;clear hr3 hk3;go_wp2_with fail;refine jE ?_;rintro e w4 ⟨rfl,hr4,hk4⟩;refine jF ?_;intro hb4 r0 r1 r2 r3 r4 f0 f1 f2 f3 f4 rl
 have hend:∀(o:Obj) (u0 u1 u2 u3 u4:Value),Dh lo w b B today k (.returned (.agg #[.int .i64 (4),.int .i64 (0),.int .i64 (y1 % 4),.int .i64 (256*y2+y3),.int .i64 (0)])) ((((((w4.setCell ⟨w.heap.size,0,none⟩ u0).setCell ⟨w.heap.size,1,none⟩ u1).setCell ⟨w.heap.size,2,none⟩ u2).setCell ⟨w.heap.size,3,none⟩ u3).setCell ⟨w.heap.size,4,none⟩ u4).alloc o):=by
  exact jG
 have Hend:=Lib.hid hend;clear hend hr4 hb4 hk4;go_wp2;exact bodyPost_ret (v:= .agg #[.int .i64 (4),.int .i64 (0),.int .i64 (y1 % 4),.int .i64 (256*y2+y3),.int .i64 (0)]) jH rfl (Hend.o _ _ _ _ _ _)
theorem Aau(lo b k:Nat)(y0 y1 y2 y3:Int)(B:List Int)(today:Int)(w:World)(h:RdAt lo w b B k)(hB:ByOk B)(hlo:lo<=w.heap.size)(hbl:b<w.heap.size)(_:0<=today)(_:today<=1000000000)
  (hy0:bt B k=y0) (hy1:bt B (k+1)=y1) (hy2:bt B (k+2)=y2) (hy3:bt B (k+3)=y3) (hy0a:0<=y0) (hy0b:y0<=255) (_:0<=y1) (_:y1<=255) (hy2a:0<=y2) (hy2b:y2<=255) (_:0<=y3) (_:y3<=255) (hm:y0 % 11=4):
  Calls Tryz.prog 19 #[(.pointer (some ⟨b,0,none⟩)),.int .i64 today] w (Dh lo w b B today k):=by
 have hcmd:cmdAt B today k=⟨5,0,0,0,y2 % 8+1⟩:=by unfold cmdAt;rw [hy0,hy1,hy2,hy3];simp [cmdOf,hm]
 refine jw ?_;intro hw0 ha0;clear h;obtain⟨HB,Hy0,Hy1,Hy2,Hy3,Hcmd,Hw0,Ha0⟩:=hid8 hB hy0 hy1 hy2 hy3 hcmd hw0 ha0;clear ha0 hw0 hcmd hy3 hy2 hy1 hy0 hB;go_enter Tryz.func19,Tryz.ntmps19;go_wp2_with fail;refine jx ?_;rintro e w1 ⟨rfl,hr1,hk1⟩;refine jy ?_;intro Hr1 Hb1 Hk1;clear hr1 hk1;go_wp2_with fail;refine jz ?_;rintro e w2 ⟨rfl,hr2,hk2⟩;refine jB ?_;intro Hr2 Hb2 Hk2;clear hr2 hk2;go_wp2_with fail;refine jC ?_;rintro e w3 ⟨rfl,hr3,hk3⟩;refine jD ?_;intro Hr3 Hb3 Hk3;clear hr3 hk3;go_wp2_with fail;refine jE ?_;rintro e w4 ⟨rfl,hr4,hk4⟩;refine jF ?_;intro hb4 r0 r1 r2 r3 r4 f0 f1 f2 f3 f4 rl
 have hend:∀(o:Obj) (u0 u1 u2 u3 u4:Value),Dh lo w b B today k (.returned (.agg #[.int .i64 (5),.int .i64 (0),.int .i64 (0),.int .i64 (0),.int .i64 (y2 % 8+1)])) ((((((w4.setCell ⟨w.heap.size,0,none⟩ u0).setCell ⟨w.heap.size,1,none⟩ u1).setCell ⟨w.heap.size,2,none⟩ u2).setCell ⟨w.heap.size,3,none⟩ u3).setCell ⟨w.heap.size,4,none⟩ u4).alloc o):=by
  exact jG
 have Hend:=Lib.hid hend;clear hend hr4 hb4 hk4;go_wp2;exact bodyPost_ret (v:= .agg #[.int .i64 (5),.int .i64 (0),.int .i64 (0),.int .i64 (0),.int .i64 (y2 % 8+1)]) jH rfl (Hend.o _ _ _ _ _ _)
theorem Aat(lo b k:Nat)(y0 y1 y2 y3:Int)(B:List Int)(today:Int)(w:World)(h:RdAt lo w b B k)(hB:ByOk B)(hlo:lo<=w.heap.size)(hbl:b<w.heap.size)(_:0<=today)(_:today<=1000000000)
  (hy0:bt B k=y0) (hy1:bt B (k+1)=y1) (hy2:bt B (k+2)=y2) (hy3:bt B (k+3)=y3) (hy0a:0<=y0) (hy0b:y0<=255) (_:0<=y1) (_:y1<=255) (hy2a:0<=y2) (hy2b:y2<=255) (_:0<=y3) (_:y3<=255) (hm:y0 % 11=5):
  Calls Tryz.prog 19 #[(.pointer (some ⟨b,0,none⟩)),.int .i64 today] w (Dh lo w b B today k):=by
 have hcmd:cmdAt B today k=⟨6,0,0,0,y2 % 8+1⟩:=by unfold cmdAt;rw [hy0,hy1,hy2,hy3];simp [cmdOf,hm]
 refine jw ?_;intro hw0 ha0;clear h;obtain⟨HB,Hy0,Hy1,Hy2,Hy3,Hcmd,Hw0,Ha0⟩:=hid8 hB hy0 hy1 hy2 hy3 hcmd hw0 ha0;clear ha0 hw0 hcmd hy3 hy2 hy1 hy0 hB;go_enter Tryz.func19,Tryz.ntmps19;go_wp2_with fail;refine jx ?_;rintro e w1 ⟨rfl,hr1,hk1⟩;refine jy ?_;intro Hr1 Hb1 Hk1;clear hr1 hk1;go_wp2_with fail;refine jz ?_;rintro e w2 ⟨rfl,hr2,hk2⟩;refine jB ?_;intro Hr2 Hb2 Hk2;clear hr2 hk2;go_wp2_with fail;refine jC ?_;rintro e w3 ⟨rfl,hr3,hk3⟩;refine jD ?_;intro Hr3 Hb3 Hk3;clear hr3 hk3;go_wp2_with fail;refine jE ?_;rintro e w4 ⟨rfl,hr4,hk4⟩;refine jF ?_;intro hb4 r0 r1 r2 r3 r4 f0 f1 f2 f3 f4 rl
 have hend:∀(o:Obj) (u0 u1 u2 u3 u4:Value),Dh lo w b B today k (.returned (.agg #[.int .i64 (6),.int .i64 (0),.int .i64 (0),.int .i64 (0),.int .i64 (y2 % 8+1)])) ((((((w4.setCell ⟨w.heap.size,0,none⟩ u0).setCell ⟨w.heap.size,1,none⟩ u1).setCell ⟨w.heap.size,2,none⟩ u2).setCell ⟨w.heap.size,3,none⟩ u3).setCell ⟨w.heap.size,4,none⟩ u4).alloc o):=by
  exact jG
 have Hend:=Lib.hid hend;clear hend hr4 hb4 hk4;go_wp2;exact bodyPost_ret (v:= .agg #[.int .i64 (6),.int .i64 (0),.int .i64 (0),.int .i64 (0),.int .i64 (y2 % 8+1)]) jH rfl (Hend.o _ _ _ _ _ _)
theorem Aas(lo b k:Nat)(y0 y1 y2 y3:Int)(B:List Int)(today:Int)(w:World)(h:RdAt lo w b B k)(hB:ByOk B)(hlo:lo<=w.heap.size)(hbl:b<w.heap.size)(_:0<=today)(_:today<=1000000000)
  (hy0:bt B k=y0) (hy1:bt B (k+1)=y1) (hy2:bt B (k+2)=y2) (hy3:bt B (k+3)=y3) (hy0a:0<=y0) (hy0b:y0<=255) (hy1a:0<=y1) (hy1b:y1<=255) (hy2a:0<=y2) (hy2b:y2<=255) (hy3a:0<=y3) (hy3b:y3<=255) (hm:y0 % 11=6):
  Calls Tryz.prog 19 #[(.pointer (some ⟨b,0,none⟩)),.int .i64 today] w (Dh lo w b B today k):=by
 have hcmd:cmdAt B today k=⟨7,0,y1 % 4,(256*y2+y3)*100,0⟩:=by unfold cmdAt;rw [hy0,hy1,hy2,hy3];simp [cmdOf,hm]
 refine jw ?_;intro hw0 ha0;clear h;obtain⟨HB,Hy0,Hy1,Hy2,Hy3,Hcmd,Hw0,Ha0⟩:=hid8 hB hy0 hy1 hy2 hy3 hcmd hw0 ha0;clear ha0 hw0 hcmd hy3 hy2 hy1 hy0 hB;go_enter Tryz.func19,Tryz.ntmps19;go_wp2_with fail;refine jx ?_;rintro e w1 ⟨rfl,hr1,hk1⟩;refine jy ?_;intro Hr1 Hb1 Hk1;clear hr1 hk1;go_wp2_with fail;refine jz ?_;rintro e w2 ⟨rfl,hr2,hk2⟩;refine jB ?_;intro Hr2 Hb2 Hk2;clear hr2 hk2;go_wp2_with fail;refine jC ?_;rintro e w3 ⟨rfl,hr3,hk3⟩;refine jD ?_;intro Hr3 Hb3 Hk3;clear hr3 hk3;go_wp2_with fail;refine jE ?_;rintro e w4 ⟨rfl,hr4,hk4⟩;refine jF ?_;intro hb4 r0 r1 r2 r3 r4 f0 f1 f2 f3 f4 rl
 have hend:∀(o:Obj) (u0 u1 u2 u3 u4:Value),Dh lo w b B today k (.returned (.agg #[.int .i64 (7),.int .i64 (0),.int .i64 (y1 % 4),.int .i64 ((256*y2+y3)*100),.int .i64 (0)])) ((((((w4.setCell ⟨w.heap.size,0,none⟩ u0).setCell ⟨w.heap.size,1,none⟩ u1).setCell ⟨w.heap.size,2,none⟩ u2).setCell ⟨w.heap.size,3,none⟩ u3).setCell ⟨w.heap.size,4,none⟩ u4).alloc o):=by
  exact jG
 have Hend:=Lib.hid hend;clear hend hr4 hb4 hk4;go_wp2;exact bodyPost_ret (v:= .agg #[.int .i64 (7),.int .i64 (0),.int .i64 (y1 % 4),.int .i64 ((256*y2+y3)*100),.int .i64 (0)]) jH rfl (Hend.o _ _ _ _ _ _)
theorem Aar(lo b k:Nat)(y0 y1 y2 y3:Int)(B:List Int)(today:Int)(w:World)(h:RdAt lo w b B k)(hB:ByOk B)(hlo:lo<=w.heap.size)(hbl:b<w.heap.size)(_:0<=today)(_:today<=1000000000)
  (hy0:bt B k=y0) (hy1:bt B (k+1)=y1) (hy2:bt B (k+2)=y2) (hy3:bt B (k+3)=y3) (hy0a:0<=y0) (hy0b:y0<=255) (_:0<=y1) (_:y1<=255) (_:0<=y2) (_:y2<=255) (hy3a:0<=y3) (hy3b:y3<=255) (hm:y0 % 11=7):
  Calls Tryz.prog 19 #[(.pointer (some ⟨b,0,none⟩)),.int .i64 today] w (Dh lo w b B today k):=by
 have hcmd:cmdAt B today k=⟨8,y3 % 40+1,0,0,0⟩:=by unfold cmdAt;rw [hy0,hy1,hy2,hy3];simp [cmdOf,hm]
 refine jw ?_;intro hw0 ha0;clear h;obtain⟨HB,Hy0,Hy1,Hy2,Hy3,Hcmd,Hw0,Ha0⟩:=hid8 hB hy0 hy1 hy2 hy3 hcmd hw0 ha0;clear ha0 hw0 hcmd hy3 hy2 hy1 hy0 hB;go_enter Tryz.func19,Tryz.ntmps19;go_wp2_with fail;refine jx ?_;rintro e w1 ⟨rfl,hr1,hk1⟩;refine jy ?_;intro Hr1 Hb1 Hk1;clear hr1 hk1;go_wp2_with fail;refine jz ?_;rintro e w2 ⟨rfl,hr2,hk2⟩;refine jB ?_;intro Hr2 Hb2 Hk2;clear hr2 hk2;go_wp2_with fail;refine jC ?_;rintro e w3 ⟨rfl,hr3,hk3⟩;refine jD ?_;intro Hr3 Hb3 Hk3;clear hr3 hk3;go_wp2_with fail;refine jE ?_;rintro e w4 ⟨rfl,hr4,hk4⟩;refine jF ?_;intro hb4 r0 r1 r2 r3 r4 f0 f1 f2 f3 f4 rl
 have hend:∀(o:Obj) (u0 u1 u2 u3 u4:Value),Dh lo w b B today k (.returned (.agg #[.int .i64 (8),.int .i64 (y3 % 40+1),.int .i64 (0),.int .i64 (0),.int .i64 (0)])) ((((((w4.setCell ⟨w.heap.size,0,none⟩ u0).setCell ⟨w.heap.size,1,none⟩ u1).setCell ⟨w.heap.size,2,none⟩ u2).setCell ⟨w.heap.size,3,none⟩ u3).setCell ⟨w.heap.size,4,none⟩ u4).alloc o):=by
  exact jG
 have Hend:=Lib.hid hend;clear hend hr4 hb4 hk4;go_wp2;exact bodyPost_ret (v:= .agg #[.int .i64 (8),.int .i64 (y3 % 40+1),.int .i64 (0),.int .i64 (0),.int .i64 (0)]) jH rfl (Hend.o _ _ _ _ _ _)
theorem Aaq(lo b k:Nat)(y0 y1 y2 y3:Int)(B:List Int)(today:Int)(w:World)(h:RdAt lo w b B k)(hB:ByOk B)(hlo:lo<=w.heap.size)(hbl:b<w.heap.size)(_:0<=today)(_:today<=1000000000)
  (hy0:bt B k=y0) (hy1:bt B (k+1)=y1) (hy2:bt B (k+2)=y2) (hy3:bt B (k+3)=y3) (hy0a:0<=y0) (hy0b:y0<=255) (_:0<=y1) (_:y1<=255) (_:0<=y2) (_:y2<=255) (_:0<=y3) (_:y3<=255) (hm:y0 % 11=8):
  Calls Tryz.prog 19 #[(.pointer (some ⟨b,0,none⟩)),.int .i64 today] w (Dh lo w b B today k):=by
 have hcmd:cmdAt B today k=⟨9,0,0,0,0⟩:=by unfold cmdAt;rw [hy0,hy1,hy2,hy3];simp [cmdOf,hm]
 refine jw ?_;intro hw0 ha0;clear h;obtain⟨HB,Hy0,Hy1,Hy2,Hy3,Hcmd,Hw0,Ha0⟩:=hid8 hB hy0 hy1 hy2 hy3 hcmd hw0 ha0;clear ha0 hw0 hcmd hy3 hy2 hy1 hy0 hB;go_enter Tryz.func19,Tryz.ntmps19;go_wp2_with fail;refine jx ?_;rintro e w1 ⟨rfl,hr1,hk1⟩;refine jy ?_;intro Hr1 Hb1 Hk1;clear hr1 hk1;go_wp2_with fail;refine jz ?_;rintro e w2 ⟨rfl,hr2,hk2⟩;refine jB ?_;intro Hr2 Hb2 Hk2;clear hr2 hk2;go_wp2_with fail;refine jC ?_;rintro e w3 ⟨rfl,hr3,hk3⟩;refine jD ?_;intro Hr3 Hb3 Hk3;clear hr3 hk3;go_wp2_with fail;refine jE ?_;rintro e w4 ⟨rfl,hr4,hk4⟩;refine jF ?_;intro hb4 r0 r1 r2 r3 r4 f0 f1 f2 f3 f4 rl
 have hend:∀(o:Obj) (u0 u1 u2 u3 u4:Value),Dh lo w b B today k (.returned (.agg #[.int .i64 (9),.int .i64 (0),.int .i64 (0),.int .i64 (0),.int .i64 (0)])) ((((((w4.setCell ⟨w.heap.size,0,none⟩ u0).setCell ⟨w.heap.size,1,none⟩ u1).setCell ⟨w.heap.size,2,none⟩ u2).setCell ⟨w.heap.size,3,none⟩ u3).setCell ⟨w.heap.size,4,none⟩ u4).alloc o):=by
  exact jG
 have Hend:=Lib.hid hend;clear hend hr4 hb4 hk4;go_wp2;exact bodyPost_ret (v:= .agg #[.int .i64 (9),.int .i64 (0),.int .i64 (0),.int .i64 (0),.int .i64 (0)]) jH rfl (Hend.o _ _ _ _ _ _)
theorem Aap(lo b k:Nat)(y0 y1 y2 y3:Int)(B:List Int)(today:Int)(w:World)(h:RdAt lo w b B k)(hB:ByOk B)(hlo:lo<=w.heap.size)(hbl:b<w.heap.size)(_:0<=today)(_:today<=1000000000)
  (hy0:bt B k=y0) (hy1:bt B (k+1)=y1) (hy2:bt B (k+2)=y2) (hy3:bt B (k+3)=y3) (hy0a:0<=y0) (hy0b:y0<=255) (_:0<=y1) (_:y1<=255) (hy2a:0<=y2) (hy2b:y2<=255) (_:0<=y3) (_:y3<=255) (hm:y0 % 11=9):
  Calls Tryz.prog 19 #[(.pointer (some ⟨b,0,none⟩)),.int .i64 today] w (Dh lo w b B today k):=by
 have hcmd:cmdAt B today k=⟨10,0,0,0,y2 % 8+1⟩:=by unfold cmdAt;rw [hy0,hy1,hy2,hy3];simp [cmdOf,hm]
 refine jw ?_;intro hw0 ha0;clear h;obtain⟨HB,Hy0,Hy1,Hy2,Hy3,Hcmd,Hw0,Ha0⟩:=hid8 hB hy0 hy1 hy2 hy3 hcmd hw0 ha0;clear ha0 hw0 hcmd hy3 hy2 hy1 hy0 hB;go_enter Tryz.func19,Tryz.ntmps19;go_wp2_with fail;refine jx ?_;rintro e w1 ⟨rfl,hr1,hk1⟩;refine jy ?_;intro Hr1 Hb1 Hk1;clear hr1 hk1;go_wp2_with fail;refine jz ?_;rintro e w2 ⟨rfl,hr2,hk2⟩;refine jB ?_;intro Hr2 Hb2 Hk2;clear hr2 hk2;go_wp2_with fail;refine jC ?_;rintro e w3 ⟨rfl,hr3,hk3⟩;refine jD ?_;intro Hr3 Hb3 Hk3;clear hr3 hk3;go_wp2_with fail;refine jE ?_;rintro e w4 ⟨rfl,hr4,hk4⟩;refine jF ?_;intro hb4 r0 r1 r2 r3 r4 f0 f1 f2 f3 f4 rl
 have hend:∀(o:Obj) (u0 u1 u2 u3 u4:Value),Dh lo w b B today k (.returned (.agg #[.int .i64 (10),.int .i64 (0),.int .i64 (0),.int .i64 (0),.int .i64 (y2 % 8+1)])) ((((((w4.setCell ⟨w.heap.size,0,none⟩ u0).setCell ⟨w.heap.size,1,none⟩ u1).setCell ⟨w.heap.size,2,none⟩ u2).setCell ⟨w.heap.size,3,none⟩ u3).setCell ⟨w.heap.size,4,none⟩ u4).alloc o):=by
  exact jG
 have Hend:=Lib.hid hend;clear hend hr4 hb4 hk4;go_wp2;exact bodyPost_ret (v:= .agg #[.int .i64 (10),.int .i64 (0),.int .i64 (0),.int .i64 (0),.int .i64 (y2 % 8+1)]) jH rfl (Hend.o _ _ _ _ _ _)
theorem Yn(lo b k:Nat)(y0 y1 y2 y3:Int)(B:List Int)(today:Int)(w:World)(h:RdAt lo w b B k)(hB:ByOk B)(hlo:lo<=w.heap.size)(hbl:b<w.heap.size)(_:0<=today)(_:today<=1000000000)
  (hy0:bt B k=y0) (hy1:bt B (k+1)=y1) (hy2:bt B (k+2)=y2) (hy3:bt B (k+3)=y3) (hy0a:0<=y0) (hy0b:y0<=255) (_:0<=y1) (_:y1<=255) (hy2a:0<=y2) (hy2b:y2<=255) (_:0<=y3) (_:y3<=255) (hm:y0 % 11=10):
  Calls Tryz.prog 19 #[(.pointer (some ⟨b,0,none⟩)),.int .i64 today] w (Dh lo w b B today k):=by
 have hcmd:cmdAt B today k=⟨11,0,0,0,y2 % 8+1⟩:=by unfold cmdAt;rw [hy0,hy1,hy2,hy3];simp [cmdOf,hm]
 refine jw ?_;intro hw0 ha0;clear h;obtain⟨HB,Hy0,Hy1,Hy2,Hy3,Hcmd,Hw0,Ha0⟩:=hid8 hB hy0 hy1 hy2 hy3 hcmd hw0 ha0;clear ha0 hw0 hcmd hy3 hy2 hy1 hy0 hB;go_enter Tryz.func19,Tryz.ntmps19;go_wp2_with fail;refine jx ?_;rintro e w1 ⟨rfl,hr1,hk1⟩;refine jy ?_;intro Hr1 Hb1 Hk1;clear hr1 hk1;go_wp2_with fail;refine jz ?_;rintro e w2 ⟨rfl,hr2,hk2⟩;refine jB ?_;intro Hr2 Hb2 Hk2;clear hr2 hk2;go_wp2_with fail;refine jC ?_;rintro e w3 ⟨rfl,hr3,hk3⟩;refine jD ?_;intro Hr3 Hb3 Hk3;clear hr3 hk3;go_wp2_with fail;refine jE ?_;rintro e w4 ⟨rfl,hr4,hk4⟩;refine jF ?_;intro hb4 r0 r1 r2 r3 r4 f0 f1 f2 f3 f4 rl
 have hend:∀(o:Obj) (u0 u1 u2 u3 u4:Value),Dh lo w b B today k (.returned (.agg #[.int .i64 (11),.int .i64 (0),.int .i64 (0),.int .i64 (0),.int .i64 (y2 % 8+1)])) ((((((w4.setCell ⟨w.heap.size,0,none⟩ u0).setCell ⟨w.heap.size,1,none⟩ u1).setCell ⟨w.heap.size,2,none⟩ u2).setCell ⟨w.heap.size,3,none⟩ u3).setCell ⟨w.heap.size,4,none⟩ u4).alloc o):=by
  exact jG
 have Hend:=Lib.hid hend;clear hend hr4 hb4 hk4;go_wp2;exact bodyPost_ret (v:= .agg #[.int .i64 (11),.int .i64 (0),.int .i64 (0),.int .i64 (0),.int .i64 (y2 % 8+1)]) jH rfl (Hend.o _ _ _ _ _ _)
theorem Vu(lo b k:Nat)(B:List Int)(today:Int)(w:World)(h:RdAt lo w b B k)(hB:ByOk B)(hlo:lo<=w.heap.size)(hbl:b<w.heap.size)(ht0:0<=today)(ht1:today<=1000000000):
  Calls Tryz.prog 19 #[(.pointer (some ⟨b,0,none⟩)),.int .i64 today] w (Dh lo w b B today k):=by
 obtain⟨y0,hy0,hy0a,hy0b⟩:=Ed hB k;obtain⟨y1,hy1,hy1a,hy1b⟩:=Ed hB (k+1);obtain⟨y2,hy2,hy2a,hy2b⟩:=Ed hB (k+2);obtain⟨y3,hy3,hy3a,hy3b⟩:=Ed hB (k+3);rcases(show y0 % 11=0\/y0 % 11=1\/y0 % 11=2\/y0 % 11=3\/y0 % 11=4\/y0 % 11=5\/y0 % 11=6\/y0 % 11=7\/y0 % 11=8\/y0 % 11=9\/y0 % 11=10 from by omega) with hm|hm|hm|hm|hm|hm|hm|hm|hm|hm|hm
 ·exact Aay lo b k y0 y1 y2 y3 B today w h hB hlo hbl ht0 ht1 hy0 hy1 hy2 hy3 hy0a hy0b hy1a hy1b hy2a hy2b hy3a hy3b hm
 ·exact Aax lo b k y0 y1 y2 y3 B today w h hB hlo hbl ht0 ht1 hy0 hy1 hy2 hy3 hy0a hy0b hy1a hy1b hy2a hy2b hy3a hy3b hm
 ·exact Aaw lo b k y0 y1 y2 y3 B today w h hB hlo hbl ht0 ht1 hy0 hy1 hy2 hy3 hy0a hy0b hy1a hy1b hy2a hy2b hy3a hy3b hm
 ·exact Aav lo b k y0 y1 y2 y3 B today w h hB hlo hbl ht0 ht1 hy0 hy1 hy2 hy3 hy0a hy0b hy1a hy1b hy2a hy2b hy3a hy3b hm
 ·exact Aau lo b k y0 y1 y2 y3 B today w h hB hlo hbl ht0 ht1 hy0 hy1 hy2 hy3 hy0a hy0b hy1a hy1b hy2a hy2b hy3a hy3b hm
 ·exact Aat lo b k y0 y1 y2 y3 B today w h hB hlo hbl ht0 ht1 hy0 hy1 hy2 hy3 hy0a hy0b hy1a hy1b hy2a hy2b hy3a hy3b hm
 ·exact Aas lo b k y0 y1 y2 y3 B today w h hB hlo hbl ht0 ht1 hy0 hy1 hy2 hy3 hy0a hy0b hy1a hy1b hy2a hy2b hy3a hy3b hm
 ·exact Aar lo b k y0 y1 y2 y3 B today w h hB hlo hbl ht0 ht1 hy0 hy1 hy2 hy3 hy0a hy0b hy1a hy1b hy2a hy2b hy3a hy3b hm
 ·exact Aaq lo b k y0 y1 y2 y3 B today w h hB hlo hbl ht0 ht1 hy0 hy1 hy2 hy3 hy0a hy0b hy1a hy1b hy2a hy2b hy3a hy3b hm
 ·exact Aap lo b k y0 y1 y2 y3 B today w h hB hlo hbl ht0 ht1 hy0 hy1 hy2 hy3 hy0a hy0b hy1a hy1b hy2a hy2b hy3a hy3b hm
 ·exact Yn lo b k y0 y1 y2 y3 B today w h hB hlo hbl ht0 ht1 hy0 hy1 hy2 hy3 hy0a hy0b hy1a hy1b hy2a hy2b hy3a hy3b hm
end Go.Proofs.YtjkdnaljkdnomaaGreatDoor
