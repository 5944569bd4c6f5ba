/- Part 27 of what the laws of this seat share: walks of functions, and plain laws. -/
import Derived.Test.YtjkdnaljkdnomaaGreatDoorS26
set_option maxRecDepth 100000
set_option maxHeartbeats 6400000
namespace Go.Proofs.YtjkdnaljkdnomaaGreatDoor
open Go.RowKit
theorem Keeps.setB{w W:World}{B:Nat}(h:Keeps (λj=>j=B) w W)(i:Nat)(v:Value):Keeps (λj=>j=B) w (W.setCell ⟨B,i,none⟩ v):=h.trans (Keeps.setCell (S:=λj=>j=B\/w.heap.size<=j) W ⟨B,i,none⟩ v (.inl rfl))
def acNew(t:Tm):Ac:=⟨t,t.start,0, [], [],st0 t, [], []⟩
def NewAc(t:Tm)(w:World)(e:Ending)(w':World):Prop:=∃B x,e= .returned (.tuple #[(.pointer (some ⟨B,0,none⟩)),.int .i64 0])/\AcAt w' B x (acNew t)/\K0 w w'/\(∀b,AcF B x b\/x.rd b->w.heap.size<=b)
theorem Ws{t:Tm}(h:Dj t [] t.start=0):walkR t [] t.start=(st0 t,0):=by
 unfold walkR;rw [if_pos h,show(t.start-t.start).toNat=0 by omega];rfl
theorem acNew_ok{t:Tm}(h:Dj t [] t.start=0):AcOk (acNew t):=
 ⟨Ws h,rfl,by simp [acNew],by simp [acNew],by simp [acNew]⟩
theorem AcAt.new{w W8 W9:World}{t:Tm}{B bl bb n:Nat}{vt vtl vb vr vo:Value}{P:List SV}{W7:World}(hok:AcOk (acNew t))(hN:t.trs.length=n)(hrow:W7.ownsRow 0 39 2 vt n (t.trs.flatMap Tn.cells))(hdl:DL W7 bl t vtl [] (.slice none 0 0))(hbk:Cv W7 bb (.slice none 0 0) [])
  (hres:En W7 n (st0 t) vb vr vo P W8) (hB9:W9.heap[B]?=some (.cells #[.int .i64 t.limit,vt,.int .i64 t.cyc,.int .i64 t.due,.int .i64 t.minFixed,.int .i64 t.minPart,.int .i64 t.start,.int .i64 t.start,.int .i64 0,(.pointer (some ⟨bl,0,none⟩)),(.pointer (some ⟨bb,0,none⟩)),vb,.int .i64 (st0 t).p.cr,.int .i64 (st0 t).p.du,vr,vo,.slice none 0 0,.slice none 0 0] 104 (0,0))) (k9:Keeps (λi=>i=B) W8 W9)
  (hBl:B<W7.heap.size) (h1:∀b,vt.ownBlock=some b->b<B) (h2:bl<B) (h3:∀b,vtl.ownBlock=some b->b<B) (h4:bb<B) (hk:K0 w W7) (hw:∀b,b=B\/vt.ownBlock=some b\/b=bl\/vtl.ownBlock=some b\/b=bb->w.heap.size<=b):
  ∃x,AcAt W9 B x (acNew t)/\K0 w W9/\(∀b,AcF B x b\/x.rd b->w.heap.size<=b):=by
 have hkk:Keeps (λi=>i=B) W7 W9:=(hres.kp.mono (by simp)).trans (k9.mono λi _ e=> .inl e)
 have hf:∀b,vb.ownBlock=some b\/vr.ownBlock=some b\/vo.ownBlock=some b\/(∃y∈P,y.v.ownBlock=some b)->W7.heap.size<=b:=by
  rintro b (hb|hb|hb|⟨y,hy,hb⟩)
  ·exact hres.wb b hb
  ·exact hres.wr b hb
  ·exact hres.wo b hb
  ·exact hres.wl y hy b hb
 have hsz:=hk.size
 refine⟨⟨vt,.slice none 0 0,vtl,.slice none 0 0,vb,vr,vo,.slice none 0 0,.slice none 0 0,bl,bb,P, []⟩,⟨hB9,by rw [show(acNew t).t.trs.length=n from hN];exact hkk.row hrow λb hb e=>by have:=h1 b hb;have e':b=B:=e;omega,
  hdl.keepS hkk (λe=>by have e':bl=B:=e;omega) (λb hb e=>by have:=h3 b hb;have e':b=B:=e;omega) (by simp [Value.ownBlock]),hbk.keeps hkk (λb hb e=>by
   have e':b=B:=e;rcases hb with hb|hb
   ·have hb':b=bb:=hb;omega
   ·simp [Value.ownBlock] at hb),
  by rw [show(acNew t).s.p.bal.length=n from hres.nb];exact k9.row hres.bal λb hb e=>by have:=hres.wb b hb;have e':b=B:=e;omega,
  by rw [show(acNew t).s.R.length=n from hres.nr];exact k9.row hres.rts λb hb e=>by have:=hres.wr b hb;have e':b=B:=e;omega,
  k9.row hres.out λb hb e=>by have:=hres.wo b hb;have e':b=B:=e;omega,
  λy hy=>k9.row (hres.ln y hy) λb hb e=>by have:=hres.wl y hy b hb;have e':b=B:=e;omega,
  hres.lp,World.ownsRow_nil _ _ _ _,by simp,rfl,World.ownsRow_nil _ _ _ _,hok, ?_,by simp [Value.ownBlock],by simp [Value.ownBlock]⟩,(hk.nt hres.kp).trans (k9.mono λi _ e=> .inr (by have e':i=B:=e;have:=hw B (.inl rfl);omega)), ?_⟩
 ·intro b hb hF
  have hbB:b=B:=by
   rcases hF with hF|hF|hF
   ·exact hF
   ·simp [Value.ownBlock] at hF
   ·simp [Value.ownBlock] at hF
  subst hbB;rcases hb with hb|hb|hb|hb|hb|hb|hb|hb|hb|⟨y,hy,hb⟩
  ·have:=h1 b hb;omega
  ·have:=hf b (.inl hb);omega
  ·have:=hf b (.inr (.inl hb));omega
  ·have:=hf b (.inr (.inr (.inl hb)));omega
  ·have hb':b=bl:=hb;omega
  ·have:=h3 b hb;omega
  ·simp [Value.ownBlock] at hb
  ·rcases hb with hb|hb
   ·have hb':b=bb:=hb;omega
   ·simp [Value.ownBlock] at hb
  ·have:=hf b (.inr (.inr (.inr hb)));omega
  ·simp at hy
 ·rintro b ((hb|hb|hb)|hb|hb|hb|hb|hb|hb|hb|hb|hb|⟨y,hy,hb⟩)
  ·exact hw b (.inl hb)
  ·simp [Value.ownBlock] at hb
  ·simp [Value.ownBlock] at hb
  ·exact hw b (.inr (.inl hb))
  ·have:=hf b (.inl hb);omega
  ·have:=hf b (.inr (.inl hb));omega
  ·have:=hf b (.inr (.inr (.inl hb)));omega
  ·exact hw b (.inr (.inr (.inl hb)))
  ·exact hw b (.inr (.inr (.inr (.inl hb))))
  ·simp [Value.ownBlock] at hb
  ·rcases hb with hb|hb
   ·exact hw b (.inr (.inr (.inr (.inr hb))))
   ·simp [Value.ownBlock] at hb
  ·have:=hf b (.inr (.inr (.inr hb)));omega
  ·simp at hy
theorem accNew_ok(t:Tm)(v:Value)(w:World)(hr:Reads w 2 v t.trs.length (t.trs.flatMap Tn.cells))(hre:Dj t [] t.start=0):
  Calls Tryz.prog 22 #[.agg #[.int .i64 t.limit,v,.int .i64 t.cyc,.int .i64 t.due,.int .i64 t.minFixed,.int .i64 t.minPart,.int .i64 t.start]] w (NewAc t w):=by
 have hok:=Ei hre;obtain⟨⟨l0,l1⟩,_,_,_,_,_,hst1,hst2⟩:=Fz hok.tm;have hnew:=acNew_ok hre;have hwk:=Ws hre;obtain⟨n,hN⟩:=eX t.trs.length;rw [hN] at l0 l1;obtain⟨ad,c,hv,_,_⟩:=id hr;have hri:=λW (hW:K0 w W)=>Jj t ad c W (by rw [<-hv];exact hr.keeps hW (by simp)) j6;simp only [Tm.val] at hri;rw [hok.tm] at hri;rw [hv] at hr⊢;rw [hN] at hr hri hv⊢;have hcl:=λW (hW:K0 w W)=>Sd W (.slice ad n c) n _ (hr.keeps hW (by simp)) (λu hu=>Tn.one _ u hu) j6;obtain⟨W0,hW0⟩:=eY (w.alloc (.cells #[.int .i64 t.limit,.slice ad n c,.int .i64 t.cyc,.int .i64 t.due,.int .i64 t.minFixed,.int .i64 t.minPart,.int .i64 t.start] 26));have hb0:W0.heap[w.heap.size]?=some (.cells #[.int .i64 t.limit,.slice ad n c,.int .i64 t.cyc,.int .i64 t.due,.int .i64 t.minFixed,.int .i64 t.minPart,.int .i64 t.start] 26 (0,0)):=by rw [hW0];exact heap_alloc_new w _
 have hk0:K0 w W0:=by rw [hW0];exact Keeps.alloc _ _
 clear hr hv;obtain⟨Hri,HN,Hb0,Hk0⟩:=hid4 hri hN hb0 hk0;clear hk0 hb0 hN hri hok;obtain⟨Hnew,Hwk,Hcl⟩:=hid3 hnew hwk hcl;clear hcl hwk hnew hre;go_enter Tryz.func22,Tryz.ntmps22;go_wp2_with fail;rw [<-hW0];clear hW0;refine(Hri.o _ Hk0.o).mono ?_;rintro e w1 ⟨rfl,hk1⟩;have hb1:=Ad Hb0.o hk1 (by simp);have hk01:=Hk0.o.nt hk1;have p1:=Aa hb1 1;have f1:=Ab hb1 1;clear hk1;obtain⟨Hb1,Hk01⟩:=hid2 hb1 hk01;clear hk01 hb1;go_wp2_with fail;refine(Hcl.o _ Hk01.o).mono ?_;rintro e w2 ⟨vt,rfl,hrow2,hk2,hnew2⟩;obtain⟨gt,ct,rfl⟩:=Ez hrow2 l0;have hb2:=Ad Hb1.o hk2 (by simp);clear p1 f1;have p1:=Aa hb2 1;have f1:=Ab hb2 1;have k3:Keeps (λi=>i=w.heap.size) w2 (w2.setCell ⟨w.heap.size,1,none⟩ (.slice (some ⟨gt,0,none⟩) n ct)):=Keeps.setCell _ _ _ rfl;have hb3:=(heap_setCell_same _ _ 1 _ _ (.slice (some ⟨gt,0,none⟩) n ct) hb2).trans rfl;have hgt:w.heap.size<gt:=by have h1:=hnew2 gt rfl;have h2:=lt_of_block Hb1.o;omega
 have hrow3:=k3.row hrow2 (λb hb e=>by have e':b=w.heap.size:=e;simp only [Value.ownBlock,Option.some.injEq] at hb;omega);have hk03:K0 w (w2.setCell ⟨w.heap.size,1,none⟩ (.slice (some ⟨gt,0,none⟩) n ct)):=(Hk01.o.nt hk2).trans (k3.mono λi _ e=> .inr j09);obtain⟨W3,hW3⟩:=eY (w2.setCell ⟨w.heap.size,1,none⟩ (.slice (some ⟨gt,0,none⟩) n ct));rw [<-hW3] at hb3 hrow3 hk03;clear k3 hnew2;clear hrow2 hk2 hb2;obtain⟨Hb3,Hrow3,Hk03⟩:=hid3 hb3 hrow3 hk03;clear hk03 hrow3 hb3
 go_upto_region 5 with fail
 rw [<-hW3];clear hW3 p1 f1;have hS3:tbS w.heap.size t (.slice (some ⟨gt,0,none⟩) n ct) W3:=tbS.of Hb3.o;have hdn:=λW (hW:K0 W3 W)=>Ads t (.slice (some ⟨gt,0,none⟩) n ct) W (by rw [HN.o];exact(Reads.Bg Hrow3.o).keeps hW (by simp)) (by rw [HN.o];omega);simp only [Tm.val] at hdn;obtain⟨HS3,Hdn⟩:=hid2 hS3 hdn;clear hdn hS3;refine Ak (tbS w.heap.size t (.slice (some ⟨gt,0,none⟩) n ct)) (.take 0 (.take 1 (.take 2 (.take 3 (.move 4 (.move 5 (.take 6 (.move 7 (.take 8 .done))))))))) j9 j9 ?_ ?_
 ·exact HS3.o.keep (Keeps.drew _)
 intro w4 hs4 hk4;refine je ?_;intro K hK
 go_at_call 50
 ((with_reducible refine(Hdn.o w4 hk4).mono ?_);rintro e w5 hd5)
 obtain⟨bl,vtl,rfl,hdl5,hk5,hbl5,hvtl5⟩:=hd5;dsimp only;refine hK.out _ _ (by exact hs4.keep hk5) ?_;clear hK K;refine jc ?_;have hs5:=hs4.keep hk5;have hk35:=Keeps.nt hk4 hk5;have hl4:=hk4.size;clear hs4 hk4;refine je ?_;intro K hK
 go_at_call 51
 ((with_reducible refine(Abx w5).mono ?_);rintro e w6 ⟨rfl,hbk6,hk6⟩;dsimp only)
 refine hK.out _ _ (by exact hs5.keep hk6) ?_;clear hK K;refine jc ?_;have hs6:=hs5.keep hk6;have hk36:=Keeps.nt hk35 hk6;have hbkl:=lt_of_block hbk6.blk;have hdl6:=hdl5.keep hk6;obtain⟨bb,hbb⟩:=eY w5.heap.size;rw [<-hbb] at hbk6 hbkl⊢;obtain⟨W7,hW7⟩:=eY (w6.alloc (.cells #[.int .i64 t.limit,.slice (some ⟨gt,0,none⟩) n ct,.int .i64 t.cyc,.int .i64 t.due,.int .i64 t.minFixed,.int .i64 t.minPart,.int .i64 t.start,.int .i64 t.start,.int .i64 0,(.pointer (some ⟨bl,0,none⟩)),(.pointer (some ⟨bb,0,none⟩)),.slice none 0 0,.int .i64 0,.int .i64 0,.slice none 0 0,.slice none 0 0,.slice none 0 0,.slice none 0 0] 104));obtain⟨B,hB⟩:=eY w6.heap.size;have hk7:K0 w6 W7:=by rw [hW7];exact Keeps.alloc _ _
 have hB7:W7.heap[B]?=some (.cells #[.int .i64 t.limit,.slice (some ⟨gt,0,none⟩) n ct,.int .i64 t.cyc,.int .i64 t.due,.int .i64 t.minFixed,.int .i64 t.minPart,.int .i64 t.start,.int .i64 t.start,.int .i64 0,(.pointer (some ⟨bl,0,none⟩)),(.pointer (some ⟨bb,0,none⟩)),.slice none 0 0,.int .i64 0,.int .i64 0,.slice none 0 0,.slice none 0 0,.slice none 0 0,.slice none 0 0] 104 (0,0)):=by rw [hW7,hB];exact heap_alloc_new _ _
 have hs7:=hs6.keep hk7;have hdl7:=hdl6.keep hk7;have hbk7:=hbk6.keeps hk7 (by simp);have hk37:=Keeps.nt hk36 hk7;have hk07:=Hk03.o.nt hk37;have hrow7:=hk37.row Hrow3.o (by simp);have hbbl:W3.heap.size<=bb:=by rw [hbb];have:=hk35.size;exact this
 have hbbB:bb<B:=by rw [hB];exact hbkl
 have hblB:bl<B:=by have:=lt_of_block hdl6.blk;omega
 have hvtlB:∀b,vtl.ownBlock=some b->b<B:=λb hb=>by have:=Py hdl6.trs hb;omega
 have hgtB:gt<B:=by have:=Py (hk36.row Hrow3.o (by simp)) (show(Value.slice (some ⟨gt,0,none⟩) n ct).ownBlock=some gt from rfl);omega
 have hwB:w.heap.size<=B:=by have:=Hk03.o.size;have:=hk36.size;omega
 have hB7l:B+1=W7.heap.size:=by rw [hW7,hB];simp
 have hrun:=λW (hW:K0 W7 W)=>Pe t (some ⟨gt,0,none⟩) ct n [] none 0 0 t.start W HN.o ((Reads.Bg hrow7).keeps hW (by simp)) rfl (Reads.nil W 5) j6 j6;rw [Hwk.o] at hrun;clear hs5 hk35 hk6 hs6 hk36 hbk6 hdl6 hdl5 hk5 hk7;have Hs7:=Lib.hid hs7;clear hs7;obtain⟨Hdl7,Hbk7⟩:=hid2 hdl7 hbk7;clear hbk7 hdl7 hk37;obtain⟨Hk07,Hrow7,HvtlB,Hvtl5,HB7l,Hrun,HB7,Hbl5⟩:=hid8 hk07 hrow7 hvtlB hvtl5 hB7l hrun hB7 hbl5;clear hbl5 hB7 hrun hB7l hvtl5 hvtlB hrow7 hk07 hbb;refine je ?_;intro K hK;rw [<-hW7,<-hB];clear hW7 hB;refine hK.out _ _ (by exact Hs7.o) ?_;clear hK K;refine jk ?_;obtain⟨t0,t1,t2,t3,t4,t5,t6⟩:=Hs7.o;go_wp2_with fail;refine(Hrun.o _ (Keeps.refl _ _)).mono ?_;rintro e w8 (⟨hz,vb,vr,vo,P,rfl,hres⟩|⟨hz,_⟩)
 ·obtain⟨ab,cb,rfl,_,_⟩:=Ae hres.bal;obtain⟨ar,cr,rfl,_,_⟩:=Ae hres.rts;obtain⟨ao,co,rfl,_,_⟩:=Ae hres.out;have hB8:=Ad HB7.o hres.kp (by simp);have b11:=Aa hB8 11;have b12:=Aa hB8 12;have b13:=Aa hB8 13;have b14:=Aa hB8 14;have b15:=Aa hB8 15;have f11:=Ab hB8 11;have f12:=Ab hB8 12;have f13:=Ab hB8 13;have f14:=Ab hB8 14;have f15:=Ab hB8 15;clear t0 t1 t2 t3 t4 t5 t6;obtain⟨W9,hW9⟩:=eY (((((w8.setCell ⟨B,11,none⟩ (.slice ab n cb)).setCell ⟨B,12,none⟩ (.int .i64 (st0 t).p.cr)).setCell ⟨B,13,none⟩ (.int .i64 (st0 t).p.du)).setCell ⟨B,14,none⟩ (.slice ar n cr)).setCell ⟨B,15,none⟩ (.slice ao P.length co));have h1:=heap_setCell_same _ _ 11 _ _ (.slice ab n cb) hB8;have h2:=heap_setCell_same _ _ 12 _ _ (.int .i64 (st0 t).p.cr) h1;have h3:=heap_setCell_same _ _ 13 _ _ (.int .i64 (st0 t).p.du) h2;have h4:=heap_setCell_same _ _ 14 _ _ (.slice ar n cr) h3;have h5:=(heap_setCell_same _ _ 15 _ _ (.slice ao P.length co) h4).trans rfl
  have k9:Keeps (λi=>i=B) w8 W9:=by
   rw [hW9];exact(((((Keeps.refl _ w8).setB _ _).setB _ _).setB _ _).setB _ _).setB _ _
  rw [<-hW9] at h5;clear h1 h2 h3 h4
  have hend:=AcAt.new (w:=w) Hnew.o HN.o Hrow7.o Hdl7.o Hbk7.o hres h5 k9 (by have:=HB7l.o;omega) (by simp [Value.ownBlock];exact hgtB) hblB HvtlB.o hbbB Hk07.o (by
   have:=Hk03.o.size;rintro b (hb|hb|hb|hb|hb)
   ·omega
   ·simp only [Value.ownBlock,Option.some.injEq] at hb;omega
   ·have:=Hbl5.o;omega
   ·have:=Hvtl5.o b hb;omega
   ·omega)
  have Hend:=Lib.hid hend;clear hend hres hB8 h5 k9;go_wp2_with fail;rw [<-hW9]
  go_ret2
  obtain⟨x,h1,h2,h3⟩:=Hend.o;exact⟨B,x,rfl,h1,h2,h3⟩
 ·exact absurd rfl hz
theorem AcAt.build{w W:World}{B:Nat}{x x':AcV}{a a':Ac}(h:AcAt w B x a)(M:Nat)(hM:w.heap.size<=M)(hk:Keeps (AcF B x) w W)(hvt:x'.vt=x.vt)(ht:a'.t=a.t)
  (blk:W.heap[B]?=some (.cells (x'.blk a') 104 (0,0))) (dl:DL W x'.bl a.t x'.vtl a'.L x'.vl) (bk:Cv W x'.bb x'.vb a'.D)
  (bal:W.ownsRow 0 2 1 x'.vp a'.s.p.bal.length (a'.s.p.bal.flatMap i64c)) (rts:W.ownsRow 0 2 1 x'.vr a'.s.R.length (a'.s.R.flatMap i64c))
  (now:W.ownsRow 0 59 9 x'.vn x'.P.length (x'.P.flatMap SV.cells)) (nln:∀y∈x'.P,W.ownsRow 0 212 3 y.v y.s.lines.length (y.s.lines.flatMap Ln.cells)) (ns:x'.P.map SV.s=a'.s.out)
  (iss:W.ownsRow 0 59 9 x'.vi x'.I.length (x'.I.flatMap SV.cells)) (iln:∀y∈x'.I,W.ownsRow 0 212 3 y.v y.s.lines.length (y.s.lines.flatMap Ln.cells)) (is:x'.I.map SV.s=a'.iss)
  (adj:W.ownsRow 0 142 9 x'.va a'.adj.length (a'.adj.flatMap Adj.cells)) (ok:AcOk a')
  (hrd:∀b,x'.rd b->x.rd b\/(w.heap.size<=b/\b<M)) (haf:∀b,AcF B x' b->AcF B x b\/M<=b):
  AcAt W B x' a'/\(∀b,AcF B x' b->AcF B x b\/w.heap.size<=b)/\(∀b,x'.rd b->x.rd b\/w.heap.size<=b):=by
 refine⟨⟨blk, ?_,by rw [ht];exact dl,bk,bal,rts,now,nln,ns,iss,iln,is,adj,ok, ?_, ?_, ?_⟩,λb hb=>(haf b hb).imp id λh2=>by omega,λb hb=>(hrd b hb).imp id λh2=>h2.1⟩
 ·rw [hvt,ht];exact hk.row h.trs λb hb=>h.sep b (.inl hb)
 ·intro b hb hF;rcases hrd b hb with h1|⟨h1,h2⟩
  ·rcases haf b hF with h3|h3
   ·exact h.sep b h1 h3
   ·have:=h.lt b (.inr h1);omega
  ·rcases haf b hF with h3|h3
   ·have:=h.lt b (.inl h3);omega
   ·omega
 ·rintro b hb (rfl|hb2)
  ·exact Ah iss blk j7 hb
  ·exact Fj iss adj j7 hb hb2
 ·rintro b hb rfl;exact Ah adj blk j7 hb
def Ca(w:World)(B:Nat)(x:AcV)(a':Ac)(W:World):Prop:=∃x',AcAt W B x' a'/\Keeps (AcF B x) w W/\(∀b,AcF B x' b->AcF B x b\/w.heap.size<=b)/\(∀b,x'.rd b->x.rd b\/w.heap.size<=b)
theorem Ca.same{w W:World}{B:Nat}{x:AcV}{a:Ac}(h:AcAt w B x a)(hk:K0 w W):Ca w B x a W:=⟨x,h.keep0 hk,hk.mono (by simp),λ_ hb=> .inl hb,λ_ hb=> .inl hb⟩
def Le(w:World)(b:Nat)(v:Value)(D:List Disp)(W:World):Prop:=∃v',Cv W b v' D/\Keeps (Foot b v) w W/\∀k,Foot b v' k->Foot b v k\/w.heap.size<=k
def Vj(w:World)(b:Nat)(v:Value)(D:List Disp)(x:Ev)(z:Int)(e:Ending)(w':World):Prop:=
 e= .returned (.tuple #[.agg #[.int .i64 x.kind,.int .i64 x.day,.int .i64 x.tranche,.int .i64 x.amount,.int .i64 x.ref],.int .i64 z])/\Le w b v D w'
theorem Bu:(Tryz.prog.info? 186).map (·.size)=some 5:=by kernel_rfl
theorem Dw(a b c d e:Int):(#[.int .i64 a,.int .i64 b,.int .i64 c,.int .i64 d,.int .i64 e]:Array Value).all (·.oneCell')=true:=by simp [Value.oneCell']
theorem Le.put{w w0 w1 W:World}{b R:Nat}{v v':Value}{D D':List Disp}{V:Array Value}(hb:Cv w b v D)(hk0:K0 w w0)(hb1:Cv w1 b v' D')(hk1:Keeps (Foot b v) w0 w1)(hf:∀k,Foot b v' k->Foot b v k\/w0.heap.size<=k)
  (hk:K0 w1 W) (hR:w.heap.size<=R) (hR2:R<w0.heap.size):Le w b v D' (W.setRow R V):=by
 refine⟨v',(hb1.keeps hk (by simp)).keeps (Cg W R V) λk h e=> ?_,((hk0.mono (by simp)).trans ((hk1.mono λi _ e=> .inl e).trans ((hk.mono (by simp)).trans ((Cg W R V).mono λi _ e=> .inl (.inl (.inr ?_)))))),λk h=>(hf k h).imp id j6⟩
 ·skip
  rcases hf k h with h|h
  ·have:=hb.lt k h;omega
  ·omega
 ·skip
  omega
theorem Ac.de_bad{a:Ac}{c:Cmd}(h:¬Ct a.D c.ref=0):a.de c=Ct a.D c.ref/\a.dvt c=ev00:=by
 have h1:a.de c=Ct a.D c.ref:=by unfold Ac.de;rw [if_pos h]
 exact⟨h1,by unfold Ac.dvt;rw [h1,if_pos (.inl h)]⟩
theorem Ac.de_won{a:Ac}{c:Cmd}(h:Ct a.D c.ref=0)(hk:c.kind=6):a.de c=0/\a.dvt c=ev00:=by
 have h1:a.de c=0:=by unfold Ac.de;rw [if_neg j6,if_pos hk]
 exact⟨h1,by unfold Ac.dvt;rw [if_pos (.inr hk)]⟩
theorem Ac.de_old{a:Ac}{c:Cmd}(h:Ct a.D c.ref=0)(hk:c.kind=5)(ho:a.oldB (Ea a.D c.ref true).day=true):a.de c=11/\a.dvt c=ev00:=by
 have h1:a.de c=11:=by unfold Ac.de;rw [if_neg j6,if_neg j6,hk];exact if_pos ho
 exact⟨h1,by unfold Ac.dvt;rw [h1,if_pos (.inl j7)]⟩
theorem Ac.de_lost{a:Ac}{c:Cmd}(h:Ct a.D c.ref=0)(hk:c.kind=5)(ho:a.oldB (Ea a.D c.ref true).day=false):a.de c=0/\a.dvt c=⟨5,(Ea a.D c.ref true).day,(Ea a.D c.ref true).tranche,(Ea a.D c.ref true).amount,(Ea a.D c.ref true).ref⟩:=by
 have h1:a.de c=0:=by unfold Ac.de;rw [if_neg j6,if_neg j6,hk];exact if_neg (by rw [show((5:Int)==5)=true from rfl,ho];decide)
 exact⟨h1,by unfold Ac.dvt;rw [h1,hk];rfl⟩
theorem Zz(B:Nat)(x:AcV)(a:Ac)(c:Cmd)(b:Nat)(v:Value)(w:World)(h:AcAt w B x a)(hb:Cv w b v a.D)(hsep:∀k,Foot b v k->¬(AcF B x k\/x.rd k))(hk:c.kind=5\/c.kind=6):
  Calls Tryz.prog 90 #[(.pointer (some ⟨B,0,none⟩)),.agg #[.int .i64 c.kind,.int .i64 c.day,.int .i64 c.tranche,.int .i64 c.amount,.int .i64 c.ref],(.pointer (some ⟨b,0,none⟩))] w (Vj w b v (dEnd a.D c.ref (c.kind==5)) (a.dvt c) (a.de c)):=by
 have hde1:= @Ac.de_bad a c;have hde2:= @Ac.de_won a c;have hde3:= @Ac.de_old a c;have hde4:= @Ac.de_lost a c;obtain⟨ki,da,tr,am,re⟩:=c;simp only at hk hde1 hde2 hde3 hde4⊢;refine j44 ?_;intro W0 hW0;have hc0:W0.heap[w.heap.size]?=some (.cells #[.int .i64 ki,.int .i64 da,.int .i64 tr,.int .i64 am,.int .i64 re] 33 (0,0)):=by rw [hW0];exact Ap (heap_alloc_new w _) _
 have hr0:W0.heap[w.heap.size+1]?=some (.cells #[.int .i64 0,.int .i64 0,.int .i64 0,.int .i64 0,.int .i64 0] 186 (0,0)):=by rw [hW0];exact Aw _ _ (by simp)
 have hk0:K0 w W0:=by rw [hW0];(repeat (first|exact Keeps.refl _ _|exact Keeps.alloc _ _|exact Keeps.drew _|exact Keeps.drewN _ _|refine Keeps.Ao ?_|refine Keeps.Al ?_|refine Keeps.Af ?_))
 have hs0:w.heap.size+1<W0.heap.size:=lt_of_block hr0;obtain⟨Hde1,Hde2,Hde3,Hde4⟩:=hid4 hde1 hde2 hde3 hde4;clear hde4 hde3 hde2 hde1;rcases hk with rfl|rfl
 ·skip
  have hen:=fun(W:World) (hW:K0 w W)=>Ry re true a.D v b W (hb.keeps hW (by simp));obtain⟨⟨dr,dt,dd,da2,ds⟩,hd⟩:=eX (Ea a.D re true);obtain⟨z,hz⟩:=eX (Ct a.D re);rw [hd,hz] at hen;simp only [Disp.val] at hen;obtain⟨H,Hb,Hen,Hc0,Hr0,Hk0,Hd,Hz,Hsep⟩:=hid9 h hb hen hc0 hr0 hk0 hd hz hsep;clear hsep hz hd hk0 hr0 hc0 hen hb h;go_enter Tryz.func90,Tryz.ntmps90;go_wp2_with fail;rw [<-hW0];clear hW0;refine(Hen.o W0 Hk0.o).mono ?_;rintro e w1 ⟨rfl,v1,hb1,hk1,hf1⟩;refine j45 ?_;intro hAt hRl hc1 hr1 c0 cl;by_cases hz0:z=0
  ·subst hz0;obtain⟨W2,hW2⟩:=eY (w1.alloc (.cells #[.int .i64 dr,.int .i64 dt,.int .i64 dd,.int .i64 da2,.int .i64 ds] 148));have hk2:K0 w1 W2:=by rw [hW2];exact Keeps.alloc _ _
   have hx2:W2.heap[w1.heap.size]?=some (.cells #[.int .i64 dr,.int .i64 dt,.int .i64 dd,.int .i64 da2,.int .i64 ds] 148 (0,0)):=by rw [hW2];exact heap_alloc_new _ _
   have hol:=Vd B x a dd W2 (hAt.keep0 hk2);have d3:=Hde3.o Hz.o trivial;have d4:=Hde4.o Hz.o trivial;rw [Hd.o] at d3 d4;simp only at d3 d4;obtain⟨o,ho⟩:=eX (a.oldB dd);rw [ho] at hol d3 d4;obtain⟨Hb1,Hk1,Hf1⟩:=hid3 hb1 hk1 hf1;clear hf1 hk1 hb1 hAt hc1;obtain⟨Hr1,Hk2,Hx2,Hol,D3,D4,Ho⟩:=hid7 hr1 hk2 hx2 hol d3 d4 ho;clear ho d4 d3 hol hx2 hk2 hr1;go_wp2_with fail;rw [<-hW2];clear hW2;refine Hol.o.mono ?_;rintro e w3 ⟨rfl,hk3⟩;have hr3:=Ad (Ad Hr1.o Hk2.o (by simp)) hk3 (by simp);have hpo:=λV=>Le.put (V:=V) Hb.o Hk0.o Hb1.o Hk1.o Hf1.o (Hk2.o.nt hk3) (R:=w.heap.size+1) (Nat.le_succ _) hs0;have hx3:=Ad Hx2.o hk3 (by simp);have x0:=Aa hx3 0;have x1:=Aa hx3 1;have x2:=Aa hx3 2;have x3:=Aa hx3 3;clear hk3;obtain⟨Hr3,Hpo⟩:=hid2 hr3 hpo;clear hpo hr3 hx3;rcases o with _|_
   ·have hend:=D4.o rfl;have Hend:=Lib.hid hend;clear hend;have hsr:=setRow_heap _ (w.heap.size+1) #[.int .i64 0,.int .i64 0,.int .i64 0,.int .i64 0,.int .i64 0] #[.int .i64 5,.int .i64 dd,.int .i64 dt,.int .i64 da2,.int .i64 dr] 186 _ Hr3.o;refine jU ?_;intro sr0 sr1 sr2 sr3 sr4;clear hsr;obtain⟨Sr0,Sr1,Sr2,Sr3,Sr4⟩:=hid5 sr0 sr1 sr2 sr3 sr4;clear sr4 sr3 sr2 sr1 sr0
    go_wp2_with (refine wpList_store_row rfl 186 (.tmp 6) (.tmp 44) rfl (w.heap.size+1) #[.int .i64 5,.int .i64 dd,.int .i64 dt,.int .i64 da2,.int .i64 dr] rfl rfl 186 #[.int .i64 0,.int .i64 0,.int .i64 0,.int .i64 0,.int .i64 0] Hr3.o Bu rfl (Dw _ _ _ _ _) ?_)
    refine jp ?_;intro R0' R1' R2' R3' R4';exact bodyPost_ret (v:= .tuple #[.agg #[.int .i64 5,.int .i64 dd,.int .i64 dt,.int .i64 da2,.int .i64 dr],.int .i64 0]) j15 rfl ⟨by rw [Hend.o.1,Hend.o.2],Hpo.o _⟩
   ·have hend:=D3.o rfl;have Hend:=Lib.hid hend;clear hend;have hsr:=setRow_heap _ (w.heap.size+1) #[.int .i64 0,.int .i64 0,.int .i64 0,.int .i64 0,.int .i64 0] #[.int .i64 0,.int .i64 0,.int .i64 0,.int .i64 0,.int .i64 0] 186 _ Hr3.o;refine jU ?_;intro sr0 sr1 sr2 sr3 sr4;clear hsr;obtain⟨Sr0,Sr1,Sr2,Sr3,Sr4⟩:=hid5 sr0 sr1 sr2 sr3 sr4;clear sr4 sr3 sr2 sr1 sr0
    go_wp2_with (refine wpList_store_row rfl 186 (.tmp 6) (.tmp 35) rfl (w.heap.size+1) #[.int .i64 0,.int .i64 0,.int .i64 0,.int .i64 0,.int .i64 0] rfl rfl 186 #[.int .i64 0,.int .i64 0,.int .i64 0,.int .i64 0,.int .i64 0] Hr3.o Bu rfl (Dw _ _ _ _ _) ?_)
    refine jp ?_;intro R0' R1' R2' R3' R4';exact bodyPost_ret (v:= .tuple #[.agg #[.int .i64 0,.int .i64 0,.int .i64 0,.int .i64 0,.int .i64 0],.int .i64 11]) j15 rfl ⟨by rw [Hend.o.1,Hend.o.2];rfl,Hpo.o _⟩
  ·exact j46
 ·skip
  have hen:=fun(W:World) (hW:K0 w W)=>Ry re false a.D v b W (hb.keeps hW (by simp));obtain⟨⟨dr,dt,dd,da2,ds⟩,hd⟩:=eX (Ea a.D re false);obtain⟨z,hz⟩:=eX (Ct a.D re);rw [hd,hz] at hen;simp only [Disp.val] at hen;obtain⟨H,Hb,Hen,Hc0,Hr0,Hk0,Hd,Hz,Hsep⟩:=hid9 h hb hen hc0 hr0 hk0 hd hz hsep;clear hsep hz hd hk0 hr0 hc0 hen hb h;go_enter Tryz.func90,Tryz.ntmps90;go_wp2_with fail;rw [<-hW0];clear hW0;refine(Hen.o W0 Hk0.o).mono ?_;rintro e w1 ⟨rfl,v1,hb1,hk1,hf1⟩;refine j45 ?_;intro hAt hRl hc1 hr1 c0 cl;by_cases hz0:z=0
  ·subst hz0;have hend:=Hde2.o Hz.o trivial;refine j47 ?_;intro hr2 hpo;clear hb1 hk1 hf1 hAt;clear hc1;obtain⟨Hr1,Hr2,Hpo,Hend⟩:=hid4 hr1 hr2 hpo hend;clear hend hpo hr2 hr1;refine j48 ?_;intro Sr0 Sr1 Sr2 Sr3 Sr4
   go_wp2_with (refine wpList_store_row rfl 186 (.tmp 6) (.tmp 29) rfl (w.heap.size+1) #[.int .i64 0,.int .i64 0,.int .i64 0,.int .i64 0,.int .i64 0] rfl rfl 186 #[.int .i64 0,.int .i64 0,.int .i64 0,.int .i64 0,.int .i64 0] Hr2.o Bu rfl (Dw _ _ _ _ _) ?_)
   refine jp ?_;intro R0' R1' R2' R3' R4';exact bodyPost_ret (v:= .tuple #[.agg #[.int .i64 0,.int .i64 0,.int .i64 0,.int .i64 0,.int .i64 0],.int .i64 0]) j15 rfl ⟨by rw [Hend.o.1,Hend.o.2];rfl,Hpo.o _⟩
  ·exact j46
theorem Ac.Kb{a:Ac}{c:Cmd}{z:Int}(h:a.ee c=z)(hz:z≠0):a.evt c=ev00/\a.eD c=a.D:=
 ⟨by unfold Ac.evt;rw [h,if_pos hz],by unfold Ac.eD;rw [if_neg λe=>hz (by rw [<-h];exact e.2)]⟩
theorem Ac.Ur{a:Ac}{c:Cmd}(h:a.ee c=0):a.evt c=⟨if c.kind=7 then 6 else c.kind,if c.kind=3 then c.day else a.today,if c.kind=2 then 0 else c.tranche,c.amount,if c.kind=4 then Eh a.D c.tranche c.amount else 0⟩:=by
 unfold Ac.evt;rw [h,if_neg j7]
theorem Ac.eD_no{a:Ac}{c:Cmd}(h:c.kind≠4):a.eD c=a.D:=by unfold Ac.eD;rw [if_neg λe=>h e.1]
theorem Ac.eD_yes{a:Ac}{c:Cmd}(h:a.ee c=0)(hk:c.kind=4):a.eD c=dOpen a.D c.tranche a.today c.amount:=by unfold Ac.eD;rw [if_pos ⟨hk,h⟩]
theorem Ac.ee_tr{a:Ac}{c:Cmd}(h:¬c.kind=2)(ht:¬(1<=c.tranche/\c.tranche<=a.t.trs.length)):a.ee c=7:=by unfold Ac.ee;rw [if_pos ⟨h,ht⟩]
theorem Ac.Lj{a:Ac}{c:Cmd}(ht:c.kind=2\/(1<=c.tranche/\c.tranche<=a.t.trs.length))(h:(c.kind=7/\(c.amount<0\/10000000<c.amount))\/(¬c.kind=7/\(c.amount<1\/1000000000000000<c.amount))):a.ee c=8:=by
 unfold Ac.ee;rw [if_neg λe=>ht.elim e.1 e.2,if_pos h]
theorem Ac.ee_in{a:Ac}{c:Cmd}(ht:c.kind=2\/(1<=c.tranche/\c.tranche<=a.t.trs.length))(h:(c.kind=7/\0<=c.amount/\c.amount<=10000000)\/(¬c.kind=7/\1<=c.amount/\c.amount<=1000000000000000)):
  a.ee c=if c.kind=1 then(if a.t.limit<a.owes+c.amount then 9 else 0)
   else if c.kind=3 then(if c.day<a.t.start\/a.today<c.day then 10 else if a.oldB c.day=true then 11 else 0)
   else if c.kind=4 then(if a.s.p.bal.getD (c.tranche-1).toNat 0<c.amount then 9 else Dq a.D c.tranche c.amount) else 0:=by
 unfold Ac.ee;rw [if_neg λe=>ht.elim e.1 e.2,if_neg j6]
theorem ps_nums{p:Ps}(h:p.Bh=true):(0<=sumI p.bal/\sumI p.bal<=1000000000000000)/\(0<=p.cr/\p.cr<=1000000000000000)/\∀x∈p.bal,0<=x/\x<=1000000000000000:=by
 simp only [Ps.Bh,scanB,Bv,Bool.and_eq_true,decide_eq_true_eq,List.all_eq_true] at h;exact⟨h.1.2,h.2.2.2.1,h.1.1⟩
def evtS(B C:Nat)(td am:Int)(w:World):Prop:=w.cell? ⟨B,7,none⟩=some (.int .i64 td)/\w.cell? ⟨C,3,none⟩=some (.int .i64 am)
theorem evtS.keep{B C:Nat}{td am:Int}{w w':World}(h:evtS B C td am w)(hk:K0 w w'):evtS B C td am w':=⟨(hk.cell (Ai h.1) (by simp)).trans h.1,(hk.cell (Ai h.2) (by simp)).trans h.2⟩
def drwS(B C:Nat)(vp:Value)(cr du lim am:Int)(w:World):Prop:=w.cell? ⟨B,11,none⟩=some vp/\w.cell? ⟨B,12,none⟩=some (.int .i64 cr)/\w.cell? ⟨B,13,none⟩=some (.int .i64 du)/\w.cell? ⟨B,0,none⟩=some (.int .i64 lim)/\w.cell? ⟨C,3,none⟩=some (.int .i64 am)
theorem drwS.keep{B C:Nat}{vp:Value}{cr du lim am:Int}{w w':World}(h:drwS B C vp cr du lim am w)(hk:K0 w w'):drwS B C vp cr du lim am w':=by
 exact j49
def rfdS(B C:Nat)(da st td:Int)(w:World):Prop:=w.cell? ⟨C,1,none⟩=some (.int .i64 da)/\w.cell? ⟨B,6,none⟩=some (.int .i64 st)/\w.cell? ⟨B,7,none⟩=some (.int .i64 td)
theorem rfdS.keep{B C:Nat}{da st td:Int}{w w':World}(h:rfdS B C da st td w)(hk:K0 w w'):rfdS B C da st td w':=⟨(hk.cell (Ai h.1) (by simp)).trans h.1,(hk.cell (Ai h.2.1) (by simp)).trans h.2.1,(hk.cell (Ai h.2.2) (by simp)).trans h.2.2⟩
def rfcS(C:Nat)(da:Int)(w:World):Prop:=w.cell? ⟨C,1,none⟩=some (.int .i64 da)
theorem rfcS.keepS{C:Nat}{da:Int}{w w':World}{S:Nat->Prop}(h:rfcS C da w)(hk:Keeps S w w')(hS:¬S C):rfcS C da w':=(hk.cell (Ai h) hS).trans h
def opnS(B C:Nat)(am tr td:Int)(vp:Value)(g o:Nat)(y:Int)(w:World):Prop:=w.cell? ⟨C,3,none⟩=some (.int .i64 am)/\w.cell? ⟨C,2,none⟩=some (.int .i64 tr)/\w.cell? ⟨B,7,none⟩=some (.int .i64 td)/\w.cell? ⟨B,11,none⟩=some vp/\w.cell? ⟨g,o,none⟩=some (.int .i64 y)
theorem opnS.keep{B C:Nat}{am tr td:Int}{vp:Value}{g o:Nat}{y:Int}{w w':World}(h:opnS B C am tr td vp g o y w)(hk:K0 w w'):opnS B C am tr td vp g o y w':=by
 exact j49
def opcS(B C:Nat)(am tr td:Int)(w:World):Prop:=w.cell? ⟨C,3,none⟩=some (.int .i64 am)/\w.cell? ⟨C,2,none⟩=some (.int .i64 tr)/\w.cell? ⟨B,7,none⟩=some (.int .i64 td)
theorem opcS.keepS{B C:Nat}{am tr td:Int}{w w':World}{S:Nat->Prop}(h:opcS B C am tr td w)(hk:Keeps S w w')(hB:¬S B)(hC:¬S C):opcS B C am tr td w':=⟨(hk.cell (Ai h.1) hC).trans h.1,(hk.cell (Ai h.2.1) hC).trans h.2.1,(hk.cell (Ai h.2.2) hB).trans h.2.2⟩
structure EvSt(S:Nat->Prop)(w W:World)(C R E:Nat)(c:Cmd)(x:Ev):Prop where
 c:W.heap[C]?=some (.cells #[.int .i64 c.kind,.int .i64 c.day,.int .i64 c.tranche,.int .i64 c.amount,.int .i64 c.ref] 33 (0,0))
 r:W.heap[R]?=some (.cells #[.int .i64 0,.int .i64 0,.int .i64 0,.int .i64 0,.int .i64 0] 186 (0,0))
 e:W.heap[E]?=some (.cells #[.int .i64 x.kind,.int .i64 x.day,.int .i64 x.tranche,.int .i64 x.amount,.int .i64 x.ref] 186 (0,0))
 k:Keeps S w W
 lc:w.heap.size<=C
 lr:w.heap.size<=R
 le:w.heap.size<=E
 ce:¬C=E
 re:¬R=E
theorem EvSt.keep{S:Nat->Prop}{w W W':World}{C R E:Nat}{c:Cmd}{x:Ev}(h:EvSt S w W C R E c x)(hk:K0 W W'):EvSt S w W' C R E c x:=⟨Ad h.c hk (by simp),Ad h.r hk (by simp),Ad h.e hk (by simp),h.k.trans (hk.mono (by simp)),h.lc,h.lr,h.le,h.ce,h.re⟩
theorem EvSt.keepT{T:Nat->Prop}{w W W':World}{C R E:Nat}{c:Cmd}{x:Ev}(h:EvSt (λ_=>False) w W C R E c x)(hk:Keeps T W W')(hT:∀i,T i->i<w.heap.size):EvSt T w W' C R E c x:=⟨Ad h.c hk (λe=>by have:=hT _ e;have:=h.lc;omega),Ad h.r hk (λe=>by have:=hT _ e;have:=h.lr;omega),Ad h.e hk (λe=>by have:=hT _ e;have:=h.le;omega),(h.k.mono (by simp)).trans (hk.mono λ_ _ e=> .inl e),h.lc,h.lr,h.le,h.ce,h.re⟩
theorem EvSt.set{S:Nat->Prop}{w W W':World}{C R E:Nat}{c:Cmd}{x y:Ev}(h:EvSt S w W C R E c x)(j:Nat)(v:Value)(hW:W'=W.setCell ⟨E,j,none⟩ v)(hy:(#[.int .i64 x.kind,.int .i64 x.day,.int .i64 x.tranche,.int .i64 x.amount,.int .i64 x.ref]:Array Value).setIfInBounds j v= #[.int .i64 y.kind,.int .i64 y.day,.int .i64 y.tranche,.int .i64 y.amount,.int .i64 y.ref]):EvSt S w W' C R E c y:=by
 subst hW;have hk:Keeps (λi=>i=E) W (W.setCell ⟨E,j,none⟩ v):=(Keeps.refl _ _).setB _ _;refine⟨Ad h.c hk h.ce,Ad h.r hk h.re, ?_,h.k.trans (hk.mono λi _ e=> .inr (by have e':i=E:=e;have:=h.le;omega)),h.lc,h.lr,h.le,h.ce,h.re⟩;rw [<-hy];exact heap_setCell_same _ _ j _ _ v h.e
theorem EvSt.done{w W:World}{C R E b:Nat}{c:Cmd}{x:Ev}{v:Value}{D:List Disp}{V:Array Value}(h:EvSt (λ_=>False) w W C R E c x)(hb:Cv w b v D):Le w b v D (W.setRow R V):=
 ⟨v,(hb.keeps h.k (by simp)).keeps (Cg W R V) λk hk e=>by have e':k=R:=e;have:=hb.lt k hk;have:=h.lr;omega,(h.k.mono (by simp)).trans ((Cg W R V).mono λi _ e=> .inr (by have e':i=R:=e;have:=h.lr;omega)),λk hk=> .inl hk⟩
theorem EvSt.doneB{w W W2 W1:World}{C R E b:Nat}{c:Cmd}{x:Ev}{v v':Value}{D D':List Disp}{V:Array Value}(h1:EvSt (λ_=>False) w W1 C R E c x)(hb:Cv w b v D)(hb2:Cv W2 b v' D')(hk2:Keeps (Foot b v) W1 W2)(hf2:∀k,Foot b v' k->Foot b v k\/W1.heap.size<=k)(hk:Keeps (λi=>i=E) W2 W):Le w b v D' (W.setRow R V):=by
 have hl:=hb.lt;have hs:=h1.k.size;have hE:=lt_of_block h1.e;have hR:=lt_of_block h1.r
 have hno:∀k,Foot b v' k->¬k=E/\¬k=R:=λk hk=>by
  rcases hf2 k hk with e|e
  ·have:=hl k e;have:=h1.le;have:=h1.lr;omega
  ·omega
 refine⟨v',(hb2.keeps hk λk hk e=>(hno k hk).1 e).keeps (Cg W R V) λk hk e=>(hno k hk).2 e, ?_,λk hk=>(hf2 k hk).imp id λe=>by omega⟩;refine(h1.k.mono (by simp)).trans ((hk2.mono λi _ e=> .inl e).trans ((hk.mono λi _ e=> .inl (.inr ?_)).trans ((Cg W R V).mono λi _ e=> .inl (.inl (.inr ?_)))))
 ·skip
  have:=h1.lr;omega
 ·skip
  have:=h1.le;omega
theorem Zy(B:Nat)(x:AcV)(a:Ac)(c:Cmd)(b:Nat)(v:Value)(w:World)(h:AcAt w B x a)(hb:Cv w b v a.D)(hsep:∀k,Foot b v k->¬(AcF B x k\/x.rd k))(hk:c.kind=1\/c.kind=2\/c.kind=3\/c.kind=4\/c.kind=7):
  Calls Tryz.prog 89 #[(.pointer (some ⟨B,0,none⟩)),.agg #[.int .i64 c.kind,.int .i64 c.day,.int .i64 c.tranche,.int .i64 c.amount,.int .i64 c.ref],(.pointer (some ⟨b,0,none⟩))] w (Vj w b v (a.eD c) (a.evt c) (a.ee c)):=by
 have hn:=h.ok.nums;obtain⟨ki,da,tr,am,re⟩:=c;simp only at hk⊢;obtain⟨td,htd⟩:=eX a.today;refine j44 ?_;intro W0 hW0;have hc0:W0.heap[w.heap.size]?=some (.cells #[.int .i64 ki,.int .i64 da,.int .i64 tr,.int .i64 am,.int .i64 re] 33 (0,0)):=by rw [hW0];exact Ap (heap_alloc_new w _) _
 have hr0:W0.heap[w.heap.size+1]?=some (.cells #[.int .i64 0,.int .i64 0,.int .i64 0,.int .i64 0,.int .i64 0] 186 (0,0)):=by rw [hW0];exact Aw _ _ (by simp)
 have hk0:K0 w W0:=by rw [hW0];(repeat (first|exact Keeps.refl _ _|exact Keeps.alloc _ _|exact Keeps.drew _|exact Keeps.drewN _ _|refine Keeps.Ao ?_|refine Keeps.Al ?_|refine Keeps.Af ?_))
 have hs0:w.heap.size+1<W0.heap.size:=lt_of_block hr0;have hS0:evtS B w.heap.size td am W0.drew:=(show evtS B w.heap.size td am W0 from⟨by rw [<-htd];exact Aa (h.keep0 hk0).blk 7,Aa hc0 3⟩).keep (Keeps.drew _);obtain⟨H,Hb,Hc0,Hr0,Hk0,HS0,Hsep,Hn,Htd⟩:=hid9 h hb hc0 hr0 hk0 hS0 hsep hn htd;clear htd hn hsep hS0 hk0 hr0 hc0 hb h;have Hk:=Lib.hid hk;clear hk;go_enter Tryz.func89,Tryz.ntmps89;go_wp2_with fail;refine Ay 0 rfl ?_;go_wp2_with fail;rw [<-hW0];clear hW0;refine Ak (evtS B w.heap.size td am) (.take 0 (.take 1 (.take 2 (.take 3 (.take 4 (.take 5 (.take 6 (.move 7 (.move 8 .done))))))))) j9 j9 ?_ ?_
 ·exact HS0.o
 intro w1 hs1 hk1;refine je ?_;intro K hK;refine hK.out _ _ j1S ?_;clear hK K;refine jc ?_;refine ja ?_;intro K hK;refine hK.out _ _ j1S ?_;clear hK K;refine jq ?_;obtain⟨W1,hW1⟩:=eY (w1.alloc (.cells #[.int .i64 0,.int .i64 td,.int .i64 0,.int .i64 am,.int .i64 0] 186));have hk01:K0 W0 W1:=by rw [hW1];exact hk1.nt (Keeps.alloc _ _)
 have hst1:EvSt (λ_=>False) w W1 w.heap.size (w.heap.size+1) w1.heap.size ⟨ki,da,tr,am,re⟩ ⟨0,td,0,am,0⟩:=⟨Ad Hc0.o hk01 (by simp),Ad Hr0.o hk01 (by simp),by rw [hW1];exact heap_alloc_new _ _,Hk0.o.nt hk01,Nat.le_refl _,Nat.le_succ _,by have:=hk1.size;omega,by have:=hk1.size;omega,by have:=hk1.size;omega⟩;obtain⟨C,hC⟩:=eY w.heap.size;obtain⟨R,hR⟩:=eY (w.heap.size+1);obtain⟨E,hE⟩:=eY w1.heap.size;rw [<-hR,<-hC,<-hE] at hst1;rw [<-hW1]
 try rw [<-hR]
 try rw [<-hC]
 try rw [<-hE]
 clear hW1 hC hR hE hs1 hk1 hs0;clear Hc0 Hr0 Hk0 HS0;have Hst1:=Lib.hid hst1;clear hst1;clear hk01;by_cases h2:ki=2
 ·subst h2;refine j4a ?_;intro nce nec c0 c1 c2 c3 e0 e1 e2 e4 f0 f1 f2 f4;by_cases l1:am<1
  ·skip
   have hno:=Ac.Kb ((Ac.Lj (a:=a) (c:=⟨2,da,tr,am,re⟩) (.inl rfl) (.inr ⟨show¬(2:Int)=7 by decide,.inl l1⟩))) j7;have hpo:=j4b;have hee:=(Ac.Lj (a:=a) (c:=⟨2,da,tr,am,re⟩) (.inl rfl) (.inr ⟨show¬(2:Int)=7 by decide,.inl l1⟩));have hR0:=(Hst1.o).r;exact j0g
  ·by_cases l2:1000000000000000<am
   ·skip
    have hno:=Ac.Kb ((Ac.Lj (a:=a) (c:=⟨2,da,tr,am,re⟩) (.inl rfl) (.inr ⟨show¬(2:Int)=7 by decide,.inr l2⟩))) j7;have hpo:=j4b;have hee:=(Ac.Lj (a:=a) (c:=⟨2,da,tr,am,re⟩) (.inl rfl) (.inr ⟨show¬(2:Int)=7 by decide,.inr l2⟩));have hR0:=(Hst1.o).r;exact j0g
   ·have hee:a.ee ⟨2,da,tr,am,re⟩=0:=by rw [Ac.ee_in (.inl rfl) (.inr ⟨show¬(2:Int)=7 by decide,by show 1<=am;omega,by show am<=1000000000000000;omega⟩)];rfl
    have heD:=Ac.eD_no (a:=a) (c:=⟨2,da,tr,am,re⟩) (show(2:Int)≠4 by decide);obtain⟨Wz,hWz⟩:=eY (W1.setCell ⟨E,0,none⟩ (.int .i64 2));have hstz:=Hst1.o.set (y:=⟨2,td,0,am,0⟩) 0 (.int .i64 2) hWz rfl;have hpo:=hstz.done (D:=a.D) (V:= #[.int .i64 2,.int .i64 td,.int .i64 0,.int .i64 am,.int .i64 0]) Hb.o;have Hstz:=Lib.hid hstz;clear hstz;refine j0B ?_;intro hev hE0 hR0;obtain⟨Hev,HE0,HR0,Hee,Hpo,HeD⟩:=hid6 hev hE0 hR0 hee hpo heD;clear heD hpo hee hR0 hE0 hev
    go_upto_region 31 with fail
    rw [<-hWz];clear hWz;have hsr:=setRow_heap _ R #[.int .i64 0,.int .i64 0,.int .i64 0,.int .i64 0,.int .i64 0] #[.int .i64 2,.int .i64 td,.int .i64 0,.int .i64 am,.int .i64 0] 186 _ HR0.o;refine jU ?_;intro sr0 sr1 sr2 sr3 sr4;clear hsr;obtain⟨Sr0,Sr1,Sr2,Sr3,Sr4⟩:=hid5 sr0 sr1 sr2 sr3 sr4;clear sr4 sr3 sr2 sr1 sr0
    go_wp2_with (first|(refine wpList_load_row rfl 186 (.tmp 8) rfl E rfl 186 #[.int .i64 2,.int .i64 td,.int .i64 0,.int .i64 am,.int .i64 0] _ _ HE0.o Tryz.underlying186 rfl Bu ?_)|(refine wpList_store_row rfl 186 (.tmp 6) (.tmp 137) rfl R #[.int .i64 2,.int .i64 td,.int .i64 0,.int .i64 am,.int .i64 0] rfl rfl 186 #[.int .i64 0,.int .i64 0,.int .i64 0,.int .i64 0,.int .i64 0] HR0.o Bu rfl (Dw _ _ _ _ _) ?_))
    refine jp ?_;intro R0' R1' R2' R3' R4'
    try rw [Exit.Bo]
    exact bodyPost_ret (v:= .tuple #[.agg #[.int .i64 2,.int .i64 td,.int .i64 0,.int .i64 am,.int .i64 0],.int .i64 0]) jt rfl ⟨by rw [Hev.o,Hee.o];simp [Htd.o],by rw [HeD.o];exact Hpo.o⟩
 ·have hne:(ki !=2)=true:=by simp [h2]
  refine j4a ?_;intro nce nec c0 c1 c2 c3 e0 e1 e2 e4 f0 f1 f2 f4;obtain⟨W2,hW2⟩:=eY (W1.setCell ⟨E,2,none⟩ (.int .i64 tr));have hst2:=Hst1.o.set (y:=⟨0,td,tr,am,0⟩) 2 (.int .i64 tr) hW2 rfl;have hAt2:=H.o.keep0 hst2.k;have htr:=Uz B x a tr W2 hAt2;by_cases h3:1<=tr/\tr<=a.t.trs.length
  ·rw [decide_eq_true h3] at htr;obtain⟨Hst2,HAt2,Htr,H3,H2⟩:=hid5 hst2 hAt2 htr h3 h2;clear h2 h3 htr hAt2 hst2;go_wp2_with fail;rw [<-hW2];clear hW2;clear nce nec c0 c1 c2 c3 e0 e1 e2 e4 f0 f1 f2 f4;refine Htr.o.mono ?_;rintro e w' ⟨rfl,rfl⟩;have nce:=(Hst2.o).ce;have nec:¬E=C:=λe=>nce e.symm;have c0:=Aa (Hst2.o).c 0;have c1:=Aa (Hst2.o).c 1;have c2:=Aa (Hst2.o).c 2;have c3:=Aa (Hst2.o).c 3;have e0:=Aa (Hst2.o).e 0;have e1:=Aa (Hst2.o).e 1;have e2:=Aa (Hst2.o).e 2;have e4:=Aa (Hst2.o).e 4;have f0:=Ab (Hst2.o).e 0;have f1:=Ab (Hst2.o).e 1;have f2:=Ab (Hst2.o).e 2;have f4:=Ab (Hst2.o).e 4;by_cases h7:ki=7
   ·subst h7;by_cases l1:am<0
    ·skip
     have hno:=Ac.Kb ((Ac.Lj (a:=a) (c:=⟨7,da,tr,am,re⟩) (.inr H3.o) (.inl ⟨rfl,.inl l1⟩))) j7;refine j0C ?_;intro hpo;have hee:=(Ac.Lj (a:=a) (c:=⟨7,da,tr,am,re⟩) (.inr H3.o) (.inl ⟨rfl,.inl l1⟩));have hR0:=(Hst2.o).r;exact j0g
    ·by_cases l2:10000000<am
     ·skip
      have hno:=Ac.Kb ((Ac.Lj (a:=a) (c:=⟨7,da,tr,am,re⟩) (.inr H3.o) (.inl ⟨rfl,.inr l2⟩))) j7;refine j0C ?_;intro hpo;have hee:=(Ac.Lj (a:=a) (c:=⟨7,da,tr,am,re⟩) (.inr H3.o) (.inl ⟨rfl,.inr l2⟩));have hR0:=(Hst2.o).r;exact j0g
     ·have hee:a.ee ⟨7,da,tr,am,re⟩=0:=by rw [Ac.ee_in (.inr H3.o) (.inl ⟨rfl,by show 0<=am;omega,by show am<=10000000;omega⟩)];rfl
      have heD:=Ac.eD_no (a:=a) (c:=⟨7,da,tr,am,re⟩) (show(7:Int)≠4 by decide);obtain⟨Wz,hWz⟩:=eY (W2.setCell ⟨E,0,none⟩ (.int .i64 6));have hstz:=Hst2.o.set (y:=⟨6,td,tr,am,0⟩) 0 (.int .i64 6) hWz rfl;have hpo:=hstz.done (D:=a.D) (V:= #[.int .i64 6,.int .i64 td,.int .i64 tr,.int .i64 am,.int .i64 0]) Hb.o;have Hstz:=Lib.hid hstz;clear hstz;refine j0B ?_;intro hev hE0 hR0;obtain⟨Hev,HE0,HR0,Hee,Hpo,HeD⟩:=hid6 hev hE0 hR0 hee hpo heD;clear heD hpo hee hR0 hE0 hev
      go_upto_region 31 with fail
      rw [<-hWz];clear hWz;have hsr:=setRow_heap _ R #[.int .i64 0,.int .i64 0,.int .i64 0,.int .i64 0,.int .i64 0] #[.int .i64 6,.int .i64 td,.int .i64 tr,.int .i64 am,.int .i64 0] 186 _ HR0.o;refine jU ?_;intro sr0 sr1 sr2 sr3 sr4;clear hsr;obtain⟨Sr0,Sr1,Sr2,Sr3,Sr4⟩:=hid5 sr0 sr1 sr2 sr3 sr4;clear sr4 sr3 sr2 sr1 sr0
      go_wp2_with (first|(refine wpList_load_row rfl 186 (.tmp 8) rfl E rfl 186 #[.int .i64 6,.int .i64 td,.int .i64 tr,.int .i64 am,.int .i64 0] _ _ HE0.o Tryz.underlying186 rfl Bu ?_)|(refine wpList_store_row rfl 186 (.tmp 6) (.tmp 137) rfl R #[.int .i64 6,.int .i64 td,.int .i64 tr,.int .i64 am,.int .i64 0] rfl rfl 186 #[.int .i64 0,.int .i64 0,.int .i64 0,.int .i64 0,.int .i64 0] HR0.o Bu rfl (Dw _ _ _ _ _) ?_))
      refine jp ?_;intro R0' R1' R2' R3' R4'
      try rw [Exit.Bo]
      exact bodyPost_ret (v:= .tuple #[.agg #[.int .i64 6,.int .i64 td,.int .i64 tr,.int .i64 am,.int .i64 0],.int .i64 0]) jt rfl ⟨by rw [Hev.o,Hee.o];simp [Htd.o],by rw [HeD.o];exact Hpo.o⟩
   ·have k7:(ki==7)=false:=by simp [h7]
    have H7:=Lib.hid h7;clear h7;by_cases l1:am<1
    ·skip
     have hno:=Ac.Kb ((Ac.Lj (a:=a) (c:=⟨ki,da,tr,am,re⟩) (.inr H3.o) (.inr ⟨H7.o,.inl l1⟩))) j7;refine j0C ?_;intro hpo;have hee:=(Ac.Lj (a:=a) (c:=⟨ki,da,tr,am,re⟩) (.inr H3.o) (.inr ⟨H7.o,.inl l1⟩));have hR0:=(Hst2.o).r;exact j0g
    ·by_cases l2:1000000000000000<am
     ·skip
      have hno:=Ac.Kb ((Ac.Lj (a:=a) (c:=⟨ki,da,tr,am,re⟩) (.inr H3.o) (.inr ⟨H7.o,.inr l2⟩))) j7;refine j0C ?_;intro hpo;have hee:=(Ac.Lj (a:=a) (c:=⟨ki,da,tr,am,re⟩) (.inr H3.o) (.inr ⟨H7.o,.inr l2⟩));have hR0:=(Hst2.o).r;exact j0g
     ·have hin:=Ac.ee_in (a:=a) (c:=⟨ki,da,tr,am,re⟩) (.inr H3.o) (.inr ⟨H7.o,by show 1<=am;omega,by show am<=1000000000000000;omega⟩);have hki:ki=1\/ki=3\/ki=4:=by have:=Hk.o;have:=H2.o;have:=H7.o;omega
      clear k7 hne;have Hin:=Lib.hid hin;clear hin;rcases hki with rfl|rfl|rfl
      ·have hin:=Hin.o;rw [if_pos rfl] at hin;obtain⟨⟨s0,s1⟩,⟨r0,r1⟩,_⟩:=ps_nums Hn.o.pr;obtain⟨ap,cp,hvp,_,_⟩:=Ae HAt2.o.bal;have hrd:=Reads.Bg HAt2.o.bal;rw [hvp] at hrd;have htot:=λW (hW:K0 W2 W)=>Gp a.s.p ap cp W (hrd.keeps hW (by simp)) (by have:=Hn.o.nb;have:=Hn.o.n8;omega);simp only [Ps.val,Hn.o.pr,if_true] at htot;unfold Ac.owes at hin;have hS:=(show drwS B C x.vp a.s.p.cr a.s.p.du a.t.limit am W2 from⟨Aa HAt2.o.blk 11,Aa HAt2.o.blk 12,Aa HAt2.o.blk 13,Aa HAt2.o.blk 0,c3⟩);rw [hvp] at hS;obtain⟨sb,hsb⟩:=eX (sumI a.s.p.bal);obtain⟨nb,hnb⟩:=eX a.s.p.bal.length;obtain⟨cr,hcr⟩:=eX a.s.p.cr;obtain⟨du,hdu⟩:=eX a.s.p.du;obtain⟨lim,hlm⟩:=eX a.t.limit;rw [hsb,hcr,hlm] at hin;rw [hsb] at s0 s1;rw [hcr] at r0 r1;rw [hsb,hnb,hcr,hdu] at htot;rw [hnb,hcr,hdu,hlm] at hS;have q1:IntKind.i64.wrap (sb-cr)=sb-cr:=IntWalk.i64_in _ ⟨by omega,by omega⟩;have q2:IntKind.i64.wrap (sb-cr+am)=sb-cr+am:=IntWalk.i64_in _ ⟨by omega,by omega⟩;clear hvp hrd;obtain⟨Htot,HS⟩:=hid2 htot hS;clear hS htot hsb hnb hcr hdu hlm
       go_upto_region 13 with fail
       by_cases hlim:lim<sb-cr+am
       ·rw [if_pos hlim] at hin;have Hin:=Lib.hid hin;clear hin;clear nce nec c0 c1 c2 c3 e0 e1 e2 e4 f0 f1 f2 f4;refine Ak (drwS B C (.slice ap nb cp) cr du lim am) (.take 0 (.take 1 (.take 2 (.take 3 (.take 5 (.take 6 (.take 7 (.take 8 (.take 9 (.take 11 (.take 12 (.take 14 (.take 15 (.take 16 (.take 17 (.take 18 (.move 4 (.take 10 (.take 13 (.take 19 .done)))))))))))))))))))) j9 j9 ?_ ?_
        ·exact j0h
        intro w3 hs3 hk3;refine je ?_;intro K hK
        go_at_call 14
        ((with_reducible refine(Htot.o w3 hk3).mono ?_);rintro e w4 ⟨rfl,hk4⟩;dsimp only)
        refine j0a ?_;clear hK K;refine jk ?_;have hst3:=Hst2.o.keep (hk3.nt hk4);clear hs3 hk3 hk4;have Hst3:=Lib.hid hst3;clear hst3;refine j0i ?_;intro nce nec c0 c1 c2 c3 e0 e1 e2 e4 f0 f1 f2 f4;have hno:=Ac.Kb (Hin.o) j7;refine j25 ?_;intro hpo;have hee:=Hin.o;exact j4c
       ·rw [if_neg hlim] at hin;have hee:=hin;clear hin;have Hee:=Lib.hid hee;clear hee;clear nce nec c0 c1 c2 c3 e0 e1 e2 e4 f0 f1 f2 f4;refine Ak (drwS B C (.slice ap nb cp) cr du lim am) (.take 0 (.take 1 (.take 2 (.take 3 (.take 5 (.take 6 (.take 7 (.take 8 (.take 9 (.take 11 (.take 12 (.take 14 (.take 15 (.take 16 (.take 17 (.take 18 (.move 4 (.take 10 (.take 13 (.take 19 .done)))))))))))))))))))) j9 j9 ?_ ?_
        ·exact j0h
        intro w3 hs3 hk3;refine je ?_;intro K hK
        go_at_call 14
        ((with_reducible refine(Htot.o w3 hk3).mono ?_);rintro e w4 ⟨rfl,hk4⟩;dsimp only)
        refine j0a ?_;clear hK K;refine jk ?_;have hst3:=Hst2.o.keep (hk3.nt hk4);clear hs3 hk3 hk4;have Hst3:=Lib.hid hst3;clear hst3;refine j0i ?_;intro nce nec c0 c1 c2 c3 e0 e1 e2 e4 f0 f1 f2 f4;have hee:=Hee.o;have heD:=Ac.eD_no (a:=a) (c:=⟨1,da,tr,am,re⟩) (show(1:Int)≠4 by decide);obtain⟨Wz,hWz⟩:=eY (w4.setCell ⟨E,0,none⟩ (.int .i64 1));have hstz:=Hst3.o.set (y:=⟨1,td,tr,am,0⟩) 0 (.int .i64 1) hWz rfl;have hpo:=hstz.done (D:=a.D) (V:= #[.int .i64 1,.int .i64 td,.int .i64 tr,.int .i64 am,.int .i64 0]) Hb.o;have Hstz:=Lib.hid hstz;clear hstz;refine j0B ?_;intro hev hE0 hR0;obtain⟨Hev,HE0,HR0,Hee,Hpo,HeD⟩:=hid6 hev hE0 hR0 hee hpo heD;clear heD hpo hee hR0 hE0 hev
        go_upto_region 31 with fail
        rw [<-hWz];clear hWz;have hsr:=setRow_heap _ R #[.int .i64 0,.int .i64 0,.int .i64 0,.int .i64 0,.int .i64 0] #[.int .i64 1,.int .i64 td,.int .i64 tr,.int .i64 am,.int .i64 0] 186 _ HR0.o;refine jU ?_;intro sr0 sr1 sr2 sr3 sr4;clear hsr;obtain⟨Sr0,Sr1,Sr2,Sr3,Sr4⟩:=hid5 sr0 sr1 sr2 sr3 sr4;clear sr4 sr3 sr2 sr1 sr0
        go_wp2_with (first|(refine wpList_load_row rfl 186 (.tmp 8) rfl E rfl 186 #[.int .i64 1,.int .i64 td,.int .i64 tr,.int .i64 am,.int .i64 0] _ _ HE0.o Tryz.underlying186 rfl Bu ?_)|(refine wpList_store_row rfl 186 (.tmp 6) (.tmp 137) rfl R #[.int .i64 1,.int .i64 td,.int .i64 tr,.int .i64 am,.int .i64 0] rfl rfl 186 #[.int .i64 0,.int .i64 0,.int .i64 0,.int .i64 0,.int .i64 0] HR0.o Bu rfl (Dw _ _ _ _ _) ?_))
        refine jp ?_;intro R0' R1' R2' R3' R4'
        try rw [Exit.Bo]
        exact bodyPost_ret (v:= .tuple #[.agg #[.int .i64 1,.int .i64 td,.int .i64 tr,.int .i64 am,.int .i64 0],.int .i64 0]) jt rfl ⟨by rw [Hev.o,Hee.o];simp [Htd.o],by rw [HeD.o];exact Hpo.o⟩
      ·have hin:=Hin.o;rw [if_neg (show¬(3:Int)=1 by decide),if_pos rfl] at hin;obtain⟨st,hst⟩:=eX a.t.start;have hS:=(show rfdS B C da a.t.start a.today W2 from⟨c1,Aa HAt2.o.blk 6,Aa HAt2.o.blk 7⟩);rw [hst,Htd.o] at hS hin;clear hst;have HS:=Lib.hid hS;clear hS
       go_upto_region 19 with fail
       clear nce nec c0 c1 c2 c3 e0 e1 e2 e4 f0 f1 f2 f4;by_cases d1:da<st
       ·skip
        rw [if_pos (.inl d1)] at hin;exact j4d
       ·skip
        by_cases d2:td<da
        ·skip
         rw [if_pos (.inr d2)] at hin;exact j4d
        ·skip
         rw [if_neg λe=>e.elim d1 d2] at hin;have Hin2:=Lib.hid hin;clear hin;refine Ak (rfdS B C da st td) (.take 0 (.take 1 (.take 2 (.take 3 (.take 4 (.take 5 (.take 6 (.take 7 (.take 8 (.take 9 (.take 10 (.take 11 (.take 12 (.take 13 (.take 14 (.take 15 (.take 16 .done))))))))))))))))) j9 j9 ?_ ?_
         ·exact j0h
         intro w3 hs3 hk3;refine jm ?_;have hst3:=Hst2.o.keep hk3;clear hs3;have Hst3:=Lib.hid hst3;clear hst3;refine j0i ?_;intro nce nec c0 c1 c2 c3 e0 e1 e2 e4 f0 f1 f2 f4;have hAt3:=HAt2.o.keep0 hk3;have hol:=Vd B x a da w3 hAt3;obtain⟨o,ho⟩:=eX (a.oldB da);rw [ho] at hol;clear hAt3;obtain⟨Hol,Ho⟩:=hid2 hol ho;clear ho hol;go_wp2_with fail;refine Hol.o.mono ?_;rintro e w4 ⟨rfl,hk4⟩;clear nce nec c0 c1 c2 c3 e0 e1 e2 e4 f0 f1 f2 f4;have hst4:=Hst3.o.keep hk4;clear hk4;have Hst4:=Lib.hid hst4;clear hst4;have hin3:a.ee ⟨3,da,tr,am,re⟩=if o=true then 11 else 0:=by rw [Hin2.o];show(if a.oldB da=true then(11:Int) else 0)=_;rw [Ho.o]
         have nce:=(Hst4.o).ce;have nec:¬E=C:=λe=>nce e.symm;have c0:=Aa (Hst4.o).c 0;have c1:=Aa (Hst4.o).c 1;have c2:=Aa (Hst4.o).c 2;have c3:=Aa (Hst4.o).c 3;have e0:=Aa (Hst4.o).e 0;have e1:=Aa (Hst4.o).e 1;have e2:=Aa (Hst4.o).e 2;have e4:=Aa (Hst4.o).e 4;have f0:=Ab (Hst4.o).e 0;have f1:=Ab (Hst4.o).e 1;have f2:=Ab (Hst4.o).e 2;have f4:=Ab (Hst4.o).e 4;rcases o with _|_
         ·have Hin3:=Lib.hid hin3;clear hin3
          go_upto_region 22 with fail
          clear nce nec c0 c1 c2 c3 e0 e1 e2 e4 f0 f1 f2 f4;refine Ak (rfcS C da) (.take 0 (.take 1 (.take 2 (.move 3 (.take 4 (.move 5 .done)))))) j9 j9 ?_ ?_
          ·exact(show rfcS C da w4 from Aa Hst4.o.c 1).keepS (Keeps.drew (S:=λ_=>False) _) (by simp)
          intro w6 hs6 hk6;have hst6:=Hst4.o.keep hk6;refine j4e ?_;intro nce nec c0 c1 c2 c3 e0 e1 e2 e4 f0 f1 f2 f4;refine j4f ?_;refine ja ?_;intro K hK;refine hK.out _ _ (by exact hs6.keepS (Keeps.setCell (S:=λi=>i=E) _ _ _ rfl) nce) ?_;clear hK K;refine jc ?_;refine j4f ?_;refine ja ?_;intro K hK;refine hK.out _ _ (by exact(hs6.keepS (Keeps.setCell (S:=λi=>i=E) _ _ _ rfl) nce).keepS (Keeps.setCell (S:=λi=>i=E) _ _ _ rfl) nce) ?_;clear hK K;refine jq ?_;have hee:a.ee ⟨3,da,tr,am,re⟩=0:=by rw [Hin3.o];rfl
          have heD:=Ac.eD_no (a:=a) (c:=⟨3,da,tr,am,re⟩) (show(3:Int)≠4 by decide);obtain⟨Wz,hWz⟩:=eY ((w6.setCell ⟨E,0,none⟩ (.int .i64 3)).setCell ⟨E,1,none⟩ (.int .i64 da));have hstz:=(hst6.set (y:=⟨3,td,tr,am,0⟩) 0 (.int .i64 3) rfl rfl).set (y:=⟨3,da,tr,am,0⟩) 1 (.int .i64 da) hWz rfl;have hpo:=hstz.done (D:=a.D) (V:= #[.int .i64 3,.int .i64 da,.int .i64 tr,.int .i64 am,.int .i64 0]) Hb.o;clear hs6 hk6;have Hstz:=Lib.hid hstz;clear hstz hst6;refine j0B ?_;intro hev hE0 hR0;obtain⟨Hev,HE0,HR0,Hee,Hpo,HeD⟩:=hid6 hev hE0 hR0 hee hpo heD;clear heD hpo hee hR0 hE0 hev
          go_upto_region 31 with fail
          rw [<-hWz];clear hWz;have hsr:=setRow_heap _ R #[.int .i64 0,.int .i64 0,.int .i64 0,.int .i64 0,.int .i64 0] #[.int .i64 3,.int .i64 da,.int .i64 tr,.int .i64 am,.int .i64 0] 186 _ HR0.o;refine jU ?_;intro sr0 sr1 sr2 sr3 sr4;clear hsr;obtain⟨Sr0,Sr1,Sr2,Sr3,Sr4⟩:=hid5 sr0 sr1 sr2 sr3 sr4;clear sr4 sr3 sr2 sr1 sr0
          go_wp2_with (first|(refine wpList_load_row rfl 186 (.tmp 8) rfl E rfl 186 #[.int .i64 3,.int .i64 da,.int .i64 tr,.int .i64 am,.int .i64 0] _ _ HE0.o Tryz.underlying186 rfl Bu ?_)|(refine wpList_store_row rfl 186 (.tmp 6) (.tmp 137) rfl R #[.int .i64 3,.int .i64 da,.int .i64 tr,.int .i64 am,.int .i64 0] rfl rfl 186 #[.int .i64 0,.int .i64 0,.int .i64 0,.int .i64 0,.int .i64 0] HR0.o Bu rfl (Dw _ _ _ _ _) ?_))
          refine jp ?_;intro R0' R1' R2' R3' R4'
          try rw [Exit.Bo]
          exact bodyPost_ret (v:= .tuple #[.agg #[.int .i64 3,.int .i64 da,.int .i64 tr,.int .i64 am,.int .i64 0],.int .i64 0]) jt rfl ⟨by rw [Hev.o,Hee.o];simp,by rw [HeD.o];exact Hpo.o⟩
         ·have Hin3:=Lib.hid hin3;clear hin3;have hno:=Ac.Kb (Hin3.o) j7;have hpo:=((Hst4.o).done (D:=a.D) (V:= #[.int .i64 0,.int .i64 0,.int .i64 0,.int .i64 0,.int .i64 0]) Hb.o);have hee:=Hin3.o;have hR0:=(Hst4.o).r;obtain⟨Hno,Hpo,Hee,HR0⟩:=hid4 hno hpo hee hR0;clear hR0 hee hpo hno;go_wp2_with fail;go_step3;go_wp2;refine j0j ?_;intro Sr0 Sr1 Sr2 Sr3 Sr4
          go_wp2_with (refine wpList_store_row rfl 186 (.tmp 6) (.tmp 138) rfl R #[.int .i64 0,.int .i64 0,.int .i64 0,.int .i64 0,.int .i64 0] rfl rfl 186 #[.int .i64 0,.int .i64 0,.int .i64 0,.int .i64 0,.int .i64 0] HR0.o Bu rfl (Dw _ _ _ _ _) ?_)
          refine jp ?_;intro R0' R1' R2' R3' R4';rw [Exit.noGoto_ret];exact bodyPost_ret (v:= .tuple #[.agg #[.int .i64 0,.int .i64 0,.int .i64 0,.int .i64 0,.int .i64 0],.int .i64 11]) jt rfl ⟨by rw [Hno.o.1,Hee.o];rfl,by rw [Hno.o.2];exact Hpo.o⟩
      ·have hin:=Hin.o;rw [if_neg (show¬(4:Int)=1 by decide),if_neg (show¬(4:Int)=3 by decide),if_pos rfl] at hin;obtain⟨nb,hnb⟩:=eX a.s.p.bal.length;have hnt:=Hn.o.nb;rw [hnb] at hnt;obtain⟨t1,t2⟩:=H3.o;obtain⟨k,hk1⟩:∃k:Nat,(k:Int)=tr-1:=⟨(tr-1).toNat,by omega⟩;obtain⟨y,hy⟩:=Ar (L:=a.s.p.bal) (k:=k) j6;have q3:(tr-1).toNat=k:=j8;have hyD:a.s.p.bal.getD (tr-1).toNat 0=y:=by rw [q3,List.getD_eq_getElem?_getD,hy];rfl
       simp only [hyD] at hin;obtain⟨g,cp,hvp,_⟩:=Ey HAt2.o.bal j6;have hrow:=HAt2.o.bal;rw [hvp] at hrow;have hcy:W2.cell? ⟨g,k,none⟩=some (.int .i64 y):=by have:=Bw Ec hrow hy 0 j7;simpa [i64c] using this
       have q1:(0:Int)<=tr-1:=j8;have hn8:=Hn.o.n8;have q2:tr-1<(nb:Int):=j8;have q4:IntKind.i64.wrap (tr-1)=tr-1:=IntWalk.i64_in _ ⟨by omega,by omega⟩;rw [hnb] at hvp hrow;have hS:=(show opnS B C am tr a.today x.vp g k y W2 from⟨c3,c2,Aa HAt2.o.blk 7,Aa HAt2.o.blk 11,hcy⟩);rw [hvp,Htd.o] at hS;clear hcy t2 hnt hn8;clear hnb hk1 hy hyD hvp hrow;have HS:=Lib.hid hS;clear hS
       go_upto_region 25 with fail
       clear nce nec c0 c1 c2 c3 e0 e1 e2 e4 f0 f1 f2 f4;by_cases d1:y<am
       ·rw [if_pos d1] at hin;have Hin2:=Lib.hid hin;clear hin;refine Ak (opnS B C am tr td (.slice (some ⟨g,0,none⟩) nb cp) g k y) (.take 0 (.take 1 (.take 2 (.take 3 (.take 4 (.take 5 (.take 6 (.take 7 (.take 8 (.take 9 (.take 10 (.take 11 (.take 12 .done))))))))))))) j9 j9 ?_ ?_
        ·exact j0h
        intro w3 hs3 hk3;refine jm ?_;have hst3:=Hst2.o.keep hk3;clear hk3;have Hst3:=Lib.hid hst3;clear hst3;refine j0i ?_;intro nce nec c0 c1 c2 c3 e0 e1 e2 e4 f0 f1 f2 f4;have hno:=Ac.Kb (Hin2.o) j7;refine j25 ?_;intro hpo;have hee:=Hin2.o;exact j4c
       ·rw [if_neg d1] at hin;have Hin2:=Lib.hid hin;clear hin;refine Ak (opnS B C am tr td (.slice (some ⟨g,0,none⟩) nb cp) g k y) (.take 0 (.take 1 (.take 2 (.take 3 (.take 4 (.take 5 (.take 6 (.take 7 (.take 8 (.take 9 (.take 10 (.take 11 (.take 12 .done))))))))))))) j9 j9 ?_ ?_
        ·exact j0h
        intro w3 hs3 hk3;refine jm ?_;have hst3:=Hst2.o.keep hk3;clear hk3;have Hst3:=Lib.hid hst3;clear hst3;refine j0i ?_;intro nce nec c0 c1 c2 c3 e0 e1 e2 e4 f0 f1 f2 f4;have hop:=fun(W:World) (hW:K0 w W)=>Zg tr td am a.D v b W (Hb.o.keeps hW (by simp));obtain⟨rf,hrf⟩:=eX (Eh a.D tr am);obtain⟨z,hz⟩:=eX (Dq a.D tr am);rw [hrf,hz] at hop;have hFB:¬Foot b v B:=λe=>Hsep.o B e (.inl (.inl rfl));have hFC:¬Foot b v C:=λe=>by have:=Hb.o.lt C e;have:=Hst3.o.lc;omega
        clear d1 q1 q2 q4 q3 t1;have hS5:opcS B C am tr td w3:=⟨hs3.1,hs3.2.1,hs3.2.2.1⟩;clear hs3;obtain⟨Hop,Hrf,Hz,HFB,HFC,HS5⟩:=hid6 hop hrf hz hFB hFC hS5;clear hS5 hFC hFB hz hrf hop
        go_upto_region 26 with fail
        clear nce nec c0 c1 c2 c3 e0 e1 e2 e4 f0 f1 f2 f4;refine Ak (opcS B C am tr td) (.take 0 (.take 1 (.take 2 (.take 3 (.take 4 (.take 5 (.take 6 (.take 7 (.take 8 (.move 9 (.take 10 (.take 11 (.take 12 (.take 13 (.move 14 (.take 15 .done)))))))))))))))) j9 j9 ?_ ?_
        ·exact HS5.o.keepS (Keeps.drew (S:=λ_=>False) _) (by simp) (by simp)
        intro w5 hs5 hk5;have hst5:=Hst3.o.keep hk5;have hkw5:=hst5.k;refine je ?_;intro K hK
        go_at_call 114
        ((with_reducible refine(Hop.o w5 hkw5).mono ?_);rintro e w6 hg)
        obtain⟨rfl,v6,hb6,hk6,hf6⟩:=hg;dsimp only;have hst6:=hst5.keepT hk6 Hb.o.lt;refine hK.out _ _ (by exact hs5.keepS hk6 HFB.o HFC.o) ?_;clear hK K;refine jh ?_;refine j4e ?_;intro nce nec c0 c1 c2 c3 e0 e1 e2 e4 f0 f1 f2 f4;have hs6:=hs5.keepS hk6 HFB.o HFC.o;have neB:¬B=E:=λe=>by have:=H.o.lt B (.inl (.inl rfl));have:=hst6.le;omega
        refine ja ?_;intro K hK;refine hK.out _ _ (by exact hs6.keepS (Keeps.setCell (S:=λi=>i=E) _ _ _ rfl) neB nce) ?_;clear hK K;refine jk ?_;obtain⟨W7,hW7⟩:=eY (w6.setCell ⟨E,4,none⟩ (.int .i64 rf));have hst7:=hst6.set (y:=⟨0,td,tr,am,rf⟩) 4 (.int .i64 rf) hW7 rfl;have hk7:Keeps (λi=>i=E) w6 W7:=by rw [hW7];exact(Keeps.refl _ _).setB _ _
        rw [<-hW7];clear hW7;clear nce nec c0 c1 c2 c3 e0 e1 e2 e4 f0 f1 f2 f4;clear hs5 hs6 hkw5 hk5;obtain⟨Hst7,Hst5⟩:=hid2 hst7 hst5;clear hst5 hst7 hst6;obtain⟨Hb6,Hk6,Hf6,Hk7⟩:=hid4 hb6 hk6 hf6 hk7;clear hk7 hf6 hk6 hb6;have nce:=(Hst7.o).ce;have nec:¬E=C:=λe=>nce e.symm;have c0:=Aa (Hst7.o).c 0;have c1:=Aa (Hst7.o).c 1;have c2:=Aa (Hst7.o).c 2;have c3:=Aa (Hst7.o).c 3;have e0:=Aa (Hst7.o).e 0;have e1:=Aa (Hst7.o).e 1;have e2:=Aa (Hst7.o).e 2;have e4:=Aa (Hst7.o).e 4;have f0:=Ab (Hst7.o).e 0;have f1:=Ab (Hst7.o).e 1;have f2:=Ab (Hst7.o).e 2;have f4:=Ab (Hst7.o).e 4;have hiz:a.ee ⟨4,da,tr,am,re⟩=z:=by rw [Hin2.o];exact Hz.o
        by_cases hz0:z=0
        ·subst hz0;have hee:=hiz;have heD:a.eD ⟨4,da,tr,am,re⟩=dOpen a.D tr td am:=by rw [Ac.eD_yes hiz rfl,Htd.o]
         obtain⟨Wz,hWz⟩:=eY (W7.setCell ⟨E,0,none⟩ (.int .i64 4));have hstz:=Hst7.o.set (y:=⟨4,td,tr,am,rf⟩) 0 (.int .i64 4) hWz rfl;have hkz:Keeps (λi=>i=E) w6 Wz:=by rw [hWz];exact Hk7.o.setB _ _
         have hpo:=Hst5.o.doneB (V:= #[.int .i64 4,.int .i64 td,.int .i64 tr,.int .i64 am,.int .i64 rf]) Hb.o Hb6.o Hk6.o Hf6.o hkz;clear hiz;have Hstz:=Lib.hid hstz;clear hstz hkz;refine j0B ?_;intro hev hE0 hR0;obtain⟨Hev,HE0,HR0,Hee,Hpo,HeD⟩:=hid6 hev hE0 hR0 hee hpo heD;clear heD hpo hee hR0 hE0 hev
         go_upto_region 31 with fail
         rw [<-hWz];clear hWz;have hsr:=setRow_heap _ R #[.int .i64 0,.int .i64 0,.int .i64 0,.int .i64 0,.int .i64 0] #[.int .i64 4,.int .i64 td,.int .i64 tr,.int .i64 am,.int .i64 rf] 186 _ HR0.o;refine jU ?_;intro sr0 sr1 sr2 sr3 sr4;clear hsr;obtain⟨Sr0,Sr1,Sr2,Sr3,Sr4⟩:=hid5 sr0 sr1 sr2 sr3 sr4;clear sr4 sr3 sr2 sr1 sr0
         go_wp2_with (first|(refine wpList_load_row rfl 186 (.tmp 8) rfl E rfl 186 #[.int .i64 4,.int .i64 td,.int .i64 tr,.int .i64 am,.int .i64 rf] _ _ HE0.o Tryz.underlying186 rfl Bu ?_)|(refine wpList_store_row rfl 186 (.tmp 6) (.tmp 137) rfl R #[.int .i64 4,.int .i64 td,.int .i64 tr,.int .i64 am,.int .i64 rf] rfl rfl 186 #[.int .i64 0,.int .i64 0,.int .i64 0,.int .i64 0,.int .i64 0] HR0.o Bu rfl (Dw _ _ _ _ _) ?_))
         refine jp ?_;intro R0' R1' R2' R3' R4'
         try rw [Exit.Bo]
         exact bodyPost_ret (v:= .tuple #[.agg #[.int .i64 4,.int .i64 td,.int .i64 tr,.int .i64 am,.int .i64 rf],.int .i64 0]) jt rfl ⟨by rw [Hev.o,Hee.o];simp [Htd.o,Hrf.o],by rw [HeD.o];exact Hpo.o⟩
        ·have hne:(z !=0)=true:=by simp [hz0]
         have hDD:dOpen a.D tr td am=a.D:=by unfold dOpen;rw [if_neg (by rw [Hz.o];exact hz0)]
         have hpo7:=Hst5.o.doneB (V:= #[.int .i64 0,.int .i64 0,.int .i64 0,.int .i64 0,.int .i64 0]) Hb.o Hb6.o Hk6.o Hf6.o Hk7.o;rw [hDD] at hpo7;have Hpo7:=Lib.hid hpo7;have Hiz:=Lib.hid hiz;have Hz0:=Lib.hid hz0;clear hpo7 hiz hz0 hDD;have hno:=Ac.Kb (Hiz.o) (Hz0.o);have hpo:=Hpo7.o;have hee:=Hiz.o;have hR0:=(Hst7.o).r;obtain⟨Hno,Hpo,Hee,HR0⟩:=hid4 hno hpo hee hR0;clear hR0 hee hpo hno;go_wp2_with fail;go_step3;go_wp2;refine j0j ?_;intro Sr0 Sr1 Sr2 Sr3 Sr4
         go_wp2_with (refine wpList_store_row rfl 186 (.tmp 6) (.tmp 138) rfl R #[.int .i64 0,.int .i64 0,.int .i64 0,.int .i64 0,.int .i64 0] rfl rfl 186 #[.int .i64 0,.int .i64 0,.int .i64 0,.int .i64 0,.int .i64 0] HR0.o Bu rfl (Dw _ _ _ _ _) ?_)
         refine jp ?_;intro R0' R1' R2' R3' R4';rw [Exit.noGoto_ret];exact bodyPost_ret (v:= .tuple #[.agg #[.int .i64 0,.int .i64 0,.int .i64 0,.int .i64 0,.int .i64 0],.int .i64 z]) jt rfl ⟨by rw [Hno.o.1,Hee.o];rfl,by rw [Hno.o.2];exact Hpo.o⟩
  ·rw [decide_eq_false h3] at htr;obtain⟨Hst2,HAt2,Htr,H3,H2⟩:=hid5 hst2 hAt2 htr h3 h2;clear h2 h3 htr hAt2 hst2;go_wp2_with fail;rw [<-hW2];clear hW2;clear nce nec c0 c1 c2 c3 e0 e1 e2 e4 f0 f1 f2 f4;refine Htr.o.mono ?_;rintro e w' ⟨rfl,rfl⟩;have hno:=Ac.Kb ((Ac.ee_tr (a:=a) (c:=⟨ki,da,tr,am,re⟩) H2.o H3.o)) j7;refine j0C ?_;intro hpo;have hee:=(Ac.ee_tr (a:=a) (c:=⟨ki,da,tr,am,re⟩) H2.o H3.o);have hR0:=(Hst2.o).r;obtain⟨Hno,Hpo,Hee,HR0⟩:=hid4 hno hpo hee hR0;clear hR0 hee hpo hno;go_wp2_with fail;go_step3;go_wp2;refine j0j ?_;intro Sr0 Sr1 Sr2 Sr3 Sr4
   go_wp2_with (refine wpList_store_row rfl 186 (.tmp 6) (.tmp 138) rfl R #[.int .i64 0,.int .i64 0,.int .i64 0,.int .i64 0,.int .i64 0] rfl rfl 186 #[.int .i64 0,.int .i64 0,.int .i64 0,.int .i64 0,.int .i64 0] HR0.o Bu rfl (Dw _ _ _ _ _) ?_)
   refine jp ?_;intro R0' R1' R2' R3' R4';rw [Exit.noGoto_ret];exact bodyPost_ret (v:= .tuple #[.agg #[.int .i64 0,.int .i64 0,.int .i64 0,.int .i64 0,.int .i64 0],.int .i64 7]) jt rfl ⟨by rw [Hno.o.1,Hee.o];rfl,by rw [Hno.o.2];exact Hpo.o⟩
def Ac.xev(a:Ac)(c:Cmd):Ev:=if c.kind=5\/c.kind=6 then a.dvt c else a.evt c
def Ac.xz(a:Ac)(c:Cmd):Int:=if c.kind=5\/c.kind=6 then a.de c else a.ee c
def Ac.xD(a:Ac)(c:Cmd):List Disp:=if c.kind=5\/c.kind=6 then dEnd a.D c.ref (c.kind==5) else a.eD c
def Ac.xe(a:Ac)(c:Cmd):Int:=if¬a.xz c=0 then a.xz c else if c.kind=6 then 0 else a.ce (a.xev c)
def Ac.xr(a:Ac)(c:Cmd):Int:=if a.xe c=0/\c.kind=4 then(a.xev c).ref else 0
def Ac.nx(a:Ac)(c:Cmd):Ac:=if c.kind=6 then { a with seq:=a.seq+1 } else a.count (a.xev c)
def Ac.chg(a:Ac)(c:Cmd):Ac:=if¬a.xe c=0 then a else { a.nx c with D:=a.xD c }
theorem Ac.chg_no{a:Ac}{c:Cmd}{z:Int}(h:a.xe c=z)(hz:z≠0):a.chg c=a/\a.xr c=0:=⟨by unfold Ac.chg;rw [h,if_pos hz],by unfold Ac.xr;rw [h,if_neg λe=>hz e.1]⟩
theorem Ac.chg_yes{a:Ac}{c:Cmd}(h:a.xe c=0):a.chg c={ a.nx c with D:=a.xD c }/\a.xr c=if c.kind=4 then(a.xev c).ref else 0:=⟨by unfold Ac.chg;rw [h,if_neg (by decide)],by unfold Ac.xr;rw [h];simp⟩
theorem AcAt.otherT{w:World}{B R:Nat}{x:AcV}{a:Ac}(h:AcAt w B x a){C:Array Value}{t:TypeId}{fz:Nat×Nat}(hR:w.heap[R]?=some (.cells C t fz))(ht:∀s∈ [104,59,142,39,2,172,186,150,148,212],t≠s):∀b,AcF B x b\/x.rd b->¬b=R:=by
 have key:∀{b:Nat} {D:Array Value} {s:TypeId} {fz:Nat×Nat},w.heap[b]?=some (.cells D s fz)->t≠s->¬b=R:=λhb ht e=>by
  subst e;rw [hR] at hb;injection hb with hb;injection hb with _ he _;exact ht he
 simp only [List.mem_cons,List.not_mem_nil,or_false,forall_eq_or_imp,forall_eq] at ht;obtain⟨t1,t2,t3,t4,t5,t6,t7,t8,t9,t10⟩:=ht;rintro b ((rfl|hb|hb)|hb|hb|hb|hb|rfl|hb|hb|(rfl|hb)|⟨y,hy,hb⟩|⟨y,hy,hb⟩) e
 ·exact key h.blk t1 e
 ·exact Ah h.iss hR t2 (e▸hb)
 ·exact Ah h.adj hR t3 (e▸hb)
 ·exact Ah h.trs hR t4 (e▸hb)
 ·exact Ah h.bal hR t5 (e▸hb)
 ·exact Ah h.rts hR t5 (e▸hb)
 ·exact Ah h.now hR t2 (e▸hb)
 ·exact key h.dl.blk t6 e
 ·exact Ah h.dl.trs hR t4 (e▸hb)
 ·exact Ah h.dl.row hR t7 (e▸hb)
 ·exact key h.bk.blk t8 e
 ·exact Ah h.bk.row hR t9 (e▸hb)
 ·exact Ah (h.nln y hy) hR t10 (e▸hb)
 ·exact Ah (h.iln y hy) hR t10 (e▸hb)
theorem AcAt.other{w:World}{B R:Nat}{x:AcV}{a:Ac}(h:AcAt w B x a){C:Array Value}(hR:w.heap[R]?=some (.cells C 61 (0,0))):∀b,AcF B x b\/x.rd b->¬b=R:=h.otherT hR (by decide)
theorem AcAt.book{w W:World}{B b:Nat}{x:AcV}{a:Ac}{v:Value}{D:List Disp}(h:AcAt w B x a)(hb:Cv w b v D)(hf:∀k,Foot b v k->¬AcF B x k)(hW:W=w.setCell ⟨B,10,none⟩ (.pointer (some ⟨b,0,none⟩))):AcAt W B { x with bb:=b,vb:=v } { a with D:=D }:=by
 have hk:Keeps (λi=>i=B) w W:=by rw [hW];exact(Keeps.refl _ _).setB _ _
 have hB:∀i,x.rd i->¬i=B:=λi hi e=>h.sep i hi (.inl e)
 refine⟨by rw [hW];exact heap_setCell_same _ _ 10 _ _ (.pointer (some ⟨b,0,none⟩)) h.blk,hk.row h.trs λi hi=>hB i (.inl hi),h.dl.keepS hk (hB _ (.inr (.inr (.inr (.inr (.inl rfl)))))) (λi hi=>hB i (.inr (.inr (.inr (.inr (.inr (.inl hi))))))) (λi hi=>hB i (.inr (.inr (.inr (.inr (.inr (.inr (.inl hi)))))))),
  hb.keeps hk (λk hk e=>hf k hk (.inl e)),hk.row h.bal λi hi=>hB i (.inr (.inl hi)),hk.row h.rts λi hi=>hB i (.inr (.inr (.inl hi))),hk.row h.now λi hi=>hB i (.inr (.inr (.inr (.inl hi)))),λy hy=>hk.row (h.nln y hy) λi hi=>hB i (.inr (.inr (.inr (.inr (.inr (.inr (.inr (.inr (.inl ⟨y,hy,hi⟩)))))))))
  ,h.ns,hk.row h.iss λi hi e=>h.si i hi (.inl e),λy hy=>hk.row (h.iln y hy) λi hi=>hB i (.inr (.inr (.inr (.inr (.inr (.inr (.inr (.inr (.inr ⟨y,hy,hi⟩))))))))),h.is,hk.row h.adj λi hi e=>h.sa i hi e,⟨h.ok.wk,h.ok.il,h.ok.ill,h.ok.aj,h.ok.s0⟩, ?_,h.si,h.sa⟩
 rintro i (hi|hi|hi|hi|hi|hi|hi|hi|hi|hi) hF
 ·exact h.sep i (.inl hi) hF
 ·exact h.sep i (.inr (.inl hi)) hF
 ·exact h.sep i (.inr (.inr (.inl hi))) hF
 ·exact h.sep i (.inr (.inr (.inr (.inl hi)))) hF
 ·exact h.sep i (.inr (.inr (.inr (.inr (.inl hi))))) hF
 ·exact h.sep i (.inr (.inr (.inr (.inr (.inr (.inl hi)))))) hF
 ·exact h.sep i (.inr (.inr (.inr (.inr (.inr (.inr (.inl hi))))))) hF
 ·exact hf i hi hF
 ·exact h.sep i (.inr (.inr (.inr (.inr (.inr (.inr (.inr (.inr (.inl hi))))))))) hF
 ·exact h.sep i (.inr (.inr (.inr (.inr (.inr (.inr (.inr (.inr (.inr hi))))))))) hF
theorem AcAt.seq1{w W:World}{B:Nat}{x:AcV}{a:Ac}(h:AcAt w B x a)(hW:W=w.setCell ⟨B,8,none⟩ (.int .i64 (a.seq+1))):AcAt W B x { a with seq:=a.seq+1 }:=by
 have hk:Keeps (λi=>i=B) w W:=by rw [hW];exact(Keeps.refl _ _).setB _ _
 have hB:∀i,x.rd i->¬i=B:=λi hi e=>h.sep i hi (.inl e)
 exact⟨by rw [hW];exact heap_setCell_same _ _ 8 _ _ (.int .i64 (a.seq+1)) h.blk,hk.row h.trs λi hi=>hB i (.inl hi),h.dl.keepS hk (hB _ (.inr (.inr (.inr (.inr (.inl rfl)))))) (λi hi=>hB i (.inr (.inr (.inr (.inr (.inr (.inl hi))))))) (λi hi=>hB i (.inr (.inr (.inr (.inr (.inr (.inr (.inl hi)))))))),
  h.bk.keeps hk (λk hk=>hB k (.inr (.inr (.inr (.inr (.inr (.inr (.inr (.inl hk))))))))),hk.row h.bal λi hi=>hB i (.inr (.inl hi)),hk.row h.rts λi hi=>hB i (.inr (.inr (.inl hi))),hk.row h.now λi hi=>hB i (.inr (.inr (.inr (.inl hi)))),λy hy=>hk.row (h.nln y hy) λi hi=>hB i (.inr (.inr (.inr (.inr (.inr (.inr (.inr (.inr (.inl ⟨y,hy,hi⟩)))))))))
  ,h.ns,hk.row h.iss λi hi e=>h.si i hi (.inl e),λy hy=>hk.row (h.iln y hy) λi hi=>hB i (.inr (.inr (.inr (.inr (.inr (.inr (.inr (.inr (.inr ⟨y,hy,hi⟩))))))))),h.is,hk.row h.adj λi hi e=>h.sa i hi e,⟨h.ok.wk,h.ok.il,h.ok.ill,by have h1:=h.ok.aj;show(a.adj.length:Int)<=301000*(a.seq+1);omega,by have:=h.ok.s0;show 0<=a.seq+1;omega⟩,h.sep,h.si,h.sa⟩
theorem Ca.fin{w W2 W3 W4:World}{B b R:Nat}{x:AcV}{a a':Ac}{v:Value}{D:List Disp}{C V:Array Value}(h:AcAt w B x a)(hk:K0 w W2)(hp:Ca W2 B x a' W3)(hb:Cv W2 b v D)(hft:∀k,Foot b v k->w.heap.size<=k)(hR:W2.heap[R]?=some (.cells C 61 (0,0)))(hRw:w.heap.size<=R)(hW:W4=W3.setCell ⟨B,10,none⟩ (.pointer (some ⟨b,0,none⟩))):
  W4.heap[R]?=some (.cells C 61 (0,0))/\Ca w B x { a' with D:=D } (W4.setRow R V):=by
 obtain⟨x',hA,hk3,hf3⟩:=hp;have hlt:∀k,AcF B x k->k<w.heap.size:=λk hk=>h.lt k (.inl hk);have hw:=hk.size
 have hf:∀k,Foot b v k->¬AcF B x' k:=λk hk e=>by
  have h1:=hft k hk;have h2:=hb.lt k hk;rcases hf3.1 k e with h3|h3
  ·have:=hlt k h3;omega
  ·omega
 have hR3:¬AcF B x R:=λe=>by have:=hlt R e;omega
 have hB3:Cv W3 b v D:=hb.keeps hk3 λk hk e=>by have:=hft k hk;have:=hlt k e;omega
 have hA4:=hA.book hB3 hf hW;have hk4:Keeps (λi=>i=B) W3 W4:=by rw [hW];exact(Keeps.refl _ _).setB _ _
 have hR4:=Ad (Ad hR hk3 hR3) hk4 (λe=>hR3 (.inl e));have hkr:=Cg W4 R V;refine⟨hR4,_,hA4.keeps hkr λk hk e=>hA4.other hR4 k hk e, ?_,λk hk=> ?_,λk hk=> ?_⟩
 ·refine(hk.mono (by simp)).trans ((hk3.mono λi _ e=> .inl e).trans ((hk4.mono λi _ e=> .inl (.inl (.inl e))).trans (hkr.mono λi _ e=> .inl (.inl (.inr ?_)))));omega
 ·rcases hf3.1 k hk with h3|h3
  ·exact .inl h3
  ·exact .inr j6
 ·have key:∀k,x'.rd k->x.rd k\/w.heap.size<=k:=λk hk=>(hf3.2 k hk).imp id λe=>by omega
  rcases hk with hk|hk|hk|hk|hk|hk|hk|hk|hk|hk
  ·exact key k (.inl hk)
  ·exact key k (.inr (.inl hk))
  ·exact key k (.inr (.inr (.inl hk)))
  ·exact key k (.inr (.inr (.inr (.inl hk))))
  ·exact key k (.inr (.inr (.inr (.inr (.inl hk)))))
  ·exact key k (.inr (.inr (.inr (.inr (.inr (.inl hk))))))
  ·exact key k (.inr (.inr (.inr (.inr (.inr (.inr (.inl hk)))))))
  ·exact .inr (hft k hk)
  ·exact key k (.inr (.inr (.inr (.inr (.inr (.inr (.inr (.inr (.inl hk)))))))))
  ·exact key k (.inr (.inr (.inr (.inr (.inr (.inr (.inr (.inr (.inr hk)))))))))
theorem Ca.ret{w W0 W:World}{B R:Nat}{x:AcV}{a a':Ac}{C V:Array Value}(h:AcAt w B x a)(hk:K0 w W0)(hp:Ca W0 B x a' W)(hR:W0.heap[R]?=some (.cells C 61 (0,0)))(hRw:w.heap.size<=R):
  W.heap[R]?=some (.cells C 61 (0,0))/\Ca w B x a' (W.setRow R V):=by
 obtain⟨x',hA,hk3,hf3⟩:=hp;have hw:=hk.size;have hR3:¬AcF B x R:=λe=>by have:=h.lt R (.inl e);omega
 have hR4:=Ad hR hk3 hR3;have hkr:=Cg W R V;refine⟨hR4,_,hA.keeps hkr λk hk e=>hA.other hR4 k hk e, ?_,λk hk=>(hf3.1 k hk).imp id λh=>by omega,λk hk=>(hf3.2 k hk).imp id λh=>by omega⟩;refine(hk.mono (by simp)).trans ((hk3.mono λi _ e=> .inl e).trans (hkr.mono λi _ e=> .inl (.inr ?_)));omega
theorem Ca.more{w W W':World}{B:Nat}{x:AcV}{a:Ac}(h:Ca w B x a W)(hk:K0 W W'):Ca w B x a W':=by
 obtain⟨x',hA,hk3,hf3⟩:=h;exact⟨x',hA.keep0 hk,hk3.trans (hk.mono (by simp)),hf3⟩
theorem Ca.box{w W2 W3:World}{B i:Nat}{x:AcV}{a a':Ac}{o:Obj}(h:AcAt w B x a)(hp:Ca W2 B x a' W3)(hb:W2.heap[i]?=some o)(hi:w.heap.size<=i):W3.heap[i]?=some o:=by
 obtain⟨x',hA,hk3,hf3⟩:=hp;exact Ad hb hk3 λe=>by have:=h.lt i (.inl e);omega
theorem Ac.xe_bad{a:Ac}{c:Cmd}{z:Int}(h:a.xz c=z)(hz:¬z=0):a.xe c=z:=by unfold Ac.xe;rw [h,if_pos hz]
theorem Ac.xe_won{a:Ac}{c:Cmd}(h:a.xz c=0)(hk:c.kind=6):a.xe c=0:=by unfold Ac.xe;rw [h,if_neg (by decide),if_pos hk]
theorem Ac.xe_cnt{a:Ac}{c:Cmd}(h:a.xz c=0)(hk:¬c.kind=6):a.xe c=a.ce (a.xev c):=by unfold Ac.xe;rw [h,if_neg (by decide),if_neg hk]
theorem Ac.count_no{a:Ac}{e:Ev}(h:¬a.ce e=0):a.count e=a:=by unfold Ac.count;rw [if_neg h]
theorem Ae5(B:Nat)(x:AcV)(a:Ac)(c:Cmd)(b:Nat)(v:Value)(w:World)(h:AcAt w B x a)(hb:Cv w b v a.D)(hsep:∀k,Foot b v k->¬(AcF B x k\/x.rd k))(hk:1<=c.kind/\c.kind<=7):
  ((c.kind=5\/c.kind=6)->Calls Tryz.prog 90 #[(.pointer (some ⟨B,0,none⟩)),.agg #[.int .i64 c.kind,.int .i64 c.day,.int .i64 c.tranche,.int .i64 c.amount,.int .i64 c.ref],(.pointer (some ⟨b,0,none⟩))] w (Vj w b v (a.xD c) (a.xev c) (a.xz c)))/\
  (¬(c.kind=5\/c.kind=6)->Calls Tryz.prog 89 #[(.pointer (some ⟨B,0,none⟩)),.agg #[.int .i64 c.kind,.int .i64 c.day,.int .i64 c.tranche,.int .i64 c.amount,.int .i64 c.ref],(.pointer (some ⟨b,0,none⟩))] w (Vj w b v (a.xD c) (a.xev c) (a.xz c))):=by
 unfold Ac.xD Ac.xev Ac.xz;refine⟨λh5=> ?_,λh5=> ?_⟩
 ·rw [if_pos h5,if_pos h5,if_pos h5];exact Zz B x a c b v w h hb hsep h5
 ·rw [if_neg h5,if_neg h5,if_neg h5];exact Zy B x a c b v w h hb hsep j6
end Go.Proofs.YtjkdnaljkdnomaaGreatDoor
