/- Part 42 of what the laws of this seat share: walks of functions, and plain laws. -/
import Derived.Test.YtjkdnaljkdnomaaGreatDoorS38
import Derived.Test.YtjkdnaljkdnomaaGreatDoorS40
import Derived.Test.YtjkdnaljkdnomaaGreatDoorS41
set_option maxRecDepth 100000
set_option maxHeartbeats 3200000
namespace Go.Proofs.YtjkdnaljkdnomaaGreatDoor
open Go.RowKit
theorem at_st{B:Nat}{x:AcV}{a:Ac}{W:World}(h:AcAt W B x a){td cy sq cr du:Int}{n m q:Nat}(htd:a.today=td)(hcy:a.cyc a.today=cy)(hsq:a.seq=sq)(hcr:a.s.p.cr=cr)(hdu:a.s.p.du=du)(hn:a.s.p.bal.length=n)(hm:a.s.R.length=m)(hq:a.D.length=q):
  Calls Tryz.prog 13 #[(.pointer (some ⟨B,0,none⟩))] W (StL a W td cy sq cr du n m q):=by
 refine(Qh B x a W h).mono ?_;rintro e w' ⟨a1,c1,a2,c2,a3,c3,he,h1,h2,h3,h4,h5⟩;rw [hn] at h1;rw [hm] at h2;rw [hq] at h3;rw [hcy,htd,hsq,hcr,hdu,hn,hm,hq] at he;rw [hn,hm,hq] at h5;exact⟨a1,c1,a2,c2,a3,c3,he,h1,h2,h3,h4,h5⟩
theorem Zo(w:World)(v:Value)(n:Nat)(xs:List Value)(hr:Reads w 9 v n xs)(h1:∀u∈xs,u.oneCell'=true)(hn:n<=1000000000000):
  Calls Tryz.prog 67 #[v] w λe w'=>∃v',e= .returned v'/\w'.ownsRow 0 59 9 v' n xs/\K0 w w'/\(∀k,v'.ownBlock=some k->w.heap.size<=k):=by
 obtain⟨i0,hi,hz0,hz1,hz2⟩:=info_parts Nb;have hr':=hr;obtain⟨ad,c,rfl,hnc,hl,hnone,hcells⟩:=hr';clear hcells;have heq:=fun(wx:World) (ad:Option Addr) (l c:Nat)=>Lib.run_eql_slice_nil (P:=Tryz.prog) wx 101 _ ad l c 0 0 Tryz.underlying101;rcases ad with _|a
 ·obtain rfl:=hnone rfl;obtain rfl:n=0:=by omega
  obtain rfl:xs= []:=List.eq_nil_of_length_eq_zero jL;clear hr;go_enter Tryz.func67,Tryz.ntmps67;exact jW
 ·have Hr:=Lib.hid hr;clear hr;clear hl hnone;have H1:=Lib.hid h1;clear h1;go_enter Tryz.func67,Tryz.ntmps67
  go_wp2_with (at_builtin;refine Am rfl (.tmp 5) (.tmp 6) 101 rfl 0 59 i0 _ 9 88 Tryz.underlying101 hi hz0 hz1 hz2 rfl j7 _ 0 [] rfl (World.ownsRow_lit w #[] 0 j6 jd rfl) _ n xs rfl (Hr.o.keeps (Keeps.alloc (S:=λ_=>False) _ _) (by simp)) H1.o jd j6 j6 ?_)
  intro v' w1 hown1 hk1 hfr
  have hend:w1.ownsRow 0 59 9 v' n xs/\K0 w w1/\(∀k,v'.ownBlock=some k->w.heap.size<=k):=by
   exact jX
  exact jY
theorem Xa:(Tryz.prog.info? 104).map (·.size)=some 18:=by kernel_rfl
theorem AcAt.forked{w W:World}{B F bl bb:Nat}{x:AcV}{a:Ac}{vl vb vi va:Value}(h:AcAt w B x a)(hk:K0 w W)(hblk:W.heap[F]?=some (.cells (AcV.blk { x with bl:=bl,vl:=vl,bb:=bb,vb:=vb,vi:=vi,va:=va } a) 104 (0,0)))
  (hdl:DL W bl a.t x.vtl a.L vl) (hbk:Cv W bb vb a.D) (hiss:W.ownsRow 0 59 9 vi x.I.length (x.I.flatMap SV.cells)) (hadj:W.ownsRow 0 142 9 va a.adj.length (a.adj.flatMap Adj.cells)) (hF:w.heap.size<=F) (hvi:∀b,vi.ownBlock=some b->w.heap.size<=b) (hva:∀b,va.ownBlock=some b->w.heap.size<=b)
  (hbl:w.heap.size<=bl) (hvl:∀b,vl.ownBlock=some b->w.heap.size<=b) (hbb:∀b,Foot bb vb b->w.heap.size<=b):
  ∃x',AcAt W F x' a/\(∀b,AcF F x' b->w.heap.size<=b)/\(∀b,x'.rd b->x.rd b\/w.heap.size<=b):=by
 have hlt:∀b,x.rd b->b<w.heap.size:=λb hb=>h.lt b (.inr hb)
 have hne:∀{b:Nat} {D:Array Value} {s:TypeId} {fz:Nat×Nat},W.heap[b]?=some (.cells D s fz)->s≠104->s≠59->s≠142->¬AcF F { x with bl:=bl,vl:=vl,bb:=bb,vb:=vb,vi:=vi,va:=va } b:=by
  rintro b D s fz hb h1 h2 h3 (rfl|e|e)
  ·rw [hblk] at hb;injection hb with hb;injection hb with _ he _;exact h1 he.symm
  ·exact Ah hiss hb h2 e
  ·exact Ah hadj hb h3 e
 have hrow:∀{b size n base:Nat} {v:Value} {s:TypeId} {xs:List Value},W.ownsRow base s size v n xs->v.ownBlock=some b->s≠104->s≠59->s≠142->¬AcF F { x with bl:=bl,vl:=vl,bb:=bb,vb:=vb,vi:=vi,va:=va } b:=by
  intro b size n base v s xs hr hb h1 h2 h3;rcases hr.2 with⟨hn,_⟩|⟨g',c',cur,hn,_,hgg,_⟩
  ·rw [hn] at hb;simp [Value.ownBlock] at hb
  ·rw [hn] at hb;have e':g'=b:=Option.some.inj hb;subst e';exact hne hgg h1 h2 h3
 have hold:∀b,b<w.heap.size->¬AcF F { x with bl:=bl,vl:=vl,bb:=bb,vb:=vb,vi:=vi,va:=va } b:=by
  rintro b hb (rfl|e|e)
  ·omega
  ·have:=hvi b e;omega
  ·have:=hva b e;omega
 refine⟨{ x with bl:=bl,vl:=vl,bb:=bb,vb:=vb,vi:=vi,va:=va },⟨hblk,hk.row h.trs (by simp),hdl,hbk,hk.row h.bal (by simp),hk.row h.rts (by simp),hk.row h.now (by simp),λy hy=>hk.row (h.nln y hy) (by simp),h.ns,hiss,λy hy=>hk.row (h.iln y hy) (by simp),h.is,hadj,h.ok, ?_, ?_, ?_⟩, ?_, ?_⟩
 ·rintro b (hb|hb|hb|hb|rfl|hb|hb|(rfl|hb)|⟨y,hy,hb⟩|⟨y,hy,hb⟩)
  ·exact hold b (hlt b (.inl hb))
  ·exact hold b (hlt b (.inr (.inl hb)))
  ·exact hold b (hlt b (.inr (.inr (.inl hb))))
  ·exact hold b (hlt b (.inr (.inr (.inr (.inl hb)))))
  ·exact hne hdl.blk j7 j7 j7
  ·exact hold b (hlt b (.inr (.inr (.inr (.inr (.inr (.inl hb)))))))
  ·exact hrow hdl.row hb j7 j7 j7
  ·exact hne hbk.blk j7 j7 j7
  ·exact hrow hbk.row hb j7 j7 j7
  ·exact hold b (hlt b (.inr (.inr (.inr (.inr (.inr (.inr (.inr (.inr (.inl ⟨y,hy,hb⟩))))))))))
  ·exact hold b (hlt b (.inr (.inr (.inr (.inr (.inr (.inr (.inr (.inr (.inr ⟨y,hy,hb⟩))))))))))
 ·rintro b hb (rfl|hb2)
  ·exact Ah hiss hblk j7 hb
  ·exact Fj hiss hadj j7 hb hb2
 ·rintro b hb rfl;exact Ah hadj hblk j7 hb
 ·rintro b (rfl|hb|hb)
  ·exact hF
  ·exact hvi b hb
  ·exact hva b hb
 ·rintro b (hb|hb|hb|hb|rfl|hb|hb|hb|⟨y,hy,hb⟩|⟨y,hy,hb⟩)
  ·exact .inl (.inl hb)
  ·exact .inl (.inr (.inl hb))
  ·exact .inl (.inr (.inr (.inl hb)))
  ·exact .inl (.inr (.inr (.inr (.inl hb))))
  ·exact .inr hbl
  ·exact j26
  ·exact .inr (hvl b hb)
  ·exact .inr (hbb b hb)
  ·exact .inl (.inr (.inr (.inr (.inr (.inr (.inr (.inr (.inr (.inl ⟨y,hy,hb⟩)))))))))
  ·exact .inl (.inr (.inr (.inr (.inr (.inr (.inr (.inr (.inr (.inr ⟨y,hy,hb⟩)))))))))
def FkPost(w:World)(x:AcV)(a:Ac)(e:Ending)(w':World):Prop:=∃F x',e= .returned (.pointer (some ⟨F,0,none⟩))/\AcAt w' F x' a/\K0 w w'/\(∀b,AcF F x' b->w.heap.size<=b)/\(∀b,x'.rd b->x.rd b\/w.heap.size<=b)
theorem fk_wp{P:Program}{c:Code}{Q:Exit->Act->World->Prop}{a:Act}{w:World}(h:∀W,W=w->c.wp P Q a W):c.wp P Q a w:=h w rfl
theorem fk_letter{Q:Exit->Act->World->Prop}{a:Act}{w:World}(h:∀V,V=w->Q .normal a V):Q .normal a w:=h w rfl
def fkA(B:Nat)(x9 x10 x16 x17:Value)(w:World):Prop:=w.cell? ⟨B,9,none⟩=some x9/\w.cell? ⟨B,10,none⟩=some x10/\w.cell? ⟨B,16,none⟩=some x16/\w.cell? ⟨B,17,none⟩=some x17
theorem fkA.keep{B:Nat}{x9 x10 x16 x17:Value}{w w':World}{S:Nat->Prop}(h:fkA B x9 x10 x16 x17 w)(hk:Keeps S w w')(hS:¬S B):fkA B x9 x10 x16 x17 w':=by
 obtain⟨h1,h2,h3,h4⟩:=h;exact⟨(hk.cell (Ai h1) hS).trans h1,(hk.cell (Ai h2) hS).trans h2,(hk.cell (Ai h3) hS).trans h3,(hk.cell (Ai h4) hS).trans h4⟩
theorem one_acc(a b c d e f g h i j:Int)(v1 v2 v3 v4 v5 v6:Value)(p q:Nat)(h1:v1.oneCell'=true)(h2:v2.oneCell'=true)(h3:v3.oneCell'=true)(h4:v4.oneCell'=true)(h5:v5.oneCell'=true)(h6:v6.oneCell'=true):
  (#[.int .i64 a,v1,.int .i64 b,.int .i64 c,.int .i64 d,.int .i64 e,.int .i64 f,.int .i64 g,.int .i64 h,(.pointer (some ⟨p,0,none⟩)),(.pointer (some ⟨q,0,none⟩)),v2,.int .i64 i,.int .i64 j,v3,v4,v5,v6]:Array Value).all (·.oneCell')=true:=by
 simp only [List.all_toArray,List.all_cons,List.all_nil,h1,h2,h3,h4,h5,h6,Bool.and_true,Bool.true_and];rfl
theorem Mw{w:World}{base:Nat}{e:TypeId}{size n:Nat}{v:Value}{xs:List Value}(h:w.ownsRow base e size v n xs):v.oneCell'=true:=by obtain⟨a,c,rfl,_⟩:=Ae h;rfl
theorem Ml(B:Nat)(x:AcV)(a:Ac)(w:World)(h:AcAt w B x a)(hs:a.seq<=100000):Calls Tryz.prog 30 #[(.pointer (some ⟨B,0,none⟩))] w (FkPost w x a):=by
 have hn:=h.ok.nums;have hfk:=λW (hW:K0 w W)=>Sa x.bl a.t x.vtl x.vl a.L W (h.dl.keep hW) (by have:=hn.ll;omega);have hfb:=j4m;have hca:=λW (hW:K0 w W)=>Zp W x.va a.adj.length _ ((Reads.Bg h.adj).keeps hW (by simp)) (λu hu=>Adj.one _ u hu) (by have:=h.ok.aj;omega);have hil:x.I.length<=300:=by have:=hn.o3;have:=h.ok.il;have hx:=congrArg List.length h.is;rw [List.length_map] at hx;omega
 have hci:=λW (hW:K0 w W)=>Zo W x.vi x.I.length _ ((Reads.Bg h.iss).keeps hW (by simp)) (λu hu=>SV.one _ u hu) j6;have hb:=h.blk;have hone:(x.blk a).all (·.oneCell')=true:=one_acc _ _ _ _ _ _ _ _ _ _ _ _ _ _ _ _ _ _ (Mw h.trs) (Mw h.bal) (Mw h.rts) (Mw h.now) (Mw h.iss) (Mw h.adj);have hsz:(Tryz.prog.info? 104).map (·.size)=some (x.blk a).size:=Xa;have hA0:fkA B (.pointer (some ⟨x.bl,0,none⟩)) (.pointer (some ⟨x.bb,0,none⟩)) x.vi x.va w:=⟨Aa hb 9,Aa hb 10,Aa hb 16,Aa hb 17⟩;have hBl:=lt_of_block hb;have H:=Lib.hid h;clear h hn;obtain⟨Hfk,Hfb,Hca,Hci,Hb,Hone,Hsz,HA0⟩:=hid8 hfk hfb hca hci hb hone hsz hA0;clear hA0 hsz hone hb hci hca hfb hfk hil;go_enter Tryz.func30,Tryz.ntmps30
 go_wp2_with (first|(refine wpList_load_row rfl 104 (.tmp 7) rfl B rfl 104 (x.blk a) _ _ Hb.o Tryz.underlying104 rfl Hsz.o ?_)|(refine wpList_store_row rfl 104 (.tmp 3) (.tmp 8) rfl w.heap.size (x.blk a) rfl rfl 104 _ (heap_alloc_new w _) Xa rfl Hone.o ?_))
 refine fk_wp λW1 hW1=> ?_;have hk1:K0 w W1:=by rw [hW1];exact(Keeps.alloc w _).trans ((Cg _ _ _).mono λi _ e=> .inr j09)
 have hb1:W1.heap[w.heap.size]?=some (.cells (x.blk a) 104 (0,0)):=by rw [hW1];exact setRow_heap _ _ _ _ _ _ (heap_alloc_new w _)
 clear hW1;obtain⟨F,hF⟩:=eY w.heap.size;rw [<-hF] at hb1⊢;have nFB:¬B=F:=j8;have hFw:w.heap.size<=F:=j8;obtain⟨Hk1,Hb1⟩:=hid2 hk1 hb1;clear hb1 hk1 hF;refine Ak (fkA B (.pointer (some ⟨x.bl,0,none⟩)) (.pointer (some ⟨x.bb,0,none⟩)) x.vi x.va) (.take 0 (.take 1 (.take 2 (.take 3 (.take 5 (.take 6 (.take 7 (.take 8 (.move 4 (.move 9 (.take 10 (.move 11 (.take 12 (.move 13 .done)))))))))))))) j9 j9 ?_ ?_
 ·exact(HA0.o.keep Hk1.o (by simp)).keep (Keeps.drew (S:=λ_=>False) _) (by simp)
 intro w2 hs2 hk2;have hk02:=Hk1.o.nt hk2;have Hs2:=Lib.hid hs2;clear hs2;refine je ?_;intro K hK
 go_at_call 64
 ((with_reducible refine(Hfk.o w2 hk02).mono ?_);rintro e w3 ⟨bl,vl,rfl,hdl3,hk3,hbl,hvl⟩)
 dsimp only;have hs3:=Hs2.o.keep hk3 (by simp);refine hK.out _ _ (by exact hs3) ?_;clear hK K;refine jh ?_;have hk03:=hk02.nt hk3;refine ja ?_;intro K hK
 go_at_call 65
 ((with_reducible refine(Hfb.o w3 hk03).mono ?_);rintro e w4 ⟨bb,vb,rfl,hbk4,hk4,hbb⟩)
 dsimp only;have hs4:=hs3.keep hk4 (by simp);refine hK.out _ _ (by exact hs4) ?_;clear hK K;refine jc ?_;have hk04:=hk03.nt hk4;have hb4:=Ad Hb1.o ((hk2.nt hk3).nt hk4) (by simp);have b9:=Aa hb4 9;have b10:=Aa hb4 10;have f9:=Ab hb4 9;have f10:=Ab hb4 10;have hdl4:=hdl3.keepS hk4 (by simp) (by simp) (by simp);have hbl':w.heap.size<=bl:=Nat.le_trans hk02.size hbl;have hvl':∀b,vl.ownBlock=some b->w.heap.size<=b:=λb hb=>Nat.le_trans hk02.size (hvl b hb);have hbb':∀b,Foot bb vb b->w.heap.size<=b:=λb hb=>Nat.le_trans hk03.size (hbb b hb);have Hs4:=Lib.hid hs4;clear hs3 hs4 hk2 hk3 hk4 hbl hvl hbb hdl3 hk02 hk03;obtain⟨Hk04,Hb4,Hdl4,Hbk4,Hbl',Hvl',Hbb'⟩:=hid7 hk04 hb4 hdl4 hbk4 hbl' hvl' hbb';clear hbb' hvl' hbl' hbk4 hdl4 hb4 hk04;refine je ?_;intro K hK;refine hK.out _ _ (by exact Hs4.o.keep j4L nFB) ?_;clear hK K;refine jh ?_;refine ja ?_;intro K hK;refine hK.out _ _ (by exact(Hs4.o.keep j4L nFB).keep (Keeps.setCell (S:=λi=>i=F) _ ⟨F,10,none⟩ (.pointer (some ⟨bb,0,none⟩)) rfl) nFB) ?_;clear hK K;refine jq ?_;refine fk_letter λW5 hW5=> ?_;have hk45:Keeps (λi=>i=F) w4 W5:=by rw [hW5];exact((Keeps.refl _ _).setB _ _).setB _ _
 have hb5:=(heap_setCell_same _ _ 10 _ _ (.pointer (some ⟨bb,0,none⟩)) (heap_setCell_same _ _ 9 _ _ (.pointer (some ⟨bl,0,none⟩)) Hb4.o));rw [<-hW5] at hb5;have hk05:K0 w W5:=Hk04.o.trans (hk45.mono λi _ e=> .inr (by have e':i=F:=e;omega));have hdl5:DL W5 bl a.t x.vtl a.L vl:=Hdl4.o.keepS hk45 (λe=>by have e':bl=F:=e;have:=Hdl4.o.blk;rw [e',Hb4.o] at this;simp at this) (λb hb e=>by have e':b=F:=e;exact Ah Hdl4.o.trs Hb4.o j7 (e'▸hb)) (λb hb e=>by have e':b=F:=e;exact Ah Hdl4.o.row Hb4.o j7 (e'▸hb))
 have hbk5:Cv W5 bb vb a.D:=Hbk4.o.keeps hk45 (by
  rintro b hb e;have e':b=F:=e;rcases hb with rfl|hb
  ·have:=Hbk4.o.blk;rw [e',Hb4.o] at this;simp at this
  ·exact Ah Hbk4.o.row Hb4.o (by decide) (e'▸hb))
 have x17:=(Hs4.o.keep hk45 nFB).2.2.2;clear hW5 b9 b10 f9 f10;obtain⟨Hk45,Hb5,Hk05,Hdl5,Hbk5⟩:=hid5 hk45 hb5 hk05 hdl5 hbk5;clear hbk5 hdl5 hk05 hb5 hk45;go_wp2_with fail;refine(Hca.o W5 Hk05.o).mono ?_;rintro e w6 ⟨va,rfl,hra6,hk6,hva⟩;have hb6:=Ad Hb5.o hk6 (by simp);have b17:=Aa hb6 17;have f17:=Ab hb6 17;have hva':∀b,va.ownBlock=some b->w.heap.size<=b:=λb hb=>Nat.le_trans Hk05.o.size (hva b hb);obtain⟨aa,ca,rfl,_,_⟩:=Ae hra6;clear x17 hva;obtain⟨Hra6,Hk6,Hb6,Hva'⟩:=hid4 hra6 hk6 hb6 hva';clear hva' hb6 hk6 hra6
 go_upto_region 6 with fail
 refine fk_wp λW7 hW7=> ?_;have hk67:Keeps (λi=>i=F) w6 W7:=by rw [hW7];exact(Keeps.refl _ _).setB _ _
 have hb7:=heap_setCell_same _ _ 17 _ _ (.slice aa a.adj.length ca) Hb6.o;rw [<-hW7] at hb7;have hk07:K0 w W7:=(Hk05.o.nt Hk6.o).trans (hk67.mono λi _ e=> .inr (by have e':i=F:=e;omega));have hra7:=hk67.row Hra6.o λb hb e=>by have e':b=F:=e;exact Ah Hra6.o Hb6.o j7 (e'▸hb)
 have hdl6:=Hdl5.o.keepS Hk6.o (by simp) (by simp) (by simp);have hdl7:DL W7 bl a.t x.vtl a.L vl:=hdl6.keepS hk67 (λe=>by have e':bl=F:=e;have:=hdl6.blk;rw [e',Hb6.o] at this;simp at this) (λb hb e=>by have e':b=F:=e;exact Ah hdl6.trs Hb6.o j7 (e'▸hb)) (λb hb e=>by have e':b=F:=e;exact Ah hdl6.row Hb6.o j7 (e'▸hb));have hbk6:=Hbk5.o.keeps Hk6.o (by simp)
 have hbk7:Cv W7 bb vb a.D:=hbk6.keeps hk67 (by
  rintro b hb e;have e':b=F:=e;rcases hb with rfl|hb
  ·have:=hbk6.blk;rw [e',Hb6.o] at this;simp at this
  ·exact Ah hbk6.row Hb6.o (by decide) (e'▸hb))
 have x16:=((((Hs4.o.keep Hk45.o nFB).keep Hk6.o (by simp)).keep hk67 nFB)).2.2.1;clear hW7 b17 f17 hdl6 hbk6;clear hk67;obtain⟨Hb7,Hk07,Hra7,Hdl7,Hbk7⟩:=hid5 hb7 hk07 hra7 hdl7 hbk7;clear hbk7 hdl7 hra7 hk07 hb7;go_wp2_with fail;refine(Hci.o W7 Hk07.o).mono ?_;rintro e w8 ⟨vi,rfl,hri8,hk8,hvi⟩;have hb8:=Ad Hb7.o hk8 (by simp);have b16:=Aa hb8 16;have f16:=Ab hb8 16;have hvi':∀b,vi.ownBlock=some b->w.heap.size<=b:=λb hb=>Nat.le_trans Hk07.o.size (hvi b hb);obtain⟨ai,ci,rfl,_,_⟩:=Ae hri8;clear x16 hvi;obtain⟨Hri8,Hk8,Hb8,Hvi'⟩:=hid4 hri8 hk8 hb8 hvi';clear hvi' hb8 hk8 hri8
 go_upto_region 7 with fail
 refine fk_wp λW9 hW9=> ?_;have hk89:Keeps (λi=>i=F) w8 W9:=by rw [hW9];exact(Keeps.refl _ _).setB _ _
 have hb9:=heap_setCell_same _ _ 16 _ _ (.slice ai x.I.length ci) Hb8.o;rw [<-hW9] at hb9;have hk09:K0 w W9:=(Hk07.o.nt Hk8.o).trans (hk89.mono λi _ e=> .inr (by have e':i=F:=e;omega));have hri9:=hk89.row Hri8.o λb hb e=>by have e':b=F:=e;exact Ah Hri8.o Hb8.o j7 (e'▸hb)
 have hra8:=Hk8.o.row Hra7.o (by simp);have hra9:=hk89.row hra8 λb hb e=>by have e':b=F:=e;exact Ah hra8 Hb8.o j7 (e'▸hb)
 have hdl8:=Hdl7.o.keepS Hk8.o (by simp) (by simp) (by simp);have hdl9:DL W9 bl a.t x.vtl a.L vl:=hdl8.keepS hk89 (λe=>by have e':bl=F:=e;have:=hdl8.blk;rw [e',Hb8.o] at this;simp at this) (λb hb e=>by have e':b=F:=e;exact Ah hdl8.trs Hb8.o j7 (e'▸hb)) (λb hb e=>by have e':b=F:=e;exact Ah hdl8.row Hb8.o j7 (e'▸hb));have hbk8:=Hbk7.o.keeps Hk8.o (by simp)
 have hbk9:Cv W9 bb vb a.D:=hbk8.keeps hk89 (by
  rintro b hb e;have e':b=F:=e;rcases hb with rfl|hb
  ·have:=hbk8.blk;rw [e',Hb8.o] at this;simp at this
  ·exact Ah hbk8.row Hb8.o (by decide) (e'▸hb))
 obtain⟨x',r1,r2,r3⟩:=AcAt.forked (bl:=bl) (bb:=bb) (vl:=vl) (vb:=vb) (vi:= .slice ai x.I.length ci) (va:= .slice aa a.adj.length ca) H.o hk09 (hb9.trans rfl) hdl9 hbk9 hri9 hra9 j6 Hvi'.o Hva'.o Hbl'.o Hvl'.o Hbb'.o;clear hW9 b16 f16;clear hk89 hb9;have Hk09:=Lib.hid hk09;clear hk09 hri9 hra8 hra9 hdl8 hdl9 hbk8 hbk9;obtain⟨R1,R2,R3⟩:=hid3 r1 r2 r3;clear r3 r2 r1;go_wp2;go_ret;exact⟨F,x',rfl,R1.o,Hk09.o,R2.o,R3.o⟩
def TyAt(W:World)(b:Nat)(t:TypeId):Prop:=∃C fz,W.heap[b]?=some (.cells C t fz)
theorem TyAt.eq{W:World}{b:Nat}{t t':TypeId}(h:TyAt W b t)(h':TyAt W b t'):t=t':=by
 obtain⟨C,fz,h⟩:=h;obtain⟨C',fz',h'⟩:=h';rw [h] at h';injection h' with h';injection h' with _ he _
theorem TyAt.row{W:World}{base size n:Nat}{e:TypeId}{v:Value}{xs:List Value}(h:W.ownsRow base e size v n xs){g:Nat}(hg:v.ownBlock=some g):TyAt W g e:=by
 rcases h.2 with⟨hn,_⟩|⟨g',c',cur,hn,_,hgg,_⟩
 ·rw [hn] at hg;simp [Value.ownBlock] at hg
 ·rw [hn] at hg;have e':g'=g:=Option.some.inj hg;rw [<-e'];exact⟨_,_,hgg⟩
def accT:List TypeId:= [104,59,142,39,2,172,186,150,148,212]
theorem AcAt.ty{W:World}{B:Nat}{x:AcV}{a:Ac}(h:AcAt W B x a){b:Nat}(hb:AcF B x b\/x.rd b){t:TypeId}(ht:TyAt W b t):t∈accT:=by
 obtain⟨C,fz,ht⟩:=ht;by_cases hm:t∈accT
 ·exact hm
 ·exact absurd rfl (h.otherT ht (λs hs e=>hm (by rw [e];exact hs)) b hb)
structure SvV where
 S:Nat
 P:Nat
 J:Nat
 B:Nat
 v:Value
 vl:Value
 x:AcV
structure SvAt(W:World)(q:SvV)(p:Pd)(fl:Int)(u nr:Nat)(RL:List Value)(a:Ac):Prop where
 blk:W.heap[q.S]?=some (.cells #[(.pointer (some ⟨q.P,0,none⟩)),(.pointer (some ⟨q.J,0,none⟩)),(.pointer (some ⟨q.B,0,none⟩))] 83 (0,0))
 pad:PadAt W q.P q.v p
 jrn:JrnAt W q.J q.P fl q.vl u
 row:W.ownsRow 0 22 1 q.vl nr RL
 acc:AcAt W q.B q.x a
def JF(q:SvV)(k:Nat):Prop:=k=q.J\/PFoot q.P q.v k\/q.vl.ownBlock=some k
def SvF(q:SvV)(k:Nat):Prop:=k=q.S\/JF q k\/AcF q.B q.x k
section
variable {W W':World} {q:SvV} {p:Pd} {fl:Int} {u nr:Nat} {RL:List Value} {a:Ac}
theorem SvAt.tyJ(h:SvAt W q p fl u nr RL a){k:Nat}(hk:JF q k):∃t∈ [115,96,165,22],TyAt W k t:=by
 rcases hk with rfl|(rfl|hk)|hk
 ·exact⟨115,by decide,_,_,h.jrn.blk⟩
 ·exact⟨96,by decide,_,_,h.pad.blk⟩
 ·exact⟨165,by decide,.row h.pad.row hk⟩
 ·exact⟨22,by decide,.row h.row hk⟩
theorem SvAt.tyS(h:SvAt W q p fl u nr RL a):TyAt W q.S 83:=⟨_,_,h.blk⟩
theorem SvAt.jS(h:SvAt W q p fl u nr RL a):¬JF q q.S:=λe=>by
 obtain⟨t,ht,hy⟩:=h.tyJ e;have:=hy.eq h.tyS;subst this;exact absurd ht j7
theorem SvAt.jA(h:SvAt W q p fl u nr RL a){b:Nat}(hb:AcF q.B q.x b\/q.x.rd b):¬JF q b:=λe=>by
 obtain⟨t,ht,hy⟩:=h.tyJ e;have hm:=h.acc.ty hb hy;simp only [List.mem_cons,List.not_mem_nil,or_false] at ht;rcases ht with rfl|rfl|rfl|rfl<;>exact absurd hm j7
theorem SvAt.sA(h:SvAt W q p fl u nr RL a){b:Nat}(hb:AcF q.B q.x b\/q.x.rd b):¬b=q.S:=λe=>by
 subst e;exact absurd (h.acc.ty hb h.tyS) j7
theorem SvAt.lt(h:SvAt W q p fl u nr RL a){b:Nat}(hb:SvF q b\/q.x.rd b):b<W.heap.size:=by
 rcases hb with(rfl|(rfl|(rfl|hb)|hb)|hb)|hb
 ·exact lt_of_block h.blk
 ·exact lt_of_block h.jrn.blk
 ·exact lt_of_block h.pad.blk
 ·exact Ch h.pad.row hb
 ·exact Ch h.row hb
 ·exact h.acc.lt b (.inl hb)
 ·exact h.acc.lt b (.inr hb)
theorem SvAt.keeps{K:Nat->Prop}(h:SvAt W q p fl u nr RL a)(hk:Keeps K W W')(hK:∀b,SvF q b\/q.x.rd b->¬K b):SvAt W' q p fl u nr RL a:=
 ⟨Ad h.blk hk (hK _ (.inl (.inl rfl))),h.pad.keeps hk λk e=>hK k (.inl (.inr (.inl (.inr (.inl e))))),⟨Ad h.jrn.blk hk (hK _ (.inl (.inr (.inl (.inl rfl)))))⟩,hk.row h.row λk e=>hK k (.inl (.inr (.inl (.inr (.inr e))))),h.acc.keeps hk λb e=>hK b (e.elim (λe=> .inl (.inr (.inr e))) .inr)⟩
theorem SvAt.keep0(h:SvAt W q p fl u nr RL a)(hk:K0 W W'):SvAt W' q p fl u nr RL a:=h.keeps hk (by simp)
theorem SvAt.post(h:SvAt W q p fl u nr RL a){a':Ac}(hp:Ca W q.B q.x a' W'):∃x',SvAt W' { q with x:=x' } p fl u nr RL a'/\Keeps (AcF q.B q.x) W W'/\(∀b,AcF q.B x' b->AcF q.B q.x b\/W.heap.size<=b)/\(∀b,x'.rd b->q.x.rd b\/W.heap.size<=b):=by
 obtain⟨x',h1,h2,h3,h4⟩:=hp;exact⟨x',⟨Ad h.blk h2 λe=>h.sA (.inl e) rfl,h.pad.keeps h2 λk e f=>h.jA (.inl f) (.inr (.inl e)),⟨Ad h.jrn.blk h2 λf=>h.jA (.inl f) (.inl rfl)⟩,h2.row h.row λk e f=>h.jA (.inl f) (.inr (.inr e)),h1⟩,h2,h3,h4⟩
end
theorem Ya(B:Nat)(x:AcV)(a:Ac)(c:Cmd)(w:World)(h:AcAt w B x a)(hs:a.seq<=100000)(hc:chB c=true):
  Calls Tryz.prog 28 #[(.pointer (some ⟨B,0,none⟩)),.agg #[.int .i64 c.kind,.int .i64 c.day,.int .i64 c.tranche,.int .i64 c.amount,.int .i64 c.ref]] w λe w'=>e= .returned (.agg #[.int .i64 (a.dz c),.int .i64 (a.dr c),.int .i64 (a.dc c),.int .i64 0,.int .i64 0,.slice none 0 0,.int .i64 0,.int .i64 0,.slice none 0 0,.slice none 0 0,.int .i64 0,.int .i64 0,.int .i64 0,.int .i64 0,.int .i64 0,.slice none 0 0,.int .i64 0,.int .i64 0,.int .i64 0,.bool false])/\Ca w B x (a.act c) w':=by
 simp only [chB,Bool.and_eq_true,decide_eq_true_eq] at hc;by_cases h8:c.kind=8
 ·have:=Ae1 B x a c w h hs h8;unfold Ac.dz Ac.dr Ac.dc Ac.act;rw [if_pos h8,if_neg j6,if_pos h8,if_pos h8];exact this
 ·have:=accDo_chg B x a c w h hs j6;unfold Ac.dz Ac.dr Ac.dc Ac.act;rw [if_neg h8,if_neg j6,if_neg j6,if_neg j6,if_pos j6,if_pos j6,if_neg h8,if_neg h8,if_pos j6];exact this
theorem Vp(q:SvV)(p:Pd)(fl:Int)(u nr:Nat)(RL:List Value)(a:Ac)(w:World)(h:SvAt w q p fl u nr RL a)(hs:a.seq<=100000):Calls Tryz.prog 12 #[(.pointer (some ⟨q.S,0,none⟩))] w (FkPost w q.x a):=by
 have c2:=Aa h.blk 2;have hfk:=Ml q.B q.x a w h.acc hs;clear h;have Hfk:=Lib.hid hfk;clear hfk;go_enter Tryz.func12,Tryz.ntmps12;go_wp2_with fail;refine Hfk.o.mono ?_;rintro e w' ⟨F,x',rfl,h1⟩;have H1:=Lib.hid h1;clear h1;go_wp2;go_ret;exact⟨F,x',rfl,H1.o⟩
theorem AnsIs.keepT{w W W':World}{z r cy:Int}{s:PSt}{p:Stm}{v:Value}(h:AnsIs w W z r cy s p v){K:Nat->Prop}(hk:Keeps K W W')(hK:∀b t,K b->TyAt W b t->t∈ [2,148,212]->False):AnsIs w W' z r cy s p v:=by
 obtain⟨a1,c1,a2,c2,a3,c3,a4,c4,hv,h1,h2,h3,h4⟩:=h;exact⟨a1,c1,a2,c2,a3,c3,a4,c4,hv,hk.row h1 λk hk e=>hK k _ e (.row h1 hk) j7,hk.row h2 λk hk e=>hK k _ e (.row h2 hk) j7,hk.row h3 λk hk e=>hK k _ e (.row h3 hk) j7,hk.row h4 λk hk e=>hK k _ e (.row h4 hk) j7⟩
theorem AnsIs.keep0{w W W':World}{z r cy:Int}{s:PSt}{p:Stm}{v:Value}(h:AnsIs w W z r cy s p v)(hk:K0 W W'):AnsIs w W' z r cy s p v:=h.keepT hk (λ_ _ e=>e.elim)
theorem accDo_ask(B:Nat)(x:AcV)(a:Ac)(c:Cmd)(w:World)(h:AcAt w B x a)(hc:chB c=false):
  Calls Tryz.prog 28 #[(.pointer (some ⟨B,0,none⟩)),.agg #[.int .i64 c.kind,.int .i64 c.day,.int .i64 c.tranche,.int .i64 c.amount,.int .i64 c.ref]] w λe w'=>∃v,e= .returned v/\AnsIs w w' (a.dz c) (a.dr c) (a.dc c) (a.ds c) (a.dp c) v/\Ca w B x a w':=by
 have hcc:¬(1<=c.kind/\c.kind<=8):=λe=>by simp [chB] at hc;omega
 have h8:¬c.kind=8:=j8;have h17:¬(1<=c.kind/\c.kind<=7):=j8;unfold Ac.dz Ac.dr Ac.dc Ac.ds Ac.dp;simp only [if_neg h8,if_neg h17];by_cases h9:c.kind=9
 ·have h10:¬c.kind=10:=j8;have h11:¬c.kind=11:=j8;simp only [if_pos h9,if_neg h10,if_neg h11];exact Ae2 B x a c w h h9
 simp only [if_neg h9];by_cases h10:c.kind=10
 ·simp only [if_pos h10];exact Ae3 B x a c w h h10
 simp only [if_neg h10];by_cases h11:c.kind=11
 ·simp only [if_pos h11];exact Wm B x a c w h h11
 simp only [if_neg h11];refine(Ae4 B x a c w h j6).mono ?_;rintro e w' ⟨he,hp⟩;exact⟨_,he,AnsIs.mk0 _ _ _ _ _,hp⟩
def Newer(w:World)(q q':SvV):Prop:=q'.S=q.S/\q'.P=q.P/\q'.v=q.v/\(∀b,SvF q' b->SvF q b\/w.heap.size<=b)/\(∀b,q'.x.rd b->q.x.rd b\/w.heap.size<=b)
theorem Newer.refl(w:World)(q:SvV):Newer w q q:=⟨rfl,rfl,rfl,λ_ h=> .inl h,λ_ h=> .inl h⟩
theorem Newer.up{w W:World}{q q':SvV}(h:Newer W q q')(hk:w.heap.size<=W.heap.size):Newer w q q':=⟨h.1,h.2.1,h.2.2.1,λb hb=>(h.2.2.2.1 b hb).imp id λe=>by omega,λb hb=>(h.2.2.2.2 b hb).imp id λe=>by omega⟩
def SvAsk(w:World)(q:SvV)(p:Pd)(fl:Int)(u nr:Nat)(RL:List Value)(a:Ac)(c:Cmd)(e:Ending)(w':World):Prop:=∃v,e= .returned v/\AnsIs w w' (a.dz c) (a.dr c) (a.dc c) (a.ds c) (a.dp c) v/\∃q',SvAt w' q' p fl u nr RL a/\Newer w q q'/\Keeps (SvF q) w w'
def sv6(S B m:Nat)(k d t am r:Int)(w:World):Prop:=(w.cell? ⟨S,2,none⟩=some (.pointer (some ⟨B,0,none⟩))/\S<w.heap.size)/\w.heap[m]?=some (.cells #[.int .i64 k,.int .i64 d,.int .i64 t,.int .i64 am,.int .i64 r] 33 (0,0))
theorem sv6.keep{S B m:Nat}{k d t am r:Int}{w w':World}{K:Nat->Prop}(h:sv6 S B m k d t am r w)(hk:Keeps K w w')(h1:¬K S)(h2:¬K m):sv6 S B m k d t am r w':=⟨⟨(hk.cell h.1.2 h1).trans h.1.1,Nat.lt_of_lt_of_le h.1.2 hk.size⟩,Ad h.2 hk h2⟩
theorem Lh{P:Program}{c:Code}{Q:Exit->Act->World->Prop}{a:Act}{w:World}(h:∀W,W=w->c.wp P Q a W):c.wp P Q a w:=h w rfl
theorem sv_letter{Q:Exit->Act->World->Prop}{a:Act}{w:World}(h:∀V,V=w->Q .normal a V):Q .normal a w:=h w rfl
theorem svDo_ask(q:SvV)(p:Pd)(fl:Int)(u nr:Nat)(RL:List Value)(a:Ac)(c:Cmd)(w:World)(h:SvAt w q p fl u nr RL a)(hc:chB c=false):
  Calls Tryz.prog 11 #[(.pointer (some ⟨q.S,0,none⟩)),.agg #[.int .i64 c.kind,.int .i64 c.day,.int .i64 c.tranche,.int .i64 c.amount,.int .i64 c.ref]] w (SvAsk w q p fl u nr RL a c):=by
 have hcc:=λW=>Et c W;rw [hc] at hcc;have hask:=fun(W:World) (hW:K0 w W)=>accDo_ask q.B q.x a c W (h.keep0 hW).acc hc;have hsl:=lt_of_block h.blk;unfold SvAsk;refine j2h ?_;intro z1 hz1 z2 hz2 z3 hz3;obtain⟨ds,hds⟩:=eX (a.ds c);obtain⟨dp,hdp⟩:=eX (a.dp c);rw [hz1,hz2,hz3,hds,hdp] at hask⊢;obtain⟨ki,da,tr,am,re⟩:=c;simp only at hcc hask⊢;clear hz1 hz2 hz3 hds hdp hc;obtain⟨H,Hcc,Hask⟩:=hid3 h hcc hask;clear hask hcc h;go_enter Tryz.func11,Tryz.ntmps11;go_wp2_with fail;refine Ay 0 rfl ?_
 go_upto_region 5 with fail
 refine Lh λW0 hW0=> ?_;have hkx:K0 w W0:=by rw [hW0];(repeat (first|exact Keeps.refl _ _|exact Keeps.alloc _ _|exact Keeps.drew _|exact Keeps.drewN _ _|refine Keeps.Ao ?_|refine Keeps.Al ?_|refine Keeps.Af ?_))
 have hC0:W0.heap[w.heap.size]?=some (.cells #[.int .i64 ki,.int .i64 da,.int .i64 tr,.int .i64 am,.int .i64 re] 33 (0,0)):=by rw [hW0];exact Ap (Ap (heap_alloc_new w _) _) _
 have hR0:W0.heap[w.heap.size+1]?=some (.cells #[.int .i64 0,.int .i64 0,.int .i64 0,.int .i64 0,.int .i64 0,.slice none 0 0,.int .i64 0,.int .i64 0,.slice none 0 0,.slice none 0 0,.int .i64 0,.int .i64 0,.int .i64 0,.int .i64 0,.int .i64 0,.slice none 0 0,.int .i64 0,.int .i64 0,.int .i64 0,.bool false] 61 (0,0)):=by rw [hW0];exact Ap (Aw _ _ (by simp)) _
 clear hW0;have c0:=Aa hC0 0;have c1:=Aa hC0 1;have c2:=Aa hC0 2;have c3:=Aa hC0 3;have c4:=Aa hC0 4;obtain⟨Hkx,HC0,HR0⟩:=hid3 hkx hC0 hR0;clear hR0 hC0 hkx;go_wp2_with fail;refine(Hcc.o W0).mono ?_;rintro e w1 ⟨rfl,hk1⟩;have hkw1:=Hkx.o.nt hk1;have hC1:=Ad HC0.o hk1 (by simp);have hR1:=Ad HR0.o hk1 (by simp);have hS1:sv6 q.S q.B w.heap.size ki da tr am re w1:=⟨⟨Aa (H.o.keep0 hkw1).blk 2,Nat.lt_of_lt_of_le hsl hkw1.size⟩,hC1⟩;clear c0 c1 c2 c3 c4 hk1 hC1;obtain⟨Hkw1,HR1,HS1⟩:=hid3 hkw1 hR1 hS1;clear hS1 hR1 hkw1
 go_upto_region 6 with fail
 refine Ak (sv6 q.S q.B w.heap.size ki da tr am re) (.take 0 (.take 1 (.take 2 (.take 3 (.take 4 (.move 5 (.move 6 .done))))))) j9 j9 ?_ ?_
 ·exact HS1.o.keep (Keeps.drew (S:=λ_=>False) _) (by simp) (by simp)
 intro w2 hs2 hk2;have Hs2:=Lib.hid hs2;clear hs2;refine j4M ?_;refine jR ?_;have hkw2:=Hkw1.o.nt hk2;have hAt2:=H.o.keep0 hkw2;refine ja ?_;intro K hK
 go_at_call 28
 ((with_reducible refine(Hask.o w2 hkw2).mono ?_);rintro e w3 ⟨v,rfl,ha3,hp3⟩)
 obtain⟨x',hSv3,hk3,hf3,hr3⟩:=hAt2.post hp3;have hR3:w3.heap[w.heap.size+1]?=some (.cells #[.int .i64 0,.int .i64 0,.int .i64 0,.int .i64 0,.int .i64 0,.slice none 0 0,.int .i64 0,.int .i64 0,.slice none 0 0,.slice none 0 0,.int .i64 0,.int .i64 0,.int .i64 0,.int .i64 0,.int .i64 0,.slice none 0 0,.int .i64 0,.int .i64 0,.int .i64 0,.bool false] 61 (0,0)):=Ad (Ad HR1.o hk2 (by simp)) hk3 λe=>by have:=H.o.lt (.inl (.inr (.inr e)));omega
 have hs3:=Hs2.o.keep hk3 (λe=>hAt2.sA (.inl e) rfl) (λe=>by have:=H.o.lt (.inl (.inr (.inr e)));omega);have ha3':=ha3;obtain⟨s0,s1,s3,s4,s7,p0,p1,p2,p3,p5,p6,p7,q1,n1,e1,q2,n2,e2,q3,n3,e3,q4,n4,e4,gr,hv⟩:=ha3.letters;subst hv;dsimp only;refine hK.out _ _ (by exact hs3) ?_;clear hK K;refine jh ?_;refine Ag rfl (λK hK=> ?_);rw [if_pos (by rfl)];refine wp_store_row 61 (.tmp 4) (.tmp 18) rfl (w.heap.size+1) _ rfl rfl 61 _ hR3 Au rfl (Ab7 z1 z2 z3 s0 s1 s3 s4 s7 p0 p1 p2 p3 p5 p6 p7 q1 q2 q3 q4 n1 e1 n2 e2 n3 e3 n4 e4 gr) ?_;have hs4:=hs3.keep (Cg w3 (w.heap.size+1) #[.int .i64 z1,.int .i64 z2,.int .i64 z3,.int .i64 s0,.int .i64 s1,.slice q1 n1 e1,.int .i64 s3,.int .i64 s4,.slice q2 n2 e2,.slice q3 n3 e3,.int .i64 s7,.int .i64 p0,.int .i64 p1,.int .i64 p2,.int .i64 p3,.slice q4 n4 e4,.int .i64 p5,.int .i64 p6,.int .i64 p7,.bool gr]) j6 j6;refine hK.out _ _ (by exact hs4) ?_;clear hK K;refine jq ?_;have hput:=setRow_heap w3 (w.heap.size+1) _ #[.int .i64 z1,.int .i64 z2,.int .i64 z3,.int .i64 s0,.int .i64 s1,.slice q1 n1 e1,.int .i64 s3,.int .i64 s4,.slice q2 n2 e2,.slice q3 n3 e3,.int .i64 s7,.int .i64 p0,.int .i64 p1,.int .i64 p2,.int .i64 p3,.slice q4 n4 e4,.int .i64 p5,.int .i64 p6,.int .i64 p7,.bool gr] _ _ hR3;refine sv_letter λw4 hw4=> ?_;rw [<-hw4] at hput;have hk4:Keeps (λi=>i=w.heap.size+1) w3 w4:=by rw [hw4];exact Cg _ _ _
 have hkf:Keeps (SvF q) w w4:=(hkw2.mono (by simp)).trans ((hk3.mono λi _ e=> .inl (.inr (.inr e))).trans (hk4.mono λi _ e=> .inl (.inr j6)));have hs2:=hkw2.size
 have hSv4:SvAt w4 { q with x:=x' } p fl u nr RL a:=hSv3.keeps hk4 λb hb e=>by
  have e':b=w.heap.size+1:=e;have hy:TyAt w3 b 61:=⟨_,_,e'▸hR3⟩;rcases hb with(rfl|hb|hb)|hb
  ·exact absurd (hy.eq hSv3.tyS) j7
  ·obtain⟨t,ht,hy'⟩:=hSv3.tyJ hb;have:=hy.eq hy';subst this;exact absurd ht j7
  ·exact absurd (hSv3.acc.ty (.inl hb) hy) j7
  ·exact absurd (hSv3.acc.ty (.inr hb) hy) j7
 have ha4:=ha3'.keepT hk4 λb t e hy ht=>by
  have e':b=w.heap.size+1:=e;have hy2:TyAt w3 b 61:=⟨_,_,e'▸hR3⟩;have:=hy.eq hy2;subst this;exact absurd ht j7
 have hnew:Newer w q { q with x:=x' }:=⟨rfl,rfl,rfl,λb hb=>by
  rcases hb with hb|hb|hb
  ·exact .inl (.inl hb)
  ·exact .inl (.inr (.inl hb))
  ·exact(hf3 b hb).elim (λe=> .inl (.inr (.inr e))) λe=> .inr (by omega),λb hb=>(hr3 b hb).imp id λe=>by omega⟩
 clear hw4 hs3 hs4 hk2 ha3 ha3' hp3 hAt2 hkw2 hk3 hf3 hr3 hs2 Hs2;obtain⟨Hput,Hkf,HSv4,Ha4,Hnew⟩:=hid5 hput hkf hSv4 ha4 hnew;clear hnew ha4 hSv4 hkf hput hR3 hSv3 hk4;go_wp2;refine Bo ?_;exact bodyPost_ret (results_cell_row rfl _ _ (w.heap.size+1) 61 #[.int .i64 z1,.int .i64 z2,.int .i64 z3,.int .i64 s0,.int .i64 s1,.slice q1 n1 e1,.int .i64 s3,.int .i64 s4,.slice q2 n2 e2,.slice q3 n3 e3,.int .i64 s7,.int .i64 p0,.int .i64 p1,.int .i64 p2,.int .i64 p3,.slice q4 n4 e4,.int .i64 p5,.int .i64 p6,.int .i64 p7,.bool gr] _ _ rfl Hput.o Tryz.underlying61 rfl Au) rfl ⟨_,rfl,Ha4.o,_,HSv4.o,Hnew.o,Hkf.o⟩
def SvChg(w:World)(q:SvV)(p':Pd)(fl:Int)(u' nr':Nat)(a':Ac)(z r y:Int)(e:Ending)(w':World):Prop:=e= .returned (.agg #[.int .i64 z,.int .i64 r,.int .i64 y,.int .i64 0,.int .i64 0,.slice none 0 0,.int .i64 0,.int .i64 0,.slice none 0 0,.slice none 0 0,.int .i64 0,.int .i64 0,.int .i64 0,.int .i64 0,.int .i64 0,.slice none 0 0,.int .i64 0,.int .i64 0,.int .i64 0,.bool false])/\∃q' R',SvAt w' q' p' fl u' nr' R' a'/\Newer w q q'/\Keeps (SvF q) w w'
theorem SvChg.same{w w':World}{q:SvV}{p:Pd}{fl:Int}{u nr:Nat}{RL:List Value}{a:Ac}{z r y:Int}(h:SvAt w q p fl u nr RL a)(hk:K0 w w'):SvChg w q p fl u nr a z r y (.returned (.agg #[.int .i64 z,.int .i64 r,.int .i64 y,.int .i64 0,.int .i64 0,.slice none 0 0,.int .i64 0,.int .i64 0,.slice none 0 0,.slice none 0 0,.int .i64 0,.int .i64 0,.int .i64 0,.int .i64 0,.int .i64 0,.slice none 0 0,.int .i64 0,.int .i64 0,.int .i64 0,.bool false])) w':=
 ⟨rfl,q,RL,h.keep0 hk,Newer.refl _ _,hk.mono (by simp)⟩
def AddTo(q:SvV)(fl:Int)(z:Int)(p':Pd)(u' nr':Nat)(V:World)(e:Ending)(V':World):Prop:=e= .returned (.int .i64 z)/\∃vl' R',JrnAt V' q.J q.P fl vl' (u':Nat)/\V'.ownsRow 0 22 1 vl' nr' R'/\PadAt V' q.P q.v p'/\Keeps (JF q) V V'/\(∀g,vl'.ownBlock=some g->q.vl.ownBlock=some g\/V.heap.size<=g)
theorem sv_at3(w:World)(a b c:Obj):(((w.alloc a).alloc b).alloc c).heap[w.heap.size+1+1]?=some c:=by have:=heap_alloc_new ((w.alloc a).alloc b) c;simpa using this
theorem svDo_bad(q:SvV)(p:Pd)(fl:Int)(u nr:Nat)(RL:List Value)(a:Ac)(c:Cmd)(w:World)(h:SvAt w q p fl u nr RL a)(hs:a.seq<=100000)(hc:chB c=true)(hd:p.dn=false/\p.fl=fl)(hz:¬a.dz c=0):
  Calls Tryz.prog 11 #[(.pointer (some ⟨q.S,0,none⟩)),.agg #[.int .i64 c.kind,.int .i64 c.day,.int .i64 c.tranche,.int .i64 c.amount,.int .i64 c.ref]] w (SvChg w q p fl u nr a (a.dz c) (a.dr c) (a.dc c)):=by
 have hcc:=λW=>Et c W;rw [hc] at hcc;have hup:=j4N;rw [if_neg (by simp [hd.1,hd.2])] at hup;have hfk:=λW (hW:K0 w W)=>Ml q.B q.x a W (h.keep0 hW).acc hs;refine j2h ?_;intro z1 hz1 z2 hz2 z3 hz3;rw [hz1] at hz⊢;rw [hz2,hz3];obtain⟨ki,da,tr,am,re⟩:=c;simp only at hcc⊢;obtain⟨H,Hcc,Hup⟩:=hid3 h hcc hup;clear hup hcc h hd;have Hfk:=Lib.hid hfk;clear hfk;go_enter Tryz.func11,Tryz.ntmps11;go_wp2_with fail;refine Ay 0 rfl ?_
 go_upto_region 5 with fail
 refine Lh λW0 hW0=> ?_;have hkx:K0 w W0:=by rw [hW0];(repeat (first|exact Keeps.refl _ _|exact Keeps.alloc _ _|exact Keeps.drew _|exact Keeps.drewN _ _|refine Keeps.Ao ?_|refine Keeps.Al ?_|refine Keeps.Af ?_))
 have hC0:W0.heap[w.heap.size]?=some (.cells #[.int .i64 ki,.int .i64 da,.int .i64 tr,.int .i64 am,.int .i64 re] 33 (0,0)):=by rw [hW0];exact Ap (Ap (heap_alloc_new w _) _) _
 have hR0:W0.heap[w.heap.size+1]?=some (.cells #[.int .i64 0,.int .i64 0,.int .i64 0,.int .i64 0,.int .i64 0,.slice none 0 0,.int .i64 0,.int .i64 0,.slice none 0 0,.slice none 0 0,.int .i64 0,.int .i64 0,.int .i64 0,.int .i64 0,.int .i64 0,.slice none 0 0,.int .i64 0,.int .i64 0,.int .i64 0,.bool false] 61 (0,0)):=by rw [hW0];exact Ap (Aw _ _ (by simp)) _
 have hT0:W0.heap[w.heap.size+1+1]?=some (.cells #[.int .i64 0,.int .i64 0,.int .i64 0,.int .i64 0,.int .i64 0,.slice none 0 0,.int .i64 0,.int .i64 0,.slice none 0 0,.slice none 0 0,.int .i64 0,.int .i64 0,.int .i64 0,.int .i64 0,.int .i64 0,.slice none 0 0,.int .i64 0,.int .i64 0,.int .i64 0,.bool false] 61 (0,0)):=by rw [hW0];exact sv_at3 _ _ _ _
 clear hW0;have c0:=Aa hC0 0;have c1:=Aa hC0 1;have c2:=Aa hC0 2;have c3:=Aa hC0 3;have c4:=Aa hC0 4;obtain⟨Hkx,HC0,HR0,HT0⟩:=hid4 hkx hC0 hR0 hT0;clear hT0 hR0 hC0 hkx;go_wp2_with fail;refine(Hcc.o W0).mono ?_;rintro e w1 ⟨rfl,hk1⟩;have hkw1:=Hkx.o.nt hk1;have hC1:=Ad HC0.o hk1 (by simp);have hR1:=Ad HR0.o hk1 (by simp);have hT1:=Ad HT0.o hk1 (by simp);have s1:=Aa (H.o.keep0 hkw1).blk 1;clear c0 c1 c2 c3 c4 hk1;obtain⟨Hkw1,HR1,HC1,HT1⟩:=hid4 hkw1 hR1 hC1 hT1;clear hT1 hC1 hR1 hkw1;go_wp2_with fail;refine(Hup.o w1 Hkw1.o).mono ?_;rintro e w2 ⟨rfl,hk2⟩;have hkw2:=Hkw1.o.nt hk2;have hC2:=Ad HC1.o hk2 (by simp);have hR2:=Ad HR1.o hk2 (by simp);have hT2:=Ad HT1.o hk2 (by simp);clear s1 hk2;obtain⟨Hkw2,HR2,HC2,HT2⟩:=hid4 hkw2 hR2 hC2 hT2;clear hT2 hC2 hR2 hkw2;have hS2:=H.o.keep0 Hkw2.o;have s2:=Aa hS2.blk 2;clear hS2;go_wp2_with fail;refine(Hfk.o w2 Hkw2.o).mono ?_;rintro e w3 ⟨F,x',rfl,hA3,hk3,hf3,hr3⟩;refine j4O ?_;intro hkw3 hC3 hR3 hT3 c0 c1 c2 c3 c4 hdo;rw [hz1,hz2,hz3] at hdo;have hf3':∀b,AcF F x' b->w.heap.size<=b:=λb hb=>Nat.le_trans Hkw2.o.size (hf3 b hb);have hbox:∀i,(i=w.heap.size+1\/i=w.heap.size+1+1\/i=w.heap.size)->¬AcF F x' i:=λi hi e=>by have:=hf3 i e;have:=lt_of_block HT2.o;omega
 clear s2 hk3 hf3 hr3;have Hkw3:=Lib.hid hkw3;clear hkw3 hC3;obtain⟨HR3,HT3,Hdo,Hf3'⟩:=hid4 hR3 hT3 hdo hf3';clear hf3' hdo hT3 hR3 hA3;have Hbox:=Lib.hid hbox;clear hbox;go_wp2_with fail;refine Hdo.o.mono ?_;rintro e w4 ⟨rfl,x4,hA4,hk4,hf4,hr4⟩;have hk4n:Keeps (λi=>w.heap.size<=i) w3 w4:=hk4.mono λi _ e=>Hf3'.o i e;have hkw4:K0 w w4:=Hkw3.o.trans (hk4n.mono λi _ e=> .inr e);have hR4:=Ad HR3.o hk4 (Hbox.o _ j6);have hT4:=Ad HT3.o hk4 (Hbox.o _ j6);have hput4:=setRow_heap w4 (w.heap.size+1+1) _ #[.int .i64 z1,.int .i64 z2,.int .i64 z3,.int .i64 0,.int .i64 0,.slice none 0 0,.int .i64 0,.int .i64 0,.slice none 0 0,.slice none 0 0,.int .i64 0,.int .i64 0,.int .i64 0,.int .i64 0,.int .i64 0,.slice none 0 0,.int .i64 0,.int .i64 0,.int .i64 0,.bool false] _ _ hT4;clear c0 c1 c2 c3 c4 hk4 hk4n hf4 hr4;clear hA4;obtain⟨Hkw4,HR4,HT4,Hput4⟩:=hid4 hkw4 hR4 hT4 hput4;clear hput4 hT4 hR4 hkw4
 go_upto_region 11 with(refine wpList_store_row rfl 61 (.tmp 6) (.tmp 33) rfl (w.heap.size+1+1) #[.int .i64 z1,.int .i64 z2,.int .i64 z3,.int .i64 0,.int .i64 0,.slice none 0 0,.int .i64 0,.int .i64 0,.slice none 0 0,.slice none 0 0,.int .i64 0,.int .i64 0,.int .i64 0,.int .i64 0,.int .i64 0,.slice none 0 0,.int .i64 0,.int .i64 0,.int .i64 0,.bool false] rfl rfl 61 _ HT4.o Au rfl (Da _ _ _) ?_)
 refine Lh λw5 hw5=> ?_;rw [<-hw5] at Hput4;have hput5:=Hput4.o;have hk5:Keeps (λi=>i=w.heap.size+1+1) w4 w5:=by rw [hw5];exact Cg _ _ _
 have hkw5:K0 w w5:=Hkw4.o.trans (hk5.mono λi _ e=> .inr j0e);have hR5:=Ad HR4.o hk5 (by show¬w.heap.size+1=w.heap.size+1+1;omega);have t0:=Aa hput5 0;clear hw5 Hput4;have Hput5:=Lib.hid hput5;clear hput5 hk5;obtain⟨Hkw5,HR5⟩:=hid2 hkw5 hR5;clear hR5 hkw5;have hzb:(z1 !=0)=true:=by simp [hz]
 have hput:=setRow_heap w5 (w.heap.size+1) _ #[.int .i64 z1,.int .i64 z2,.int .i64 z3,.int .i64 0,.int .i64 0,.slice none 0 0,.int .i64 0,.int .i64 0,.slice none 0 0,.slice none 0 0,.int .i64 0,.int .i64 0,.int .i64 0,.int .i64 0,.int .i64 0,.slice none 0 0,.int .i64 0,.int .i64 0,.int .i64 0,.bool false] _ _ HR5.o;have hkf:K0 w (w5.setRow (w.heap.size+1) #[.int .i64 z1,.int .i64 z2,.int .i64 z3,.int .i64 0,.int .i64 0,.slice none 0 0,.int .i64 0,.int .i64 0,.slice none 0 0,.slice none 0 0,.int .i64 0,.int .i64 0,.int .i64 0,.int .i64 0,.int .i64 0,.slice none 0 0,.int .i64 0,.int .i64 0,.int .i64 0,.bool false]):=Hkw5.o.trans ((Cg _ _ _).mono λi _ e=> .inr jo);obtain⟨Hput,Hkf⟩:=hid2 hput hkf;clear hkf hput hz
 go_wp2_with (first|(refine wpList_load_row rfl 61 (.tmp 6) rfl (w.heap.size+1+1) rfl 61 #[.int .i64 z1,.int .i64 z2,.int .i64 z3,.int .i64 0,.int .i64 0,.slice none 0 0,.int .i64 0,.int .i64 0,.slice none 0 0,.slice none 0 0,.int .i64 0,.int .i64 0,.int .i64 0,.int .i64 0,.int .i64 0,.slice none 0 0,.int .i64 0,.int .i64 0,.int .i64 0,.bool false] _ _ Hput5.o Tryz.underlying61 rfl Au ?_)|(refine wpList_store_row rfl 61 (.tmp 4) (.tmp 37) rfl (w.heap.size+1) #[.int .i64 z1,.int .i64 z2,.int .i64 z3,.int .i64 0,.int .i64 0,.slice none 0 0,.int .i64 0,.int .i64 0,.slice none 0 0,.slice none 0 0,.int .i64 0,.int .i64 0,.int .i64 0,.int .i64 0,.int .i64 0,.slice none 0 0,.int .i64 0,.int .i64 0,.int .i64 0,.bool false] rfl rfl 61 _ HR5.o Au rfl (Da _ _ _) ?_))
 refine Bo ?_;exact bodyPost_ret (results_cell_row rfl _ _ (w.heap.size+1) 61 #[.int .i64 z1,.int .i64 z2,.int .i64 z3,.int .i64 0,.int .i64 0,.slice none 0 0,.int .i64 0,.int .i64 0,.slice none 0 0,.slice none 0 0,.int .i64 0,.int .i64 0,.int .i64 0,.int .i64 0,.int .i64 0,.slice none 0 0,.int .i64 0,.int .i64 0,.int .i64 0,.bool false] _ _ rfl Hput.o Tryz.underlying61 rfl Au) rfl (SvChg.same H.o Hkf.o)
theorem SvAt.setAns{W:World}{q:SvV}{p:Pd}{fl:Int}{u nr R:Nat}{RL:List Value}{a:Ac}{C C':Array Value}(h:SvAt W q p fl u nr RL a)(hR:W.heap[R]?=some (.cells C 61 (0,0))):SvAt (W.setRow R C') q p fl u nr RL a:=
 h.keeps (Cg W R C') λb hb e=>by
  have e':b=R:=e;have hy:TyAt W b 61:=⟨_,_,e'▸hR⟩;rcases hb with(rfl|hb|hb)|hb
  ·exact absurd (hy.eq h.tyS) (by decide)
  ·obtain⟨t,ht,hy'⟩:=h.tyJ hb;have:=hy.eq hy';subst this;exact absurd ht (by decide)
  ·exact absurd (h.acc.ty (.inl hb) hy) (by decide)
  ·exact absurd (h.acc.ty (.inr hb) hy) (by decide)
theorem SvAt.add{W W':World}{q:SvV}{p p':Pd}{fl:Int}{u nr u' nr':Nat}{RL R':List Value}{a:Ac}{vl':Value}(h:SvAt W q p fl u nr RL a)(hj:JrnAt W' q.J q.P fl vl' (u':Nat))(hr:W'.ownsRow 0 22 1 vl' nr' R')(hp:PadAt W' q.P q.v p')(hk:Keeps (JF q) W W'):
  SvAt W' { q with vl:=vl' } p' fl u' nr' R' a:=⟨Ad h.blk hk h.jS,hp,hj,hr,h.acc.keeps hk λ_ hb e=>h.jA hb e⟩
theorem SvAt.swap{W:World}{q:SvV}{p:Pd}{fl:Int}{u nr F:Nat}{RL:List Value}{a a':Ac}{x':AcV}(h:SvAt W q p fl u nr RL a)(hA:AcAt W F x' a'):SvAt (W.setCell ⟨q.S,2,none⟩ (.pointer (some ⟨F,0,none⟩))) { q with B:=F,x:=x' } p fl u nr RL a':=by
 have hk:Keeps (λi=>i=q.S) W (W.setCell ⟨q.S,2,none⟩ (.pointer (some ⟨F,0,none⟩))):=Keeps.setCell _ _ _ rfl;refine⟨(heap_setCell_same _ _ 2 _ _ (.pointer (some ⟨F,0,none⟩)) h.blk).trans rfl,h.pad.keeps hk λk hf e=> ?_,⟨Ad h.jrn.blk hk λe=> ?_⟩,hk.row h.row λk hf e=> ?_,hA.keeps hk λb hb e=> ?_⟩
 ·have e':k=q.S:=e;exact h.jS (e'▸ .inr (.inl hf))
 ·exact h.jS (e▸ .inl rfl)
 ·have e':k=q.S:=e;exact h.jS (e'▸ .inr (.inr hf))
 ·have e':b=q.S:=e;exact absurd (hA.ty hb (e'▸h.tyS)) j7
theorem AcAt.addK{W W':World}{q:SvV}{p:Pd}{fl:Int}{u nr F:Nat}{RL:List Value}{a a':Ac}{x':AcV}(h:SvAt W q p fl u nr RL a)(hA:AcAt W F x' a')(hk:Keeps (JF q) W W'):AcAt W' F x' a':=
 hA.keeps hk λb hb e=>by
  obtain⟨t,ht,hy⟩:=h.tyJ e;have hm:=hA.ty hb hy;simp only [List.mem_cons,List.not_mem_nil,or_false] at ht;rcases ht with rfl|rfl|rfl|rfl<;>exact absurd hm (by decide)
theorem Pf(a b c d e:Int):(packN [a,b,c,d,e]).length=40:=by simp [packN,De]
def sv13(S J m:Nat)(k d t am r:Int)(w:World):Prop:=(w.cell? ⟨S,1,none⟩=some (.pointer (some ⟨J,0,none⟩))/\S<w.heap.size)/\w.heap[m]?=some (.cells #[.int .i64 k,.int .i64 d,.int .i64 t,.int .i64 am,.int .i64 r] 33 (0,0))
theorem sv13.keep{S J m:Nat}{k d t am r:Int}{w w':World}{K:Nat->Prop}(h:sv13 S J m k d t am r w)(hk:Keeps K w w')(h1:¬K S)(h2:¬K m):sv13 S J m k d t am r w':=⟨⟨(hk.cell h.1.2 h1).trans h.1.1,Nat.lt_of_lt_of_le h.1.2 hk.size⟩,Ad h.2 hk h2⟩
theorem svDo_add(q:SvV)(p p':Pd)(fl z:Int)(u nr u' nr':Nat)(RL:List Value)(a:Ac)(c:Cmd)(w:World)(h:SvAt w q p fl u nr RL a)(hs:a.seq<=100000)(hc:chB c=true)(hd:p.dn=false/\p.fl=fl)(hz:a.dz c=0)
  (hadd:∀V ad cap,JrnAt V q.J q.P fl q.vl u->V.ownsRow 0 22 1 q.vl nr RL->PadAt V q.P q.v p->Reads V 1 (.slice ad 40 cap) 40 ((packN c.nums).flatMap u8c)->(∀k,(Value.slice ad 40 cap).ownBlock=some k->¬PFoot q.P q.v k)->Calls Tryz.prog 24 #[(.pointer (some ⟨q.J,0,none⟩)),.slice ad 40 cap] V (AddTo q fl z p' u' nr' V)):
  Calls Tryz.prog 11 #[(.pointer (some ⟨q.S,0,none⟩)),.agg #[.int .i64 c.kind,.int .i64 c.day,.int .i64 c.tranche,.int .i64 c.amount,.int .i64 c.ref]] w (SvChg w q p' fl u' nr' (if z=0 then a.act c else a) z (if z=0 then a.dr c else 0) (if z=0 then a.dc c else 0)):=by
 have hcc:=λW=>Et c W;rw [hc] at hcc;have hup:=j4N;rw [if_neg (by simp [hd.1,hd.2])] at hup;have hfk:=λW (hW:K0 w W)=>Ml q.B q.x a W (h.keep0 hW).acc hs;have hpk:=λW=>Acm c W;refine j2h ?_;intro z1 hz1 z2 hz2 z3 hz3;rw [hz1] at hz;subst hz;rw [hz2,hz3];obtain⟨ki,da,tr,am,re⟩:=c;simp only [Cmd.nums] at hcc hadd hpk⊢;unfold Ach at hpk;obtain⟨B,hB⟩:=eX (packN [ki,da,tr,am,re]);have hBl:B.length=40:=by rw [<-hB];exact Pf _ _ _ _ _
 rw [hB] at hadd hpk;rw [hBl] at hpk;obtain⟨R,hR⟩:∃R,SvChg w q p' fl u' nr' (if z=0 then a.act ⟨ki,da,tr,am,re⟩ else a) z (if z=0 then z2 else 0) (if z=0 then z3 else 0)=R:=⟨_,rfl⟩;rw [hR];have hQ0:z=0->∀e w',SvChg w q p' fl u' nr' (a.act ⟨ki,da,tr,am,re⟩) 0 z2 z3 e w'->R e w':=λhz e w' h=>by rw [<-hR];subst hz;simp only [if_true];exact h
 have hQ1:¬z=0->∀e w',SvChg w q p' fl u' nr' a z 0 0 e w'->R e w':=λhz e w' h=>by rw [<-hR];simp only [if_neg hz];exact h
 clear hR;obtain⟨H,Hcc,Hup⟩:=hid3 h hcc hup;clear hup hcc h hd;obtain⟨Hfk,Hadd,Hpk⟩:=hid3 hfk hadd hpk;clear hpk hadd hfk hB hBl;obtain⟨HQ0,HQ1⟩:=hid2 hQ0 hQ1;clear hQ1 hQ0;go_enter Tryz.func11,Tryz.ntmps11;go_wp2_with fail;refine Ay 0 rfl ?_
 go_upto_region 5 with fail
 refine Lh λW0 hW0=> ?_;have hkx:K0 w W0:=by rw [hW0];(repeat (first|exact Keeps.refl _ _|exact Keeps.alloc _ _|exact Keeps.drew _|exact Keeps.drewN _ _|refine Keeps.Ao ?_|refine Keeps.Al ?_|refine Keeps.Af ?_))
 have hC0:W0.heap[w.heap.size]?=some (.cells #[.int .i64 ki,.int .i64 da,.int .i64 tr,.int .i64 am,.int .i64 re] 33 (0,0)):=by rw [hW0];exact Ap (Ap (heap_alloc_new w _) _) _
 have hR0:W0.heap[w.heap.size+1]?=some (.cells #[.int .i64 0,.int .i64 0,.int .i64 0,.int .i64 0,.int .i64 0,.slice none 0 0,.int .i64 0,.int .i64 0,.slice none 0 0,.slice none 0 0,.int .i64 0,.int .i64 0,.int .i64 0,.int .i64 0,.int .i64 0,.slice none 0 0,.int .i64 0,.int .i64 0,.int .i64 0,.bool false] 61 (0,0)):=by rw [hW0];exact Ap (Aw _ _ (by simp)) _
 have hT0:W0.heap[w.heap.size+1+1]?=some (.cells #[.int .i64 0,.int .i64 0,.int .i64 0,.int .i64 0,.int .i64 0,.slice none 0 0,.int .i64 0,.int .i64 0,.slice none 0 0,.slice none 0 0,.int .i64 0,.int .i64 0,.int .i64 0,.int .i64 0,.int .i64 0,.slice none 0 0,.int .i64 0,.int .i64 0,.int .i64 0,.bool false] 61 (0,0)):=by rw [hW0];exact sv_at3 _ _ _ _
 clear hW0;have c0:=Aa hC0 0;have c1:=Aa hC0 1;have c2:=Aa hC0 2;have c3:=Aa hC0 3;have c4:=Aa hC0 4;obtain⟨Hkx,HC0,HR0,HT0⟩:=hid4 hkx hC0 hR0 hT0;clear hT0 hR0 hC0 hkx;go_wp2_with fail;refine(Hcc.o W0).mono ?_;rintro e w1 ⟨rfl,hk1⟩;have hkw1:=Hkx.o.nt hk1;have hC1:=Ad HC0.o hk1 (by simp);have hR1:=Ad HR0.o hk1 (by simp);have hT1:=Ad HT0.o hk1 (by simp);have s1:=Aa (H.o.keep0 hkw1).blk 1;clear c0 c1 c2 c3 c4 hk1;obtain⟨Hkw1,HR1,HC1,HT1⟩:=hid4 hkw1 hR1 hC1 hT1;clear hT1 hC1 hR1 hkw1;go_wp2_with fail;refine(Hup.o w1 Hkw1.o).mono ?_;rintro e w2 ⟨rfl,hk2⟩;have hkw2:=Hkw1.o.nt hk2;have hC2:=Ad HC1.o hk2 (by simp);have hR2:=Ad HR1.o hk2 (by simp);have hT2:=Ad HT1.o hk2 (by simp);clear s1 hk2;obtain⟨Hkw2,HR2,HC2,HT2⟩:=hid4 hkw2 hR2 hC2 hT2;clear hT2 hC2 hR2 hkw2;have hS2:=H.o.keep0 Hkw2.o;have s2:=Aa hS2.blk 2;clear hS2;go_wp2_with fail;refine(Hfk.o w2 Hkw2.o).mono ?_;rintro e w3 ⟨F,x',rfl,hA3,hk3,hf3,hr3⟩;refine j4O ?_;intro hkw3 hC3 hR3 hT3 c0 c1 c2 c3 c4 hdo;rw [hz1,hz2,hz3] at hdo;have hf3':∀b,AcF F x' b->w.heap.size<=b:=λb hb=>Nat.le_trans Hkw2.o.size (hf3 b hb);have hr3':∀b,x'.rd b->q.x.rd b\/w.heap.size<=b:=λb hb=>(hr3 b hb).imp id λe=>Nat.le_trans Hkw2.o.size e;have hbox:∀i,(i=w.heap.size+1\/i=w.heap.size+1+1\/i=w.heap.size)->¬AcF F x' i:=λi hi e=>by have:=hf3 i e;have:=lt_of_block HT2.o;omega
 clear s2 hk3 hf3 hr3;obtain⟨Hkw3,HC3,HR3,HT3,Hdo,Hf3',Hr3'⟩:=hid7 hkw3 hC3 hR3 hT3 hdo hf3' hr3';clear hr3' hf3' hdo hT3 hR3 hC3 hkw3 hA3;have Hbox:=Lib.hid hbox;clear hbox;go_wp2_with fail;refine Hdo.o.mono ?_;rintro e w4 ⟨rfl,x4,hA4,hk4,hf4,hr4⟩;have hk4n:Keeps (λi=>w.heap.size<=i) w3 w4:=hk4.mono λi _ e=>Hf3'.o i e;have hkw4:K0 w w4:=Hkw3.o.trans (hk4n.mono λi _ e=> .inr e);have hC4:=Ad HC3.o hk4 (Hbox.o _ j6);have hR4:=Ad HR3.o hk4 (Hbox.o _ j6);have hT4:=Ad HT3.o hk4 (Hbox.o _ j6);have hf4':∀b,AcF F x4 b->w.heap.size<=b:=λb hb=>(hf4 b hb).elim (Hf3'.o b) λe=>Nat.le_trans Hkw3.o.size e;have hr4':∀b,x4.rd b->q.x.rd b\/w.heap.size<=b:=λb hb=>(hr4 b hb).elim (Hr3'.o b) λe=> .inr (Nat.le_trans Hkw3.o.size e);have hput4:=setRow_heap w4 (w.heap.size+1+1) _ #[.int .i64 0,.int .i64 z2,.int .i64 z3,.int .i64 0,.int .i64 0,.slice none 0 0,.int .i64 0,.int .i64 0,.slice none 0 0,.slice none 0 0,.int .i64 0,.int .i64 0,.int .i64 0,.int .i64 0,.int .i64 0,.slice none 0 0,.int .i64 0,.int .i64 0,.int .i64 0,.bool false] _ _ hT4;clear c0 c1 c2 c3 c4 hk4 hk4n hf4 hr4;obtain⟨HA4,Hkw4,HC4,HR4,HT4,Hf4',Hr4',Hput4⟩:=hid8 hA4 hkw4 hC4 hR4 hT4 hf4' hr4' hput4;clear hput4 hr4' hf4' hT4 hR4 hC4 hkw4 hA4
 go_upto_region 11 with(refine wpList_store_row rfl 61 (.tmp 6) (.tmp 33) rfl (w.heap.size+1+1) #[.int .i64 0,.int .i64 z2,.int .i64 z3,.int .i64 0,.int .i64 0,.slice none 0 0,.int .i64 0,.int .i64 0,.slice none 0 0,.slice none 0 0,.int .i64 0,.int .i64 0,.int .i64 0,.int .i64 0,.int .i64 0,.slice none 0 0,.int .i64 0,.int .i64 0,.int .i64 0,.bool false] rfl rfl 61 _ HT4.o Au rfl (Da _ _ _) ?_)
 refine Lh λw5 hw5=> ?_;rw [<-hw5] at Hput4;have hput5:=Hput4.o;have hk5:Keeps (λi=>i=w.heap.size+1+1) w4 w5:=by rw [hw5];exact Cg _ _ _
 have hkw5:K0 w w5:=Hkw4.o.trans (hk5.mono λi _ e=> .inr j0e);have hC5:=Ad HC4.o hk5 (by show¬w.heap.size=w.heap.size+1+1;omega);have hR5:=Ad HR4.o hk5 (by show¬w.heap.size+1=w.heap.size+1+1;omega);have hA5:=HA4.o.keeps hk5 λb hb e=>by have e':b=w.heap.size+1+1:=e;exact HA4.o.other HT4.o b hb e'
 have t0:=Aa hput5 0;clear hw5 Hput4;have Hput5:=Lib.hid hput5;clear hput5 hk5;obtain⟨Hkw5,HC5,HR5,HA5⟩:=hid4 hkw5 hC5 hR5 hA5;clear hA5 hR5 hC5 hkw5;have hAt5:=H.o.keep0 Hkw5.o;have hS5:sv13 q.S q.J w.heap.size ki da tr am re w5:=⟨⟨Aa hAt5.blk 1,lt_of_block hAt5.blk⟩,HC5.o⟩;obtain⟨HAt5,HS5⟩:=hid2 hAt5 hS5;clear hS5 hAt5
 go_upto_region 13 with fail
 clear t0;refine Ak (sv13 q.S q.J w.heap.size ki da tr am re) (.take 0 (.take 1 (.take 2 (.take 3 (.take 4 (.move 5 (.move 6 (.take 7 .done)))))))) j9 j9 ?_ ?_
 ·exact HS5.o.keep (Keeps.drew (S:=λ_=>False) _) (by simp) (by simp)
 intro w6 hs6 hk6;have Hs6:=Lib.hid hs6;clear hs6;refine j4M ?_;refine je ?_;intro K hK
 go_at_call 31
 ((with_reducible refine(Hpk.o w6).mono ?_);rintro e w7 ⟨vb,rfl,hrow7,hk7,hn7⟩)
 obtain⟨ab,cb,rfl,_,_⟩:=Ae hrow7;dsimp only;have hs7:=Hs6.o.keep hk7 (by simp) (by simp);refine hK.out _ _ (by exact hs7) ?_;clear hK K;refine jh ?_;have hk57:=hk6.nt hk7;have hAt7:=HAt5.o.keep0 hk57;have hkw7:=Hkw5.o.nt hk57
 have hsep7:∀k,(Value.slice ab 40 cb).ownBlock=some k->¬PFoot q.P q.v k:=by
  rintro k hk (rfl|e)
  ·exact Ah hrow7 hAt7.pad.blk j7 hk
  ·exact Fj hrow7 hAt7.pad.row j7 hk e
 refine ja ?_;intro K hK
 go_at_call 24
 ((with_reducible refine((Hadd.o w7 ab cb hAt7.jrn hAt7.row hAt7.pad (Reads.Bg hrow7) hsep7)).mono ?_);rintro e w8 ⟨rfl,vl',R',hj8,hr8,hp8,hk8,hv8⟩)
 dsimp only;have hs8:=hs7.keep hk8 hAt7.jS (λe=>by have:=H.o.lt (.inl (.inr (.inl e)));omega);refine hK.out _ _ (by exact hs8) ?_;clear hK K;refine jk ?_;have hR8:=Ad (Ad HR5.o hk57 (by simp)) hk8 (λe=>by have:=H.o.lt (.inl (.inr (.inl e)));omega);have hT8:=Ad (Ad Hput5.o hk57 (by simp)) hk8 (λe=>by have:=H.o.lt (.inl (.inr (.inl e)));omega);have hAt8:=hAt7.add hj8 hr8 hp8 hk8;have hA8:=AcAt.addK hAt7 (HA5.o.keep0 hk57) hk8;have hkw8:Keeps (SvF q) w w8:=(hkw7.mono (by simp)).trans (hk8.mono λi _ e=> .inl (.inr (.inl e)));have hv8':∀g,vl'.ownBlock=some g->q.vl.ownBlock=some g\/w.heap.size<=g:=λg hg=>(hv8 g hg).imp id λe=>Nat.le_trans hkw7.size e
 have hjf:∀b,JF { q with vl:=vl' } b->JF q b\/w.heap.size<=b:=by
  rintro b (e|e|e)
  ·exact .inl (.inl e)
  ·exact .inl (.inr (.inl e))
  ·exact(hv8' b e).imp (λe=> .inr (.inr e)) id
 clear hs7 hs8 hk6 hk7 hk57 hn7 hrow7 hAt7 hkw7 hj8 hr8 hp8 hk8 hv8 Hs6;by_cases hz0:z=0
 ·subst hz0;have HQ0x:=Lib.hid (HQ0.o rfl);have hblk8:=hAt8.blk;have s2:=Aa hblk8 2;have f2:=Ab hblk8 2;have hAt9:=hAt8.swap hA8;have hk9:Keeps (λi=>i=q.S) w8 (w8.setCell ⟨q.S,2,none⟩ (.pointer (some ⟨F,0,none⟩))):=Keeps.setCell _ _ _ rfl;have hsS:q.S<w.heap.size:=lt_of_block H.o.blk;have hR9:=Ad hR8 hk9 (λe=>by have e':w.heap.size+1=q.S:=e;omega);have hT9:=Ad hT8 hk9 (λe=>by have e':w.heap.size+1+1=q.S:=e;omega);obtain⟨w9,hw9⟩:=eY (w8.setCell ⟨q.S,2,none⟩ (.pointer (some ⟨F,0,none⟩)));rw [<-hw9] at hAt9 hk9 hR9 hT9;have hAt10:=hAt9.setAns (C':= #[.int .i64 0,.int .i64 z2,.int .i64 z3,.int .i64 0,.int .i64 0,.slice none 0 0,.int .i64 0,.int .i64 0,.slice none 0 0,.slice none 0 0,.int .i64 0,.int .i64 0,.int .i64 0,.int .i64 0,.int .i64 0,.slice none 0 0,.int .i64 0,.int .i64 0,.int .i64 0,.bool false]) hR9;have hput:=setRow_heap w9 (w.heap.size+1) _ #[.int .i64 0,.int .i64 z2,.int .i64 z3,.int .i64 0,.int .i64 0,.slice none 0 0,.int .i64 0,.int .i64 0,.slice none 0 0,.slice none 0 0,.int .i64 0,.int .i64 0,.int .i64 0,.int .i64 0,.int .i64 0,.slice none 0 0,.int .i64 0,.int .i64 0,.int .i64 0,.bool false] _ _ hR9;have hkf:Keeps (SvF q) w (w9.setRow (w.heap.size+1) #[.int .i64 0,.int .i64 z2,.int .i64 z3,.int .i64 0,.int .i64 0,.slice none 0 0,.int .i64 0,.int .i64 0,.slice none 0 0,.slice none 0 0,.int .i64 0,.int .i64 0,.int .i64 0,.int .i64 0,.int .i64 0,.slice none 0 0,.int .i64 0,.int .i64 0,.int .i64 0,.bool false]):=hkw8.trans ((hk9.mono λi _ e=> .inl (.inl e)).trans ((Cg _ _ _).mono λi _ e=> .inl (.inr jo)))
  have hnew:Newer w q { q with vl:=vl',B:=F,x:=x4 }:=⟨rfl,rfl,rfl,λb hb=>by
   rcases hb with hb|hb|hb
   ·exact .inl (.inl hb)
   ·exact(hjf b hb).imp (λe=> .inr (.inl e)) id
   ·exact .inr (Hf4'.o b hb),Hr4'.o⟩
  clear hblk8 hjf hv8' hkw8 hA8 hAt8 hR8 hT8;clear hAt9 hk9;obtain⟨HR9,HT9,HAt10,Hput,Hkf,Hnew⟩:=hid6 hR9 hT9 hAt10 hput hkf hnew;clear hnew hkf hput hAt10 hT9 hR9
  go_upto_region 16 with fail
  rw [<-hw9];clear hw9 s2 f2
  go_wp2_with (first|(refine wpList_load_row rfl 61 (.tmp 6) rfl (w.heap.size+1+1) rfl 61 #[.int .i64 0,.int .i64 z2,.int .i64 z3,.int .i64 0,.int .i64 0,.slice none 0 0,.int .i64 0,.int .i64 0,.slice none 0 0,.slice none 0 0,.int .i64 0,.int .i64 0,.int .i64 0,.int .i64 0,.int .i64 0,.slice none 0 0,.int .i64 0,.int .i64 0,.int .i64 0,.bool false] _ _ HT9.o Tryz.underlying61 rfl Au ?_)|(refine wpList_store_row rfl 61 (.tmp 4) (.tmp 51) rfl (w.heap.size+1) #[.int .i64 0,.int .i64 z2,.int .i64 z3,.int .i64 0,.int .i64 0,.slice none 0 0,.int .i64 0,.int .i64 0,.slice none 0 0,.slice none 0 0,.int .i64 0,.int .i64 0,.int .i64 0,.int .i64 0,.int .i64 0,.slice none 0 0,.int .i64 0,.int .i64 0,.int .i64 0,.bool false] rfl rfl 61 _ HR9.o Au rfl (Da _ _ _) ?_))
  refine Bo ?_;exact bodyPost_ret (results_cell_row rfl _ _ (w.heap.size+1) 61 #[.int .i64 0,.int .i64 z2,.int .i64 z3,.int .i64 0,.int .i64 0,.slice none 0 0,.int .i64 0,.int .i64 0,.slice none 0 0,.slice none 0 0,.int .i64 0,.int .i64 0,.int .i64 0,.int .i64 0,.int .i64 0,.slice none 0 0,.int .i64 0,.int .i64 0,.int .i64 0,.bool false] _ _ rfl Hput.o Tryz.underlying61 rfl Au) rfl (HQ0x.o _ _ ⟨rfl,_,_,HAt10.o,Hnew.o,Hkf.o⟩)
 ·skip
  have hz0b:(z !=0)=true:=by simp [hz0]
  have hAt10:=hAt8.setAns (C':= #[.int .i64 z,.int .i64 0,.int .i64 0,.int .i64 0,.int .i64 0,.slice none 0 0,.int .i64 0,.int .i64 0,.slice none 0 0,.slice none 0 0,.int .i64 0,.int .i64 0,.int .i64 0,.int .i64 0,.int .i64 0,.slice none 0 0,.int .i64 0,.int .i64 0,.int .i64 0,.bool false]) hR8;have hkf0:Keeps (SvF q) w (w8.setRow (w.heap.size+1) #[.int .i64 z,.int .i64 0,.int .i64 0,.int .i64 0,.int .i64 0,.slice none 0 0,.int .i64 0,.int .i64 0,.slice none 0 0,.slice none 0 0,.int .i64 0,.int .i64 0,.int .i64 0,.int .i64 0,.int .i64 0,.slice none 0 0,.int .i64 0,.int .i64 0,.int .i64 0,.bool false]):=hkw8.trans ((Cg _ _ _).mono λi _ e=> .inr jo)
  have hnew:Newer w q { q with vl:=vl' }:=⟨rfl,rfl,rfl,λb hb=>by
   rcases hb with hb|hb|hb
   ·exact .inl (.inl hb)
   ·exact(hjf b hb).imp (λe=> .inr (.inl e)) id
   ·exact .inl (.inr (.inr hb)),λb hb=> .inl hb⟩
  clear hjf hv8' hkw8 hA8 hAt8 hT8;obtain⟨HAt10,Hkf0,Hnew,HR8,Hz0⟩:=hid5 hAt10 hkf0 hnew hR8 hz0;clear hz0 hR8 hnew hkf0 hAt10;have hput:=setRow_heap w8 (w.heap.size+1) _ #[.int .i64 z,.int .i64 0,.int .i64 0,.int .i64 0,.int .i64 0,.slice none 0 0,.int .i64 0,.int .i64 0,.slice none 0 0,.slice none 0 0,.int .i64 0,.int .i64 0,.int .i64 0,.int .i64 0,.int .i64 0,.slice none 0 0,.int .i64 0,.int .i64 0,.int .i64 0,.bool false] _ _ HR8.o;have hkf:Keeps (λi=>i=w.heap.size+1) w8 (w8.setRow (w.heap.size+1) #[.int .i64 z,.int .i64 0,.int .i64 0,.int .i64 0,.int .i64 0,.slice none 0 0,.int .i64 0,.int .i64 0,.slice none 0 0,.slice none 0 0,.int .i64 0,.int .i64 0,.int .i64 0,.int .i64 0,.int .i64 0,.slice none 0 0,.int .i64 0,.int .i64 0,.int .i64 0,.bool false]):=Cg _ _ _;obtain⟨Hput,Hkf⟩:=hid2 hput hkf;clear hkf hput;go_wp2_with fail;go_step3;go_wp2;refine Av ?_
  go_wp2_with (refine wpList_store_row rfl 61 (.tmp 4) (.tmp 53) rfl (w.heap.size+1) #[.int .i64 z,.int .i64 0,.int .i64 0,.int .i64 0,.int .i64 0,.slice none 0 0,.int .i64 0,.int .i64 0,.slice none 0 0,.slice none 0 0,.int .i64 0,.int .i64 0,.int .i64 0,.int .i64 0,.int .i64 0,.slice none 0 0,.int .i64 0,.int .i64 0,.int .i64 0,.bool false] rfl rfl 61 _ HR8.o Au rfl (Da _ _ _) ?_)
  rw [Exit.noGoto_ret];exact bodyPost_ret (results_cell_row rfl _ _ (w.heap.size+1) 61 #[.int .i64 z,.int .i64 0,.int .i64 0,.int .i64 0,.int .i64 0,.slice none 0 0,.int .i64 0,.int .i64 0,.slice none 0 0,.slice none 0 0,.int .i64 0,.int .i64 0,.int .i64 0,.int .i64 0,.int .i64 0,.slice none 0 0,.int .i64 0,.int .i64 0,.int .i64 0,.bool false] _ _ rfl Hput.o Tryz.underlying61 rfl Au) rfl (HQ1.o Hz0.o _ _ ⟨rfl,_,_,HAt10.o,Hnew.o,Hkf0.o⟩)
def inkP(u:Nat)(B:List Int)(p:Pd):Pd:={ p with l:=(inkL u (chunks B.length) B 0 (List.range (chunks B.length)) p.l).map dryL }
theorem Xd(L:List Int):∀z∈packN L,0<=z/\z<=255:=by
 intro z hz;obtain⟨x,_,hx⟩:=List.mem_flatMap.1 hz;exact Rx x z hx
def SvNew(w:World)(P:Nat)(v:Value)(p':Pd)(fl:Int)(u:Nat)(a:Ac)(e:Ending)(w':World):Prop:=∃q R',e= .returned (.tuple #[(.pointer (some ⟨q.S,0,none⟩)),.int .i64 0])/\q.P=P/\q.v=v/\SvAt w' q p' fl u 1 R' a/\Keeps (PFoot P v) w w'/\(∀b,SvF q b->PFoot P v b\/w.heap.size<=b)/\(∀b,q.x.rd b->w.heap.size<=b)
theorem tnB_ok{L:List Tn}:∀z∈L.flatMap tnB,0<=z/\z<=255:=by
 intro z hz;obtain⟨x,_,hx⟩:=List.mem_flatMap.1 hz;unfold tnB at hx;rcases List.mem_append.1 hx with h|h
 ·exact Rx _ z h
 ·have:z=if x.grace then 1 else 0:=by simpa using h
  rw [this]
  split<;>omega
theorem tpack_ok(t:Tm):∀z∈Gj t,0<=z/\z<=255:=by
 intro z hz;unfold Gj at hz;rcases List.mem_append.1 hz with h|h
 ·exact Xd _ z h
 ·exact tnB_ok z h
theorem Wv(t:Tm):(Gj t).length=56+9*t.trs.length:=by
 unfold Gj;rw [List.length_append,tnB_len];simp [packN,Tm.nums,De]
theorem Yf(t:Tm)(ad:Option Addr)(cap:Nat)(P:Nat)(v:Value)(p:Pd)(w:World)(hr:Reads w 2 (.slice ad t.trs.length cap) t.trs.length (t.trs.flatMap Tn.cells))(hsp:∀g,(Value.slice ad t.trs.length cap).ownBlock=some g->¬PFoot P v g)(hre:Dj t [] t.start=0)(hp:PadAt w P v p)(hd:p.dn=false)(hs:p.sn=0)(hb:∀x∈p.l,x.is=0)(hf:p.fl+1<=1000000)(hroom:chunks (Gj t).length<=p.l.length):
  Calls Tryz.prog 9 #[(.pointer (some ⟨P,0,none⟩)),t.val (.slice ad t.trs.length cap)] w (SvNew w P v (inkP 0 (Gj t) p) p.fl (chunks (Gj t).length) (acNew t)):=by
 have hz:=(Ei hre).tm;have hl8:=Aa7 hz;have hlen:=Wv t;have hpk:=λW (hW:K0 w W)=>Vo t ad cap W (hr.keeps hW (λ_ _ h=>h)) j6;rw [hz] at hpk;simp only [if_true] at hpk;have hnew:=λW (hW:Reads W 2 (.slice ad t.trs.length cap) t.trs.length (t.trs.flatMap Tn.cells))=>accNew_ok t _ W hW hre;obtain⟨B,hB⟩:=eX (Gj t);have hBok:=tpack_ok t;obtain⟨A,hA⟩:=eX (acNew t);rw [hB] at hlen hroom hpk hBok;rw [hB,hA];unfold NewAc at hnew;rw [hA] at hnew;obtain⟨li,cy,du,mf,mp,st,trs⟩:=t;simp only [Tm.val] at hr hsp hpk hnew hl8 hlen⊢;obtain⟨n,hn⟩:=eX trs.length;rw [hn] at hr hsp hpk hnew hl8 hlen⊢;clear hB hA;obtain⟨Hr,Hsp,Hpk,Hnew,Hp,Hb,HBok,Hlen,Hroom⟩:=hid9 hr hsp hpk hnew hp hb hBok hlen hroom;clear hroom hlen hBok hb hp hnew hpk hsp hr hn hz hre;go_enter Tryz.func9,Tryz.ntmps9;go_wp2_with fail;refine Ay 0 rfl ?_;go_wp2_with fail;refine(Hpk.o _ (Keeps.alloc _ _)).mono ?_;rintro e w1 ⟨vb,rfl,hnb⟩;have hrow1:=hnb.row;have hkw1:=Keeps.nt (Keeps.alloc (S:=λ_=>False) w (.cells #[.int .i64 li,.slice ad n cap,.int .i64 cy,.int .i64 du,.int .i64 mf,.int .i64 mp,.int .i64 st] 26)) hnb.kp;have hT1:=Ad (heap_alloc_new w (.cells #[.int .i64 li,.slice ad n cap,.int .i64 cy,.int .i64 du,.int .i64 mf,.int .i64 mp,.int .i64 st] 26)) hnb.kp (by simp);have hnw:∀g,vb.ownBlock=some g->w.heap.size<=g:=λg hg=>by have:=hnb.nw g hg;simp at this;omega
 obtain⟨ab,cb,rfl,_,_⟩:=Ae hrow1;have hjo:=λW (hW:K0 w W)=>Abh P v p W (Hp.o.keeps hW (by simp)) hf hd (by rw [hs];decide) Hb.o
 have hst:Dm p=p:=by
  obtain⟨l0,sn0,fl0,dn0⟩:=p;simp only at hs;subst hs;rfl
 rw [hst] at hjo
 have hfw:∀k,PFoot P v k->k<w.heap.size:=by
  rintro k (rfl|hk)
  ·exact lt_of_block Hp.o.blk
  ·exact(Hp.o.row.lt k hk).2
 have hlt1:=lt_of_block hT1;clear hnb hst;obtain⟨Hrow1,Hkw1,HT1,Hnw,Hjo⟩:=hid5 hrow1 hkw1 hT1 hnw hjo;clear hjo hnw hT1 hkw1 hrow1;go_wp2_with fail;have hS2:=heap_alloc_new w1 (.cells #[(.pointer (some ⟨P,0,none⟩)),.pointer none,.pointer none] 83);have hkw2:=Keeps.nt Hkw1.o j4P;refine(Hjo.o _ hkw2).mono ?_;rintro e w3 ⟨J,rfl,hJl,hj3,hp3,hk3⟩;obtain⟨S,hS⟩:=eY w1.heap.size;rw [<-hS] at hS2⊢;have hSl:w.heap.size<S:=j8;have hJS:S<J:=by simp at hJl;omega
 have nS:¬PFoot P v S:=λe=>by have:=hfw _ e;omega
 have hS3:=Ad hS2 hk3 nS;have hkw3:Keeps (PFoot P v) w w3:=(hkw2.mono (by simp)).trans (hk3.mono λi _ e=> .inl e);have hT3:=Ad (Ad HT1.o j4P (by simp)) hk3 (λe=>by have:=hfw _ e;omega);have hrow3:=hk3.row ((Keeps.alloc (S:=λ_=>False) w1 (.cells #[(.pointer (some ⟨P,0,none⟩)),.pointer none,.pointer none] 83)).row Hrow1.o (by simp)) (λk hk e=>by have:=Hnw.o k hk;have:=hfw k e;omega);have s1:=Aa hS3 1;have f1:=Ab hS3 1;clear hS2 hk3 hJl hkw2;obtain⟨Hj3,Hp3,HS3,Hkw3,HT3,Hrow3⟩:=hid6 hj3 hp3 hS3 hkw3 hT3 hrow3;clear hrow3 hT3 hkw3 hS3 hp3 hj3 hS
 go_upto_region 8 with fail
 refine Lh λw4 hw4=> ?_;have hk4:Keeps (λi=>i=S) w3 w4:=by rw [hw4];exact Keeps.setCell _ _ _ rfl
 have hS4:w4.heap[S]?=some (.cells #[(.pointer (some ⟨P,0,none⟩)),(.pointer (some ⟨J,0,none⟩)),.pointer none] 83 (0,0)):=by rw [hw4];exact(heap_setCell_same _ _ 1 _ _ (.pointer (some ⟨J,0,none⟩)) HS3.o).trans rfl
 have hT4:=Ad HT3.o hk4 (by show¬w.heap.size=S;omega);have hj4:JrnAt w4 J P p.fl (.slice none 0 0) 0:=⟨Ad Hj3.o.blk hk4 (by show¬J=S;omega)⟩;have hp4:=Hp3.o.keeps hk4 (λk hk e=>by have e':k=S:=e;exact nS (e'▸hk));have hrow4:=hk4.row Hrow3.o (λk hk e=>by have e':k=S:=e;exact Ah Hrow3.o HS3.o j7 (e'▸hk));have hkw4:Keeps (PFoot P v) w w4:=Hkw3.o.trans (hk4.mono λi _ e=> .inr j6);have hrd4:Reads w4 2 (.slice ad n cap) n (trs.flatMap Tn.cells):=Hr.o.keepB hkw4 (λg hg _ e=>Hsp.o g hg e);have t0:=Aa hT4 0;have t1:=Aa hT4 1;have t2:=Aa hT4 2;have t3:=Aa hT4 3;have t4:=Aa hT4 4;have t5:=Aa hT4 5;have t6:=Aa hT4 6;clear s1 f1 hw4;clear hk4;have HS4:=Lib.hid hS4;clear hS4 hT4;obtain⟨Hj4,Hp4,Hrow4,Hkw4,Hrd4⟩:=hid5 hj4 hp4 hrow4 hkw4 hrd4;clear hrd4 hkw4 hrow4 hp4 hj4;go_wp2_with fail;refine(Hnew.o w4 Hrd4.o).mono ?_;rintro e w5 ⟨Ba,x,rfl,hA5,hk5,hf5⟩;have hS5:=Ad HS4.o hk5 (by simp);have s2:=Aa hS5 2;have f2:=Ab hS5 2;clear t0 t1 t2 t3 t4 t5 t6;obtain⟨HA5,Hk5,Hf5,HS5⟩:=hid4 hA5 hk5 hf5 hS5;clear hS5 hf5 hk5 hA5
 go_upto_region 10 with fail
 refine Lh λw6 hw6=> ?_;have hk6:Keeps (λi=>i=S) w5 w6:=by rw [hw6];exact Keeps.setCell _ _ _ rfl
 have hS6:w6.heap[S]?=some (.cells #[(.pointer (some ⟨P,0,none⟩)),(.pointer (some ⟨J,0,none⟩)),(.pointer (some ⟨Ba,0,none⟩))] 83 (0,0)):=by rw [hw6];exact(heap_setCell_same _ _ 2 _ _ (.pointer (some ⟨Ba,0,none⟩)) HS5.o).trans rfl
 have hk46:Keeps (λi=>i=S) w4 w6:=(Hk5.o.mono (by simp)).trans (hk6.mono λi _ e=> .inl e);have hj6:JrnAt w6 J P p.fl (.slice none 0 0) 0:=⟨Ad Hj4.o.blk hk46 (by show¬J=S;omega)⟩;have hp6:=Hp4.o.keeps hk46 (λk hk e=>by have e':k=S:=e;exact nS (e'▸hk));have hrow6:=hk46.row Hrow4.o (λk hk e=>by have e':k=S:=e;exact Ah Hrow4.o HS4.o j7 (e'▸hk));have hkw6:Keeps (PFoot P v) w w6:=Hkw4.o.trans (hk46.mono λi _ e=> .inr j6)
 have hA6:=HA5.o.keeps hk6 λb hb e=>by
  have e':b=S:=e;have hy:TyAt w5 b 83:=by rw [e'];exact⟨_,_,HS5.o⟩
  exact absurd (HA5.o.ty hb hy) j7
 have hjr:=Yw J P p.fl 0 w6 hj6
 have hadd:=jAdd_ok J P 0 B.length 0 v p p.fl (.slice none 0 0) [] ab cb B w6 hj6 (World.ownsRow_nil _ _ _ _) j7 hp6 hd rfl hs rfl (Reads.Bg hrow6) (λk hk e=>by have:=Hnw.o k hk;have:=hfw k e;omega) HBok.o (by have:=Hlen.o;omega) (by have:=Hlen.o;omega) (by have:=Hroom.o;omega) hf (λi _ hi=>by
  obtain⟨y,hy⟩:=Ar (show i<p.l.length by have:=Hroom.o;omega)
  exact⟨y,hy,Hb.o y (List.mem_of_getElem? hy)⟩)
 have s1:=Aa hS6 1;have sl6:=lt_of_block hS6;clear s2 f2 hw6;clear hk6;have HS6:=Lib.hid hS6;clear hS6 hk46;obtain⟨Hj6,Hp6⟩:=hid2 hj6 hp6;clear hp6 hj6 hrow6;obtain⟨Hkw6,HA6,Hjr,Hadd⟩:=hid4 hkw6 hA6 hjr hadd;clear hadd hjr hA6 hkw6;go_wp2_with fail;refine Hjr.o.mono ?_;rintro e w6' ⟨rfl,hw6'⟩;subst hw6';go_wp2_with fail;refine Hadd.o.mono ?_;rintro e w7 ⟨rfl,vl',R',hj7,hr7,hp7,hk7,hv7⟩
 have hty:∀k,(k=J\/PFoot P v k\/(Value.slice none 0 0).ownBlock=some k)->∃t∈ [115,96,165],TyAt w6' k t:=by
  rintro k (rfl|(rfl|hk)|hk)
  ·exact⟨_,by decide,_,_,Hj6.o.blk⟩
  ·exact⟨_,by decide,_,_,Hp6.o.blk⟩
  ·exact⟨_,by decide,.row Hp6.o.row hk⟩
  ·simp [Value.ownBlock] at hk
 have hS7:=Ad HS6.o hk7 (λe=>by
  obtain⟨t,ht,hy⟩:=hty S e;have:=hy.eq ⟨_,_,HS6.o⟩;subst this
  exact absurd ht (by decide))
 have hA7:=HA6.o.keeps hk7 λb hb e=>by
  obtain⟨t,ht,hy⟩:=hty b e;have hm:=HA6.o.ty hb hy;simp only [List.mem_cons,List.not_mem_nil,or_false] at ht;rcases ht with rfl|rfl|rfl<;>exact absurd hm j7
 have hkw7:Keeps (PFoot P v) w w7:=Hkw6.o.trans (hk7.mono λi _ e=>by
  rcases e with e|e|e
  ·exact .inr j6
  ·exact .inl e
  ·simp [Value.ownBlock] at e)
 have hs4:=Hkw4.o.size
 have hfin:SvNew w P v (inkP 0 B p) p.fl (chunks B.length) A (.returned (.tuple #[(.pointer (some ⟨S,0,none⟩)),.int .i64 0])) w7:=⟨⟨S,P,J,Ba,v,vl',x⟩,R',rfl,rfl,rfl,⟨hS7,hp7,by rw [Nat.zero_add] at hj7;exact hj7,hr7,hA7⟩,hkw7,λb hb=>by
  rcases hb with e|(e|e|e)|e
  ·exact .inr (by have e':b=S:=e;omega)
  ·exact .inr (by have e':b=J:=e;omega)
  ·exact .inl e
  ·rcases hv7 b e with e2|e2
   ·simp [Value.ownBlock] at e2
   ·exact .inr j6
  ·have:=Hf5.o b (.inl e);exact .inr (by omega),λb hb=>by have:=Hf5.o b (.inr hb);omega⟩
 clear hty hS7 hA7 hkw7 hj7 hr7 hp7 hk7 hv7 s1 sl6;have Hfin:=Lib.hid hfin;clear hfin;go_wp2;refine Bo ?_;exact bodyPost_ret (v:= .tuple #[(.pointer (some ⟨S,0,none⟩)),.int .i64 0]) (by simp [results,Tryz.results9,go_sem]) rfl Hfin.o
theorem Uk(u c:Nat)(B:List Int)(l:List Lf)(i:Nat):∀n,(inkL u c B 0 (List.range n) l)[i]?=if u<=i/\i<u+n then(l[i]?).map (λ_=>⟨1,pgR i (i-u==0) (i-u+1==c) ((B.drop ((i-u)*41)).take 41)⟩) else l[i]?
 |0=>by rw [if_neg (by omega)];rfl
 |n+1=>by
  rw [List.range_succ,Na,List.length_range,Nat.zero_add,List.getElem?_set,Uk u c B l i n,Mg];by_cases h:u+n=i
  ·subst h;rw [if_pos rfl,if_pos (show u<=u+n/\u+n<u+(n+1) by omega),show u+n-u=n by omega];by_cases hl:u+n<l.length
   ·rw [if_pos hl,List.getElem?_eq_getElem hl];rfl
   ·rw [if_neg hl,List.getElem?_eq_none (by omega)];rfl
  ·rw [if_neg h];by_cases h2:u<=i/\i<u+n
   ·rw [if_pos h2,if_pos (by omega)]
   ·rw [if_neg h2,if_neg (by omega)]
theorem Abm(u:Nat)(B:List Int)(p:Pd):(inkP u B p).l.length=p.l.length:=by simp [inkP,Mg]
theorem inkP_get(u:Nat)(B:List Int)(p:Pd)(i:Nat):(inkP u B p).l[i]?=if u<=i/\i<u+chunks B.length then(p.l[i]?).map (λ_=>⟨2,pgR i (i-u==0) (i-u+1==chunks B.length) ((B.drop ((i-u)*41)).take 41)⟩) else(p.l[i]?).map dryL:=by
 unfold inkP;simp only [List.getElem?_map,Uk]
 split
 ·rw [Option.map_map];rfl
 ·rfl
def Used(p:Pd)(u:Nat):Prop:=∀i x,p.l[i]?=some x->(i<u->x.is=2)/\(u<=i->x.is=0)
theorem Used.ink{p:Pd}{u:Nat}(h:Used p u)(B:List Int):Used (inkP u B p) (u+chunks B.length):=by
 intro i x hx;rw [inkP_get] at hx
 split at hx
 ·rename_i hi;rcases hy:p.l[i]? with _|y
  ·rw [hy] at hx;cases hx
  ·rw [hy] at hx;simp only [Option.map_some,Option.some.injEq] at hx;subst hx;exact⟨λ_=>rfl,λh=>by omega⟩
 ·rename_i hi;rcases hy:p.l[i]? with _|y
  ·rw [hy] at hx;cases hx
  ·rw [hy] at hx;simp only [Option.map_some,Option.some.injEq] at hx;subst hx;have:=h i y hy;unfold dryL;refine⟨λhlt=> ?_,λhle=> ?_⟩
   ·have h2:=this.1 j6;rw [if_neg j6];exact h2
   ·have h2:=this.2 j6;rw [if_neg j6];exact h2
theorem used_new(n:Nat):Used ⟨List.replicate n lf0,0,0,false⟩ 0:=by
 intro i x hx;have:x=lf0:=List.eq_of_mem_replicate (List.mem_of_getElem? hx);subst this;exact⟨λh=>by omega,λ_=>rfl⟩
theorem Used.free{p:Pd}{u:Nat}(h:Used p u){i:Nat}(h1:u<=i)(h2:i<p.l.length):∃x,p.l[i]?=some x/\x.is=0:=by
 obtain⟨x,hx⟩:=Ar h2;exact⟨x,hx,(h i x hx).2 h1⟩
theorem Qg:chunks 40=1:=by decide
theorem svDo_ok(q:SvV)(p:Pd)(fl:Int)(u nr:Nat)(RL:List Value)(a:Ac)(c:Cmd)(w:World)(h:SvAt w q p fl u nr RL a)(hs:a.seq<=100000)(hc:chB c=true)(hd:p.dn=false/\p.fl=fl)(hsn:p.sn=0)(hf:p.fl+1<=1000000)(hu:Used p u)(hroom:u+1<=p.l.length)(hnr:nr<=1000000)(hz:a.dz c=0):
  Calls Tryz.prog 11 #[(.pointer (some ⟨q.S,0,none⟩)),.agg #[.int .i64 c.kind,.int .i64 c.day,.int .i64 c.tranche,.int .i64 c.amount,.int .i64 c.ref]] w (SvChg w q (inkP u (packN c.nums) p) fl (u+1) (nr+1) (a.act c) 0 (a.dr c) (a.dc c)):=by
 have hl:(packN c.nums).length=40:=Pf _ _ _ _ _
 have:=svDo_add q p (inkP u (packN c.nums) p) fl 0 u nr (u+1) (nr+1) RL a c w h hs hc hd hz (λV ad cap hj hr hp hrd hsep=>by
  refine(jAdd_ok q.J q.P u 40 nr q.v p fl q.vl RL ad cap (packN c.nums) V hj hr hnr hp hd.1 hd.2 hsn hl hrd hsep (Xd _) j7 j7 (by rw [Qg];exact hroom) hf (λi h1 h2=>hu.free h1 (by rw [Qg] at h2;omega))).mono ?_;rintro e w' ⟨he,vl',R',h1,h2,h3,h4,h5⟩;rw [Qg] at h1;refine⟨he,vl',R',h1,h2, ?_,h4,h5⟩;unfold inkP;rw [hl]
  exact h3)
 simpa using this
def svT:List TypeId:= [83,115,96,165,22,104,59,142]
theorem SvAt.ty{W:World}{q:SvV}{p:Pd}{fl:Int}{u nr:Nat}{RL:List Value}{a:Ac}(h:SvAt W q p fl u nr RL a){b:Nat}(hb:SvF q b){t:TypeId}(ht:TyAt W b t):t∈svT:=by
 rcases hb with rfl|hb|rfl|hb|hb
 ·rw [ht.eq h.tyS];decide
 ·obtain⟨t',ht',hy⟩:=h.tyJ hb;rw [ht.eq hy];simp only [List.mem_cons,List.not_mem_nil,or_false] at ht';rcases ht' with rfl|rfl|rfl|rfl<;>decide
 ·rw [ht.eq ⟨_,_,h.acc.blk⟩];decide
 ·rw [ht.eq (.row h.acc.iss hb)];decide
 ·rw [ht.eq (.row h.acc.adj hb)];decide
structure SvL(w0 W:World)(q:SvV)(p:Pd)(fl:Int)(u nr:Nat)(a:Ac):Prop where
 is:∃RL,SvAt W q p fl u nr RL a
 lo:∀b,SvF q b->w0.heap.size<=b
 kp:K0 w0 W
section
variable {w0 W W':World} {q q':SvV} {p p':Pd} {fl:Int} {u nr u' nr':Nat} {a a':Ac}
theorem SvL.keep(h:SvL w0 W q p fl u nr a)(hk:K0 W W'):SvL w0 W' q p fl u nr a:=by
 obtain⟨RL,h1⟩:=h.is;exact⟨⟨RL,h1.keep0 hk⟩,h.lo,h.kp.nt hk⟩
theorem SvL.box(h:SvL w0 W q p fl u nr a)(hk:Keeps (SvF q) W W'){i:Nat}{C:Array Value}{t:TypeId}{fz:Nat×Nat}(hb:W.heap[i]?=some (.cells C t fz))(ht:t∉svT):W'.heap[i]?=some (.cells C t fz):=by
 obtain⟨RL,h1⟩:=h.is;exact Ad hb hk λe=>ht (h1.ty e ⟨_,_,hb⟩)
theorem SvL.row(h:SvL w0 W q p fl u nr a)(hk:Keeps (SvF q) W W'){base size n:Nat}{e:TypeId}{v:Value}{xs:List Value}(hb:W.ownsRow base e size v n xs)(ht:e∉svT):W'.ownsRow base e size v n xs:=by
 obtain⟨RL,h1⟩:=h.is;exact hk.row hb λk hk e=>ht (h1.ty e (.row hb hk))
theorem SvL.next(h:SvL w0 W q p fl u nr a){R':List Value}(hs:SvAt W' q' p' fl u' nr' R' a')(hn:Newer W q q')(hk:Keeps (SvF q) W W'):SvL w0 W' q' p' fl u' nr' a':=
 ⟨⟨R',hs⟩,λb hb=>(hn.2.2.2.1 b hb).elim (h.lo b) λe=>Nat.le_trans h.kp.size e,h.kp.trans (hk.mono λi _ e=> .inr (h.lo i e))⟩
end
structure PadI(p:Pd)(u n:Nat):Prop where
 us:Used p u
 dn:p.dn=false
 fl:p.fl=0
 sn:p.sn=0
 n:p.l.length=n
theorem PadI.ink{p:Pd}{u n:Nat}(h:PadI p u n)(B:List Int):PadI (inkP u B p) (u+chunks B.length) n:=⟨h.us.ink B,h.dn,h.fl,h.sn,by rw [Abm];exact h.n⟩
theorem PadI.new(n:Nat):PadI ⟨List.replicate n lf0,0,0,false⟩ 0 n:=⟨used_new n,rfl,rfl,rfl,List.length_replicate⟩
theorem PadI.wets{p:Pd}{u n:Nat}(h:PadI p u n):wets p.l=0:=by
 unfold Go.Proofs.YtjkdnaljkdnomaaGreatDoor.wets;rw [List.filter_eq_nil_iff.2,List.length_nil];intro x hx;obtain⟨i,hi⟩:=List.getElem?_of_mem hx;have:=h.us i x hi;by_cases hiu:i<u
 ·rw [this.1 hiu];decide
 ·rw [this.2 j6];decide
def keptB(a:Ac)(c:Cmd):Bool:=chB c&&decide (a.dz c=0)
def SvStep(w0 w:World)(q:SvV)(n u nr:Nat)(a:Ac)(c:Cmd)(e:Ending)(w':World):Prop:=∃v,e= .returned v/\AnsIs w w' (a.dz c) (a.dr c) (a.dc c) (a.ds c) (a.dp c) v/\
 ∃q' p',SvL w0 w' q' p' 0 (if keptB a c=true then u+1 else u) (if keptB a c=true then nr+1 else nr) (a.act c)/\PadI p' (if keptB a c=true then u+1 else u) n/\q'.S=q.S/\q'.P=q.P/\Keeps (SvF q) w w'
theorem Ac.ds_ch{a:Ac}{c:Cmd}(h:chB c=true):a.ds c=st00/\a.dp c=stm00:=by
 simp only [chB,Bool.and_eq_true,decide_eq_true_eq] at h;unfold Ac.ds Ac.dp;rw [if_neg j6,if_neg j6,if_neg j6];exact⟨rfl,rfl⟩
theorem svL_do{w0 w:World}{q:SvV}{p:Pd}{u nr n:Nat}{a:Ac}(h:SvL w0 w q p 0 u nr a)(hp:PadI p u n)(c:Cmd)(hs:a.seq<=100000)(hroom:u+1<=n)(hnr:nr<=1000000):
  Calls Tryz.prog 11 #[(.pointer (some ⟨q.S,0,none⟩)),.agg #[.int .i64 c.kind,.int .i64 c.day,.int .i64 c.tranche,.int .i64 c.amount,.int .i64 c.ref]] w (SvStep w0 w q n u nr a c):=by
 obtain⟨RL,hS⟩:=h.is;rcases hc:chB c with _|_
 ·have hk:keptB a c=false:=by unfold keptB;rw [hc];rfl
  have hact:a.act c=a:=Ac.Ace (by rw [hc];simp);refine(svDo_ask q p 0 u nr RL a c w hS hc).mono ?_;rintro e w' ⟨v,he,ha,q',h1,h2,h3⟩;refine⟨v,he,ha,q',p, ?_, ?_,h2.1,h2.2.1,h3⟩
  ·rw [hk,hact];exact h.next h1 h2 h3
  ·rw [hk];exact hp
 ·obtain⟨e1,e2⟩:=Ac.ds_ch (a:=a) hc;by_cases hz:a.dz c=0
  ·have hk:keptB a c=true:=by unfold keptB;rw [hc,hz];rfl
   refine(svDo_ok q p 0 u nr RL a c w hS hs hc ⟨hp.dn,hp.fl⟩ hp.sn (by rw [hp.fl];decide) hp.us (by rw [hp.n];exact hroom) hnr hz).mono ?_;rintro e w' ⟨he,q',R',h1,h2,h3⟩;refine⟨_,he,by rw [e1,e2,hz];exact AnsIs.mk0 _ _ _ _ _,q',_,by rw [hk];exact h.next h1 h2 h3, ?_,h2.1,h2.2.1,h3⟩;rw [hk];have:=hp.ink (packN c.nums);rw [show(packN c.nums).length=40 from Pf _ _ _ _ _,Qg] at this;exact this
  ·have hk:keptB a c=false:=by unfold keptB;rw [decide_eq_false hz,Bool.and_false]
   have hact:a.act c=a:=Ac.Ace (λe=>hz e.1);refine(svDo_bad q p 0 u nr RL a c w hS hs hc ⟨hp.dn,hp.fl⟩ hz).mono ?_;rintro e w' ⟨he,q',R',h1,h2,h3⟩;refine⟨_,he,by rw [e1,e2];exact AnsIs.mk0 _ _ _ _ _,q',p, ?_, ?_,h2.1,h2.2.1,h3⟩
   ·rw [hk,hact];exact h.next h1 h2 h3
   ·rw [hk];exact hp
end Go.Proofs.YtjkdnaljkdnomaaGreatDoor
