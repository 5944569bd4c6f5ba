/- Part 12 of what the laws of this seat share: walks of functions, and plain laws. -/
import Derived.Test.YtgbgmadkmabeeaaGreatB11
set_option maxRecDepth 100000
set_option maxHeartbeats 6400000
namespace Go.Proofs.YtgbgmadkmabeeaaGreat
open Go.RowKit
theorem Zg(B:Nat)(x:AcV)(a:Ac)(c:Cmd)(b:Nat)(v:Value)(w:World)(h:AcAt w B x a)(hb:Cs w b v a.D)(hsep:∀k,Foot b v k->¬(AcF B x k\/x.rd k))(hk:c.kind=1\/c.kind=2\/c.kind=3\/c.kind=4\/c.kind=7):
  Calls Tryz.prog 134 #[(.pointer (some ⟨B,0,none⟩)),.agg #[.int .i64 c.kind,.int .i64 c.day,.int .i64 c.tranche,.int .i64 c.amount,.int .i64 c.ref],(.pointer (some ⟨b,0,none⟩))] w (Ux w b v (a.eD c) (a.evt c) (a.ee c)):=by
 have hn:=h.ok.nums;obtain⟨ki,da,tr,am,re⟩:=c;simp only at hk⊢;obtain⟨td,htd⟩:∃d,a.today=d:=⟨_,rfl⟩;refine j3X ?_;intro W0 hW0;have hc0:W0.heap[w.heap.size]?=some (.cells #[.int .i64 ki,.int .i64 da,.int .i64 tr,.int .i64 am,.int .i64 re] 23 (0,0)):=by rw [hW0];exact Ar (heap_alloc_new w _) _
 have hr0:W0.heap[w.heap.size+1]?=some (.cells #[.int .i64 0,.int .i64 0,.int .i64 0,.int .i64 0,.int .i64 0] 96 (0,0)):=by rw [hW0];exact Av _ _ (by simp)
 have hk0:Keeps (λ_=>False) w W0:=by rw [hW0];(repeat (first|exact Keeps.refl _ _|exact Keeps.alloc _ _|exact Keeps.drew _|exact Keeps.drewN _ _|refine Keeps.Am ?_|refine Keeps.Ak ?_|refine Keeps.Af ?_))
 have hs0:w.heap.size+1<W0.heap.size:=lt_of_block hr0;have hS0:evtS B w.heap.size td am W0.drew:=(show evtS B w.heap.size td am W0 from⟨by rw [<-htd];exact Aa (h.keep0 hk0).blk 7,Aa hc0 3⟩).keep (Keeps.drew _);obtain⟨H,Hb,Hc0,Hr0,Hk0,HS0,Hsep,Hn,Htd⟩:=hid9 h hb hc0 hr0 hk0 hS0 hsep hn htd;clear htd hn hsep hS0 hk0 hr0 hc0 hb h;have Hk:=Lib.hid hk;clear hk;go_enter Tryz.func134,Tryz.ntmps134;go_wp2_with fail;refine Ay 0 rfl ?_;go_wp2_with fail;rw [<-hW0];clear hW0;refine Al (evtS B w.heap.size td am) (.take 0 (.take 1 (.take 2 (.take 3 (.take 4 (.take 5 (.take 6 (.move 7 (.move 8 .done))))))))) j9 j9 ?_ ?_
 ·exact HS0.out
 intro w1 hs1 hk1;refine je ?_;intro K hK;refine hK.out _ _ j1H ?_;clear hK K;refine ja ?_;refine jc ?_;intro K hK;refine hK.out _ _ j1H ?_;clear hK K;refine jt ?_;obtain⟨W1,hW1⟩:∃x,x=w1.alloc (.cells #[.int .i64 0,.int .i64 td,.int .i64 0,.int .i64 am,.int .i64 0] 96):=⟨_,rfl⟩;have hk01:Keeps (λ_=>False) W0 W1:=by rw [hW1];exact hk1.nt (Keeps.alloc _ _)
 have hst1:EvSt (λ_=>False) w W1 w.heap.size (w.heap.size+1) w1.heap.size ⟨ki,da,tr,am,re⟩ ⟨0,td,0,am,0⟩:=⟨Ad Hc0.out hk01 (by simp),Ad Hr0.out hk01 (by simp),by rw [hW1];exact heap_alloc_new _ _,Hk0.out.nt hk01,Nat.le_refl _,Nat.le_succ _,by have:=hk1.size;omega,by have:=hk1.size;omega,by have:=hk1.size;omega⟩;obtain⟨C,hC⟩:∃x,x=w.heap.size:=⟨_,rfl⟩;obtain⟨R,hR⟩:∃x,x=w.heap.size+1:=⟨_,rfl⟩;obtain⟨E,hE⟩:∃x,x=w1.heap.size:=⟨_,rfl⟩;rw [<-hR,<-hC,<-hE] at hst1;rw [<-hW1]
 try rw [<-hR]
 try rw [<-hC]
 try rw [<-hE]
 clear hW1 hC hR hE hs1 hk1 hs0;clear Hc0 Hr0 Hk0 HS0;have Hst1:=Lib.hid hst1;clear hst1;clear hk01;by_cases h2:ki=2
 ·subst h2;refine j43 ?_;intro nce nec c0 c1 c2 c3 cl e0 e1 e2 e3 e4 el f0 f1 f2 f4;by_cases l1:am<1
  ·skip
   have hno:=Ac.Jt ((Ac.Kz (a:=a) (c:=⟨2,da,tr,am,re⟩) (.inl rfl) (.inr ⟨show¬(2:Int)=7 by decide,.inl l1⟩))) j7;have hpo:=j44;have hee:=(Ac.Kz (a:=a) (c:=⟨2,da,tr,am,re⟩) (.inl rfl) (.inr ⟨show¬(2:Int)=7 by decide,.inl l1⟩));have hR0:=(Hst1.out).r;exact j05
  ·by_cases l2:1000000000000000<am
   ·skip
    have hno:=Ac.Jt ((Ac.Kz (a:=a) (c:=⟨2,da,tr,am,re⟩) (.inl rfl) (.inr ⟨show¬(2:Int)=7 by decide,.inr l2⟩))) j7;have hpo:=j44;have hee:=(Ac.Kz (a:=a) (c:=⟨2,da,tr,am,re⟩) (.inl rfl) (.inr ⟨show¬(2:Int)=7 by decide,.inr l2⟩));have hR0:=(Hst1.out).r;exact j05
   ·have hee:a.ee ⟨2,da,tr,am,re⟩=0:=by rw [Ac.ee_in (.inl rfl) (.inr ⟨show¬(2:Int)=7 by decide,by show 1<=am;omega,by show am<=1000000000000000;omega⟩)];rfl
    have heD:=Ac.eD_no (a:=a) (c:=⟨2,da,tr,am,re⟩) (show(2:Int)≠4 by decide);obtain⟨Wz,hWz⟩:∃x,x=W1.setCell ⟨E,0,none⟩ (.int .i64 2):=⟨_,rfl⟩;have hstz:=Hst1.out.set (y:=⟨2,td,0,am,0⟩) 0 (.int .i64 2) hWz rfl;have hpo:=hstz.done (D:=a.D) (V:= #[.int .i64 2,.int .i64 td,.int .i64 0,.int .i64 am,.int .i64 0]) Hb.out;have Hstz:=Lib.hid hstz;clear hstz;refine j0q ?_;intro hev hE0 hR0;obtain⟨Hev,HE0,HR0,Hee,Hpo,HeD⟩:=hid6 hev hE0 hR0 hee hpo heD;clear heD hpo hee hR0 hE0 hev
    go_upto_region 31 with fail
    rw [<-hWz];clear hWz;have hsr:=setRow_heap _ R #[.int .i64 0,.int .i64 0,.int .i64 0,.int .i64 0,.int .i64 0] #[.int .i64 2,.int .i64 td,.int .i64 0,.int .i64 am,.int .i64 0] 96 _ HR0.out;refine jD ?_;intro sr0 sr1 sr2 sr3 sr4;obtain⟨Hsr,Sr0,Sr1,Sr2,Sr3,Sr4⟩:=hid6 hsr sr0 sr1 sr2 sr3 sr4;clear sr4 sr3 sr2 sr1 sr0 hsr
    go_wp2_with (first|(refine wpList_load_row rfl 96 (.tmp 8) rfl E rfl 96 #[.int .i64 2,.int .i64 td,.int .i64 0,.int .i64 am,.int .i64 0] _ _ HE0.out Tryz.underlying96 rfl Bl ?_)|(refine wpList_store_row rfl 96 (.tmp 6) (.tmp 137) rfl R #[.int .i64 2,.int .i64 td,.int .i64 0,.int .i64 am,.int .i64 0] rfl rfl 96 #[.int .i64 0,.int .i64 0,.int .i64 0,.int .i64 0,.int .i64 0] HR0.out Bl rfl (Dm _ _ _ _ _) ?_))
    refine jp ?_;intro R0' R1' R2' R3' R4'
    try rw [Exit.Bq]
    exact bodyPost_ret (v:= .tuple #[.agg #[.int .i64 2,.int .i64 td,.int .i64 0,.int .i64 am,.int .i64 0],.int .i64 0]) jv rfl ⟨by rw [Hev.out,Hee.out];simp [Htd.out],by rw [HeD.out];exact Hpo.out⟩
 ·have hne:(ki !=2)=true:=by simp [h2]
  refine j43 ?_;intro nce nec c0 c1 c2 c3 cl e0 e1 e2 e3 e4 el f0 f1 f2 f4;obtain⟨W2,hW2⟩:∃x,x=W1.setCell ⟨E,2,none⟩ (.int .i64 tr):=⟨_,rfl⟩;have hst2:=Hst1.out.set (y:=⟨0,td,tr,am,0⟩) 2 (.int .i64 tr) hW2 rfl;have hAt2:=H.out.keep0 hst2.k;have htr:=Ur B x a tr W2 hAt2;by_cases h3:1<=tr/\tr<=a.t.trs.length
  ·rw [decide_eq_true h3] at htr;obtain⟨Hst2,HAt2,Htr,H3,H2⟩:=hid5 hst2 hAt2 htr h3 h2;clear h2 h3 htr hAt2 hst2;go_wp2_with fail;rw [<-hW2];clear hW2;clear nce nec c0 c1 c2 c3 cl e0 e1 e2 e3 e4 el f0 f1 f2 f4;refine Htr.out.mono ?_;rintro e w' ⟨rfl,rfl⟩;have nce:=(Hst2.out).ce;have nec:¬E=C:=λe=>nce e.symm;have c0:=Aa (Hst2.out).c 0;have c1:=Aa (Hst2.out).c 1;have c2:=Aa (Hst2.out).c 2;have c3:=Aa (Hst2.out).c 3;have cl:=lt_of_block (Hst2.out).c;have e0:=Aa (Hst2.out).e 0;have e1:=Aa (Hst2.out).e 1;have e2:=Aa (Hst2.out).e 2;have e3:=Aa (Hst2.out).e 3;have e4:=Aa (Hst2.out).e 4;have el:=lt_of_block (Hst2.out).e;have f0:=Ab (Hst2.out).e 0;have f1:=Ab (Hst2.out).e 1;have f2:=Ab (Hst2.out).e 2;have f4:=Ab (Hst2.out).e 4;by_cases h7:ki=7
   ·subst h7;by_cases l1:am<0
    ·skip
     have hno:=Ac.Jt ((Ac.Kz (a:=a) (c:=⟨7,da,tr,am,re⟩) (.inr H3.out) (.inl ⟨rfl,.inl l1⟩))) j7;refine j0r ?_;intro hpo;have hee:=(Ac.Kz (a:=a) (c:=⟨7,da,tr,am,re⟩) (.inr H3.out) (.inl ⟨rfl,.inl l1⟩));have hR0:=(Hst2.out).r;exact j05
    ·by_cases l2:10000000<am
     ·skip
      have hno:=Ac.Jt ((Ac.Kz (a:=a) (c:=⟨7,da,tr,am,re⟩) (.inr H3.out) (.inl ⟨rfl,.inr l2⟩))) j7;refine j0r ?_;intro hpo;have hee:=(Ac.Kz (a:=a) (c:=⟨7,da,tr,am,re⟩) (.inr H3.out) (.inl ⟨rfl,.inr l2⟩));have hR0:=(Hst2.out).r;exact j05
     ·have hee:a.ee ⟨7,da,tr,am,re⟩=0:=by rw [Ac.ee_in (.inr H3.out) (.inl ⟨rfl,by show 0<=am;omega,by show am<=10000000;omega⟩)];rfl
      have heD:=Ac.eD_no (a:=a) (c:=⟨7,da,tr,am,re⟩) (show(7:Int)≠4 by decide);obtain⟨Wz,hWz⟩:∃x,x=W2.setCell ⟨E,0,none⟩ (.int .i64 6):=⟨_,rfl⟩;have hstz:=Hst2.out.set (y:=⟨6,td,tr,am,0⟩) 0 (.int .i64 6) hWz rfl;have hpo:=hstz.done (D:=a.D) (V:= #[.int .i64 6,.int .i64 td,.int .i64 tr,.int .i64 am,.int .i64 0]) Hb.out;have Hstz:=Lib.hid hstz;clear hstz;refine j0q ?_;intro hev hE0 hR0;obtain⟨Hev,HE0,HR0,Hee,Hpo,HeD⟩:=hid6 hev hE0 hR0 hee hpo heD;clear heD hpo hee hR0 hE0 hev
      go_upto_region 31 with fail
      rw [<-hWz];clear hWz;have hsr:=setRow_heap _ R #[.int .i64 0,.int .i64 0,.int .i64 0,.int .i64 0,.int .i64 0] #[.int .i64 6,.int .i64 td,.int .i64 tr,.int .i64 am,.int .i64 0] 96 _ HR0.out;refine jD ?_;intro sr0 sr1 sr2 sr3 sr4;obtain⟨Hsr,Sr0,Sr1,Sr2,Sr3,Sr4⟩:=hid6 hsr sr0 sr1 sr2 sr3 sr4;clear sr4 sr3 sr2 sr1 sr0 hsr
      go_wp2_with (first|(refine wpList_load_row rfl 96 (.tmp 8) rfl E rfl 96 #[.int .i64 6,.int .i64 td,.int .i64 tr,.int .i64 am,.int .i64 0] _ _ HE0.out Tryz.underlying96 rfl Bl ?_)|(refine wpList_store_row rfl 96 (.tmp 6) (.tmp 137) rfl R #[.int .i64 6,.int .i64 td,.int .i64 tr,.int .i64 am,.int .i64 0] rfl rfl 96 #[.int .i64 0,.int .i64 0,.int .i64 0,.int .i64 0,.int .i64 0] HR0.out Bl rfl (Dm _ _ _ _ _) ?_))
      refine jp ?_;intro R0' R1' R2' R3' R4'
      try rw [Exit.Bq]
      exact bodyPost_ret (v:= .tuple #[.agg #[.int .i64 6,.int .i64 td,.int .i64 tr,.int .i64 am,.int .i64 0],.int .i64 0]) jv rfl ⟨by rw [Hev.out,Hee.out];simp [Htd.out],by rw [HeD.out];exact Hpo.out⟩
   ·have k7:(ki==7)=false:=by simp [h7]
    have H7:=Lib.hid h7;clear h7;by_cases l1:am<1
    ·skip
     have hno:=Ac.Jt ((Ac.Kz (a:=a) (c:=⟨ki,da,tr,am,re⟩) (.inr H3.out) (.inr ⟨H7.out,.inl l1⟩))) j7;refine j0r ?_;intro hpo;have hee:=(Ac.Kz (a:=a) (c:=⟨ki,da,tr,am,re⟩) (.inr H3.out) (.inr ⟨H7.out,.inl l1⟩));have hR0:=(Hst2.out).r;exact j05
    ·by_cases l2:1000000000000000<am
     ·skip
      have hno:=Ac.Jt ((Ac.Kz (a:=a) (c:=⟨ki,da,tr,am,re⟩) (.inr H3.out) (.inr ⟨H7.out,.inr l2⟩))) j7;refine j0r ?_;intro hpo;have hee:=(Ac.Kz (a:=a) (c:=⟨ki,da,tr,am,re⟩) (.inr H3.out) (.inr ⟨H7.out,.inr l2⟩));have hR0:=(Hst2.out).r;exact j05
     ·have hin:=Ac.ee_in (a:=a) (c:=⟨ki,da,tr,am,re⟩) (.inr H3.out) (.inr ⟨H7.out,by show 1<=am;omega,by show am<=1000000000000000;omega⟩);have hki:ki=1\/ki=3\/ki=4:=by have:=Hk.out;have:=H2.out;have:=H7.out;omega
      clear k7 hne;have Hin:=Lib.hid hin;clear hin;rcases hki with rfl|rfl|rfl
      ·have hin:=Hin.out;rw [if_pos rfl] at hin;obtain⟨⟨s0,s1⟩,⟨r0,r1⟩,_⟩:=ps_nums Hn.out.pr;obtain⟨ap,cp,hvp,_,_⟩:=Ae HAt2.out.bal;have hrd:=Reads.Az HAt2.out.bal;rw [hvp] at hrd;have htot:=λW (hW:Keeps (λ_=>False) W2 W)=>Jj a.s.p ap cp W (hrd.keeps hW (by simp)) (by have:=Hn.out.nb;have:=Hn.out.n8;omega);simp only [Ps.val,Hn.out.pr,if_true] at htot;unfold Ac.owes at hin;have hS:=(show drwS B C x.vp a.s.p.cr a.s.p.du a.t.limit am W2 from⟨Aa HAt2.out.blk 11,Aa HAt2.out.blk 12,Aa HAt2.out.blk 13,Aa HAt2.out.blk 0,c3⟩);have hbl:=lt_of_block HAt2.out.blk;rw [hvp] at hS;obtain⟨sb,hsb⟩:∃z,sumI a.s.p.bal=z:=⟨_,rfl⟩;obtain⟨nb,hnb⟩:∃z,a.s.p.bal.length=z:=⟨_,rfl⟩;obtain⟨cr,hcr⟩:∃z,a.s.p.cr=z:=⟨_,rfl⟩;obtain⟨du,hdu⟩:∃z,a.s.p.du=z:=⟨_,rfl⟩;obtain⟨lim,hlm⟩:∃z,a.t.limit=z:=⟨_,rfl⟩;rw [hsb,hcr,hlm] at hin;rw [hsb] at s0 s1;rw [hcr] at r0 r1;rw [hsb,hnb,hcr,hdu] at htot;rw [hnb,hcr,hdu,hlm] at hS;have q1:IntKind.i64.wrap (sb-cr)=sb-cr:=IntWalk.i64_in _ ⟨by omega,by omega⟩;have q2:IntKind.i64.wrap (sb-cr+am)=sb-cr+am:=IntWalk.i64_in _ ⟨by omega,by omega⟩;obtain⟨Hvp,Hrd,Htot,HS,Hsb,Hnb,Hcr,Hdu,Hlm⟩:=hid9 hvp hrd htot hS hsb hnb hcr hdu hlm;clear hlm hdu hcr hnb hsb hS htot hrd hvp
       go_upto_region 13 with fail
       by_cases hlim:lim<sb-cr+am
       ·rw [if_pos hlim] at hin;have Hin:=Lib.hid hin;clear hin;clear nce nec c0 c1 c2 c3 cl e0 e1 e2 e3 e4 el f0 f1 f2 f4;refine Al (drwS B C (.slice ap nb cp) cr du lim am) (.take 0 (.take 1 (.take 2 (.take 3 (.take 5 (.take 6 (.take 7 (.take 8 (.take 9 (.take 11 (.take 12 (.take 14 (.take 15 (.take 16 (.take 17 (.take 18 (.move 4 (.take 10 (.take 13 (.take 19 .done)))))))))))))))))))) j9 j9 ?_ ?_
        ·exact j06
        intro w3 hs3 hk3;refine je ?_;intro K hK
        go_at_call 170
        ((with_reducible refine(Htot.out w3 hk3).mono ?_);rintro e w4 ⟨rfl,hk4⟩;dsimp only)
        refine j00 ?_;clear hK K;refine jj ?_;have hst3:=Hst2.out.keep (hk3.nt hk4);clear hs3 hk3 hk4;have Hst3:=Lib.hid hst3;clear hst3;refine j07 ?_;intro nce nec c0 c1 c2 c3 cl e0 e1 e2 e3 e4 el f0 f1 f2 f4;have hno:=Ac.Jt (Hin.out) j7;refine j1V ?_;intro hpo;have hee:=Hin.out;exact j45
       ·rw [if_neg hlim] at hin;have hee:=hin;clear hin;have Hee:=Lib.hid hee;clear hee;clear nce nec c0 c1 c2 c3 cl e0 e1 e2 e3 e4 el f0 f1 f2 f4;refine Al (drwS B C (.slice ap nb cp) cr du lim am) (.take 0 (.take 1 (.take 2 (.take 3 (.take 5 (.take 6 (.take 7 (.take 8 (.take 9 (.take 11 (.take 12 (.take 14 (.take 15 (.take 16 (.take 17 (.take 18 (.move 4 (.take 10 (.take 13 (.take 19 .done)))))))))))))))))))) j9 j9 ?_ ?_
        ·exact j06
        intro w3 hs3 hk3;refine je ?_;intro K hK
        go_at_call 170
        ((with_reducible refine(Htot.out w3 hk3).mono ?_);rintro e w4 ⟨rfl,hk4⟩;dsimp only)
        refine j00 ?_;clear hK K;refine jj ?_;have hst3:=Hst2.out.keep (hk3.nt hk4);clear hs3 hk3 hk4;have Hst3:=Lib.hid hst3;clear hst3;refine j07 ?_;intro nce nec c0 c1 c2 c3 cl e0 e1 e2 e3 e4 el f0 f1 f2 f4;have hee:=Hee.out;have heD:=Ac.eD_no (a:=a) (c:=⟨1,da,tr,am,re⟩) (show(1:Int)≠4 by decide);obtain⟨Wz,hWz⟩:∃x,x=w4.setCell ⟨E,0,none⟩ (.int .i64 1):=⟨_,rfl⟩;have hstz:=Hst3.out.set (y:=⟨1,td,tr,am,0⟩) 0 (.int .i64 1) hWz rfl;have hpo:=hstz.done (D:=a.D) (V:= #[.int .i64 1,.int .i64 td,.int .i64 tr,.int .i64 am,.int .i64 0]) Hb.out;have Hstz:=Lib.hid hstz;clear hstz;refine j0q ?_;intro hev hE0 hR0;obtain⟨Hev,HE0,HR0,Hee,Hpo,HeD⟩:=hid6 hev hE0 hR0 hee hpo heD;clear heD hpo hee hR0 hE0 hev
        go_upto_region 31 with fail
        rw [<-hWz];clear hWz;have hsr:=setRow_heap _ R #[.int .i64 0,.int .i64 0,.int .i64 0,.int .i64 0,.int .i64 0] #[.int .i64 1,.int .i64 td,.int .i64 tr,.int .i64 am,.int .i64 0] 96 _ HR0.out;refine jD ?_;intro sr0 sr1 sr2 sr3 sr4;obtain⟨Hsr,Sr0,Sr1,Sr2,Sr3,Sr4⟩:=hid6 hsr sr0 sr1 sr2 sr3 sr4;clear sr4 sr3 sr2 sr1 sr0 hsr
        go_wp2_with (first|(refine wpList_load_row rfl 96 (.tmp 8) rfl E rfl 96 #[.int .i64 1,.int .i64 td,.int .i64 tr,.int .i64 am,.int .i64 0] _ _ HE0.out Tryz.underlying96 rfl Bl ?_)|(refine wpList_store_row rfl 96 (.tmp 6) (.tmp 137) rfl R #[.int .i64 1,.int .i64 td,.int .i64 tr,.int .i64 am,.int .i64 0] rfl rfl 96 #[.int .i64 0,.int .i64 0,.int .i64 0,.int .i64 0,.int .i64 0] HR0.out Bl rfl (Dm _ _ _ _ _) ?_))
        refine jp ?_;intro R0' R1' R2' R3' R4'
        try rw [Exit.Bq]
        exact bodyPost_ret (v:= .tuple #[.agg #[.int .i64 1,.int .i64 td,.int .i64 tr,.int .i64 am,.int .i64 0],.int .i64 0]) jv rfl ⟨by rw [Hev.out,Hee.out];simp [Htd.out],by rw [HeD.out];exact Hpo.out⟩
      ·have hin:=Hin.out;rw [if_neg (show¬(3:Int)=1 by decide),if_pos rfl] at hin;obtain⟨st,hst⟩:∃z,a.t.start=z:=⟨_,rfl⟩;have hS:=(show rfdS B C da a.t.start a.today W2 from⟨c1,Aa HAt2.out.blk 6,Aa HAt2.out.blk 7⟩);have hbl:=lt_of_block HAt2.out.blk;rw [hst,Htd.out] at hS hin;obtain⟨Hst,HS⟩:=hid2 hst hS;clear hS hst
       go_upto_region 19 with fail
       clear nce nec c0 c1 c2 c3 cl e0 e1 e2 e3 e4 el f0 f1 f2 f4;by_cases d1:da<st
       ·have d1':decide (da<st)=true:=by simp [d1]
        rw [if_pos (.inl d1)] at hin;exact j46
       ·have d1':decide (da<st)=false:=by simp [d1]
        by_cases d2:td<da
        ·have d2':decide (td<da)=true:=by simp [d2]
         rw [if_pos (.inr d2)] at hin;exact j46
        ·have d2':decide (td<da)=false:=by simp [d2]
         rw [if_neg λe=>e.elim d1 d2] at hin;have Hin2:=Lib.hid hin;clear hin;refine Al (rfdS B C da st td) (.take 0 (.take 1 (.take 2 (.take 3 (.take 4 (.take 5 (.take 6 (.take 7 (.take 8 (.take 9 (.take 10 (.take 11 (.take 12 (.take 13 (.take 14 (.take 15 (.take 16 .done))))))))))))))))) j9 j9 ?_ ?_
         ·exact j06
         intro w3 hs3 hk3;refine jn ?_;have hst3:=Hst2.out.keep hk3;clear hs3;have Hst3:=Lib.hid hst3;clear hst3;refine j07 ?_;intro nce nec c0 c1 c2 c3 cl e0 e1 e2 e3 e4 el f0 f1 f2 f4;have hAt3:=HAt2.out.keep0 hk3;have hol:=Us B x a da w3 hAt3;obtain⟨o,ho⟩:∃o,a.oldB da=o:=⟨_,rfl⟩;rw [ho] at hol;obtain⟨HAt3,Hol,Ho⟩:=hid3 hAt3 hol ho;clear ho hol hAt3;clear d1' d2';go_wp2_with fail;refine Hol.out.mono ?_;rintro e w4 ⟨rfl,hk4⟩;clear nce nec c0 c1 c2 c3 cl e0 e1 e2 e3 e4 el f0 f1 f2 f4;have hst4:=Hst3.out.keep hk4;clear hk4;have Hst4:=Lib.hid hst4;clear hst4;have hin3:a.ee ⟨3,da,tr,am,re⟩=if o=true then 11 else 0:=by rw [Hin2.out];show(if a.oldB da=true then(11:Int) else 0)=_;rw [Ho.out]
         have nce:=(Hst4.out).ce;have nec:¬E=C:=λe=>nce e.symm;have c0:=Aa (Hst4.out).c 0;have c1:=Aa (Hst4.out).c 1;have c2:=Aa (Hst4.out).c 2;have c3:=Aa (Hst4.out).c 3;have cl:=lt_of_block (Hst4.out).c;have e0:=Aa (Hst4.out).e 0;have e1:=Aa (Hst4.out).e 1;have e2:=Aa (Hst4.out).e 2;have e3:=Aa (Hst4.out).e 3;have e4:=Aa (Hst4.out).e 4;have el:=lt_of_block (Hst4.out).e;have f0:=Ab (Hst4.out).e 0;have f1:=Ab (Hst4.out).e 1;have f2:=Ab (Hst4.out).e 2;have f4:=Ab (Hst4.out).e 4;rcases o with _|_
         ·have Hin3:=Lib.hid hin3;clear hin3
          go_upto_region 22 with fail
          clear nce nec c0 c1 c2 c3 cl e0 e1 e2 e3 e4 el f0 f1 f2 f4;refine Al (rfcS C da) (.take 0 (.take 1 (.take 2 (.move 3 (.take 4 (.move 5 .done)))))) j9 j9 ?_ ?_
          ·exact(show rfcS C da w4 from Aa Hst4.out.c 1).keepS (Keeps.drew (S:=λ_=>False) _) (by simp)
          intro w6 hs6 hk6;have hst6:=Hst4.out.keep hk6;refine j47 ?_;intro nce nec c0 c1 c2 c3 cl e0 e1 e2 e3 e4 el f0 f1 f2 f4;refine j48 ?_;refine jc ?_;intro K hK;refine hK.out _ _ (by exact hs6.keepS (Keeps.setCell (S:=λi=>i=E) _ _ _ rfl) nce) ?_;clear hK K;refine ja ?_;refine j48 ?_;refine jc ?_;intro K hK;refine hK.out _ _ (by exact(hs6.keepS (Keeps.setCell (S:=λi=>i=E) _ _ _ rfl) nce).keepS (Keeps.setCell (S:=λi=>i=E) _ _ _ rfl) nce) ?_;clear hK K;refine jt ?_;have hee:a.ee ⟨3,da,tr,am,re⟩=0:=by rw [Hin3.out];rfl
          have heD:=Ac.eD_no (a:=a) (c:=⟨3,da,tr,am,re⟩) (show(3:Int)≠4 by decide);obtain⟨Wz,hWz⟩:∃x,x=(w6.setCell ⟨E,0,none⟩ (.int .i64 3)).setCell ⟨E,1,none⟩ (.int .i64 da):=⟨_,rfl⟩;have hstz:=(hst6.set (y:=⟨3,td,tr,am,0⟩) 0 (.int .i64 3) rfl rfl).set (y:=⟨3,da,tr,am,0⟩) 1 (.int .i64 da) hWz rfl;have hpo:=hstz.done (D:=a.D) (V:= #[.int .i64 3,.int .i64 da,.int .i64 tr,.int .i64 am,.int .i64 0]) Hb.out;clear hs6 hk6;obtain⟨Hstz,Hst6⟩:=hid2 hstz hst6;clear hst6 hstz;refine j0q ?_;intro hev hE0 hR0;obtain⟨Hev,HE0,HR0,Hee,Hpo,HeD⟩:=hid6 hev hE0 hR0 hee hpo heD;clear heD hpo hee hR0 hE0 hev
          go_upto_region 31 with fail
          rw [<-hWz];clear hWz;have hsr:=setRow_heap _ R #[.int .i64 0,.int .i64 0,.int .i64 0,.int .i64 0,.int .i64 0] #[.int .i64 3,.int .i64 da,.int .i64 tr,.int .i64 am,.int .i64 0] 96 _ HR0.out;refine jD ?_;intro sr0 sr1 sr2 sr3 sr4;obtain⟨Hsr,Sr0,Sr1,Sr2,Sr3,Sr4⟩:=hid6 hsr sr0 sr1 sr2 sr3 sr4;clear sr4 sr3 sr2 sr1 sr0 hsr
          go_wp2_with (first|(refine wpList_load_row rfl 96 (.tmp 8) rfl E rfl 96 #[.int .i64 3,.int .i64 da,.int .i64 tr,.int .i64 am,.int .i64 0] _ _ HE0.out Tryz.underlying96 rfl Bl ?_)|(refine wpList_store_row rfl 96 (.tmp 6) (.tmp 137) rfl R #[.int .i64 3,.int .i64 da,.int .i64 tr,.int .i64 am,.int .i64 0] rfl rfl 96 #[.int .i64 0,.int .i64 0,.int .i64 0,.int .i64 0,.int .i64 0] HR0.out Bl rfl (Dm _ _ _ _ _) ?_))
          refine jp ?_;intro R0' R1' R2' R3' R4'
          try rw [Exit.Bq]
          exact bodyPost_ret (v:= .tuple #[.agg #[.int .i64 3,.int .i64 da,.int .i64 tr,.int .i64 am,.int .i64 0],.int .i64 0]) jv rfl ⟨by rw [Hev.out,Hee.out];simp,by rw [HeD.out];exact Hpo.out⟩
         ·have Hin3:=Lib.hid hin3;clear hin3;have hno:=Ac.Jt (Hin3.out) j7;have hpo:=((Hst4.out).done (D:=a.D) (V:= #[.int .i64 0,.int .i64 0,.int .i64 0,.int .i64 0,.int .i64 0]) Hb.out);have hee:=Hin3.out;have hR0:=(Hst4.out).r;obtain⟨Hno,Hpo,Hee,HR0⟩:=hid4 hno hpo hee hR0;clear hR0 hee hpo hno;go_wp2_with fail;go_step3;go_wp2;refine j08 ?_;intro Hsr Sr0 Sr1 Sr2 Sr3 Sr4
          go_wp2_with (refine wpList_store_row rfl 96 (.tmp 6) (.tmp 138) rfl R #[.int .i64 0,.int .i64 0,.int .i64 0,.int .i64 0,.int .i64 0] rfl rfl 96 #[.int .i64 0,.int .i64 0,.int .i64 0,.int .i64 0,.int .i64 0] HR0.out Bl rfl (Dm _ _ _ _ _) ?_)
          refine jp ?_;intro R0' R1' R2' R3' R4';rw [Exit.noGoto_ret];exact bodyPost_ret (v:= .tuple #[.agg #[.int .i64 0,.int .i64 0,.int .i64 0,.int .i64 0,.int .i64 0],.int .i64 11]) jv rfl ⟨by rw [Hno.out.1,Hee.out];rfl,by rw [Hno.out.2];exact Hpo.out⟩
      ·have hin:=Hin.out;rw [if_neg (show¬(4:Int)=1 by decide),if_neg (show¬(4:Int)=3 by decide),if_pos rfl] at hin;obtain⟨nb,hnb⟩:∃z,a.s.p.bal.length=z:=⟨_,rfl⟩;have hnt:=Hn.out.nb;rw [hnb] at hnt;obtain⟨t1,t2⟩:=H3.out;obtain⟨k,hk1⟩:∃k:Nat,(k:Int)=tr-1:=⟨(tr-1).toNat,by omega⟩;obtain⟨y,hy⟩:=Aq (L:=a.s.p.bal) (k:=k) j6;have q3:(tr-1).toNat=k:=j8;have hyD:a.s.p.bal.getD (tr-1).toNat 0=y:=by rw [q3,List.getD_eq_getElem?_getD,hy];rfl
       simp only [hyD] at hin;obtain⟨g,cp,hvp,_⟩:=Ga HAt2.out.bal j6;have hrow:=HAt2.out.bal;rw [hvp] at hrow;have hcy:W2.cell? ⟨g,k,none⟩=some (.int .i64 y):=by have:=Cc Dk hrow hy 0 j7;simpa [i64c] using this
       have q1:(0:Int)<=tr-1:=j8;have hn8:=Hn.out.n8;have q2:tr-1<(nb:Int):=j8;have q4:IntKind.i64.wrap (tr-1)=tr-1:=IntWalk.i64_in _ ⟨by omega,by omega⟩;rw [hnb] at hvp hrow;have hS:=(show opnS B C am tr a.today x.vp g k y W2 from⟨c3,c2,Aa HAt2.out.blk 7,Aa HAt2.out.blk 11,hcy⟩);have hbl:=lt_of_block HAt2.out.blk;have hgl:=Ah hcy;rw [hvp,Htd.out] at hS;clear hcy t2 hnt hn8;obtain⟨Hnb,Hk1,Hy,HyD,Hvp,Hrow,HS⟩:=hid7 hnb hk1 hy hyD hvp hrow hS;clear hS hrow hvp hyD hy hk1 hnb
       go_upto_region 25 with fail
       clear nce nec c0 c1 c2 c3 cl e0 e1 e2 e3 e4 el f0 f1 f2 f4;by_cases d1:y<am
       ·rw [if_pos d1] at hin;have Hin2:=Lib.hid hin;clear hin;refine Al (opnS B C am tr td (.slice (some ⟨g,0,none⟩) nb cp) g k y) (.take 0 (.take 1 (.take 2 (.take 3 (.take 4 (.take 5 (.take 6 (.take 7 (.take 8 (.take 9 (.take 10 (.take 11 (.take 12 .done))))))))))))) j9 j9 ?_ ?_
        ·exact j06
        intro w3 hs3 hk3;refine jn ?_;have hst3:=Hst2.out.keep hk3;clear hk3;have Hst3:=Lib.hid hst3;clear hst3;refine j07 ?_;intro nce nec c0 c1 c2 c3 cl e0 e1 e2 e3 e4 el f0 f1 f2 f4;have hno:=Ac.Jt (Hin2.out) j7;refine j1V ?_;intro hpo;have hee:=Hin2.out;exact j45
       ·rw [if_neg d1] at hin;have Hin2:=Lib.hid hin;clear hin;refine Al (opnS B C am tr td (.slice (some ⟨g,0,none⟩) nb cp) g k y) (.take 0 (.take 1 (.take 2 (.take 3 (.take 4 (.take 5 (.take 6 (.take 7 (.take 8 (.take 9 (.take 10 (.take 11 (.take 12 .done))))))))))))) j9 j9 ?_ ?_
        ·exact j06
        intro w3 hs3 hk3;refine jn ?_;have hst3:=Hst2.out.keep hk3;clear hk3;have Hst3:=Lib.hid hst3;clear hst3;refine j07 ?_;intro nce nec c0 c1 c2 c3 cl e0 e1 e2 e3 e4 el f0 f1 f2 f4;have hop:=fun(W:World) (hW:Keeps (λ_=>False) w W)=>Yn tr td am a.D v b W (Hb.out.keeps hW (by simp));obtain⟨rf,hrf⟩:∃z,Fs a.D tr am=z:=⟨_,rfl⟩;obtain⟨z,hz⟩:∃z,Dq a.D tr am=z:=⟨_,rfl⟩;rw [hrf,hz] at hop;have hFB:¬Foot b v B:=λe=>Hsep.out B e (.inl (.inl rfl));have hFC:¬Foot b v C:=λe=>by have:=Hb.out.lt C e;have:=Hst3.out.lc;omega
        clear d1 q1 q2 q4 q3 t1;have hS5:opcS B C am tr td w3:=⟨hs3.1,hs3.2.1,hs3.2.2.1⟩;clear hs3;obtain⟨Hop,Hrf,Hz,HFB,HFC,HS5⟩:=hid6 hop hrf hz hFB hFC hS5;clear hS5 hFC hFB hz hrf hop
        go_upto_region 26 with fail
        clear nce nec c0 c1 c2 c3 cl e0 e1 e2 e3 e4 el f0 f1 f2 f4;refine Al (opcS B C am tr td) (.take 0 (.take 1 (.take 2 (.take 3 (.take 4 (.take 5 (.take 6 (.take 7 (.take 8 (.move 9 (.take 10 (.take 11 (.take 12 (.take 13 (.move 14 (.take 15 .done)))))))))))))))) j9 j9 ?_ ?_
        ·exact HS5.out.keepS (Keeps.drew (S:=λ_=>False) _) (by simp) (by simp)
        intro w5 hs5 hk5;have hst5:=Hst3.out.keep hk5;have hkw5:=hst5.k;refine je ?_;intro K hK
        go_at_call 172
        ((with_reducible refine(Hop.out w5 hkw5).mono ?_);rintro e w6 hg)
        obtain⟨rfl,v6,hb6,hk6,hf6⟩:=hg;dsimp only;have hst6:=hst5.keepT hk6 Hb.out.lt;refine hK.out _ _ (by exact hs5.keepS hk6 HFB.out HFC.out) ?_;clear hK K;refine jh ?_;refine j47 ?_;intro nce nec c0 c1 c2 c3 cl e0 e1 e2 e3 e4 el f0 f1 f2 f4;have hs6:=hs5.keepS hk6 HFB.out HFC.out;have neB:¬B=E:=λe=>by have:=H.out.lt B (.inl (.inl rfl));have:=hst6.le;omega
        refine jc ?_;intro K hK;refine hK.out _ _ (by exact hs6.keepS (Keeps.setCell (S:=λi=>i=E) _ _ _ rfl) neB nce) ?_;clear hK K;refine jj ?_;obtain⟨W7,hW7⟩:∃x,x=w6.setCell ⟨E,4,none⟩ (.int .i64 rf):=⟨_,rfl⟩;have hst7:=hst6.set (y:=⟨0,td,tr,am,rf⟩) 4 (.int .i64 rf) hW7 rfl;have hk7:Keeps (λi=>i=E) w6 W7:=by rw [hW7];exact(Keeps.refl _ _).setB _ _
        rw [<-hW7];clear hW7;clear nce nec c0 c1 c2 c3 cl e0 e1 e2 e3 e4 el f0 f1 f2 f4;clear hs5 hs6 hkw5 hk5;obtain⟨Hst7,Hst5,Hst6,Hb6,Hk6,Hf6,Hk7⟩:=hid7 hst7 hst5 hst6 hb6 hk6 hf6 hk7;clear hk7 hf6 hk6 hb6 hst6 hst5 hst7;have nce:=(Hst7.out).ce;have nec:¬E=C:=λe=>nce e.symm;have c0:=Aa (Hst7.out).c 0;have c1:=Aa (Hst7.out).c 1;have c2:=Aa (Hst7.out).c 2;have c3:=Aa (Hst7.out).c 3;have cl:=lt_of_block (Hst7.out).c;have e0:=Aa (Hst7.out).e 0;have e1:=Aa (Hst7.out).e 1;have e2:=Aa (Hst7.out).e 2;have e3:=Aa (Hst7.out).e 3;have e4:=Aa (Hst7.out).e 4;have el:=lt_of_block (Hst7.out).e;have f0:=Ab (Hst7.out).e 0;have f1:=Ab (Hst7.out).e 1;have f2:=Ab (Hst7.out).e 2;have f4:=Ab (Hst7.out).e 4;have hiz:a.ee ⟨4,da,tr,am,re⟩=z:=by rw [Hin2.out];exact Hz.out
        by_cases hz0:z=0
        ·subst hz0;have hee:=hiz;have heD:a.eD ⟨4,da,tr,am,re⟩=dOpen a.D tr td am:=by rw [Ac.eD_yes hiz rfl,Htd.out]
         obtain⟨Wz,hWz⟩:∃x,x=W7.setCell ⟨E,0,none⟩ (.int .i64 4):=⟨_,rfl⟩;have hstz:=Hst7.out.set (y:=⟨4,td,tr,am,rf⟩) 0 (.int .i64 4) hWz rfl;have hkz:Keeps (λi=>i=E) w6 Wz:=by rw [hWz];exact Hk7.out.setB _ _
         have hpo:=Hst5.out.doneB (V:= #[.int .i64 4,.int .i64 td,.int .i64 tr,.int .i64 am,.int .i64 rf]) Hb.out Hb6.out Hk6.out Hf6.out hkz;clear hiz;obtain⟨Hstz,Hkz⟩:=hid2 hstz hkz;clear hkz hstz;refine j0q ?_;intro hev hE0 hR0;obtain⟨Hev,HE0,HR0,Hee,Hpo,HeD⟩:=hid6 hev hE0 hR0 hee hpo heD;clear heD hpo hee hR0 hE0 hev
         go_upto_region 31 with fail
         rw [<-hWz];clear hWz;have hsr:=setRow_heap _ R #[.int .i64 0,.int .i64 0,.int .i64 0,.int .i64 0,.int .i64 0] #[.int .i64 4,.int .i64 td,.int .i64 tr,.int .i64 am,.int .i64 rf] 96 _ HR0.out;refine jD ?_;intro sr0 sr1 sr2 sr3 sr4;obtain⟨Hsr,Sr0,Sr1,Sr2,Sr3,Sr4⟩:=hid6 hsr sr0 sr1 sr2 sr3 sr4;clear sr4 sr3 sr2 sr1 sr0 hsr
         go_wp2_with (first|(refine wpList_load_row rfl 96 (.tmp 8) rfl E rfl 96 #[.int .i64 4,.int .i64 td,.int .i64 tr,.int .i64 am,.int .i64 rf] _ _ HE0.out Tryz.underlying96 rfl Bl ?_)|(refine wpList_store_row rfl 96 (.tmp 6) (.tmp 137) rfl R #[.int .i64 4,.int .i64 td,.int .i64 tr,.int .i64 am,.int .i64 rf] rfl rfl 96 #[.int .i64 0,.int .i64 0,.int .i64 0,.int .i64 0,.int .i64 0] HR0.out Bl rfl (Dm _ _ _ _ _) ?_))
         refine jp ?_;intro R0' R1' R2' R3' R4'
         try rw [Exit.Bq]
         exact bodyPost_ret (v:= .tuple #[.agg #[.int .i64 4,.int .i64 td,.int .i64 tr,.int .i64 am,.int .i64 rf],.int .i64 0]) jv rfl ⟨by rw [Hev.out,Hee.out];simp [Htd.out,Hrf.out],by rw [HeD.out];exact Hpo.out⟩
        ·have hne:(z !=0)=true:=by simp [hz0]
         have hDD:dOpen a.D tr td am=a.D:=by unfold dOpen;rw [if_neg (by rw [Hz.out];exact hz0)]
         have hpo7:=Hst5.out.doneB (V:= #[.int .i64 0,.int .i64 0,.int .i64 0,.int .i64 0,.int .i64 0]) Hb.out Hb6.out Hk6.out Hf6.out Hk7.out;rw [hDD] at hpo7;have Hpo7:=Lib.hid hpo7;have Hiz:=Lib.hid hiz;have Hz0:=Lib.hid hz0;clear hpo7 hiz hz0 hDD;have hno:=Ac.Jt (Hiz.out) (Hz0.out);have hpo:=Hpo7.out;have hee:=Hiz.out;have hR0:=(Hst7.out).r;obtain⟨Hno,Hpo,Hee,HR0⟩:=hid4 hno hpo hee hR0;clear hR0 hee hpo hno;go_wp2_with fail;go_step3;go_wp2;refine j08 ?_;intro Hsr Sr0 Sr1 Sr2 Sr3 Sr4
         go_wp2_with (refine wpList_store_row rfl 96 (.tmp 6) (.tmp 138) rfl R #[.int .i64 0,.int .i64 0,.int .i64 0,.int .i64 0,.int .i64 0] rfl rfl 96 #[.int .i64 0,.int .i64 0,.int .i64 0,.int .i64 0,.int .i64 0] HR0.out Bl rfl (Dm _ _ _ _ _) ?_)
         refine jp ?_;intro R0' R1' R2' R3' R4';rw [Exit.noGoto_ret];exact bodyPost_ret (v:= .tuple #[.agg #[.int .i64 0,.int .i64 0,.int .i64 0,.int .i64 0,.int .i64 0],.int .i64 z]) jv rfl ⟨by rw [Hno.out.1,Hee.out];rfl,by rw [Hno.out.2];exact Hpo.out⟩
  ·rw [decide_eq_false h3] at htr;obtain⟨Hst2,HAt2,Htr,H3,H2⟩:=hid5 hst2 hAt2 htr h3 h2;clear h2 h3 htr hAt2 hst2;go_wp2_with fail;rw [<-hW2];clear hW2;clear nce nec c0 c1 c2 c3 cl e0 e1 e2 e3 e4 el f0 f1 f2 f4;refine Htr.out.mono ?_;rintro e w' ⟨rfl,rfl⟩;have hno:=Ac.Jt ((Ac.ee_tr (a:=a) (c:=⟨ki,da,tr,am,re⟩) H2.out H3.out)) j7;refine j0r ?_;intro hpo;have hee:=(Ac.ee_tr (a:=a) (c:=⟨ki,da,tr,am,re⟩) H2.out H3.out);have hR0:=(Hst2.out).r;obtain⟨Hno,Hpo,Hee,HR0⟩:=hid4 hno hpo hee hR0;clear hR0 hee hpo hno;go_wp2_with fail;go_step3;go_wp2;refine j08 ?_;intro Hsr Sr0 Sr1 Sr2 Sr3 Sr4
   go_wp2_with (refine wpList_store_row rfl 96 (.tmp 6) (.tmp 138) rfl R #[.int .i64 0,.int .i64 0,.int .i64 0,.int .i64 0,.int .i64 0] rfl rfl 96 #[.int .i64 0,.int .i64 0,.int .i64 0,.int .i64 0,.int .i64 0] HR0.out Bl rfl (Dm _ _ _ _ _) ?_)
   refine jp ?_;intro R0' R1' R2' R3' R4';rw [Exit.noGoto_ret];exact bodyPost_ret (v:= .tuple #[.agg #[.int .i64 0,.int .i64 0,.int .i64 0,.int .i64 0,.int .i64 0],.int .i64 7]) jv rfl ⟨by rw [Hno.out.1,Hee.out];rfl,by rw [Hno.out.2];exact Hpo.out⟩
def Ac.xev(a:Ac)(c:Cmd):Ev:=if c.kind=5\/c.kind=6 then a.dvt c else a.evt c
def Ac.xz(a:Ac)(c:Cmd):Int:=if c.kind=5\/c.kind=6 then a.de c else a.ee c
def Ac.xD(a:Ac)(c:Cmd):List Disp:=if c.kind=5\/c.kind=6 then dEnd a.D c.ref (c.kind==5) else a.eD c
def Ac.xe(a:Ac)(c:Cmd):Int:=if¬a.xz c=0 then a.xz c else if c.kind=6 then 0 else a.ce (a.xev c)
def Ac.xr(a:Ac)(c:Cmd):Int:=if a.xe c=0/\c.kind=4 then(a.xev c).ref else 0
def Ac.nx(a:Ac)(c:Cmd):Ac:=if c.kind=6 then { a with seq:=a.seq+1 } else a.count (a.xev c)
def Ac.chg(a:Ac)(c:Cmd):Ac:=if¬a.xe c=0 then a else { a.nx c with D:=a.xD c }
theorem Ac.chg_no{a:Ac}{c:Cmd}{z:Int}(h:a.xe c=z)(hz:z≠0):a.chg c=a/\a.xr c=0:=⟨by unfold Ac.chg;rw [h,if_pos hz],by unfold Ac.xr;rw [h,if_neg λe=>hz e.1]⟩
theorem Ac.chg_yes{a:Ac}{c:Cmd}(h:a.xe c=0):a.chg c={ a.nx c with D:=a.xD c }/\a.xr c=if c.kind=4 then(a.xev c).ref else 0:=⟨by unfold Ac.chg;rw [h,if_neg (by decide)],by unfold Ac.xr;rw [h];simp⟩
theorem AcAt.otherT{w:World}{B R:Nat}{x:AcV}{a:Ac}(h:AcAt w B x a){C:Array Value}{t:TypeId}{fz:Nat×Nat}(hR:w.heap[R]?=some (.cells C t fz))(ht:∀s∈ [136,60,90,120,2,215,96,201,132,160],t≠s):∀b,AcF B x b\/x.rd b->¬b=R:=by
 have key:∀{b:Nat} {D:Array Value} {s:TypeId} {fz:Nat×Nat},w.heap[b]?=some (.cells D s fz)->t≠s->¬b=R:=λhb ht e=>by
  subst e;rw [hR] at hb;injection hb with hb;injection hb with _ he _;exact ht he
 simp only [List.mem_cons,List.not_mem_nil,or_false,forall_eq_or_imp,forall_eq] at ht;obtain⟨t1,t2,t3,t4,t5,t6,t7,t8,t9,t10⟩:=ht;rintro b ((rfl|hb|hb)|hb|hb|hb|hb|rfl|hb|hb|(rfl|hb)|⟨y,hy,hb⟩|⟨y,hy,hb⟩) e
 ·exact key h.blk t1 e
 ·exact Ai h.iss hR t2 (e▸hb)
 ·exact Ai h.adj hR t3 (e▸hb)
 ·exact Ai h.trs hR t4 (e▸hb)
 ·exact Ai h.bal hR t5 (e▸hb)
 ·exact Ai h.rts hR t5 (e▸hb)
 ·exact Ai h.now hR t2 (e▸hb)
 ·exact key h.dl.blk t6 e
 ·exact Ai h.dl.trs hR t4 (e▸hb)
 ·exact Ai h.dl.row hR t7 (e▸hb)
 ·exact key h.bk.blk t8 e
 ·exact Ai h.bk.row hR t9 (e▸hb)
 ·exact Ai (h.nln y hy) hR t10 (e▸hb)
 ·exact Ai (h.iln y hy) hR t10 (e▸hb)
theorem AcAt.other{w:World}{B R:Nat}{x:AcV}{a:Ac}(h:AcAt w B x a){C:Array Value}(hR:w.heap[R]?=some (.cells C 62 (0,0))):∀b,AcF B x b\/x.rd b->¬b=R:=h.otherT hR (by decide)
theorem AcAt.book{w W:World}{B b:Nat}{x:AcV}{a:Ac}{v:Value}{D:List Disp}(h:AcAt w B x a)(hb:Cs w b v D)(hf:∀k,Foot b v k->¬AcF B x k)(hW:W=w.setCell ⟨B,10,none⟩ (.pointer (some ⟨b,0,none⟩))):AcAt W B { x with bb:=b,vb:=v } { a with D:=D }:=by
 have hk:Keeps (λi=>i=B) w W:=by rw [hW];exact(Keeps.refl _ _).setB _ _
 have hB:∀i,x.rd i->¬i=B:=λi hi e=>h.sep i hi (.inl e)
 refine⟨by rw [hW];exact heap_setCell_same _ _ 10 _ _ (.pointer (some ⟨b,0,none⟩)) h.blk,hk.row h.trs λi hi=>hB i (.inl hi),h.dl.keepS hk (hB _ (.inr (.inr (.inr (.inr (.inl rfl)))))) (λi hi=>hB i (.inr (.inr (.inr (.inr (.inr (.inl hi))))))) (λi hi=>hB i (.inr (.inr (.inr (.inr (.inr (.inr (.inl hi)))))))),
  hb.keeps hk (λk hk e=>hf k hk (.inl e)),hk.row h.bal λi hi=>hB i (.inr (.inl hi)),hk.row h.rts λi hi=>hB i (.inr (.inr (.inl hi))),hk.row h.now λi hi=>hB i (.inr (.inr (.inr (.inl hi)))),λy hy=>hk.row (h.nln y hy) λi hi=>hB i (.inr (.inr (.inr (.inr (.inr (.inr (.inr (.inr (.inl ⟨y,hy,hi⟩)))))))))
  ,h.ns,hk.row h.iss λi hi e=>h.si i hi (.inl e),λy hy=>hk.row (h.iln y hy) λi hi=>hB i (.inr (.inr (.inr (.inr (.inr (.inr (.inr (.inr (.inr ⟨y,hy,hi⟩))))))))),h.is,hk.row h.adj λi hi e=>h.sa i hi e,⟨h.ok.wk,h.ok.il,h.ok.ill,h.ok.aj,h.ok.s0⟩, ?_,h.si,h.sa⟩
 rintro i (hi|hi|hi|hi|hi|hi|hi|hi|hi|hi) hF
 ·exact h.sep i (.inl hi) hF
 ·exact h.sep i (.inr (.inl hi)) hF
 ·exact h.sep i (.inr (.inr (.inl hi))) hF
 ·exact h.sep i (.inr (.inr (.inr (.inl hi)))) hF
 ·exact h.sep i (.inr (.inr (.inr (.inr (.inl hi))))) hF
 ·exact h.sep i (.inr (.inr (.inr (.inr (.inr (.inl hi)))))) hF
 ·exact h.sep i (.inr (.inr (.inr (.inr (.inr (.inr (.inl hi))))))) hF
 ·exact hf i hi hF
 ·exact h.sep i (.inr (.inr (.inr (.inr (.inr (.inr (.inr (.inr (.inl hi))))))))) hF
 ·exact h.sep i (.inr (.inr (.inr (.inr (.inr (.inr (.inr (.inr (.inr hi))))))))) hF
theorem AcAt.seq1{w W:World}{B:Nat}{x:AcV}{a:Ac}(h:AcAt w B x a)(hW:W=w.setCell ⟨B,8,none⟩ (.int .i64 (a.seq+1))):AcAt W B x { a with seq:=a.seq+1 }:=by
 have hk:Keeps (λi=>i=B) w W:=by rw [hW];exact(Keeps.refl _ _).setB _ _
 have hB:∀i,x.rd i->¬i=B:=λi hi e=>h.sep i hi (.inl e)
 exact⟨by rw [hW];exact heap_setCell_same _ _ 8 _ _ (.int .i64 (a.seq+1)) h.blk,hk.row h.trs λi hi=>hB i (.inl hi),h.dl.keepS hk (hB _ (.inr (.inr (.inr (.inr (.inl rfl)))))) (λi hi=>hB i (.inr (.inr (.inr (.inr (.inr (.inl hi))))))) (λi hi=>hB i (.inr (.inr (.inr (.inr (.inr (.inr (.inl hi)))))))),
  h.bk.keeps hk (λk hk=>hB k (.inr (.inr (.inr (.inr (.inr (.inr (.inr (.inl hk))))))))),hk.row h.bal λi hi=>hB i (.inr (.inl hi)),hk.row h.rts λi hi=>hB i (.inr (.inr (.inl hi))),hk.row h.now λi hi=>hB i (.inr (.inr (.inr (.inl hi)))),λy hy=>hk.row (h.nln y hy) λi hi=>hB i (.inr (.inr (.inr (.inr (.inr (.inr (.inr (.inr (.inl ⟨y,hy,hi⟩)))))))))
  ,h.ns,hk.row h.iss λi hi e=>h.si i hi (.inl e),λy hy=>hk.row (h.iln y hy) λi hi=>hB i (.inr (.inr (.inr (.inr (.inr (.inr (.inr (.inr (.inr ⟨y,hy,hi⟩))))))))),h.is,hk.row h.adj λi hi e=>h.sa i hi e,⟨h.ok.wk,h.ok.il,h.ok.ill,by have h1:=h.ok.aj;show(a.adj.length:Int)<=301000*(a.seq+1);omega,by have:=h.ok.s0;show 0<=a.seq+1;omega⟩,h.sep,h.si,h.sa⟩
theorem Cf.fin{w W2 W3 W4:World}{B b R:Nat}{x:AcV}{a a':Ac}{v:Value}{D:List Disp}{C V:Array Value}(h:AcAt w B x a)(hk:Keeps (λ_=>False) w W2)(hp:Cf W2 B x a' W3)(hb:Cs W2 b v D)(hft:∀k,Foot b v k->w.heap.size<=k)(hR:W2.heap[R]?=some (.cells C 62 (0,0)))(hRw:w.heap.size<=R)(hW:W4=W3.setCell ⟨B,10,none⟩ (.pointer (some ⟨b,0,none⟩))):
  W4.heap[R]?=some (.cells C 62 (0,0))/\Cf w B x { a' with D:=D } (W4.setRow R V):=by
 obtain⟨x',hA,hk3,hf3⟩:=hp;have hlt:∀k,AcF B x k->k<w.heap.size:=λk hk=>h.lt k (.inl hk);have hw:=hk.size
 have hf:∀k,Foot b v k->¬AcF B x' k:=λk hk e=>by
  have h1:=hft k hk;have h2:=hb.lt k hk;rcases hf3.1 k e with h3|h3
  ·have:=hlt k h3;omega
  ·omega
 have hR3:¬AcF B x R:=λe=>by have:=hlt R e;omega
 have hB3:Cs W3 b v D:=hb.keeps hk3 λk hk e=>by have:=hft k hk;have:=hlt k e;omega
 have hA4:=hA.book hB3 hf hW;have hk4:Keeps (λi=>i=B) W3 W4:=by rw [hW];exact(Keeps.refl _ _).setB _ _
 have hR4:=Ad (Ad hR hk3 hR3) hk4 (λe=>hR3 (.inl e));have hkr:=Co W4 R V;refine⟨hR4,_,hA4.keeps hkr λk hk e=>hA4.other hR4 k hk e, ?_,λk hk=> ?_,λk hk=> ?_⟩
 ·refine(hk.mono (by simp)).trans ((hk3.mono λi _ e=> .inl e).trans ((hk4.mono λi _ e=> .inl (.inl (.inl e))).trans (hkr.mono λi _ e=> .inl (.inl (.inr ?_)))));have e':i=R:=e;omega
 ·rcases hf3.1 k hk with h3|h3
  ·exact .inl h3
  ·exact .inr j6
 ·have key:∀k,x'.rd k->x.rd k\/w.heap.size<=k:=λk hk=>(hf3.2 k hk).imp id λe=>by omega
  rcases hk with hk|hk|hk|hk|hk|hk|hk|hk|hk|hk
  ·exact key k (.inl hk)
  ·exact key k (.inr (.inl hk))
  ·exact key k (.inr (.inr (.inl hk)))
  ·exact key k (.inr (.inr (.inr (.inl hk))))
  ·exact key k (.inr (.inr (.inr (.inr (.inl hk)))))
  ·exact key k (.inr (.inr (.inr (.inr (.inr (.inl hk))))))
  ·exact key k (.inr (.inr (.inr (.inr (.inr (.inr (.inl hk)))))))
  ·exact .inr (hft k hk)
  ·exact key k (.inr (.inr (.inr (.inr (.inr (.inr (.inr (.inr (.inl hk)))))))))
  ·exact key k (.inr (.inr (.inr (.inr (.inr (.inr (.inr (.inr (.inr hk)))))))))
theorem Cf.ret{w W0 W:World}{B R:Nat}{x:AcV}{a a':Ac}{C V:Array Value}(h:AcAt w B x a)(hk:Keeps (λ_=>False) w W0)(hp:Cf W0 B x a' W)(hR:W0.heap[R]?=some (.cells C 62 (0,0)))(hRw:w.heap.size<=R):
  W.heap[R]?=some (.cells C 62 (0,0))/\Cf w B x a' (W.setRow R V):=by
 obtain⟨x',hA,hk3,hf3⟩:=hp;have hw:=hk.size;have hR3:¬AcF B x R:=λe=>by have:=h.lt R (.inl e);omega
 have hR4:=Ad hR hk3 hR3;have hkr:=Co W R V;refine⟨hR4,_,hA.keeps hkr λk hk e=>hA.other hR4 k hk e, ?_,λk hk=>(hf3.1 k hk).imp id λh=>by omega,λk hk=>(hf3.2 k hk).imp id λh=>by omega⟩;refine(hk.mono (by simp)).trans ((hk3.mono λi _ e=> .inl e).trans (hkr.mono λi _ e=> .inl (.inr ?_)));have e':i=R:=e;omega
theorem Cf.more{w W W':World}{B:Nat}{x:AcV}{a:Ac}(h:Cf w B x a W)(hk:Keeps (λ_=>False) W W'):Cf w B x a W':=by
 obtain⟨x',hA,hk3,hf3⟩:=h;exact⟨x',hA.keep0 hk,hk3.trans (hk.mono (by simp)),hf3⟩
theorem Cf.box{w W2 W3:World}{B i:Nat}{x:AcV}{a a':Ac}{o:Obj}(h:AcAt w B x a)(hp:Cf W2 B x a' W3)(hb:W2.heap[i]?=some o)(hi:w.heap.size<=i):W3.heap[i]?=some o:=by
 obtain⟨x',hA,hk3,hf3⟩:=hp;exact Ad hb hk3 λe=>by have:=h.lt i (.inl e);omega
theorem Ac.xe_bad{a:Ac}{c:Cmd}{z:Int}(h:a.xz c=z)(hz:¬z=0):a.xe c=z:=by unfold Ac.xe;rw [h,if_pos hz]
theorem Ac.xe_won{a:Ac}{c:Cmd}(h:a.xz c=0)(hk:c.kind=6):a.xe c=0:=by unfold Ac.xe;rw [h,if_neg (by decide),if_pos hk]
theorem Ac.xe_cnt{a:Ac}{c:Cmd}(h:a.xz c=0)(hk:¬c.kind=6):a.xe c=a.ce (a.xev c):=by unfold Ac.xe;rw [h,if_neg (by decide),if_neg hk]
theorem Ac.count_no{a:Ac}{e:Ev}(h:¬a.ce e=0):a.count e=a:=by unfold Ac.count;rw [if_neg h]
theorem Adh(B:Nat)(x:AcV)(a:Ac)(c:Cmd)(b:Nat)(v:Value)(w:World)(h:AcAt w B x a)(hb:Cs w b v a.D)(hsep:∀k,Foot b v k->¬(AcF B x k\/x.rd k))(hk:1<=c.kind/\c.kind<=7):
  ((c.kind=5\/c.kind=6)->Calls Tryz.prog 135 #[(.pointer (some ⟨B,0,none⟩)),.agg #[.int .i64 c.kind,.int .i64 c.day,.int .i64 c.tranche,.int .i64 c.amount,.int .i64 c.ref],(.pointer (some ⟨b,0,none⟩))] w (Ux w b v (a.xD c) (a.xev c) (a.xz c)))/\
  (¬(c.kind=5\/c.kind=6)->Calls Tryz.prog 134 #[(.pointer (some ⟨B,0,none⟩)),.agg #[.int .i64 c.kind,.int .i64 c.day,.int .i64 c.tranche,.int .i64 c.amount,.int .i64 c.ref],(.pointer (some ⟨b,0,none⟩))] w (Ux w b v (a.xD c) (a.xev c) (a.xz c))):=by
 unfold Ac.xD Ac.xev Ac.xz;refine⟨λh5=> ?_,λh5=> ?_⟩
 ·rw [if_pos h5,if_pos h5,if_pos h5];exact Zh B x a c b v w h hb hsep h5
 ·rw [if_neg h5,if_neg h5,if_neg h5];exact Zg B x a c b v w h hb hsep j6
def acT(B:Nat)(t:Tm)(vt:Value)(td:Int)(w:World):Prop:=tbS B t vt w/\w.cell? ⟨B,7,none⟩=some (.int .i64 td)
theorem acT.keep{B:Nat}{t:Tm}{vt:Value}{td:Int}{w w':World}(h:acT B t vt td w)(hk:Keeps (λ_=>False) w w'):acT B t vt td w':=⟨h.1.keep hk,(hk.cell (Ah h.2) (by simp)).trans h.2⟩
theorem acT.of{w:World}{B:Nat}{x:AcV}{a:Ac}(h:AcAt w B x a):acT B a.t x.vt a.today w:=
 ⟨⟨Aa h.blk 0,Aa h.blk 1,Aa h.blk 2,Aa h.blk 3,Aa h.blk 4,Aa h.blk 5,Aa h.blk 6⟩,Aa h.blk 7⟩
def CnRun(W2:World)(n:Nat)(Z:St×Int)(p r q z:Value)(wx:World):Prop:=∃(b7:Nat) (vb vr vo:Value) (cr du zz:Int),p=(.pointer (some ⟨b7,0,none⟩))/\z= .int .i64 zz/\vr=r/\vo=q/\W2.heap.size<=b7/\Keeps (λ_=>False) W2 wx/\wx.heap[b7]?=some (.cells #[vb,.int .i64 cr,.int .i64 du] 52 (0,0))/\RunIs W2 n Z wx vb cr du r q zz/\∃a m c,vb= .slice a m c
theorem Ed.up{w w2 W:World}{n:Nat}{s:St}{vb vr vo:Value}{P:List SV}(h:Ed w2 n s vb vr vo P W)(hk:Keeps (λ_=>False) w w2):Ed w n s vb vr vo P W:=
 ⟨h.bal,h.rts,h.out,h.ln,h.lp,h.nb,h.nr,λb hb=>by have:=h.wb b hb;have:=hk.size;omega,λb hb=>by have:=h.wr b hb;have:=hk.size;omega,λb hb=>by have:=h.wo b hb;have:=hk.size;omega,λx hx b hb=>by have:=h.wl x hx b hb;have:=hk.size;omega,hk.nt h.kp⟩
theorem RunIs.up{w w2:World}{m:Nat}{Z:St×Int}{W:World}{vb vr vo:Value}{cr du z:Int}(h:RunIs w2 m Z W vb cr du vr vo z)(hk:Keeps (λ_=>False) w w2):RunIs w m Z W vb cr du vr vo z:=by
 cases h with
 |ok e g=>exact .ok e (g.up hk)
 |bad e=>exact .bad e
theorem ce_add{a:Ac}{e:Ev}(h:¬Ep a.t a.L e=0):a.ce e=Ep a.t a.L e/\a.count e=a:=by
 have h1:a.ce e=Ep a.t a.L e:=by unfold Ac.ce;rw [if_pos h]
 exact⟨h1,by unfold Ac.count;rw [h1,if_neg h]⟩
theorem ce_run{a:Ac}{e:Ev}(h:Ep a.t a.L e=0)(h2:¬(a.cz e).2=0):a.ce e=(a.cz e).2/\a.count e=a:=by
 have h1:a.ce e=(a.cz e).2:=by unfold Ac.ce;rw [if_neg j6,if_pos h2]
 exact⟨h1,by unfold Ac.count;rw [h1,if_neg h2]⟩
def cbS(B:Nat)(sq:Int)(vn:Value)(w:World):Prop:=w.cell? ⟨B,8,none⟩=some (.int .i64 sq)/\w.cell? ⟨B,15,none⟩=some vn
theorem cbS.keep{B:Nat}{sq:Int}{vn:Value}{w w':World}(h:cbS B sq vn w)(hk:Keeps (λ_=>False) w w'):cbS B sq vn w':=⟨(hk.cell (Ah h.1) (by simp)).trans h.1,(hk.cell (Ah h.2) (by simp)).trans h.2⟩
theorem ce_bad{a:Ac}{e:Ev}(h:Ep a.t a.L e=0)(h2:(a.cz e).2=0)(h3:¬(a.cb e).1=0):a.ce e=(a.cb e).1/\a.count e=a:=by
 have h1:a.ce e=(a.cb e).1:=by unfold Ac.ce;rw [if_neg j6,if_neg j6]
 exact⟨h1,by unfold Ac.count;rw [h1,if_neg h3]⟩
theorem ce_good{a:Ac}{e:Ev}(h:Ep a.t a.L e=0)(h2:(a.cz e).2=0)(h3:(a.cb e).1=0):a.ce e=0/\a.count e={ a with L:=putL a.L e,s:=(a.cz e).1,adj:=a.adj++(a.cb e).2,seq:=a.seq+1 }:=by
 have h1:a.ce e=0:=by unfold Ac.ce;rw [if_neg j6,if_neg j6,h3]
 exact⟨h1,by unfold Ac.count;rw [h1,if_pos rfl]⟩
def b7S(b7:Nat)(vb:Value)(cr du:Int)(w:World):Prop:=w.cell? ⟨b7,0,none⟩=some vb/\w.cell? ⟨b7,1,none⟩=some (.int .i64 cr)/\w.cell? ⟨b7,2,none⟩=some (.int .i64 du)
theorem b7S.keep{b7:Nat}{vb:Value}{cr du:Int}{w w':World}{S:Nat->Prop}(h:b7S b7 vb cr du w)(hk:Keeps S w w')(hS:¬S b7):b7S b7 vb cr du w':=⟨(hk.cell (Ah h.1) hS).trans h.1,(hk.cell (Ah h.2.1) hS).trans h.2.1,(hk.cell (Ah h.2.2) hS).trans h.2.2⟩
theorem AcAt.counted{w wc Wf W2:World}{B B1 n M:Nat}{x:AcV}{a:Ac}{L1:List Ev}{Z:St×Int}{r2:List Adj}{v2 vp vr vn va:Value}{P:List SV}(h:AcAt w B x a)(hkc:Keeps (λ_=>False) w wc)(hk2:Keeps (λ_=>False) w W2)(hk2c:Keeps (λ_=>False) W2 wc)
  (hK:Keeps (λi=>i=B\/x.va.ownBlock=some i) wc Wf) (hdl:DL W2 B1 a.t x.vtl L1 v2) (hB1:w.heap.size<=B1) (hv2:∀b,v2.ownBlock=some b->w.heap.size<=b) (hN:a.t.trs.length=n) (hZ:walkR a.t L1 a.today=Z) (hz:Z.2=0) (g:Ed W2 n Z.1 vp vr vn P wc)
  (hbet:betS (a.seq+1) a.s.out Z.1.out=(0,r2)) (hb:Wf.heap[B]?=some (.cells #[.int .i64 a.t.limit,x.vt,.int .i64 a.t.cyc,.int .i64 a.t.due,.int .i64 a.t.minFixed,.int .i64 a.t.minPart,.int .i64 a.t.start,.int .i64 a.today,.int .i64 (a.seq+1),(.pointer (some ⟨B1,0,none⟩)),(.pointer (some ⟨x.bb,0,none⟩)),vp,.int .i64 Z.1.p.cr,.int .i64 Z.1.p.du,vr,vn,x.vi,va] 136 (0,0)))
  (hra:Wf.ownsRow 0 90 9 va (a.adj++r2).length ((a.adj++r2).flatMap Adj.cells)) (hM1:wc.heap.size<=M) (hva:∀b,va.ownBlock=some b->x.va.ownBlock=some b\/M<=b):
  Cf w B x { a with L:=L1,s:=Z.1,adj:=a.adj++r2,seq:=a.seq+1 } Wf:=by
 have hA:=h.keep0 hkc;have hBl:=lt_of_block h.blk;have hval:∀b,x.va.ownBlock=some b->b<w.heap.size:=λb hb=>rowLt h.adj hb;have hsz:=hk2.size;have hszc:=hkc.size;have hsz2c:=hk2c.size;have hZ1:Z=(Z.1,0):=by rw [<-hz]
 have hnum:=h.ok.nums
 have hr2:r2.length<=300300:=by
  have:=betS_le (seq:=a.seq+1) (L:=a.s.out) (M:=Z.1.out) λy hy=>by have:=hnum.ol y hy;have:=hnum.n8;omega
  rw [hbet] at this;have:=hnum.o3;simp only at *;omega
 have hok:AcOk { a with L:=L1,s:=Z.1,adj:=a.adj++r2,seq:=a.seq+1 }:=by
  refine⟨by show walkR a.t L1 a.today=(Z.1,0);rw [hZ];exact hZ1, ?_,h.ok.ill, ?_,by have:=h.ok.s0;show 0<=a.seq+1;omega⟩
  ·have:=betS_len (seq:=a.seq+1) (L:=a.s.out) (M:=Z.1.out) (by rw [hbet]);show a.iss.length=Z.1.out.length;rw [h.ok.il,this]
  ·have:=h.ok.aj;show((a.adj++r2).length:Int)<=301000*(a.seq+1);rw [List.length_append];omega
 have nwo:∀b,w.heap.size<=b->¬(b=B\/x.va.ownBlock=some b):=λb hb e=>by
  rcases e with e|e
  ·omega
  ·have:=hval b e;omega
 have nw:∀b,W2.heap.size<=b->¬(b=B\/x.va.ownBlock=some b):=λb hb=>nwo b j6;have hdc:=hdl.keep hk2c;have hold:∀b,x.rd b->¬(b=B\/x.va.ownBlock=some b):=λb hb e=>h.sep b hb (e.imp id .inr)
 have hrd:∀b,AcV.rd ({ x with vl:=v2,bl:=B1,vp:=vp,vr:=vr,vn:=vn,va:=va,P:=P }:AcV) b->x.rd b\/(w.heap.size<=b/\b<M):=by
  rintro b (hb|hb|hb|hb|hb|hb|hb|hb|⟨y,hy,hb⟩|⟨y,hy,hb⟩)
  ·exact .inl (.inl hb)
  ·have:=g.wb b hb;have:=rowLt g.bal hb;exact .inr ⟨by omega,by omega⟩
  ·have:=g.wr b hb;have:=rowLt g.rts hb;exact .inr ⟨by omega,by omega⟩
  ·have:=g.wo b hb;have:=rowLt g.out hb;exact .inr ⟨by omega,by omega⟩
  ·have hb':b=B1:=hb;subst hb';have:=lt_of_block hdc.blk;exact .inr ⟨by omega,by omega⟩
  ·exact j1W
  ·have:=hv2 b hb;have:=rowLt hdc.row hb;exact .inr ⟨by omega,by omega⟩
  ·exact .inl (.inr (.inr (.inr (.inr (.inr (.inr (.inr (.inl hb))))))))
  ·have:=g.wl y hy b hb;have:=rowLt (g.ln y hy) hb;exact .inr ⟨by omega,by omega⟩
  ·exact .inl (.inr (.inr (.inr (.inr (.inr (.inr (.inr (.inr (.inr ⟨y,hy,hb⟩)))))))))
 have haf:∀b,AcF B ({ x with vl:=v2,bl:=B1,vp:=vp,vr:=vr,vn:=vn,va:=va,P:=P }:AcV) b->AcF B x b\/M<=b:=by
  rintro b (hb|hb|hb)
  ·exact .inl (.inl hb)
  ·exact .inl (.inr (.inl hb))
  ·exact(hva b hb).imp (λe=> .inr (.inr e)) id
 obtain⟨h1,h2⟩:=AcAt.build (x':={ x with vl:=v2,bl:=B1,vp:=vp,vr:=vr,vn:=vn,va:=va,P:=P }) (a':={ a with L:=L1,s:=Z.1,adj:=a.adj++r2,seq:=a.seq+1 }) h M j6 ((hkc.mono (by simp)).trans (hK.mono λi _ e=> .inl (e.imp id .inr))) rfl rfl hb
  (hdc.keepS hK (nwo B1 hB1) (λb hb=>hold b (.inr (.inr (.inr (.inr (.inr (.inl hb))))))) (λb hb=>nwo b (hv2 b hb)))
  (hA.bk.keeps hK λb hb=>hold b (.inr (.inr (.inr (.inr (.inr (.inr (.inr (.inl hb)))))))))
  j49 j4a (hK.row g.out λb hb=>nw b (g.wo b hb)) (λy hy=>hK.row (g.ln y hy) λb hb=>nw b (g.wl y hy b hb)) g.lp
  (hK.row hA.iss λb hb=>h.si b hb) (λy hy=>hK.row (hA.iln y hy) λb hb=>hold b (.inr (.inr (.inr (.inr (.inr (.inr (.inr (.inr (.inr ⟨y,hy,hb⟩)))))))))) hA.is hra hok hrd haf
 exact⟨_,h1,(hkc.mono (by simp)).trans (hK.mono λi _ e=> .inl (e.imp id .inr)),h2⟩
theorem Zi(B:Nat)(x:AcV)(a:Ac)(e:Ev)(w:World)(h:AcAt w B x a)(hs:a.seq<=100000):Calls Tryz.prog 136 #[(.pointer (some ⟨B,0,none⟩)),.agg #[.int .i64 e.kind,.int .i64 e.day,.int .i64 e.tranche,.int .i64 e.amount,.int .i64 e.ref]] w λr w'=>r= .returned (.int .i64 (a.ce e))/\Cf w B x (a.count e) w':=by
 obtain⟨i0,hi,hi0,hi1,hi2⟩:=info_parts Gr;have hn:=h.ok.nums;have hfk:=λW (hW:Keeps (λ_=>False) w W)=>Rk x.bl a.t x.vtl x.vl a.L W (h.dl.keep hW) (by have:=hn.ll;omega);obtain⟨W0,hW0⟩:∃x,x=w.alloc (.cells #[.int .i64 e.kind,.int .i64 e.day,.int .i64 e.tranche,.int .i64 e.amount,.int .i64 e.ref] 96):=⟨_,rfl⟩;have hb0:W0.heap[w.heap.size]?=some (.cells #[.int .i64 e.kind,.int .i64 e.day,.int .i64 e.tranche,.int .i64 e.amount,.int .i64 e.ref] 96 (0,0)):=by rw [hW0];exact heap_alloc_new w _
 have hk0:Keeps (λ_=>False) w W0:=by rw [hW0];exact Keeps.alloc _ _
 have c9:w.cell? ⟨B,9,none⟩=some (.pointer (some ⟨x.bl,0,none⟩)):=Aa h.blk 9;have HBl:=Lib.hid (lt_of_block h.blk);have hbl:=lt_of_block h.blk;obtain⟨H,Hn,Hfk,Hb0,Hk0,Hi,Hi0,Hi1,Hi2⟩:=hid9 h hn hfk hb0 hk0 hi hi0 hi1 hi2;clear hi2 hi1 hi0 hi hk0 hb0 hfk hn h;go_enter Tryz.func136,Tryz.ntmps136;go_wp2_with fail;rw [<-hW0];clear hW0;refine(Hfk.out _ Hk0.out).mono ?_;intro r w1 hf1;obtain⟨B1,v1,rfl,hdl1,hk1,hB1,hv1⟩:=hf1;have hb1:=Ad Hb0.out hk1 (by simp);have hkw1:=Hk0.out.nt hk1;have hsz0:=Hk0.out.size;have e0:=Aa hb1 0;have e1:=Aa hb1 1;have e2:=Aa hb1 2;have e3:=Aa hb1 3;have e4:=Aa hb1 4;have el:=lt_of_block hb1;have had:=Ad7 B1 a.t x.vtl v1 a.L e w1 hdl1 (by have:=Hn.out.ll;omega) (by have:=Hn.out.n8;omega);simp only [Ev.agg] at had;obtain⟨Hdl1,Hk1,Hb1,Hkw1,Had,HB1,Hv1⟩:=hid7 hdl1 hk1 hb1 hkw1 had hB1 hv1;clear hv1 hB1 had hkw1 hb1 hk1 hdl1;clear c9;go_wp2_with fail;refine Had.out.mono ?_;intro r w2 hpo;obtain⟨rfl,v2,hdl2,hk2,hf2⟩:=hpo;obtain⟨z,hz⟩:∃z,Ep a.t a.L e=z:=⟨_,rfl⟩;rw [hz]
 have hkw2:Keeps (λ_=>False) w w2:=Hkw1.out.trans (hk2.mono λi _ e=> .inr (by
  rcases e with e|e
  ·have e':i=B1:=e;have:=HB1.out;omega
  ·have:=Hv1.out i e;omega))
 clear e0 e1 e2 e3 e4 el;by_cases h0:z=0
 ·subst h0;have hdl2':DL w2 B1 a.t x.vtl (putL a.L e) v2:=by unfold addL at hdl2;rw [if_pos hz] at hdl2;exact hdl2
  obtain⟨L1,hL1⟩:∃L,putL a.L e=L:=⟨_,rfl⟩;rw [hL1] at hdl2';have hL1l:L1.length<=3000:=by rw [<-hL1,Li];have:=Hn.out.ll;omega
  obtain⟨n,hN⟩:∃n,a.t.trs.length=n:=⟨_,rfl⟩;obtain⟨Z,hZ⟩:∃Z,walkR a.t L1 a.today=Z:=⟨_,rfl⟩;obtain⟨adt,ct,hvt,_,_⟩:=Ae H.out.trs;have hrt:=Reads.Az H.out.trs;rw [hN] at hvt hrt;obtain⟨t,ht⟩:∃t,a.t=t:=⟨_,rfl⟩;obtain⟨td,htd⟩:∃d,a.today=d:=⟨_,rfl⟩;rw [ht,htd] at hZ;rw [ht] at hdl2' hN hrt;rw [hvt] at hrt;have hall:=λW (hW:Keeps (λ_=>False) w2 W)=>Uh B1 t x.vtl v2 L1 W (hdl2'.keep hW) j6;have hrun:=λW (hW:Keeps (λ_=>False) w2 W) ad c (hr:Reads W 5 (.slice ad L1.length c) L1.length (L1.flatMap Ev.cells))=>Nt t adt ct n L1 ad c L1.length td W hN (hrt.keeps (hkw2.nt hW) (by simp)) rfl hr j6 (by have:=Hn.out.n8;rw [ht,hN] at this;omega);rw [hZ] at hrun;have hSk:∀W,Keeps (λ_=>False) w2 W->acT B t (.slice adt n ct) td W:=λW hW=>by have:=acT.of (H.out.keep0 (hkw2.nt hW));rw [ht,htd,hvt] at this;exact this
  obtain⟨W2,hW2⟩:∃W,W=w2:=⟨_,rfl⟩;subst hW2;have HBl2:=Lib.hid (Nat.lt_of_lt_of_le HBl.out hkw2.size);clear HBl;have HBl:=HBl2;clear HBl2;obtain⟨Hz,Hdl2,Hk2,Hf2,Hkw2,Hdl2',HL1,HL1l,HN⟩:=hid9 hz hdl2 hk2 hf2 hkw2 hdl2' hL1 hL1l hN;clear hN hL1l hL1 hdl2' hkw2 hf2 hk2 hdl2 hz;obtain⟨HZ,Hvt,Hrt,Ht,Htd,Hall,Hrun,HSk⟩:=hid8 hZ hvt hrt ht htd hall hrun hSk;clear hSk hrun hall htd ht hrt hvt hZ
  go_upto_region 5 with fail
  go_cut [7,8,9,10] (λp r q z wx=>CnRun W2 n Z p r q z wx)
  case first=>
   refine Al (acT B t (.slice adt n ct) td) (.take 0 (.take 1 (.take 2 (.take 3 (.take 4 (.take 6 (.take 7 (.take 8 (.take 9 (.fork 5 (.fork 10 (.take 11 (.take 12 (.take 13 (.take 14 (.take 15 (.move 16 (.move 17 (.take 18 (.take 19 (.take 20 .done)))))))))) 16 (.move 10 (.take 11 (.take 12 (.take 13 (.take 14 (.take 15 (.move 17 (.take 18 (.take 19 (.take 20 .done))))))))))) 16 (.move 5 (.move 10 (.take 11 (.take 12 (.take 13 (.take 14 (.take 15 (.move 17 (.take 18 (.take 19 (.take 20 .done))))))))))))))))))))) j9 j9 ?_ ?_
   ·exact HSk.out _ (Keeps.drew _)
   intro w3 hs3 hk3;refine jw ?_;refine Dn ?_ ?_ (HSk.out _ hk3)
   ·skip
    refine jc ?_;intro K hK
    go_at_call 96
    ((with_reducible refine(Hall.out w3 hk3).mono ?_);rintro e w4 hg)
    obtain⟨v',rfl,hrd,hkg,hng⟩:=hg;obtain⟨ae,ce,rfl,_⟩:=id hrd;dsimp only;have hkn:Keeps (λ_=>False) W2 w4:=Keeps.nt hk3 hkg;refine hK.out _ _ j0W ?_;clear hK K;refine ja ?_;refine jw ?_;refine Dn ?_ ?_ (HSk.out _ hkn)
    ·skip
     refine jc ?_;intro K hK
     go_at_call 108
     ((with_reducible refine(Hrun.out w4 hkn ae ce hrd).mono ?_);intro e w5 hpo)
     obtain⟨vb2,cr2,du2,vr2,vo2,z2,rfl,hi2,hk7,a2,n2,c2,rfl⟩:=Qg hpo;clear hpo;refine j0X ?_;intro hkr;clear hK K;refine ja ?_;refine jw ?_;obtain⟨w8,hw8⟩:∃x,x=(w5).alloc (.cells #[.slice none 0 0,.int .i64 0,.int .i64 0] 52):=⟨_,rfl⟩;obtain⟨b7,hb7⟩:∃x,x=(w5).heap.size:=⟨_,rfl⟩;have hkA:Keeps (λ_=>False) w5 w8:=by rw [hw8];exact Keeps.alloc _ _
     have hz8:(w8).heap[b7]?=some (.cells #[.slice none 0 0,.int .i64 0,.int .i64 0] 52 (0,0)):=by rw [hw8,hb7];exact heap_alloc_new _ _
     have hb7l:W2.heap.size<=b7:=by rw [hb7];exact(hkr).size
     have hka8:Keeps (λ_=>False) W2 w8:=Keeps.nt hkr hkA;have hb7B:¬B=b7:=λe=>by have:=HBl.out;omega
     have hb7w:(w5).heap.size<=b7:=by rw [hb7];exact Nat.le_refl _
     refine jc ?_;intro K hK;rw [<-hw8,<-hb7];clear hw8 hb7;refine j09 ?_;clear hK K;refine ja ?_;refine jw ?_;refine j4b ?_;intro hlz z0 z1 z2' zf0 zf1 zf2 hbz hkz hk4z hrel;exact j1X
    ·skip
     obtain⟨w8,hw8⟩:∃x,x=(w4).alloc (.cells #[.slice none 0 0,.int .i64 0,.int .i64 0] 52):=⟨_,rfl⟩;obtain⟨b7,hb7⟩:∃x,x=(w4).heap.size:=⟨_,rfl⟩;have hkA:Keeps (λ_=>False) w4 w8:=by rw [hw8];exact Keeps.alloc _ _
     have hz8:(w8).heap[b7]?=some (.cells #[.slice none 0 0,.int .i64 0,.int .i64 0] 52 (0,0)):=by rw [hw8,hb7];exact heap_alloc_new _ _
     have hb7l:W2.heap.size<=b7:=by rw [hb7];exact(hkn).size
     have hka8:Keeps (λ_=>False) W2 w8:=Keeps.nt hkn hkA;have hb7B:¬B=b7:=λe=>by have:=HBl.out;omega
     have hb7w:(w4).heap.size<=b7:=by rw [hb7];exact Nat.le_refl _
     refine jc ?_;intro K hK;rw [<-hw8,<-hb7];clear hw8 hb7;refine j09 ?_;clear hK K;refine ja ?_;refine jw ?_;have hrd8:=hrd.keeps hkA (by simp);refine jc ?_;intro K hK
     go_at_call 108
     ((with_reducible refine(Hrun.out w8 hka8 ae ce hrd8).mono ?_);intro e w5 hpo)
     obtain⟨vb2,cr2,du2,vr2,vo2,z2,rfl,hi2,hk7,a2,n2,c2,rfl⟩:=Qg hpo;clear hpo;dsimp only;have hkr:Keeps (λ_=>False) W2 w5:=Keeps.nt hka8 hk7;refine hK.out _ _ (by exact HSk.out _ hkr) ?_;clear hK K;refine ja ?_;have hz5:=Ad hz8 hk7 (by simp);have hl8:=lt_of_block hz8;refine jw ?_;refine j0Y ?_;intro hlz z0 z1 z2' zf0 zf1 zf2 hbz hkz hk4z;refine j4c ?_;intro hrel;exact j1X
   ·skip
    obtain⟨w8,hw8⟩:∃x,x=(w3).alloc (.cells #[.slice none 0 0,.int .i64 0,.int .i64 0] 52):=⟨_,rfl⟩;obtain⟨b7,hb7⟩:∃x,x=(w3).heap.size:=⟨_,rfl⟩;have hkA:Keeps (λ_=>False) w3 w8:=by rw [hw8];exact Keeps.alloc _ _
    have hz8:(w8).heap[b7]?=some (.cells #[.slice none 0 0,.int .i64 0,.int .i64 0] 52 (0,0)):=by rw [hw8,hb7];exact heap_alloc_new _ _
    have hb7l:W2.heap.size<=b7:=by rw [hb7];exact(hk3).size
    have hka8:Keeps (λ_=>False) W2 w8:=Keeps.nt hk3 hkA;have hb7B:¬B=b7:=λe=>by have:=HBl.out;omega
    have hb7w:(w3).heap.size<=b7:=by rw [hb7];exact Nat.le_refl _
    refine jc ?_;intro K hK;rw [<-hw8,<-hb7];clear hw8 hb7;refine j09 ?_;clear hK K;refine ja ?_;refine jw ?_;refine jc ?_;intro K hK
    go_at_call 96
    ((with_reducible refine(Hall.out w8 hka8).mono ?_);rintro e w4 hg)
    obtain⟨v',rfl,hrd,hkg,hng⟩:=hg;obtain⟨ae,ce,rfl,_⟩:=id hrd;dsimp only;have hkn:Keeps (λ_=>False) W2 w4:=Keeps.nt hka8 hkg;refine hK.out _ _ j0W ?_;clear hK K;refine ja ?_;have hz4:=Ad hz8 hkg (by simp);have hl4:=lt_of_block hz4;refine jw ?_;refine jc ?_;intro K hK
    go_at_call 108
    ((with_reducible refine(Hrun.out w4 hkn ae ce hrd).mono ?_);intro e w5 hpo)
    obtain⟨vb2,cr2,du2,vr2,vo2,z2,rfl,hi2,hk7,a2,n2,c2,rfl⟩:=Qg hpo;clear hpo;refine j0X ?_;intro hkr;clear hK K;refine ja ?_;have hz5:=Ad hz4 hk7 (by simp);refine jw ?_;refine j0Y ?_;intro hlz z0 z1 z2' zf0 zf1 zf2 hbz hkz hk4z;refine j4d ?_;intro hrel;exact j1X
  obtain⟨b7,vb,vr,vo,cr,du,zz,rfl,rfl,rfl,rfl,hb7,hk7,hbx7,hi7,av,mv,cv,rfl⟩:=hcut;have hcz:a.cz e=Z:=by unfold Ac.cz;rw [HL1.out,Ht.out,Htd.out];exact HZ.out
  have hkw7:=Hkw2.out.nt hk7;have hk7':=hk7
  cases hi7 with
  |bad hz7=>
   obtain⟨zz,hzz⟩:∃zz,Z.2=zz:=⟨_,rfl⟩;rw [hzz] at hz7⊢;have hne:(zz !=0)=true:=by simp [hz7]
   have hc:=ce_run Hz.out (by rw [hcz,hzz];exact hz7);rw [hcz,hzz] at hc;have hend:=Cf.same H.out hkw7;obtain⟨Hzz,Hz7,Hc,Hend,Hkw7,Hcz,Hk7,Hk7',Hbx7⟩:=hid9 hzz hz7 hc hend hkw7 hcz hk7 hk7' hbx7;clear hbx7 hk7' hk7 hcz hkw7 hend hc hz7 hzz;go_wp2;go_ret;exact⟨by rw [Hc.out.1];rfl,by rw [Hc.out.2];exact Hend.out⟩
  | @ok _ _ _ P hz7 g=>
   have hA:=H.out.keep0 hkw7;obtain⟨adn,cn,hvn,hstm,hPl⟩:=hA.stmN;obtain⟨ao,co,rfl,_,_⟩:=Ae g.out;obtain⟨ar,cr2,rfl,_,_⟩:=Ae g.rts;obtain⟨o1,o2,_,_⟩:=Mh HZ.out hz7;have hPP:P.length<=300:=by rw [show P.length=Z.1.out.length from by rw [<-g.lp,List.length_map]];exact o2
   have hll:∀y∈P,y.s.lines.length<=1000:=λy hy=>by
    exact j4e
   obtain⟨sq,hsq⟩:∃s,a.seq=s:=⟨_,rfl⟩;have hs0:=H.out.ok.s0;rw [hsq] at hs hs0;obtain⟨rr,hrr⟩:∃r,betS (sq+1) a.s.out Z.1.out=r:=⟨_,rfl⟩;have hcb:a.cb e=rr:=by unfold Ac.cb;rw [hcz,hsq];exact hrr
   have hbet:=λW (hW:Keeps (λ_=>False) wc W)=>Uq (sq+1) adn ao cn co x.P P W (hstm.row.keeps hW (by simp)) ((Reads.Az g.out).keeps hW (by simp)) j6 j6 (λy hy=>⟨(hstm.ln y hy).keeps hW (by simp),hstm.ll y hy⟩) (λy hy=>⟨(Reads.Az (g.ln y hy)).keeps hW (by simp),hll y hy⟩) rr (by have:=betw_S (sq+1) x.P P;rw [hA.ns,g.lp,hrr] at this;exact this)
   have hcS:∀W,Keeps (λ_=>False) wc W->cbS B sq (.slice adn x.P.length cn) W:=λW hW=>by
    have hA2:=hA.keep0 hW;exact⟨by rw [<-hsq];exact Aa hA2.blk 8,by rw [<-hvn];exact Aa hA2.blk 15⟩
   have q4:IntKind.i64.wrap (sq+1)=sq+1:=IntWalk.i64_in _ ⟨by omega,by omega⟩;obtain⟨r1,r2⟩:=rr;have q5:(0:Int)<=sq+1:=j8;obtain⟨Hz7,Hcz,Hkw7,Hk7,Hk7',Hbx7,G,HA,Hvn⟩:=hid9 hz7 hcz hkw7 hk7 hk7' hbx7 g hA hvn;clear hvn hA g hbx7 hk7' hk7 hkw7 hcz hz7;obtain⟨Hstm,Hll,Hrr,Hcb,Hbet,HcS,Hsq,O1⟩:=hid8 hstm hll hrr hcb hbet hcS hsq o1;clear o1 hsq hcS hbet hcb hrr hll hstm
   go_upto_region 8 with fail
   refine Al (cbS B sq (.slice adn x.P.length cn)) (.take 0 (.take 1 (.take 2 (.take 3 (.take 4 (.take 5 (.take 6 (.take 7 (.take 8 (.take 9 (.move 10 (.take 11 (.take 12 (.take 13 (.take 14 (.take 15 .done)))))))))))))))) j9 j9 ?_ ?_
   ·exact HcS.out _ (Keeps.drew _)
   intro w9 hs9 hk9;refine jR ?_;refine Ag rfl (λK hK=> ?_);go_simp
   go_at_call 175
   ((with_reducible refine(Hbet.out w9 hk9).mono ?_);rintro e w10 hg)
   obtain⟨va,rfl,hrowa,hfra⟩:=hg;dsimp only;have hk10:=Keeps.nt hk9 hfra.1;refine hK.out _ _ (by exact HcS.out _ hk10) ?_;clear hK K
   try simp only [aps]
   refine jR ?_;refine Ap ?_;have hfa:∀b,va.ownBlock=some b->wc.heap.size<=b:=λb hb=>by have:=hfra.2 b hb;have:=hk9.size;omega
   obtain⟨aa,ca,rfl,_,_⟩:=Ae hrowa;clear hs9 hk9 hfra q4 q5;simp only at hrowa hfa⊢;by_cases h1:r1=0
   ·subst h1;obtain⟨Hrowa,Hk10,Hfa⟩:=hid3 hrowa hk10 hfa;clear hfa hk10 hrowa
    go_upto_region 11 with fail
    have hA10:=HA.out.keep0 Hk10.out;have hb10:=hA10.blk;have hbx10:=Ad Hbx7.out Hk10.out (by simp);have hb7B:¬b7=B:=λe=>by have:=HBl.out;omega
    have hS10:b7S b7 (.slice av mv cv) Z.1.p.cr Z.1.p.du w10:=⟨Aa hbx10 0,Aa hbx10 1,Aa hbx10 2⟩;have hS0:=λW (hW:Keeps (λi=>i=B) w10 W)=>hS10.keep hW hb7B;obtain⟨HA10,Hbx10,HS10,HS0⟩:=hid4 hA10 hbx10 hS10 hS0;clear hS0 hS10 hbx10 hA10;refine Al (b7S b7 (.slice av mv cv) Z.1.p.cr Z.1.p.du) (.take 0 (.take 1 (.take 2 (.take 3 (.take 4 (.take 5 (.take 6 (.take 7 (.take 8 (.take 9 (.move 10 (.take 11 (.take 12 (.move 13 (.take 14 (.take 15 (.move 16 (.take 17 (.take 18 (.move 19 .done)))))))))))))))))))) j9 j9 ?_ ?_
    ·exact HS0.out _ (Keeps.drew _)
    intro w11 hs11 hk11;have hb11:=Ad hb10 hk11 (by simp);have k11:Keeps (λi=>i=B) w10 w11:=hk11.mono (by simp);clear hs11 hk11 hb10;refine jR ?_;obtain⟨oa,ca⟩:∃v,World.cell? w11 ⟨B,9,none⟩=some v:=⟨_,(Aa hb11 9).trans rfl⟩;have fa:=Ab hb11 9;have la:=lt_of_block hb11;have hb12:=heap_setCell_same _ _ 9 _ _ (.pointer (some ⟨B1,0,none⟩)) hb11;obtain⟨w12,hwb⟩:∃x,x=(w11).setCell ⟨B,9,none⟩ (.pointer (some ⟨B1,0,none⟩)):=⟨_,rfl⟩;have hkb:Keeps (λi=>i=B) w11 w12:=by rw [hwb];exact(Keeps.refl _ _).setB _ _
    refine jc ?_;intro K hK;rw [<-hwb] at⊢hb12;clear hwb ca fa la;have k12:=k11.trans (hkb.mono λ_ _ e=> .inl e);clear hkb;refine hK.out _ _ (by exact HS0.out _ k12) ?_;clear hK K;refine jh ?_;obtain⟨oca,ca⟩:∃v,World.cell? w12 ⟨B,11,none⟩=some v:=⟨_,(Aa hb12 11).trans rfl⟩;obtain⟨ocb,cb⟩:∃v,World.cell? w12 ⟨B,12,none⟩=some v:=⟨_,(Aa hb12 12).trans rfl⟩;obtain⟨occ,cc⟩:∃v,World.cell? w12 ⟨B,13,none⟩=some v:=⟨_,(Aa hb12 13).trans rfl⟩;have fa:=Ab hb12 11;have fb:=Ab hb12 12;have fc:=Ab hb12 13;have la:=lt_of_block hb12;have hbb0:=heap_setCell_same _ _ 11 _ _ (.slice av mv cv) hb12;have hbb1:=heap_setCell_same _ _ 12 _ _ (.int .i64 Z.1.p.cr) hbb0;have hb13:=heap_setCell_same _ _ 13 _ _ (.int .i64 Z.1.p.du) hbb1;clear hbb0 hbb1;obtain⟨w13,hwb⟩:∃x,x=(((w12).setCell ⟨B,11,none⟩ (.slice av mv cv)).setCell ⟨B,12,none⟩ (.int .i64 Z.1.p.cr)).setCell ⟨B,13,none⟩ (.int .i64 Z.1.p.du):=⟨_,rfl⟩;have hkb:Keeps (λi=>i=B) w12 w13:=by rw [hwb];exact(((Keeps.refl _ _).setB _ _).setB _ _).setB _ _
    refine jc ?_;intro K hK;rw [<-hwb] at⊢hb13;clear hwb ca fa la cb cc fb fc;have k13:=k12.trans (hkb.mono λ_ _ e=> .inl e);clear hkb hb12 k12;refine hK.out _ _ (by exact HS0.out _ k13) ?_;clear hK K;refine jh ?_;obtain⟨oa,ca⟩:∃v,World.cell? w13 ⟨B,14,none⟩=some v:=⟨_,(Aa hb13 14).trans rfl⟩;have fa:=Ab hb13 14;have la:=lt_of_block hb13;have hb14:=heap_setCell_same _ _ 14 _ _ (.slice ar n cr2) hb13;obtain⟨w14,hwb⟩:∃x,x=(w13).setCell ⟨B,14,none⟩ (.slice ar n cr2):=⟨_,rfl⟩;have hkb:Keeps (λi=>i=B) w13 w14:=by rw [hwb];exact(Keeps.refl _ _).setB _ _
    refine jc ?_;intro K hK;rw [<-hwb] at⊢hb14;clear hwb ca fa la;have k14:=k13.trans (hkb.mono λ_ _ e=> .inl e);clear hkb hb13 k13;refine hK.out _ _ (by exact HS0.out _ k14) ?_;clear hK K;refine jh ?_;obtain⟨oa,ca⟩:∃v,World.cell? w14 ⟨B,15,none⟩=some v:=⟨_,(Aa hb14 15).trans rfl⟩;have fa:=Ab hb14 15;have la:=lt_of_block hb14;have hb15:=heap_setCell_same _ _ 15 _ _ (.slice ao P.length co) hb14;obtain⟨w15,hwb⟩:∃x,x=(w14).setCell ⟨B,15,none⟩ (.slice ao P.length co):=⟨_,rfl⟩;have hkb:Keeps (λi=>i=B) w14 w15:=by rw [hwb];exact(Keeps.refl _ _).setB _ _
    refine jc ?_;intro K hK;rw [<-hwb] at⊢hb15;clear hwb ca fa la;have k15:=k14.trans (hkb.mono λ_ _ e=> .inl e);clear hkb hb14 k14;refine hK.out _ _ (by exact HS0.out _ k15) ?_;clear hK K;refine jj ?_;obtain⟨aj,cj,hvj,_,_⟩:=Ae HA10.out.adj;obtain⟨nj,hnj⟩:∃n,a.adj.length=n:=⟨_,rfl⟩;obtain⟨mj,hmj⟩:∃n,r2.length=n:=⟨_,rfl⟩;have hnjl:nj<=30100000000:=by have:=H.out.ok.aj;rw [hnj,Hsq.out] at this;omega
    have hmjl:mj<=300300:=by
     have:=betS_le (seq:=sq+1) (L:=a.s.out) (M:=Z.1.out) λy hy=>by have:=Hn.out.ol y hy;have:=Hn.out.n8;omega
     rw [Hrr.out] at this;have:=Hn.out.o3;simp only at *;omega
    have hsaw:=HA10.out.sa;have hrowj:=k15.row HA10.out.adj λb hb e=>hsaw b hb e;have hrown:=Reads.Az (k15.row Hrowa.out λb hb e=>by have h1:=Hfa.out b hb;have h2:=lt_of_block HA.out.blk;have e':b=B:=e;omega);rw [hnj] at hvj;rw [hvj,hnj] at hrowj;rw [hmj] at hrown⊢;have hb15':w15.heap[B]?=some (.cells #[.int .i64 a.t.limit,x.vt,.int .i64 a.t.cyc,.int .i64 a.t.due,.int .i64 a.t.minFixed,.int .i64 a.t.minPart,.int .i64 a.t.start,.int .i64 a.today,.int .i64 sq,(.pointer (some ⟨B1,0,none⟩)),(.pointer (some ⟨x.bb,0,none⟩)),.slice av mv cv,.int .i64 Z.1.p.cr,.int .i64 Z.1.p.du,.slice ar n cr2,.slice ao P.length co,x.vi,.slice aj nj cj] 136 (0,0)):=by rw [<-hvj,<-Hsq.out];exact hb15
    have c17:w15.cell? ⟨B,17,none⟩=some (.slice aj nj cj):=Aa hb15' 17;have hl15:=lt_of_block hb15';have hone:=Adj.one r2;have hM15:wc.heap.size<=w15.heap.size:=Nat.le_trans Hk10.out.size k15.size;obtain⟨Hb15,Hb15',Hrowj,Hrown,Hone,Hvj,Hnj,Hmj,K15⟩:=hid9 hb15 hb15' hrowj hrown hone hvj hnj hmj k15;clear k15 hmj hnj hvj hone hrown hrowj hb15' hb15;obtain⟨Hsaw,HM15,Hb11⟩:=hid3 hsaw hM15 hb11;clear hb11 hM15 hsaw;clear k11
    go_wp2_with (at_builtin;refine Ao rfl (.tmp 79) (.tmp 80) 85 rfl 0 90 i0 _ 9 72 Tryz.underlying85 Hi.out Hi0.out Hi1.out Hi2.out rfl j7 (.slice aj nj cj) nj _ rfl Hrowj.out _ mj _ rfl Hrown.out Hone.out jd j6 (Nat.zero_le _) ?_)
    intro v6 w16 hrow6 hk6 hf6;obtain⟨a6,c6,rfl,_,_⟩:=Ae hrow6;have hb16:=Ad Hb15'.out hk6 (λe=>Hsaw.out B (by rw [Hvj.out];exact e) rfl);have d17:=Aa hb16 17;have d8:=Aa hb16 8;have f17:=Ab hb16 17;have f8:=Ab hb16 8;have hl16:=lt_of_block hb16;have hbf1:=heap_setCell_same _ _ 17 _ _ (.slice a6 (nj+mj) c6) hb16;have hbf:=(heap_setCell_same _ _ 8 _ _ (.int .i64 (sq+1)) hbf1).trans rfl;obtain⟨Wf,hWf⟩:∃W,W=(w16.setCell ⟨B,17,none⟩ (.slice a6 (nj+mj) c6)).setCell ⟨B,8,none⟩ (.int .i64 (sq+1)):=⟨_,rfl⟩;have kf:Keeps (λi=>i=B) w16 Wf:=by rw [hWf];exact((Keeps.refl _ _).setB _ _).setB _ _
    rw [<-hWf] at hbf;have hK:Keeps (λi=>i=B\/x.va.ownBlock=some i) wc Wf:=(((Hk10.out.mono (by simp)).trans (K15.out.mono λ_ _ e=> .inl (.inl e))).trans (hk6.mono λi _ e=> .inl (.inr (by rw [Hvj.out];exact e)))).trans (kf.mono λ_ _ e=> .inl (.inl e))
    have hva6:∀b,(Value.slice a6 (nj+mj) c6).ownBlock=some b->x.va.ownBlock=some b\/w15.heap.size<=b:=λb hb=>by
     rcases hf6 with h1|⟨g',h1,h2⟩
     ·rw [h1] at hb;exact .inl (by rw [Hvj.out];exact hb)
     ·rw [h1] at hb;simp only [Option.some.injEq] at hb;exact .inr j6
    have hra:=kf.row hrow6 (λb hb e=>by
     have e':b=B:=e;rcases hva6 b hb with h1|h1
     ·exact Hsaw.out b h1 e'
     ·omega)
    have hra':Wf.ownsRow 0 90 9 (.slice a6 (nj+mj) c6) (a.adj++r2).length ((a.adj++r2).flatMap Adj.cells):=by
     rw [List.length_append,Hnj.out,Hmj.out,List.flatMap_append];exact hra
    have hpost:=AcAt.counted H.out Hkw7.out Hkw2.out Hk7'.out hK (by rw [Ht.out];exact Hdl2'.out) (by have:=HB1.out;omega) (λb hb=>by
     rcases Hf2.out with h1|⟨g',h1,h2⟩
     ·rw [h1] at hb;have:=Hv1.out b hb;omega
     ·rw [h1] at hb;simp only [Option.some.injEq] at hb;have:=Hkw1.out.size;omega) (by rw [Ht.out];exact HN.out) (by rw [Ht.out,Htd.out];exact HZ.out) Hz7.out G.out (by rw [Hsq.out];exact Hrr.out) (by rw [Hsq.out];exact hbf) hra' HM15.out hva6
    have hc:=ce_good Hz.out (by rw [Hcz.out];exact Hz7.out) (by rw [Hcb.out]);rw [HL1.out,Hcz.out,Hcb.out] at hc;have q4:IntKind.i64.wrap (sq+1)=sq+1:=IntWalk.i64_in _ ⟨by omega,by omega⟩;clear hbf1 hK hra hra' hva6;obtain⟨Hrow6,Hk6,Hf6,Hb16,Hbf,Kf,Hpost,Hc⟩:=hid8 hrow6 hk6 hf6 hb16 hbf kf hpost hc;clear hc hpost kf hbf hb16 hf6 hk6 hrow6;go_wp2_with fail;rw [<-hWf];go_ret;exact⟨by rw [Hc.out.1];rfl,by rw [Hc.out.2];exact Hpost.out⟩
   ·have hne:(r1 !=0)=true:=by simp [h1]
    have hc:=ce_bad Hz.out (by rw [Hcz.out];exact Hz7.out) (by rw [Hcb.out];exact h1);rw [Hcb.out] at hc;simp only at hc;have hend:=Cf.same H.out (Hkw7.out.nt hk10);obtain⟨Hrowa,Hk10,Hfa,H1,Hc,Hend⟩:=hid6 hrowa hk10 hfa h1 hc hend;clear hend hc h1 hfa hk10 hrowa;go_wp2;go_ret;exact⟨by rw [Hc.out.1];rfl,by rw [Hc.out.2];exact Hend.out⟩
 ·have hne:(z !=0)=true:=by simp [h0]
  have hc:=ce_add (a:=a) (e:=e) (by rw [hz];exact h0);rw [hz] at hc;have hend:=Cf.same H.out hkw2;obtain⟨Hz,Hdl2,Hk2,Hf2,Hkw2,H0,Hend,Hc⟩:=hid8 hz hdl2 hk2 hf2 hkw2 h0 hend hc;clear hc hend h0 hkw2 hf2 hk2 hdl2 hz;go_wp2;go_ret;exact⟨by rw [Hc.out.1];rfl,by rw [Hc.out.2];exact Hend.out⟩
def Asks(B b:Nat)(v:Value)(c:Cmd)(w:World)(D:List Disp)(x:Ev)(z:Int)(F:FuncId):Prop:=Calls Tryz.prog F #[(.pointer (some ⟨B,0,none⟩)),.agg #[.int .i64 c.kind,.int .i64 c.day,.int .i64 c.tranche,.int .i64 c.amount,.int .i64 c.ref],(.pointer (some ⟨b,0,none⟩))] w (Ux w b v D x z)
theorem Wd(B:Nat)(x:AcV)(a:Ac)(c:Cmd)(w:World)(h:AcAt w B x a)(hs:a.seq<=100000)(hk:1<=c.kind/\c.kind<=7):
  Calls Tryz.prog 80 #[(.pointer (some ⟨B,0,none⟩)),.agg #[.int .i64 c.kind,.int .i64 c.day,.int .i64 c.tranche,.int .i64 c.amount,.int .i64 c.ref]] w λe w'=>e= .returned (.agg #[.int .i64 (a.xe c),.int .i64 (a.xr c),.int .i64 0,.int .i64 0,.int .i64 0,.slice none 0 0,.int .i64 0,.int .i64 0,.slice none 0 0,.slice none 0 0,.int .i64 0,.int .i64 0,.int .i64 0,.int .i64 0,.int .i64 0,.slice none 0 0,.int .i64 0,.int .i64 0,.int .i64 0,.bool false])/\Cf w B x (a.chg c) w':=by
 obtain⟨ki,da,tr,am,re⟩:=c;simp only at hk⊢;have hfk:=j4f;refine j4g ?_;intro W0 hW0;have hc0:W0.heap[w.heap.size]?=some (.cells #[.int .i64 ki,.int .i64 da,.int .i64 tr,.int .i64 am,.int .i64 re] 23 (0,0)):=by rw [hW0];exact Ar (heap_alloc_new w _) _
 have hr0:W0.heap[w.heap.size+1]?=some (.cells #[.int .i64 0,.int .i64 0,.int .i64 0,.int .i64 0,.int .i64 0,.slice none 0 0,.int .i64 0,.int .i64 0,.slice none 0 0,.slice none 0 0,.int .i64 0,.int .i64 0,.int .i64 0,.int .i64 0,.int .i64 0,.slice none 0 0,.int .i64 0,.int .i64 0,.int .i64 0,.bool false] 62 (0,0)):=by rw [hW0];exact Av _ _ (by simp)
 have hk0:Keeps (λ_=>False) w W0:=by rw [hW0];(repeat (first|exact Keeps.refl _ _|exact Keeps.alloc _ _|exact Keeps.drew _|exact Keeps.drewN _ _|refine Keeps.Am ?_|refine Keeps.Ak ?_|refine Keeps.Af ?_))
 have hs0:w.heap.size+1<W0.heap.size:=lt_of_block hr0;have hbl:=lt_of_block h.blk;have c10:w.cell? ⟨B,10,none⟩=some (.pointer (some ⟨x.bb,0,none⟩)):=Aa h.blk 10;obtain⟨H,Hfk,Hc0,Hr0,Hk0⟩:=hid5 h hfk hc0 hr0 hk0;clear hk0 hr0 hc0 hfk h;go_enter Tryz.func80,Tryz.ntmps80;go_wp2_with fail;rw [<-hW0];clear hW0 c10;refine(Hfk.out W0 Hk0.out).mono ?_;intro r w1 hf1;obtain⟨b,v,rfl,hb,hk1,hft⟩:=hf1;have hkw1:=Hk0.out.nt hk1;have hA1:=H.out.keep0 hkw1;have hftw:∀k,Foot b v k->w.heap.size<=k:=λk hk=>by have:=hft k hk;have:=Hk0.out.size;omega
 have hsep:∀k,Foot b v k->¬(AcF B x k\/x.rd k):=λk hk e=>by have:=hftw k hk;have:=H.out.lt k e;omega
 obtain⟨h5,h6⟩:=Adh B x a ⟨ki,da,tr,am,re⟩ b v w1 hA1 hb hsep hk;have hc1:=Ad Hc0.out hk1 (by simp);have hr1:=Ad Hr0.out hk1 (by simp);have c0:=Aa hc1 0;have c1:=Aa hc1 1;have c2:=Aa hc1 2;have c3:=Aa hc1 3;have c4:=Aa hc1 4;have cl:=lt_of_block hc1;obtain⟨D2,hD2⟩:∃D,a.xD ⟨ki,da,tr,am,re⟩=D:=⟨_,rfl⟩;obtain⟨ev,hev⟩:∃e,a.xev ⟨ki,da,tr,am,re⟩=e:=⟨_,rfl⟩;obtain⟨z,hz⟩:∃z,a.xz ⟨ki,da,tr,am,re⟩=z:=⟨_,rfl⟩;rw [hD2,hev,hz] at h5 h6
 have hask:∃q:Bool,((ki==5)||(ki==6))=q/\((q=true/\Asks B b v ⟨ki,da,tr,am,re⟩ w1 D2 ev z 135)\/(q=false/\Asks B b v ⟨ki,da,tr,am,re⟩ w1 D2 ev z 134)):=by
  by_cases h56:ki=5\/ki=6
  ·exact⟨true,by simpa using h56,.inl ⟨rfl,h5 h56⟩⟩
  ·exact⟨false,by simpa using h56,.inr ⟨rfl,h6 h56⟩⟩
 obtain⟨q,hq,hask⟩:=hask;clear h5 h6;obtain⟨Hb,Hk1,Hkw1,HA1,Hft,Hftw,Hsep,Hc1,Hr1⟩:=hid9 hb hk1 hkw1 hA1 hft hftw hsep hc1 hr1;clear hr1 hc1 hsep hftw hft hA1 hkw1 hk1 hb;obtain⟨HD2,Hev,Hz,Hq,Hask,Hk⟩:=hid6 hD2 hev hz hq hask hk;clear hk hask hq hz hev hD2
 go_upto_region 3 with fail
 go_cut [23] (λt wx=>t= .bool q/\wx=w1)
 case first=>
  by_cases k5:ki=5
  ·have k5':(ki==5)=true:=by simp [k5]
   have hq':q=true:=by rw [<-Hq.out,k5'];rfl
   subst hq';clear k5;exact j1Y
  ·have k5':(ki==5)=false:=by simp [k5]
   by_cases k6:ki=6
   ·have k6':(ki==6)=true:=by simp [k6]
    have hq':q=true:=by rw [<-Hq.out,k6'];simp
    subst hq';clear k5 k6;exact j1Y
   ·have k6':(ki==6)=false:=by simp [k6]
    have hq':q=false:=by rw [<-Hq.out,k5',k6'];rfl
    subst hq';exact j1Y
 obtain⟨rfl,rfl⟩:=hcut
 go_upto_if 23 with fail
 go_cut [6] (λp wx=>(∃F,p= .func (.func F) #[(.pointer (some ⟨B,0,none⟩))] #[]/\Asks B b v ⟨ki,da,tr,am,re⟩ wc D2 ev z F/\Enters Tryz.prog F)/\wx=wc)
 case first=>
  rcases Hask.out with⟨rfl,ha⟩|⟨rfl,ha⟩
  ·have Ha:=Lib.hid ha;clear ha;go_wp2_with fail;go_meet;exact⟨⟨_,rfl,Ha.out,enters_of Tryz.func135 j9 rfl⟩,rfl⟩
  ·have Ha:=Lib.hid ha;clear ha;go_wp2_with fail;go_meet;exact⟨⟨_,rfl,Ha.out,enters_of Tryz.func134 j9 rfl⟩,rfl⟩
 obtain⟨⟨F,rfl,hF,hEF⟩,hwc⟩:=hcut;unfold Enters at hEF;subst hwc;unfold Asks at hF;obtain⟨ek,ed,et,ea,er⟩:=ev;simp only at hF;have HF:=Lib.hid hF;clear hF;go_wp2_with fail
 go_at_fn F
 refine HF.out.mono ?_;rintro e w2 ⟨rfl,v2,hb2,hk2,hf2⟩;obtain⟨W2,hW2⟩:∃x,x=w2.alloc (.cells #[.int .i64 ek,.int .i64 ed,.int .i64 et,.int .i64 ea,.int .i64 er] 96):=⟨_,rfl⟩;have hkA:Keeps (λ_=>False) w2 W2:=by rw [hW2];exact Keeps.alloc _ _
 have hkw2:Keeps (λ_=>False) w W2:=Keeps.nt (Hkw1.out.trans (hk2.mono λi _ e=> .inr (Hftw.out i e))) hkA;have hb2':=hb2.keeps hkA (by simp);have hft2:∀k,Foot b v2 k->w.heap.size<=k:=λk hk=>(hf2 k hk).elim (Hftw.out k) (λe=>by have:=Hkw1.out.size;omega);have hA2:=H.out.keep0 hkw2;have hx2:W2.heap[w2.heap.size]?=some (.cells #[.int .i64 ek,.int .i64 ed,.int .i64 et,.int .i64 ea,.int .i64 er] 96 (0,0)):=by rw [hW2];exact heap_alloc_new _ _
 obtain⟨E,hE⟩:∃x,x=w2.heap.size:=⟨_,rfl⟩;have hEl:w.heap.size<=E:=by have:=Hkw1.out.size;have:=hk2.size;omega
 have hlt:=Hb.out.lt;have hnC:¬Foot b v w.heap.size:=λe=>by have:=Hft.out _ e;omega
 have hnR:¬Foot b v (w.heap.size+1):=λe=>by have:=Hft.out _ e;omega
 have hc2:=Ad (Ad Hc1.out hk2 hnC) hkA (by simp);have hr2:=Ad (Ad Hr1.out hk2 hnR) hkA (by simp);rw [<-hE] at hx2;clear c0 c1 c2 c3 c4 cl hnC hnR hlt;obtain⟨Hb2,Hk2,Hf2,HkA,Hkw2,Hb2',Hft2,HA2,Hx2⟩:=hid9 hb2 hk2 hf2 hkA hkw2 hb2' hft2 hA2 hx2;clear hx2 hA2 hft2 hb2' hkw2 hkA hf2 hk2 hb2;obtain⟨Hc2,Hr2⟩:=hid2 hc2 hr2;clear hr2 hc2
 go_upto_region 9 with fail
 rw [<-hW2,<-hE];clear hW2 hE;by_cases hz0:z=0
 ·subst hz0;have c0:=Aa Hc2.out 0;have cl:=lt_of_block Hc2.out;by_cases k6:ki=6
  ·subst k6;have d8:W2.cell? ⟨B,8,none⟩=some (.int .i64 a.seq):=Aa HA2.out.blk 8;have d10:W2.cell? ⟨B,10,none⟩=some (.pointer (some ⟨x.bb,0,none⟩)):=Aa HA2.out.blk 10;have f8:=Ab HA2.out.blk 8;have f10:=Ab HA2.out.blk 10;have dl:=lt_of_block HA2.out.blk;have nBC:¬B=w.heap.size:=λe=>by omega
   have nCB:¬w.heap.size=B:=λe=>by omega
   have hs0':=H.out.ok.s0;obtain⟨W3,hW3⟩:∃x,x=W2.setCell ⟨B,8,none⟩ (.int .i64 (a.seq+1)):=⟨_,rfl⟩;obtain⟨W4,hW4⟩:∃x,x=W3.setCell ⟨B,10,none⟩ (.pointer (some ⟨b,0,none⟩)):=⟨_,rfl⟩;have hA3:=HA2.out.seq1 hW3;have hp3:Cf W2 B x { a with seq:=a.seq+1 } W3:=⟨x,hA3,by rw [hW3];exact(Keeps.setCell (S:=λi=>i=B) _ _ _ rfl).mono λi _ e=> .inl e,λk hk=> .inl hk,λk hk=> .inl hk⟩;obtain⟨hR4,hfin⟩:=Cf.fin (V:= #[.int .i64 0,.int .i64 0,.int .i64 0,.int .i64 0,.int .i64 0,.slice none 0 0,.int .i64 0,.int .i64 0,.slice none 0 0,.slice none 0 0,.int .i64 0,.int .i64 0,.int .i64 0,.int .i64 0,.int .i64 0,.slice none 0 0,.int .i64 0,.int .i64 0,.int .i64 0,.bool false]) H.out Hkw2.out hp3 Hb2'.out Hft2.out Hr2.out (Nat.le_succ _) hW4
   have hC4:W4.heap[w.heap.size]?=some (.cells #[.int .i64 6,.int .i64 da,.int .i64 tr,.int .i64 am,.int .i64 re] 23 (0,0)):=by
    rw [hW4];exact Ad (Cf.box H.out hp3 Hc2.out (Nat.le_refl _)) (Keeps.setCell (S:=λi=>i=B) _ _ _ rfl) nCB
   refine j4h ?_;intro hput;have hxe:=Ac.xe_won Hz.out rfl;obtain⟨hch,hxr⟩:=Ac.chg_yes hxe;have hnx:a.nx ⟨6,da,tr,am,re⟩={ a with seq:=a.seq+1 }:=by unfold Ac.nx;rw [if_pos rfl]
   rw [hnx,HD2.out] at hch;obtain⟨sq,hsq⟩:∃s,a.seq=s:=⟨_,rfl⟩;rw [hsq] at d8 hW3 hs hs0';have q2:IntKind.i64.wrap (sq+1)=sq+1:=IntWalk.i64_in _ ⟨by omega,by omega⟩;obtain⟨HA3,Hp3,HR4,Hfin,HC4,Hput,Hxe,Hch,Hxr⟩:=hid9 hA3 hp3 hR4 hfin hC4 hput hxe hch hxr;clear hxr hch hxe hput hC4 hfin hR4 hp3 hA3;obtain⟨Hnx,Hsq⟩:=hid2 hnx hsq;clear hsq hnx
   go_upto_region 14 with fail
   rw [<-hW3,<-hW4];clear hW3 hW4 d8 d10 f8 f10 dl nBC nCB c0 cl;have c0:=Aa HC4.out 0;have cl:=lt_of_block HC4.out
   go_wp2_with (refine wpList_store_row rfl 62 (.tmp 4) (.tmp 66) rfl (w.heap.size+1) #[.int .i64 0,.int .i64 0,.int .i64 0,.int .i64 0,.int .i64 0,.slice none 0 0,.int .i64 0,.int .i64 0,.slice none 0 0,.slice none 0 0,.int .i64 0,.int .i64 0,.int .i64 0,.int .i64 0,.int .i64 0,.slice none 0 0,.int .i64 0,.int .i64 0,.int .i64 0,.bool false] rfl rfl 62 #[.int .i64 0,.int .i64 0,.int .i64 0,.int .i64 0,.int .i64 0,.slice none 0 0,.int .i64 0,.int .i64 0,.slice none 0 0,.slice none 0 0,.int .i64 0,.int .i64 0,.int .i64 0,.int .i64 0,.int .i64 0,.slice none 0 0,.int .i64 0,.int .i64 0,.int .i64 0,.bool false] HR4.out Aw rfl (Dr _ _ _) ?_)
   exact bodyPost_ret (results_cell_row rfl _ _ (w.heap.size+1) 62 #[.int .i64 0,.int .i64 0,.int .i64 0,.int .i64 0,.int .i64 0,.slice none 0 0,.int .i64 0,.int .i64 0,.slice none 0 0,.slice none 0 0,.int .i64 0,.int .i64 0,.int .i64 0,.int .i64 0,.int .i64 0,.slice none 0 0,.int .i64 0,.int .i64 0,.int .i64 0,.bool false] _ _ rfl Hput.out Tryz.underlying62 rfl Aw) rfl ⟨by rw [Hxe.out,Hxr.out];rfl,by rw [Hch.out];exact Hfin.out⟩
  ·have k6':(ki==6)=false:=by simp [k6]
   have x0:=Aa Hx2.out 0;have x1:=Aa Hx2.out 1;have x2:=Aa Hx2.out 2;have x3:=Aa Hx2.out 3;have x4:=Aa Hx2.out 4;have xl:=lt_of_block Hx2.out;have hcnt:=Zi B x a ⟨ek,ed,et,ea,er⟩ W2 HA2.out hs;simp only at hcnt;obtain⟨ce,hce⟩:∃z,a.ce ⟨ek,ed,et,ea,er⟩=z:=⟨_,rfl⟩;rw [hce] at hcnt;have hxe:=Ac.xe_cnt Hz.out k6;rw [Hev.out,hce] at hxe;clear k6;obtain⟨Hcnt,Hce,Hxe⟩:=hid3 hcnt hce hxe;clear hxe hce hcnt;go_wp2_with fail;refine Hcnt.out.mono ?_;rintro e w3 ⟨rfl,hp⟩;clear x0 x1 x2 x3 x4 xl c0 cl;by_cases hce0:ce=0
   ·subst hce0;have hC3:=Cf.box H.out hp Hc2.out (Nat.le_refl _);have hE3:=Cf.box H.out hp Hx2.out hEl;have hd3:∃v,w3.cell? ⟨B,10,none⟩=some v/\w3.frozen? ⟨B,10,none⟩=false/\B<w3.heap.size:=by obtain⟨x',hA,_⟩:=hp;exact⟨_,(Aa hA.blk 10).trans rfl,Ab hA.blk 10,lt_of_block hA.blk⟩
    obtain⟨o10,d10,f10,dl⟩:=hd3;obtain⟨W4,hW4⟩:∃x,x=w3.setCell ⟨B,10,none⟩ (.pointer (some ⟨b,0,none⟩)):=⟨_,rfl⟩;have hk34:Keeps (λi=>i=B) w3 W4:=by rw [hW4];exact Keeps.setCell _ _ _ rfl
    have hC4:=Ad hC3 hk34 (λe=>by omega);have hE4:=Ad hE3 hk34 (λe=>by omega);obtain⟨hch,hxr⟩:=Ac.chg_yes Hxe.out;have hfinV:=λV=>Cf.fin (V:=V) H.out Hkw2.out hp Hb2'.out Hft2.out Hr2.out (Nat.le_succ _) hW4;rw [HD2.out] at hch;rw [Hev.out] at hxr;have hnx:(¬ki=6)->a.nx ⟨ki,da,tr,am,re⟩=a.count ⟨ek,ed,et,ea,er⟩:=λk=>by unfold Ac.nx;rw [if_neg k,Hev.out]
    rw [hnx (by simpa using k6')] at hch;simp only at hxr;clear hnx hp;obtain⟨HC3,HE3,Hk34,HC4,HE4,Hch,Hxr,HfinV⟩:=hid8 hC3 hE3 hk34 hC4 hE4 hch hxr hfinV;clear hfinV hxr hch hE4 hC4 hk34 hE3 hC3
    go_upto_region 14 with fail
    rw [<-hW4];clear hW4 d10 f10 dl;have c0:=Aa HC4.out 0;have cl:=lt_of_block HC4.out;have e4:=Aa HE4.out 4;have el:=lt_of_block HE4.out;by_cases k4:ki=4
    ·subst k4;rw [if_pos rfl] at Hxr;obtain⟨hR4,hfin⟩:=HfinV.out #[.int .i64 0,.int .i64 er,.int .i64 0,.int .i64 0,.int .i64 0,.slice none 0 0,.int .i64 0,.int .i64 0,.slice none 0 0,.slice none 0 0,.int .i64 0,.int .i64 0,.int .i64 0,.int .i64 0,.int .i64 0,.slice none 0 0,.int .i64 0,.int .i64 0,.int .i64 0,.bool false];have hput:=setRow_heap W4 (w.heap.size+1) #[.int .i64 0,.int .i64 0,.int .i64 0,.int .i64 0,.int .i64 0,.slice none 0 0,.int .i64 0,.int .i64 0,.slice none 0 0,.slice none 0 0,.int .i64 0,.int .i64 0,.int .i64 0,.int .i64 0,.int .i64 0,.slice none 0 0,.int .i64 0,.int .i64 0,.int .i64 0,.bool false] #[.int .i64 0,.int .i64 er,.int .i64 0,.int .i64 0,.int .i64 0,.slice none 0 0,.int .i64 0,.int .i64 0,.slice none 0 0,.slice none 0 0,.int .i64 0,.int .i64 0,.int .i64 0,.int .i64 0,.int .i64 0,.slice none 0 0,.int .i64 0,.int .i64 0,.int .i64 0,.bool false] 62 _ hR4;obtain⟨HR4,Hfin,Hput⟩:=hid3 hR4 hfin hput;clear hput hfin hR4
     go_wp2_with (refine wpList_store_row rfl 62 (.tmp 4) (.tmp 65) rfl (w.heap.size+1) #[.int .i64 0,.int .i64 er,.int .i64 0,.int .i64 0,.int .i64 0,.slice none 0 0,.int .i64 0,.int .i64 0,.slice none 0 0,.slice none 0 0,.int .i64 0,.int .i64 0,.int .i64 0,.int .i64 0,.int .i64 0,.slice none 0 0,.int .i64 0,.int .i64 0,.int .i64 0,.bool false] rfl rfl 62 #[.int .i64 0,.int .i64 0,.int .i64 0,.int .i64 0,.int .i64 0,.slice none 0 0,.int .i64 0,.int .i64 0,.slice none 0 0,.slice none 0 0,.int .i64 0,.int .i64 0,.int .i64 0,.int .i64 0,.int .i64 0,.slice none 0 0,.int .i64 0,.int .i64 0,.int .i64 0,.bool false] HR4.out Aw rfl (Dr _ _ _) ?_)
     exact bodyPost_ret (results_cell_row rfl _ _ (w.heap.size+1) 62 #[.int .i64 0,.int .i64 er,.int .i64 0,.int .i64 0,.int .i64 0,.slice none 0 0,.int .i64 0,.int .i64 0,.slice none 0 0,.slice none 0 0,.int .i64 0,.int .i64 0,.int .i64 0,.int .i64 0,.int .i64 0,.slice none 0 0,.int .i64 0,.int .i64 0,.int .i64 0,.bool false] _ _ rfl Hput.out Tryz.underlying62 rfl Aw) rfl ⟨by rw [Hxe.out,Hxr.out],by rw [Hch.out];exact Hfin.out⟩
    ·have k4':(ki==4)=false:=by simp [k4]
     rw [if_neg k4] at Hxr;obtain⟨hR4,hfin⟩:=HfinV.out #[.int .i64 0,.int .i64 0,.int .i64 0,.int .i64 0,.int .i64 0,.slice none 0 0,.int .i64 0,.int .i64 0,.slice none 0 0,.slice none 0 0,.int .i64 0,.int .i64 0,.int .i64 0,.int .i64 0,.int .i64 0,.slice none 0 0,.int .i64 0,.int .i64 0,.int .i64 0,.bool false];refine j4h ?_;intro hput;clear k4;obtain⟨HR4,Hfin,Hput⟩:=hid3 hR4 hfin hput;clear hput hfin hR4
     go_wp2_with (refine wpList_store_row rfl 62 (.tmp 4) (.tmp 66) rfl (w.heap.size+1) #[.int .i64 0,.int .i64 0,.int .i64 0,.int .i64 0,.int .i64 0,.slice none 0 0,.int .i64 0,.int .i64 0,.slice none 0 0,.slice none 0 0,.int .i64 0,.int .i64 0,.int .i64 0,.int .i64 0,.int .i64 0,.slice none 0 0,.int .i64 0,.int .i64 0,.int .i64 0,.bool false] rfl rfl 62 #[.int .i64 0,.int .i64 0,.int .i64 0,.int .i64 0,.int .i64 0,.slice none 0 0,.int .i64 0,.int .i64 0,.slice none 0 0,.slice none 0 0,.int .i64 0,.int .i64 0,.int .i64 0,.int .i64 0,.int .i64 0,.slice none 0 0,.int .i64 0,.int .i64 0,.int .i64 0,.bool false] HR4.out Aw rfl (Dr _ _ _) ?_)
     exact bodyPost_ret (results_cell_row rfl _ _ (w.heap.size+1) 62 #[.int .i64 0,.int .i64 0,.int .i64 0,.int .i64 0,.int .i64 0,.slice none 0 0,.int .i64 0,.int .i64 0,.slice none 0 0,.slice none 0 0,.int .i64 0,.int .i64 0,.int .i64 0,.int .i64 0,.int .i64 0,.slice none 0 0,.int .i64 0,.int .i64 0,.int .i64 0,.bool false] _ _ rfl Hput.out Tryz.underlying62 rfl Aw) rfl ⟨by rw [Hxe.out,Hxr.out],by rw [Hch.out];exact Hfin.out⟩
   ·have hne2:(ce !=0)=true:=by simp [hce0]
    have hca:=Ac.count_no (a:=a) (e:=⟨ek,ed,et,ea,er⟩) (by rw [Hce.out];exact hce0);rw [hca] at hp;obtain⟨hch,hxr⟩:=Ac.chg_no Hxe.out hce0;obtain⟨Hca,Hch,Hxr,Hp,Hce0⟩:=hid5 hca hch hxr hp hce0;clear hce0 hp hxr hch hca;go_wp2_with fail;refine(Dy ce _).mono ?_;rintro e w4 ⟨rfl,hk4⟩;obtain⟨hR4,hfin⟩:=Cf.ret (V:= #[.int .i64 ce,.int .i64 0,.int .i64 0,.int .i64 0,.int .i64 0,.slice none 0 0,.int .i64 0,.int .i64 0,.slice none 0 0,.slice none 0 0,.int .i64 0,.int .i64 0,.int .i64 0,.int .i64 0,.int .i64 0,.slice none 0 0,.int .i64 0,.int .i64 0,.int .i64 0,.bool false]) H.out Hkw2.out (Hp.out.more hk4) Hr2.out (Nat.le_succ _);have hput:=setRow_heap w4 (w.heap.size+1) #[.int .i64 0,.int .i64 0,.int .i64 0,.int .i64 0,.int .i64 0,.slice none 0 0,.int .i64 0,.int .i64 0,.slice none 0 0,.slice none 0 0,.int .i64 0,.int .i64 0,.int .i64 0,.int .i64 0,.int .i64 0,.slice none 0 0,.int .i64 0,.int .i64 0,.int .i64 0,.bool false] #[.int .i64 ce,.int .i64 0,.int .i64 0,.int .i64 0,.int .i64 0,.slice none 0 0,.int .i64 0,.int .i64 0,.slice none 0 0,.slice none 0 0,.int .i64 0,.int .i64 0,.int .i64 0,.int .i64 0,.int .i64 0,.slice none 0 0,.int .i64 0,.int .i64 0,.int .i64 0,.bool false] 62 _ hR4;clear hk4;obtain⟨HR4,Hfin,Hput⟩:=hid3 hR4 hfin hput;clear hput hfin hR4
    go_wp2_with (refine wpList_store_row rfl 62 (.tmp 4) (.tmp 39) rfl (w.heap.size+1) #[.int .i64 ce,.int .i64 0,.int .i64 0,.int .i64 0,.int .i64 0,.slice none 0 0,.int .i64 0,.int .i64 0,.slice none 0 0,.slice none 0 0,.int .i64 0,.int .i64 0,.int .i64 0,.int .i64 0,.int .i64 0,.slice none 0 0,.int .i64 0,.int .i64 0,.int .i64 0,.bool false] rfl rfl 62 #[.int .i64 0,.int .i64 0,.int .i64 0,.int .i64 0,.int .i64 0,.slice none 0 0,.int .i64 0,.int .i64 0,.slice none 0 0,.slice none 0 0,.int .i64 0,.int .i64 0,.int .i64 0,.int .i64 0,.int .i64 0,.slice none 0 0,.int .i64 0,.int .i64 0,.int .i64 0,.bool false] HR4.out Aw rfl (Dr _ _ _) ?_)
    exact bodyPost_ret (results_cell_row rfl _ _ (w.heap.size+1) 62 #[.int .i64 ce,.int .i64 0,.int .i64 0,.int .i64 0,.int .i64 0,.slice none 0 0,.int .i64 0,.int .i64 0,.slice none 0 0,.slice none 0 0,.int .i64 0,.int .i64 0,.int .i64 0,.int .i64 0,.int .i64 0,.slice none 0 0,.int .i64 0,.int .i64 0,.int .i64 0,.bool false] _ _ rfl Hput.out Tryz.underlying62 rfl Aw) rfl ⟨by rw [Hxe.out,Hxr.out],by rw [Hch.out];exact Hfin.out⟩
 ·have hne:(z !=0)=true:=by simp [hz0]
  have hxe:=Ac.xe_bad Hz.out hz0;obtain⟨hch,hxr⟩:=Ac.chg_no hxe hz0;obtain⟨Hxe,Hch,Hxr,Hz0⟩:=hid4 hxe hch hxr hz0;clear hz0 hxr hch hxe;go_wp2_with fail;refine(Dy z _).mono ?_;rintro e w4 ⟨rfl,hk4⟩;obtain⟨hR4,hfin⟩:=Cf.ret (V:= #[.int .i64 z,.int .i64 0,.int .i64 0,.int .i64 0,.int .i64 0,.slice none 0 0,.int .i64 0,.int .i64 0,.slice none 0 0,.slice none 0 0,.int .i64 0,.int .i64 0,.int .i64 0,.int .i64 0,.int .i64 0,.slice none 0 0,.int .i64 0,.int .i64 0,.int .i64 0,.bool false]) H.out (Hkw2.out.nt hk4) (Cf.same (H.out.keep0 (Hkw2.out.nt hk4)) (Keeps.refl _ _)) (Ad Hr2.out hk4 (by simp)) (Nat.le_succ _);have hput:=setRow_heap w4 (w.heap.size+1) #[.int .i64 0,.int .i64 0,.int .i64 0,.int .i64 0,.int .i64 0,.slice none 0 0,.int .i64 0,.int .i64 0,.slice none 0 0,.slice none 0 0,.int .i64 0,.int .i64 0,.int .i64 0,.int .i64 0,.int .i64 0,.slice none 0 0,.int .i64 0,.int .i64 0,.int .i64 0,.bool false] #[.int .i64 z,.int .i64 0,.int .i64 0,.int .i64 0,.int .i64 0,.slice none 0 0,.int .i64 0,.int .i64 0,.slice none 0 0,.slice none 0 0,.int .i64 0,.int .i64 0,.int .i64 0,.int .i64 0,.int .i64 0,.slice none 0 0,.int .i64 0,.int .i64 0,.int .i64 0,.bool false] 62 _ hR4;clear hk4;obtain⟨HR4,Hfin,Hput⟩:=hid3 hR4 hfin hput;clear hput hfin hR4
  go_wp2_with (refine wpList_store_row rfl 62 (.tmp 4) (.tmp 44) rfl (w.heap.size+1) #[.int .i64 z,.int .i64 0,.int .i64 0,.int .i64 0,.int .i64 0,.slice none 0 0,.int .i64 0,.int .i64 0,.slice none 0 0,.slice none 0 0,.int .i64 0,.int .i64 0,.int .i64 0,.int .i64 0,.int .i64 0,.slice none 0 0,.int .i64 0,.int .i64 0,.int .i64 0,.bool false] rfl rfl 62 #[.int .i64 0,.int .i64 0,.int .i64 0,.int .i64 0,.int .i64 0,.slice none 0 0,.int .i64 0,.int .i64 0,.slice none 0 0,.slice none 0 0,.int .i64 0,.int .i64 0,.int .i64 0,.int .i64 0,.int .i64 0,.slice none 0 0,.int .i64 0,.int .i64 0,.int .i64 0,.bool false] HR4.out Aw rfl (Dr _ _ _) ?_)
  exact bodyPost_ret (results_cell_row rfl _ _ (w.heap.size+1) 62 #[.int .i64 z,.int .i64 0,.int .i64 0,.int .i64 0,.int .i64 0,.slice none 0 0,.int .i64 0,.int .i64 0,.slice none 0 0,.slice none 0 0,.int .i64 0,.int .i64 0,.int .i64 0,.int .i64 0,.int .i64 0,.slice none 0 0,.int .i64 0,.int .i64 0,.int .i64 0,.bool false] _ _ rfl Hput.out Tryz.underlying62 rfl Aw) rfl ⟨by rw [Hxe.out,Hxr.out],by rw [Hch.out];exact Hfin.out⟩
structure PSt where
 today:Int
 cyc:Int
 bal:List Int
 cr:Int
 du:Int
 R:List Int
 D:List Disp
 seq:Int
def st00:PSt:=⟨0,0, [],0,0, [], [],0⟩
def stm00:Stm:=⟨0,0,0,0,0,0,0,false, []⟩
def Ac.st(a:Ac):PSt:=⟨a.today,a.cyc a.today,a.s.p.bal,a.s.p.cr,a.s.p.du,a.s.R,a.D,a.seq⟩
def tellE(M:List Stm)(ref:Int):Int:=if ref<1\/(M.length:Int)<ref then 12 else 0
def Ac.dz(a:Ac)(c:Cmd):Int:=if c.kind=8 then a.te c.day else if c.kind=9 then 0 else if c.kind=10 then tellE a.iss c.ref else if c.kind=11 then tellE a.s.out c.ref else if 1<=c.kind/\c.kind<=7 then a.xe c else 1
def Ac.dr(a:Ac)(c:Cmd):Int:=if 1<=c.kind/\c.kind<=7 then a.xr c else 0
def Ac.dc(a:Ac)(c:Cmd):Int:=if c.kind=8 then a.tc c.day else 0
def Ac.ds(a:Ac)(c:Cmd):PSt:=if c.kind=9 then a.st else st00
def Ac.act(a:Ac)(c:Cmd):Ac:=if c.kind=8 then a.tick c.day else if 1<=c.kind/\c.kind<=7 then a.chg c else a
theorem accDo_chg(B:Nat)(x:AcV)(a:Ac)(c:Cmd)(w:World)(h:AcAt w B x a)(hs:a.seq<=100000)(hk:1<=c.kind/\c.kind<=7):
  Calls Tryz.prog 33 #[(.pointer (some ⟨B,0,none⟩)),.agg #[.int .i64 c.kind,.int .i64 c.day,.int .i64 c.tranche,.int .i64 c.amount,.int .i64 c.ref]] w λe w'=>e= .returned (.agg #[.int .i64 (a.xe c),.int .i64 (a.xr c),.int .i64 0,.int .i64 0,.int .i64 0,.slice none 0 0,.int .i64 0,.int .i64 0,.slice none 0 0,.slice none 0 0,.int .i64 0,.int .i64 0,.int .i64 0,.int .i64 0,.int .i64 0,.slice none 0 0,.int .i64 0,.int .i64 0,.int .i64 0,.bool false])/\Cf w B x (a.chg c) w':=by
 have hcb:chB c=true:=by simp [chB];omega
 have hchg:=fun(W:World) (hW:Keeps (λ_=>False) w W)=>Wd B x a c W (h.keep0 hW) hs hk;have hcc:=λW=>Md c W;rw [hcb] at hcc;obtain⟨ki,da,tr,am,re⟩:=c;simp only at hk hchg hcc⊢;have k8:(ki==8)=false:=by simp;omega
 have k9:(ki==9)=false:=by simp;omega
 have k10:(ki==10)=false:=by simp;omega
 have k11:(ki==11)=false:=by simp;omega
 obtain⟨xe,hxe⟩:∃z,a.xe ⟨ki,da,tr,am,re⟩=z:=⟨_,rfl⟩;obtain⟨xr,hxr⟩:∃z,a.xr ⟨ki,da,tr,am,re⟩=z:=⟨_,rfl⟩;rw [hxe,hxr] at hchg⊢;refine j4g ?_;intro W0 hW0;have hc0:W0.heap[w.heap.size]?=some (.cells #[.int .i64 ki,.int .i64 da,.int .i64 tr,.int .i64 am,.int .i64 re] 23 (0,0)):=by rw [hW0];exact Ar (heap_alloc_new w _) _
 have hr0:W0.heap[w.heap.size+1]?=some (.cells #[.int .i64 0,.int .i64 0,.int .i64 0,.int .i64 0,.int .i64 0,.slice none 0 0,.int .i64 0,.int .i64 0,.slice none 0 0,.slice none 0 0,.int .i64 0,.int .i64 0,.int .i64 0,.int .i64 0,.int .i64 0,.slice none 0 0,.int .i64 0,.int .i64 0,.int .i64 0,.bool false] 62 (0,0)):=by rw [hW0];exact Av _ _ (by simp)
 have hk0:Keeps (λ_=>False) w W0:=by rw [hW0];(repeat (first|exact Keeps.refl _ _|exact Keeps.alloc _ _|exact Keeps.drew _|exact Keeps.drewN _ _|refine Keeps.Am ?_|refine Keeps.Ak ?_|refine Keeps.Af ?_))
 have hbl:=lt_of_block h.blk;obtain⟨H,Hchg,Hcc,Hxe,Hxr,Hk,Hcb,Hc0,Hr0⟩:=hid9 h hchg hcc hxe hxr hk hcb hc0 hr0;clear hr0 hc0 hcb hk hxr hxe hcc hchg h;have Hk0:=Lib.hid hk0;clear hk0;go_enter Tryz.func33,Tryz.ntmps33;go_wp2_with fail;rw [<-hW0];clear hW0;refine(Hcc.out W0).mono ?_;rintro e w1 ⟨rfl,hk1⟩;have hkw1:=Hk0.out.nt hk1;have hc1:=Ad Hc0.out hk1 (by simp);have hr1:=Ad Hr0.out hk1 (by simp);have c0:=Aa hc1 0;have c1:=Aa hc1 1;have c2:=Aa hc1 2;have c3:=Aa hc1 3;have c4:=Aa hc1 4;have cl:=lt_of_block hc1;clear hk1;obtain⟨Hkw1,Hc1,Hr1⟩:=hid3 hkw1 hc1 hr1;clear hr1 hc1 hkw1;go_wp2_with fail;refine(Hchg.out w1 Hkw1.out).mono ?_;rintro e w2 ⟨rfl,hp⟩;obtain⟨hR,hq⟩:=Cf.ret (V:= #[.int .i64 xe,.int .i64 xr,.int .i64 0,.int .i64 0,.int .i64 0,.slice none 0 0,.int .i64 0,.int .i64 0,.slice none 0 0,.slice none 0 0,.int .i64 0,.int .i64 0,.int .i64 0,.int .i64 0,.int .i64 0,.slice none 0 0,.int .i64 0,.int .i64 0,.int .i64 0,.bool false]) H.out Hkw1.out hp Hr1.out (Nat.le_succ _);have hput:=setRow_heap w2 (w.heap.size+1) #[.int .i64 0,.int .i64 0,.int .i64 0,.int .i64 0,.int .i64 0,.slice none 0 0,.int .i64 0,.int .i64 0,.slice none 0 0,.slice none 0 0,.int .i64 0,.int .i64 0,.int .i64 0,.int .i64 0,.int .i64 0,.slice none 0 0,.int .i64 0,.int .i64 0,.int .i64 0,.bool false] #[.int .i64 xe,.int .i64 xr,.int .i64 0,.int .i64 0,.int .i64 0,.slice none 0 0,.int .i64 0,.int .i64 0,.slice none 0 0,.slice none 0 0,.int .i64 0,.int .i64 0,.int .i64 0,.int .i64 0,.int .i64 0,.slice none 0 0,.int .i64 0,.int .i64 0,.int .i64 0,.bool false] 62 _ hR;clear hp c0 c1 c2 c3 c4 cl;obtain⟨HR,Hq,Hput⟩:=hid3 hR hq hput;clear hput hq hR
 go_wp2_with (refine wpList_store_row rfl 62 (.tmp 4) (.tmp 45) rfl (w.heap.size+1) #[.int .i64 xe,.int .i64 xr,.int .i64 0,.int .i64 0,.int .i64 0,.slice none 0 0,.int .i64 0,.int .i64 0,.slice none 0 0,.slice none 0 0,.int .i64 0,.int .i64 0,.int .i64 0,.int .i64 0,.int .i64 0,.slice none 0 0,.int .i64 0,.int .i64 0,.int .i64 0,.bool false] rfl rfl 62 #[.int .i64 0,.int .i64 0,.int .i64 0,.int .i64 0,.int .i64 0,.slice none 0 0,.int .i64 0,.int .i64 0,.slice none 0 0,.slice none 0 0,.int .i64 0,.int .i64 0,.int .i64 0,.int .i64 0,.int .i64 0,.slice none 0 0,.int .i64 0,.int .i64 0,.int .i64 0,.bool false] HR.out Aw rfl (Dr _ _ _) ?_)
 exact bodyPost_ret (results_cell_row rfl _ _ (w.heap.size+1) 62 #[.int .i64 xe,.int .i64 xr,.int .i64 0,.int .i64 0,.int .i64 0,.slice none 0 0,.int .i64 0,.int .i64 0,.slice none 0 0,.slice none 0 0,.int .i64 0,.int .i64 0,.int .i64 0,.int .i64 0,.int .i64 0,.slice none 0 0,.int .i64 0,.int .i64 0,.int .i64 0,.bool false] _ _ rfl Hput.out Tryz.underlying62 rfl Aw) rfl ⟨rfl,Hq.out⟩
theorem Rw(a0:Int)(a1:Int)(a2:Int)(w:World):Calls Tryz.prog 141 #[.agg #[.int .i64 a0,.int .i64 a1,.int .i64 a2],.agg #[.int .i64 a0,.int .i64 a1,.int .i64 a2]] w
  λe w'=>e= .returned (.bool true)/\Keeps (λ_=>False) w w':=by
 go_enter Tryz.func141,Tryz.ntmps141;go_wp2;go_ret;exact⟨rfl,(Keeps.alloc _ _).trans (Keeps.alloc _ _)⟩
theorem Vi(L:List Ln)(v1 v2:Value)(w:World)(h1:Reads w 3 v1 L.length (L.flatMap Ln.cells))(h2:Reads w 3 v2 L.length (L.flatMap Ln.cells))(hl:L.length<=1000000000000):
  Calls Tryz.prog 140 #[v1,v2,.func (.func 141) #[] #[]] w λe w'=>e= .returned (.bool true)/\Keeps (λ_=>False) w w':=by
 have g1:=h1;have g2:=h2;obtain⟨ad1,c1,rfl,_,_⟩:=g1;obtain⟨ad2,c2,rfl,_,_⟩:=g2;obtain⟨H1,H2⟩:=hid2 h1 h2;clear h2 h1;go_enter Tryz.func140,Tryz.ntmps140;go_wp2
 go_loopw [7] (λi wr=>∃k:Nat,k<=L.length/\i= .int .i64 k/\Keeps (λ_=>False) w wr) (λi _=>L.length-(intOf i).toNat)
 case atStart=>exact⟨0,Nat.zero_le _,rfl,Keeps.refl _ _⟩
 case round=>
  obtain⟨k,hk,rfl,hkp⟩:=hrel;have Hkp:=Lib.hid hkp;clear hkp;by_cases hlt:k<L.length
  ·obtain⟨x,hx⟩:∃x,L[k]?=some x:=⟨L[k],List.getElem?_eq_getElem hlt⟩;obtain⟨g,o,c,he,hc⟩:=(H1.out.keeps Hkp.out (by simp)).elem Ln.Aj hx j7;obtain⟨g',o',c',he',hc'⟩:=(H2.out.keeps Hkp.out (by simp)).elem Ln.Aj hx j7;simp only [Value.slice.injEq,true_and] at he he';obtain⟨rfl,rfl⟩:=he;obtain⟨rfl,rfl⟩:=he';obtain⟨e0,e1,e2⟩:=x;have x0:wr.cell? ⟨g,o+k*3,none⟩=some (.int .i64 e0):=hc 0 j7;have x1:wr.cell? ⟨g,o+k*3+1,none⟩=some (.int .i64 e1):=hc 1 j7;have x2:wr.cell? ⟨g,o+k*3+2,none⟩=some (.int .i64 e2):=hc 2 j7;have y0:wr.cell? ⟨g',o'+k*3,none⟩=some (.int .i64 e0):=hc' 0 j7;have y1:wr.cell? ⟨g',o'+k*3+1,none⟩=some (.int .i64 e1):=hc' 1 j7;have y2:wr.cell? ⟨g',o'+k*3+2,none⟩=some (.int .i64 e2):=hc' 2 j7;clear hc hc';have Hx:=Lib.hid hx;clear hx;go_wp2
   go_still_tail 9,j9
   go_wp2_with (go_at_call 141;refine(Rw _ _ _ _).mono ?_;rintro e w' ⟨rfl,hk2⟩;have Hk2:=Lib.hid hk2;clear hk2)
   exact j3Q
  ·exact j0T
end Go.Proofs.YtgbgmadkmabeeaaGreat
