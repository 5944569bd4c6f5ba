/- Part 12 of the proof of ReplayRuns: walks and plain laws. -/
import Derived.Test.YtgfkeeicjjbnpaaGreatReplayRunsQ11
set_option maxRecDepth 100000
set_option maxHeartbeats 6400000
namespace Go.Proofs.YtgfkeeicjjbnpaaGreat
open Go.RowKit
theorem Tp{w0 Z:World}{B:Nat}{s:St}{E:Nat->List (List Int)}{vb vr vo vp:Value}{vs:Nat->Value}{F:Nat->List SI}{P:List SV}{m:Nat}{Q:List Value}{W:World}(h:DocV w0 Z B s.p s.R E vb vr vo vp vs F P m Q W)(t:Tm)(adT:Option Addr)(cT n:Nat)(L:List Ev)(ad:Option Addr)(cap N:Nat)
  (hz:t.err=0) (hn:t.trs.length=n) (htr:Reads W 2 (.slice adT n cT) n (t.trs.flatMap Tn.cells)) (hL:Reads W 5 (.slice ad N cap) N (L.flatMap Ev.cells)) (hLN:L.length=N) (hN:N<=1000000) (hok:∀x∈L,x.kind=2->0<=x.amount/\x.amount<=1000000000000000)
  (hE1:E 1=s.e0) (hE2:E 2=s.e1) (hlp:P.map SV.s=s.out) (hbn:s.p.bal.length=n) (hrn:s.R.length=n) (hen:∀a,a<3->(E a).length=n) (hpr:s.p.Ar=true) (hrt:∀x∈s.R,0<=x/\x<=10000000)
  (he0:∀r∈s.e0,∀y∈r,0<=y/\y<=1000000000000000) (he1:∀r∈s.e1,∀y∈r,0<=y/\y<=10000000) (hlen:∀(k:Nat) (a b:List Int),s.e0[k]?=some a->s.e1[k]?=some b->a.length=b.length/\a.length<=40000)
  (hcy:s.out.length+1<=300) (hm:m<=1000000000) (fr te:Int) (hsp: -135140<=fr/\fr<=te/\te<=2932896) (C:Option St) (hC:Dh t L n s fr te=C):
  Calls Tryz.prog 116 #[(.pointer (some ⟨B,0,none⟩)),.agg #[.int .i64 t.limit,.slice adT n cT,.int .i64 t.cyc,.int .i64 t.due,.int .i64 t.minFixed,.int .i64 t.minPart,.int .i64 t.start],.slice ad N cap,.agg #[.int .i64 fr,.int .i64 te]] W (DocClosed w0 Z B n E vr vs F m W C):=by
 have hnum:=Ck hz;rw [hn] at hnum;obtain⟨⟨l0,l1⟩,_⟩:=hnum;obtain⟨ab,cb,rfl⟩:∃a c,vb= .slice a n c:=by obtain⟨a,c,h,_⟩:=Ad h.bal;exact⟨a,c,by rw [h,hbn]⟩
 obtain⟨ar,cr,rfl⟩:∃a c,vr= .slice a n c:=by obtain⟨a,c,h,_⟩:=Ad h.rts;exact⟨a,c,by rw [h,hrn]⟩
 obtain⟨j,hj⟩:∃j,P.length=j:=⟨_,rfl⟩;obtain⟨av,cv,rfl⟩:∃a c,vo= .slice a j c:=by obtain⟨a,c,h,_⟩:=Ad h.out;exact⟨a,c,by rw [h,hj]⟩
 have hpo:s.out.length=j:=by rw [<-hlp,List.length_map];exact hj
 have hj1:j+1<=300:=by rw [<-hpo];exact hcy
 obtain⟨fb,hfb⟩:∃fb,freeB s.out fr L=fb:=⟨_,rfl⟩;obtain⟨W0,hW0⟩:∃W0,W0=(W.alloc (.cells #[.int .i64 t.limit,.slice adT n cT,.int .i64 t.cyc,.int .i64 t.due,.int .i64 t.minFixed,.int .i64 t.minPart,.int .i64 t.start] 24)).alloc (.cells #[.int .i64 fr,.int .i64 te] 55):=⟨_,rfl⟩;have hk0:Keeps (λ_=>False) W W0:=by rw [hW0];exact(Keeps.alloc _ _).nt (Keeps.alloc _ _)
 have hb5:W0.heap[W.heap.size]?=some (.cells #[.int .i64 t.limit,.slice adT n cT,.int .i64 t.cyc,.int .i64 t.due,.int .i64 t.minFixed,.int .i64 t.minPart,.int .i64 t.start] 24 (0,0)):=by rw [hW0];exact Ap (heap_alloc_new W _) _
 have hb7:W0.heap[W.heap.size+1]?=some (.cells #[.int .i64 fr,.int .i64 te] 55 (0,0)):=by rw [hW0];exact Av _ _ (by simp)
 have hq1:IntKind.i64.wrap ((j:Int)+1)=(j:Int)+1:=IntWalk.i64_in _ ⟨by omega,by omega⟩;have c4:=Aa h.blk 4;have bl:=lt_of_block h.blk;obtain⟨H,Hz,Hn,Htr,HL,HLN,Hok,HE1,HE2⟩:=hid9 h hz hn htr hL hLN hok hE1 hE2;clear hE2 hE1 hok hLN hL htr hn hz h;obtain⟨Hlp,Hbn,Hrn,Hen,Hpr,Hrt,He0,He1,Hlen⟩:=hid9 hlp hbn hrn hen hpr hrt he0 he1 hlen;clear hlen he1 he0 hrt hpr hen hrn hbn hlp;obtain⟨HC,Hj,Hpo,Hfb,Hk0,Hb5,Hb7⟩:=hid7 hC hj hpo hfb hk0 hb5 hb7;clear hb7 hb5 hk0 hfb hpo hj hC;go_enter Tryz.func116,Tryz.ntmps116
 go_upto_if 25 with fail
 rw [<-hW0];have HW0:=Lib.hid hW0;clear hW0 c4 bl
 go_cut [10] (λb wx=>b= .bool fb/\Keeps (λ_=>False) W0 wx)
 case first=>
  by_cases h0:j=0
  ·subst h0
   have hf:fb=true:=by
    have:s.out= []:=List.length_eq_zero_iff.1 Hpo.out;rw [<-Hfb.out,this];rfl
   subst hf;go_wp2_with fail;go_meet;exact⟨rfl,Keeps.refl _ _⟩
  ·have h0I:decide ((1:Int)<(j:Int)+1)=true:=by rw [decide_eq_true_iff];omega
   obtain⟨k,hjk⟩:∃k,j=k+1:=⟨j-1,by omega⟩
   have hqk:IntKind.i64.wrap ((j:Int)+1-2)=(k:Int):=by
    rw [show(j:Int)+1-2=(k:Int) by omega];exact IntWalk.i64_in _ ⟨by omega,by omega⟩
   have hkI:(k:Int)<(j:Int):=j3;obtain⟨x,hx⟩:=Aj (L:=P) (k:=k) (by rw [Hj.out];omega);have hd0:=H.out.keep0 Hk0.out;obtain⟨g,o,c,he,hc⟩:=(Reads.Ay hd0.out).elem SV.Aq hx j2;rw [Hj.out] at he;simp only [Value.slice.injEq,true_and] at he;obtain⟨rfl,rfl⟩:=he
   have hb:hasB x.s.total fr x.s.due L=fb:=by
    rw [<-Hfb.out,freeB,<-Hlp.out,List.getLast?_eq_getElem?,List.length_map,Hj.out,List.getElem?_map,show j-1=k by omega,hx];rfl
   obtain⟨⟨cy,xf,xt,xd,tt,xc,xm,xg,ln⟩,ax,cx⟩:=x;have hhas:=λW' (hW:Keeps (λ_=>False) W W')=>Xr tt fr xd L ad cap N W' (HL.out.keeps hW (by simp)) HLN.out hN Hok.out;simp only at hb;rw [hb] at hhas;have x0:W0.cell? ⟨g,o+k*9,none⟩=some (.int .i64 cy):=hc 0 j2;have x1:W0.cell? ⟨g,o+k*9+1,none⟩=some (.int .i64 xf):=hc 1 j2;have x2:W0.cell? ⟨g,o+k*9+2,none⟩=some (.int .i64 xt):=hc 2 j2;have x3:W0.cell? ⟨g,o+k*9+3,none⟩=some (.int .i64 xd):=hc 3 j2;have x4:W0.cell? ⟨g,o+k*9+4,none⟩=some (.slice ax ln.length cx):=hc 4 j2;have x5:W0.cell? ⟨g,o+k*9+5,none⟩=some (.int .i64 tt):=hc 5 j2;have x6:W0.cell? ⟨g,o+k*9+6,none⟩=some (.int .i64 xc):=hc 6 j2;have x7:W0.cell? ⟨g,o+k*9+7,none⟩=some (.int .i64 xm):=hc 7 j2;have x8:W0.cell? ⟨g,o+k*9+8,none⟩=some (.bool xg):=hc 8 j2;have xl:=Ai x0;have c4:=Aa hd0.blk 4;have bl:=lt_of_block hd0.blk;have s0:=Aa Hb7.out 0;have sl:=lt_of_block Hb7.out;clear hc;obtain⟨Hx,Hd0,Hb,Hhas,Hjk⟩:=hid5 hx hd0 hb hhas hjk;clear hjk hhas hb hd0 hx;go_wp2_with fail;refine(Hhas.out _ (Hk0.out.nt (Keeps.alloc _ _))).mono ?_;rintro e w2 ⟨rfl,hk2⟩;have Hk2:=Lib.hid ((Keeps.alloc (S:=λ_=>False) W0 _).nt hk2);clear hk2;go_wp2_with fail;go_meet;exact⟨rfl,Hk2.out⟩
 obtain⟨rfl,hk1⟩:=hcut;have hkw1:=Hk0.out.nt hk1;have hd1:=H.out.keep0 hkw1;have hb51:=Ac Hb5.out hk1 (by simp);have hb71:=Ac Hb7.out hk1 (by simp);have hF1:(F 1).length=n:=by rw [<-List.length_map (f:=SI.L),hd1.l 1 j2];exact Hen.out 1 j2
 have hF2:(F 2).length=n:=by rw [<-List.length_map (f:=SI.L),hd1.l 2 j2];exact Hen.out 2 j2
 obtain⟨a1,k1,hvs1,_,_⟩:=Ad (hd1.o 1 j2);obtain⟨a2,k2,hvs2,_,_⟩:=Ad (hd1.o 2 j2);rw [hF1] at hvs1;rw [hF2] at hvs2;have hl1:(F 1).map SI.L=s.e0:=by rw [hd1.l 1 j2];exact HE1.out
 have hl2:(F 2).map SI.L=s.e1:=by rw [hd1.l 2 j2];exact HE2.out
 have hlen2:∀(k:Nat) (x y:SI),(F 1)[k]?=some x->(F 2)[k]?=some y->x.L.length=y.L.length/\x.L.length<=40000:=λk x y hx hy=>Hlen.out k x.L y.L (by rw [<-hl1,List.getElem?_map,hx];rfl) (by rw [<-hl2,List.getElem?_map,hy];rfl)
 have hint:=fun(W':World) (hW:Keeps (λ_=>False) W W')=>Ny t (.slice adT n cT) (F 1) (F 2) a1 a2 k1 k2 n fb W' Hz.out Hn.out (Htr.out.keeps hW (by simp))
  (by have h1:=Reads.Ay ((H.out.keep0 hW).o 1 j2);rw [hF1,hvs1,<-Su] at h1;exact h1) hF1
  (λx hx=>⟨Reads.Ay ((H.out.keep0 hW).i 1 j2 x hx),by
   obtain⟨k,hk⟩:=List.getElem?_of_mem hx;obtain⟨y,hy⟩:=Aj (L:=F 2) (k:=k) (by rw [hF2,<-hF1];exact Cj hk);have:=hlen2 k x y hk hy
   unfold maxLen;omega⟩)
  (by have h1:=Reads.Ay ((H.out.keep0 hW).o 2 j2);rw [hF2,hvs2,<-Su] at h1;exact h1) hF2
  (λy hy=>⟨Reads.Ay ((H.out.keep0 hW).i 2 j2 y hy),by
   obtain⟨k,hk⟩:=List.getElem?_of_mem hy;obtain⟨x,hx⟩:=Aj (L:=F 1) (k:=k) (by rw [hF1,<-hF2];exact Cj hk);have:=hlen2 k x y hx hk
   unfold maxLen;omega⟩)
  hlen2 (λx hx=>He0.out x.L (by rw [<-hl1];exact List.mem_map_of_mem hx)) (λx hx=>He1.out x.L (by rw [<-hl2];exact List.mem_map_of_mem hx))
 obtain⟨O,hO⟩:∃O,intrO fb t.trs s.e0 s.e1=O:=⟨_,rfl⟩;rw [hl1,hl2,hO] at hint;have hC2:=HC.out;unfold Dh at hC2;rw [Hfb.out,hO] at hC2;have hS9:c9S W.heap.size B t.limit (.slice adT n cT) t.cyc t.due t.minFixed t.minPart t.start (.slice a1 n k1) (.slice a2 n k2) wc.drew:=(show c9S W.heap.size B t.limit (.slice adT n cT) t.cyc t.due t.minFixed t.minPart t.start (.slice a1 n k1) (.slice a2 n k2) wc from⟨Aa hb51 0,Aa hb51 1,Aa hb51 2,Aa hb51 3,Aa hb51 4,Aa hb51 5,Aa hb51 6,(Aa hd1.blk 7).trans (congrArg some hvs1),(Aa hd1.blk 8).trans (congrArg some hvs2)⟩).keep (Keeps.drew _);rcases O with _|V
 ·simp only at hC2;subst hC2;obtain⟨Hk1,Hkw1,Hd1,Hb51,Hb71,HF1,HF2,Hvs1,Hvs2⟩:=hid9 hk1 hkw1 hd1 hb51 hb71 hF1 hF2 hvs1 hvs2;clear hvs2 hvs1 hF2 hF1 hb71 hb51 hd1 hkw1 hk1;obtain⟨Hl1,Hl2,Hlen2,Hint,HO,HS9⟩:=hid6 hl1 hl2 hlen2 hint hO hS9;clear hS9 hO hint hlen2 hl2 hl1
  go_upto_region 9 with fail
  refine Ak (c9S W.heap.size B t.limit (.slice adT n cT) t.cyc t.due t.minFixed t.minPart t.start (.slice a1 n k1) (.slice a2 n k2)) (.take 0 (.take 1 (.take 2 (.take 3 (.take 4 (.take 5 (.take 6 (.take 7 (.take 8 (.take 9 (.move 10 (.take 11 (.take 12 (.take 13 (.take 14 (.take 15 .done)))))))))))))))) j4 j4 ?_ ?_
  ·exact HS9.out
  intro w3 hs3 hk3;refine je ?_;intro K hK
  go_at_call 179
  ((with_reducible refine(Hint.out _ (Hkw1.out.nt hk3)).mono ?_);rintro e w4 ⟨rfl,hk4⟩;dsimp only)
  refine hK.out _ _ j0j ?_;clear hK K;refine jg ?_;have Hkz:=Lib.hid ((Hkw1.out.nt hk3).nt hk4);clear hs3 hk3 hk4;go_wp2;go_ret;exact⟨rfl,Hkz.out⟩
 ·simp only at hC2;obtain⟨hVl,hVb⟩:=Lu Hn.out (by rw [<-hl1,List.length_map];exact hF1) (by rw [<-hl2,List.length_map];exact hF2) He0.out He1.out hO;rw [Hpo.out] at hC2;obtain⟨D,hD⟩:∃D,Eu t ((j:Int)+1) fr te s.p s.R V fb=D:=⟨_,rfl⟩;rw [hD] at hC2;obtain⟨⟨x,q,z⟩,hcv⟩:∃c,Da D=c:=⟨_,rfl⟩;obtain⟨Hk1,Hkw1,Hd1,Hb51,Hb71,HF1,HF2,Hvs1,Hvs2⟩:=hid9 hk1 hkw1 hd1 hb51 hb71 hF1 hF2 hvs1 hvs2;clear hvs2 hvs1 hF2 hF1 hb71 hb51 hd1 hkw1 hk1;obtain⟨Hl1,Hl2,Hlen2,Hint,HO,HS9,HC2,HVl,HVb⟩:=hid9 hl1 hl2 hlen2 hint hO hS9 hC2 hVl hVb;clear hVb hVl hC2 hS9 hO hint hlen2 hl2 hl1;obtain⟨HD,Hcv⟩:=hid2 hD hcv;clear hcv hD
  go_upto_region 9 with fail
  refine Ak (c9S W.heap.size B t.limit (.slice adT n cT) t.cyc t.due t.minFixed t.minPart t.start (.slice a1 n k1) (.slice a2 n k2)) (.take 0 (.take 1 (.take 2 (.take 3 (.take 4 (.take 5 (.take 6 (.take 7 (.take 8 (.take 9 (.move 10 (.take 11 (.take 12 (.take 13 (.take 14 (.take 15 .done)))))))))))))))) j4 j4 ?_ ?_
  ·exact HS9.out
  intro w3 hs3 hk3;refine je ?_;intro K hK
  go_at_call 179
  ((with_reducible refine(Hint.out _ (Hkw1.out.nt hk3)).mono ?_);rintro e w4 ⟨gV,rfl,hVn,hrV,hfV⟩;dsimp only)
  refine hK.out _ _ (by exact hs3.keep hfV.1) ?_;clear hK K;refine jg ?_;obtain⟨aV,cV,rfl,_,_⟩:=Ad hrV;have hk14:=hk3.nt hfV.1;have hk4w:=Hkw1.out.nt hk14;have hd4:=H.out.keep0 hk4w;have hb54:=Ac Hb51.out hk14 (by simp);have hb74:=Ac Hb71.out hk14 (by simp);have hS12:=(show c12S W.heap.size (W.heap.size+1) B t.limit (.slice adT n cT) t.cyc t.due t.minFixed t.minPart t.start fr te (.slice ab n cb) s.p.cr s.p.du (.slice ar n cr) w4 from⟨Aa hb54 0,Aa hb54 1,Aa hb54 2,Aa hb54 3,Aa hb54 4,Aa hb54 5,Aa hb54 6,Aa hb74 0,Aa hb74 1,Aa hd4.blk 0,Aa hd4.blk 1,Aa hd4.blk 2,Aa hd4.blk 3⟩).keep (Keeps.drew _);have hclo:=fun(W':World) (hW:Keeps (λ_=>False) w4 W')=>Tt t (.slice adT n cT) ((j:Int)+1) fr te s.p.bal V s.R s.p.cr s.p.du ab aV ar cb cV cr n fb W' Hz.out Hn.out (Htr.out.keeps (hk4w.nt hW) (by simp)) j1 hsp (by have h1:=Reads.Ay (hd4.keep0 hW).bal;rw [Hbn.out] at h1;exact h1) Hbn.out (Reads.Ay (hrV.of_keeps hW)) HVl.out (by have h1:=Reads.Ay (hd4.keep0 hW).rts;rw [Hrn.out] at h1;exact h1) Hrn.out Hpr.out (List.all_eq_true.2 λy hy=>(Aw y).2 (HVb.out y hy)) Hrt.out;rw [HD.out] at hclo;clear hs3 hk3 hk14 hVn hrV hfV;obtain⟨Hk4w,Hd4,Hb54,Hb74,HS12,Hclo⟩:=hid6 hk4w hd4 hb54 hb74 hS12 hclo;clear hclo hS12 hb74 hb54 hd4 hk4w
  go_upto_region 12 with fail
  go_cut [15,16,17] (λzz p8 p9 wx=>∃(b8 b9:Nat) (al:Option Addr) (cl2:Nat) (ab2:Option Addr) (cb2:Nat),zz= .int .i64 z/\p8=(.pointer (some ⟨b8,0,none⟩))/\p9=(.pointer (some ⟨b9,0,none⟩))/\Clo12 w4 wx x q b8 b9 al cl2 ab2 cb2)
  case first=>
   refine Ak (c12S W.heap.size (W.heap.size+1) B t.limit (.slice adT n cT) t.cyc t.due t.minFixed t.minPart t.start fr te (.slice ab n cb) s.p.cr s.p.du (.slice ar n cr)) (.take 0 (.take 1 (.take 2 (.take 3 (.take 4 (.take 5 (.take 6 (.take 7 (.take 8 (.take 9 (.take 10 (.take 11 (.take 12 (.fork3 13 (.take 14 (.take 15 (.take 16 (.take 17 (.fork 18 (.move 19 (.move 20 (.move 21 (.take 22 .done)))) 19 (.move 18 (.move 20 (.move 21 (.take 22 .done))))))))) 18 (.fork 13 (.take 14 (.take 15 (.take 16 (.take 17 (.move 19 (.move 20 (.move 21 (.take 22 .done)))))))) 19 (.move 13 (.take 14 (.take 15 (.take 16 (.take 17 (.move 20 (.move 21 (.take 22 .done))))))))) 19 (.fork 13 (.take 14 (.take 15 (.take 16 (.take 17 (.move 18 (.move 20 (.move 21 (.take 22 .done)))))))) 18 (.move 13 (.take 14 (.take 15 (.take 16 (.take 17 (.move 20 (.move 21 (.take 22 .done))))))))))))))))))))))) j4 j4 ?_ ?_
   ·exact HS12.out
   intro w7 hs7 hk7;have Hk7:=Lib.hid hk7;clear hk7;refine jR ?_;refine Rw ?_ ?_ ?_ hs7
   ·skip
    refine j7 ?_;intro K hK
    go_at_call 180
    ((with_reducible refine(Hclo.out _ (Hk7.out.nt jp)).mono ?_);rintro e w5 hpost)
    obtain⟨al,cl2,ab2,cb2,rfl,hln,hbn2,hk5,hol,hob⟩:=Cr.uni hpost Hcv.out;clear hpost;dsimp only;refine hK.out _ _ j51 ?_;clear hK K;refine ji ?_;refine Bz ?_ ?_ (hs7.keep j2q)
    ·skip
     refine j15 ?_;refine j52 ?_;intro wE hwE;have k7E:Keeps (λ_=>False) w7 wE:=by rw [hwE];exact(Keeps.nt j2r j16)
     have hb8:wE.heap[w5.heap.size]?=some (.cells #[.int .i64 0,.int .i64 0,.int .i64 0,.int .i64 0,.slice none 0 0,.int .i64 0,.int .i64 0,.int .i64 0,.bool false] 58 (0,0)):=by rw [hwE];exact Ap (heap_alloc_new (w5) _) _
     have hb9:wE.heap[w5.heap.size+1]?=some (.cells #[.slice none 0 0,.int .i64 0,.int .i64 0] 35 (0,0)):=by rw [hwE];exact Av _ _ (by simp)
     have k5E:Keeps (λ_=>False) w5 wE:=by rw [hwE];exact(Keeps.nt j53 j16)
     refine jr ?_;intro hlnE hbnE hs5
     try simp at hs5
     have holE:∀b,(Value.slice al x.lines.length cl2).ownBlock=some b->w7.heap.size<=b:=λb hb=>by have h1:=hol b hb;have h2:=((Keeps.refl (λ_=>False) w7)).size;omega
     have hobE:∀b,(Value.slice ab2 q.bal.length cb2).ownBlock=some b->w7.heap.size<=b:=λb hb=>by have h1:=hob b hb;have h2:=((Keeps.refl (λ_=>False) w7)).size;omega
     rw [<-hwE];obtain⟨b8,hb8e⟩:∃x,x=w5.heap.size:=⟨_,rfl⟩;obtain⟨b9,hb9e⟩:∃x,x=w5.heap.size+1:=⟨_,rfl⟩;exact j5U
    ·skip
     refine j15 ?_;refine j55 ?_;intro wE hwE;have k7E:Keeps (λ_=>False) w7 wE:=by rw [hwE];exact(Keeps.nt j2s j17)
     have hb8:wE.heap[w5.heap.size+1]?=some (.cells #[.int .i64 0,.int .i64 0,.int .i64 0,.int .i64 0,.slice none 0 0,.int .i64 0,.int .i64 0,.int .i64 0,.bool false] 58 (0,0)):=by rw [hwE];exact Av _ _ (by simp)
     have hb9:wE.heap[w5.heap.size]?=some (.cells #[.slice none 0 0,.int .i64 0,.int .i64 0] 35 (0,0)):=by rw [hwE];exact Ap (heap_alloc_new (w5) _) _
     have k5E:Keeps (λ_=>False) w5 wE:=by rw [hwE];exact(Keeps.nt j56 j17)
     refine jr ?_;intro hlnE hbnE hs5
     try simp at hs5
     have holE:∀b,(Value.slice al x.lines.length cl2).ownBlock=some b->w7.heap.size<=b:=λb hb=>by have h1:=hol b hb;have h2:=((Keeps.refl (λ_=>False) w7)).size;omega
     have hobE:∀b,(Value.slice ab2 q.bal.length cb2).ownBlock=some b->w7.heap.size<=b:=λb hb=>by have h1:=hob b hb;have h2:=((Keeps.refl (λ_=>False) w7)).size;omega
     rw [<-hwE];obtain⟨b8,hb8e⟩:∃x,x=w5.heap.size+1:=⟨_,rfl⟩;obtain⟨b9,hb9e⟩:∃x,x=w5.heap.size:=⟨_,rfl⟩;exact j1v
   ·skip
    refine j19 ?_;refine Bz ?_ ?_ (hs7.keep (Keeps.nt jp (Keeps.alloc _ _)))
    ·skip
     refine j7 ?_;intro K hK
     go_at_call 180
     ((with_reducible refine(Hclo.out _ (Hk7.out.nt jP)).mono ?_);rintro e w5 hpost)
     obtain⟨al,cl2,ab2,cb2,rfl,hln,hbn2,hk5,hol,hob⟩:=Cr.uni hpost Hcv.out;clear hpost;refine j57 ?_;clear hK K;refine j58 ?_;intro wE hwE;have k7E:Keeps (λ_=>False) w7 wE:=by rw [hwE];exact(Keeps.nt j1a j1b)
     have hb8:wE.heap[w7.heap.size]?=some (.cells #[.int .i64 0,.int .i64 0,.int .i64 0,.int .i64 0,.slice none 0 0,.int .i64 0,.int .i64 0,.int .i64 0,.bool false] 58 (0,0)):=by rw [hwE];exact Ap (Ac (heap_alloc_new (w7) _) hk5 (by simp)) _
     have hb9:wE.heap[w5.heap.size]?=some (.cells #[.slice none 0 0,.int .i64 0,.int .i64 0] 35 (0,0)):=by rw [hwE];exact heap_alloc_new (w5) _
     have k5E:Keeps (λ_=>False) w5 wE:=by rw [hwE];exact(Keeps.nt j1c j1b)
     refine jr ?_;intro hlnE hbnE hs5
     try simp at hs5
     have holE:∀b,(Value.slice al x.lines.length cl2).ownBlock=some b->w7.heap.size<=b:=λb hb=>by have h1:=hol b hb;have h2:=((Keeps.nt jp j1d)).size;omega
     have hobE:∀b,(Value.slice ab2 q.bal.length cb2).ownBlock=some b->w7.heap.size<=b:=λb hb=>by have h1:=hob b hb;have h2:=((Keeps.nt jp j1d)).size;omega
     rw [<-hwE];obtain⟨b8,hb8e⟩:∃x,x=w7.heap.size:=⟨_,rfl⟩;obtain⟨b9,hb9e⟩:∃x,x=w5.heap.size:=⟨_,rfl⟩;exact j1v
    ·skip
     refine j59 ?_;refine j7 ?_;intro K hK
     go_at_call 180
     ((with_reducible refine(Hclo.out _ (Hk7.out.nt j0p)).mono ?_);rintro e w5 hpost)
     obtain⟨al,cl2,ab2,cb2,rfl,hln,hbn2,hk5,hol,hob⟩:=Cr.uni hpost Hcv.out;clear hpost;refine j5a ?_;clear hK K;refine ji ?_;obtain⟨wE,hwE⟩:∃x,x=w5:=⟨_,rfl⟩;have k7E:Keeps (λ_=>False) w7 wE:=by rw [hwE];exact(Keeps.nt j0p hk5)
     have hb8:wE.heap[w7.heap.size]?=some (.cells #[.int .i64 0,.int .i64 0,.int .i64 0,.int .i64 0,.slice none 0 0,.int .i64 0,.int .i64 0,.int .i64 0,.bool false] 58 (0,0)):=by rw [hwE];exact Ac (Ap (heap_alloc_new (w7) _) _) hk5 (by simp)
     have hb9:wE.heap[w7.heap.size+1]?=some (.cells #[.slice none 0 0,.int .i64 0,.int .i64 0] 35 (0,0)):=by rw [hwE];exact Ac (Av _ _ (by simp)) hk5 (by simp)
     have k5E:Keeps (λ_=>False) w5 wE:=by rw [hwE];exact(Keeps.refl (λ_=>False) w5)
     refine jr ?_;intro hlnE hbnE hs5
     try simp at hs5
     have holE:∀b,(Value.slice al x.lines.length cl2).ownBlock=some b->w7.heap.size<=b:=λb hb=>by have h1:=hol b hb;have h2:=((Keeps.nt jP j1e)).size;omega
     have hobE:∀b,(Value.slice ab2 q.bal.length cb2).ownBlock=some b->w7.heap.size<=b:=λb hb=>by have h1:=hob b hb;have h2:=((Keeps.nt jP j1e)).size;omega
     rw [<-hwE];obtain⟨b8,hb8e⟩:∃x,x=w7.heap.size:=⟨_,rfl⟩;obtain⟨b9,hb9e⟩:∃x,x=w7.heap.size+1:=⟨_,rfl⟩;exact j5U
   ·skip
    refine j19 ?_;refine Bz ?_ ?_ (hs7.keep (Keeps.nt jp (Keeps.alloc _ _)))
    ·skip
     refine j7 ?_;intro K hK
     go_at_call 180
     ((with_reducible refine(Hclo.out _ (Hk7.out.nt jQ)).mono ?_);rintro e w5 hpost)
     obtain⟨al,cl2,ab2,cb2,rfl,hln,hbn2,hk5,hol,hob⟩:=Cr.uni hpost Hcv.out;clear hpost;refine j5b ?_;clear hK K;refine j5c ?_;intro wE hwE;have k7E:Keeps (λ_=>False) w7 wE:=by rw [hwE];exact(Keeps.nt j1f j1g)
     have hb8:wE.heap[w5.heap.size]?=some (.cells #[.int .i64 0,.int .i64 0,.int .i64 0,.int .i64 0,.slice none 0 0,.int .i64 0,.int .i64 0,.int .i64 0,.bool false] 58 (0,0)):=by rw [hwE];exact heap_alloc_new (w5) _
     have hb9:wE.heap[w7.heap.size]?=some (.cells #[.slice none 0 0,.int .i64 0,.int .i64 0] 35 (0,0)):=by rw [hwE];exact Ap (Ac (heap_alloc_new (w7) _) hk5 (by simp)) _
     have k5E:Keeps (λ_=>False) w5 wE:=by rw [hwE];exact(Keeps.nt j1c j1g)
     refine jr ?_;intro hlnE hbnE hs5
     try simp at hs5
     have holE:∀b,(Value.slice al x.lines.length cl2).ownBlock=some b->w7.heap.size<=b:=λb hb=>by have h1:=hol b hb;have h2:=((Keeps.nt jp j1h)).size;omega
     have hobE:∀b,(Value.slice ab2 q.bal.length cb2).ownBlock=some b->w7.heap.size<=b:=λb hb=>by have h1:=hob b hb;have h2:=((Keeps.nt jp j1h)).size;omega
     rw [<-hwE];obtain⟨b8,hb8e⟩:∃x,x=w5.heap.size:=⟨_,rfl⟩;obtain⟨b9,hb9e⟩:∃x,x=w7.heap.size:=⟨_,rfl⟩;exact j1v
    ·skip
     refine j5d ?_;refine j7 ?_;intro K hK
     go_at_call 180
     ((with_reducible refine(Hclo.out _ (Hk7.out.nt j0q)).mono ?_);rintro e w5 hpost)
     obtain⟨al,cl2,ab2,cb2,rfl,hln,hbn2,hk5,hol,hob⟩:=Cr.uni hpost Hcv.out;clear hpost;refine j5e ?_;clear hK K;refine ji ?_;obtain⟨wE,hwE⟩:∃x,x=w5:=⟨_,rfl⟩;have k7E:Keeps (λ_=>False) w7 wE:=by rw [hwE];exact(Keeps.nt j0q hk5)
     have hb8:wE.heap[w7.heap.size+1]?=some (.cells #[.int .i64 0,.int .i64 0,.int .i64 0,.int .i64 0,.slice none 0 0,.int .i64 0,.int .i64 0,.int .i64 0,.bool false] 58 (0,0)):=by rw [hwE];exact Ac (Av _ _ (by simp)) hk5 (by simp)
     have hb9:wE.heap[w7.heap.size]?=some (.cells #[.slice none 0 0,.int .i64 0,.int .i64 0] 35 (0,0)):=by rw [hwE];exact Ac (Ap (heap_alloc_new (w7) _) _) hk5 (by simp)
     have k5E:Keeps (λ_=>False) w5 wE:=by rw [hwE];exact(Keeps.refl (λ_=>False) w5)
     refine jr ?_;intro hlnE hbnE hs5
     try simp at hs5
     have holE:∀b,(Value.slice al x.lines.length cl2).ownBlock=some b->w7.heap.size<=b:=λb hb=>by have h1:=hol b hb;have h2:=((Keeps.nt jQ j1i)).size;omega
     have hobE:∀b,(Value.slice ab2 q.bal.length cb2).ownBlock=some b->w7.heap.size<=b:=λb hb=>by have h1:=hob b hb;have h2:=((Keeps.nt jQ j1i)).size;omega
     rw [<-hwE];obtain⟨b8,hb8e⟩:∃x,x=w7.heap.size+1:=⟨_,rfl⟩;obtain⟨b9,hb9e⟩:∃x,x=w7.heap.size:=⟨_,rfl⟩;exact j1v
  obtain⟨b8,b9,al,cl2,ab2,cb2,rfl,rfl,rfl,hclo12⟩:=hcut;rcases D with _|⟨x',q'⟩
  ·have hC':=HC2.out;simp only at hC';subst hC';have hcv':=Hcv.out;simp only [Da,Prod.mk.injEq] at hcv';obtain⟨rfl,rfl,rfl⟩:=hcv';have Hclo12:=Lib.hid hclo12;clear hclo12;go_wp2;go_ret;exact⟨rfl,Hk4w.out.nt Hclo12.out.kp⟩
  ·have hC':=HC2.out;simp only at hC';have hcv':=Hcv.out;simp only [Da,Prod.mk.injEq] at hcv';obtain⟨rfl,rfl,rfl⟩:=hcv';obtain⟨hql,hqr⟩:=Eb Hz.out Hpr.out (by rw [HVl.out];exact Hbn.out.symm) (List.all_eq_true.2 λy hy=>(Aw y).2 (HVb.out y hy)) HD.out;rw [Hbn.out] at hql;obtain⟨wk,hwk⟩:∃x,x=wc:=⟨_,rfl⟩;subst hwk;have hdc:=Hd4.out.keep0 hclo12.kp;have hdz:=hdc.fz;have hdc:=hdc.here;have Hdz:=Lib.hid hdz;clear hdz;obtain⟨i0,hi,hi0,hi1,hi2⟩:=info_parts Gi;obtain⟨ap,cp,rfl⟩:∃a c,vp= .slice a m c:=by obtain⟨a,c,h,_⟩:=Ad hdc.pst;exact⟨a,c,h⟩
   have h9:=hclo12.h9;have hbn2:=hclo12.bn;rw [hql] at h9 hbn2;have hpost:=fun(W':World) (hW:Keeps (λ_=>False) wk W')=>Jf s.p.bal q'.bal s.p.cr s.p.du q'.cr q'.du (-2) ab ab2 cb cb2 n W' (by have h1:=Reads.Ay (hdc.keep0 hW).bal;rw [Hbn.out] at h1;exact h1) Hbn.out (Reads.Ay (hbn2.of_keeps hW)) hql j1 Hpr.out hqr;have hS15:c15S B b9 (.slice ap m cp) (.slice ab n cb) s.p.cr s.p.du (.slice ab2 n cb2) q'.cr q'.du wk.drew:=(show c15S B b9 (.slice ap m cp) (.slice ab n cb) s.p.cr s.p.du (.slice ab2 n cb2) q'.cr q'.du wk from⟨Aa hdc.blk 6,Aa hdc.blk 0,Aa hdc.blk 1,Aa hdc.blk 2,Aa h9 0,Aa h9 1,Aa h9 2⟩).keep (S:=λ_=>False) (Keeps.drew _) (by simp) (by simp);obtain⟨HC',Hql,Hqr,Hdc,Hi,Hi0,Hi1,Hi2,H9⟩:=hid9 hC' hql hqr hdc hi hi0 hi1 hi2 h9;clear h9 hi2 hi1 hi0 hi hdc hqr hql hC';obtain⟨Hbn2,Hpost,HS15,Hclo12⟩:=hid4 hbn2 hpost hS15 hclo12;clear hclo12 hS15 hpost hbn2
   go_upto_region 15 with fail
   refine Cf (c15S B b9 (.slice ap m cp) (.slice ab n cb) s.p.cr s.p.du (.slice ab2 n cb2) q'.cr q'.du) 14 (.take 0 (.take 1 (.take 2 (.take 3 (.take 4 (.take 5 (.take 6 (.take 7 (.take 8 (.take 9 (.move 10 (.move 11 (.move 12 (.move 13 (.move 14 .done))))))))))))))) j4 j4 ?_ ?_
   ·exact HS15.out
   intro w15 hs15 hk15;refine je ?_;intro K hK
   go_at_call 114
   ((with_reducible refine(Hpost.out _ hk15).mono ?_);rintro e w16 ⟨vq,mq,xq,rfl,hmq,hrq,hoq,hfq⟩)
   obtain⟨aq,cq,rfl,_,_⟩:=Ad hrq;dsimp only;refine hK.out _ _ (by exact hs15.keep hfq.1 (by simp) (by simp)) ?_;clear hK K;refine ji ?_;have hkq:=hk15.nt hfq.1;have hdq:=Hdc.out.keep0 hkq;refine Ae rfl (λK hK=> ?_);refine Ah rfl (.tmp 91) (.tmp 97) 84 rfl 0 97 i0 _ 2 24 Tryz.underlying84 Hi.out Hi0.out Hi1.out Hi2.out rfl j2 (.slice ap m cp) m _ rfl hdq.pst _ mq _ rfl (Reads.Ay hrq) hoq j6 j1 j1 ?_;intro v17 w17 hown17 hk17 hf17;obtain⟨a17,c17,rfl,_,_⟩:=Ad hown17;have h9q:=Ac H9.out hkq (by simp);have nB:¬(Value.slice ap m cp).ownBlock=some B:=Ag hdq.pst hdq.blk j2;have n9:¬(Value.slice ap m cp).ownBlock=some b9:=Ag hdq.pst h9q j2;have hb17:=Ac hdq.blk hk17 nB
   have hadd:=Hdc.out.addPst hkq hk17 hown17 (λb hb=>by
    rcases hf17 with e|⟨g,e,hg⟩
    ·exact .inl (e▸hb)
    ·rw [e] at hb;simp only [Option.some.injEq] at hb;have:=hkq.size;exact .inr (by omega))
   have o6:=Aa hb17 6;have of6:=Ab hb17 6;have ol6:=lt_of_block hb17;refine hK.out _ _ j5V ?_;clear hK K;refine j5 ?_;obtain⟨W18,hW18⟩:∃y,y=w17.setCell ⟨B,6,none⟩ (.slice a17 (m+mq) c17):=⟨_,rfl⟩;have k18:Keeps (λi=>i=B) w17 W18:=by rw [hW18];exact Keeps.setCell _ _ _ rfl
   rw [<-hW18] at hadd;have h918:=Ac (Ac h9q hk17 n9) k18 (Mw h9q hdq.blk j2);have h8q:=Ac Hclo12.out.h8 hkq (by simp);have h818:=Ac (Ac h8q hk17 (Ag hdq.pst h8q j2)) k18 (Mw h8q hdq.blk j2);have hkk:Keeps (λi=>i=B\/(Value.slice av j cv).ownBlock=some i\/(Value.slice ap m cp).ownBlock=some i) w16 W18:=(hk17.mono λi _ e=> .inr (.inr e)).trans (k18.mono λi _ e=> .inl (.inl e));have hln18:=Hdc.out.rowk hkq hkk (Hclo12.out.ln.of_keeps hkq) j2 j2 j2;have hbn18:=Hdc.out.rowk hkq hkk (Hbn2.out.of_keeps hkq) j2 j2 j2;have hz18:wk.heap.size<=W18.heap.size:=Nat.le_trans (Nat.le_trans hkq.size hk17.size) k18.size;clear hs15 hf17 hk15 hfq;obtain⟨Hmq,Hrq,Hoq,Hkq,Hdq,Hown17,Hk17,H9q,H8q⟩:=hid9 hmq hrq hoq hkq hdq hown17 hk17 h9q h8q;clear h8q h9q hk17 hown17 hdq hkq hoq hrq hmq;obtain⟨Hb17,Hadd,K18,H918,H818,Hkk,Hln18,Hbn18,Hz18⟩:=hid9 hb17 hadd k18 h918 h818 hkk hln18 hbn18 hz18;clear hz18 hbn18 hln18 hkk h818 h918 k18 hadd hb17;clear nB n9;refine j5W ?_;refine jh ?_;rw [<-hW18];clear hW18 o6 of6 ol6;obtain⟨j0,ht,ht0,ht1,ht2⟩:=info_parts Rx;have hS16:c16S b8 b9 x' (.slice al x'.lines.length cl2) (.slice ab2 n cb2) q'.cr q'.du W18.drew:=(c16S.of H818.out H918.out).keep (S:=λ_=>False) (Keeps.drew _) (by simp) (by simp);obtain⟨Ht,Ht0,Ht1,Ht2,HS16⟩:=hid5 ht ht0 ht1 ht2 hS16;clear hS16 ht2 ht1 ht0 ht
   go_upto_region 16 with fail
   go_cut [] (λwx=>∃vo' vp' m' Q',DocV w0 wk B q' s.R E (.slice ab2 n cb2) (.slice ar n cr) vo' vp' vs F (P++ [⟨x',al,cl2⟩]) m' Q' wx/\m'<=m+(n+2))
   case first=>
    refine Ak (c16S b8 b9 x' (.slice al x'.lines.length cl2) (.slice ab2 n cb2) q'.cr q'.du) (.take 0 (.take 1 (.take 2 (.take 3 (.take 4 (.take 5 (.take 7 (.fork 6 (.move 8 (.move 9 (.take 10 (.take 11 (.move 12 (.take 13 (.take 14 (.move 15 .done)))))))) 8 (.move 6 (.move 9 (.take 10 (.take 11 (.move 12 (.take 13 (.take 14 (.move 15 .done)))))))))))))))) j4 j4 ?_ ?_
    ·exact HS16.out
    intro w19 hs19 hk19;have hk19a:=hk19.nt (Keeps.alloc w19 (.cells (SV.cells ⟨x',al,cl2⟩).toArray 58));have hd19:=Hadd.out.keep0 hk19a;have hd190:=Hadd.out.keep0 hk19;have c4:=Aa hd190.blk 4;have bl:=lt_of_block hd190.blk;clear hd190;refine jR ?_;refine Bz ?_ ?_ hs19
    ·skip
     refine j7 ?_;intro K hK;refine hK.out _ _ (by exact hs19) ?_;exact j5X
    ·skip
     refine j7 ?_;intro K hK;refine hK.out _ _ j5Y ?_;exact j5X
   obtain⟨vo',vp',m',Q',hdf,hmf⟩:=hcut;have hb5k:=Ac Hb54.out Hclo12.out.kp (by simp);have hb5f:=hdf.fz _ _ _ _ hb5k jF;have c1:=Aa hb5f 1;have tl:=lt_of_block hb5f;have hcl:=Li hdf n j1;obtain⟨Hb5k,Hb5f,Hcl,Hdf,Hmf⟩:=hid5 hb5k hb5f hcl hdf hmf;clear hmf hdf hcl hb5f hb5k;go_wp2_with fail;refine Hcl.out.mono ?_;rintro e w30 ⟨rfl,v1,v2,hdF⟩;clear c1 tl;have hC2':=HC'.out;subst hC2';have HdF:=Lib.hid hdF;clear hdF;go_wp2;go_ret;exact⟨rfl,_,_,_,_,_,_,_,_,DocV.rez HdF.out Hdz.out,by rw [List.map_append,Hlp.out];rfl,Hmf.out⟩
theorem Yg{B:List Int}{k b mn:Int}{i n:Nat}(hi:(i:Int)=k-1)(hin:i<n)(hBn:B.length=n)(hB:∀x∈B,0<=x)(_:B.getD i 0=b)(hmb:0<=b-mn):
  ∀(O:List Int) (u:List Int) (r:Int),(∀x∈O,1<=x/\x<=n)->0<=r->(b-mn=0\/r=0)->u[i]?=some 0->u.length=n->
  intoS B (O.filter (λx=>decide (x≠k))) (u.set i mn,r)=((intoS (B.set i (b-mn)) O (u,r)).1.set i mn,(intoS (B.set i (b-mn)) O (u,r)).2)/\(intoS (B.set i (b-mn)) O (u,r)).1[i]?=some 0:=by
 intro O
 induction O with
 |nil=>intro u r _ _ _ hu _;exact⟨rfl,hu⟩
 |cons x O ih=>
  intro u r hO hr0 hor hu hul;have hx:=hO x (List.mem_cons_self ..);have hO':∀y∈O,1<=y/\y<=n:=λy hy=>hO y (List.mem_cons_of_mem _ hy);by_cases hxk:x=k
  ·subst hxk;have hidx:(x-1).toNat=i:=j3
   have hg:(B.set i (b-mn)).getD i 0=b-mn:=by
    rw [List.getD_eq_getElem?_getD,List.getElem?_set_self j1];rfl
   have hmin:minI r (b-mn)=0:=by unfold minI;split<;>omega
   have hset:u.set i 0=u:=by
    apply List.ext_getElem?
    intro j;rw [List.getElem?_set]
    split
    ·rename_i h;subst h;rw [if_pos j1,hu]
    ·rfl
   have hf:(x::O).filter (λy=>decide (y≠x))=O.filter (λy=>decide (y≠x)):=by simp
   rw [hf]
   have hs:intoS (B.set i (b-mn)) (x::O) (u,r)=intoS (B.set i (b-mn)) O (u,r):=by
    conv=>lhs;unfold intoS
    simp only;rw [hidx,hg,hmin,hset,Int.sub_zero]
   rw [hs];exact ih u r hO' hr0 hor hu hul
  ·obtain⟨j,hj⟩:∃j:Nat,(j:Int)=x-1:=⟨(x-1).toNat,by omega⟩;have hidx:(x-1).toNat=j:=j3;have hji:¬i=j:=j3
   have hg:(B.set i (b-mn)).getD j 0=B.getD j 0:=by
    rw [List.getD_eq_getElem?_getD,List.getD_eq_getElem?_getD,List.getElem?_set_ne hji]
   have hf:(x::O).filter (λy=>decide (y≠k))=x::O.filter (λy=>decide (y≠k)):=by simp [hxk]
   rw [hf]
   have hBj:0<=B.getD j 0:=by
    rw [List.getD_eq_getElem?_getD];rcases h:B[j]? with _|y
    ·simp
    ·exact hB y (List.mem_of_getElem? h)
   obtain⟨q,hq⟩:∃q,minI r (B.getD j 0)=q:=⟨_,rfl⟩;have hq0:0<=q/\q<=r:=by rw [<-hq];unfold minI;split<;>omega
   have hs:intoS (B.set i (b-mn)) (x::O) (u,r)=intoS (B.set i (b-mn)) O (u.set j q,r-q):=by
    conv=>lhs;unfold intoS
    simp only;rw [hidx,hg,hq]
   have hs2:intoS B (x::O.filter (λy=>decide (y≠k))) (u.set i mn,r)=intoS B (O.filter (λy=>decide (y≠k))) ((u.set j q).set i mn,r-q):=by
    conv=>lhs;unfold intoS
    simp only;rw [hidx,hq,List.set_comm _ _ hji]
   rw [hs,hs2];exact ih (u.set j q) (r-q) hO' j1 j1 (by rw [List.getElem?_set_ne (λe=>hji e.symm)];exact hu) (by simpa using hul)
theorem Uu{n i:Nat}{mn:Int}:∀{u:List Int},u.length=n->u[i]?=some 0->i<n->List.zipWith (λx y=>x+y) ((List.replicate n 0).set i mn) u=u.set i mn:=by
 intro u hu h0 hi
 apply List.ext_getElem?
 intro j;rw [List.getElem?_zipWith,List.getElem?_set,List.getElem?_set];by_cases hj:i=j
 ·subst hj;rw [if_pos rfl,if_pos rfl,if_pos (by simpa using hi),if_pos j1,h0];simp
 ·rw [if_neg hj,if_neg hj,List.getElem?_replicate];by_cases hjn:j<n
  ·rw [if_pos hjn];obtain⟨y,hy⟩:=Aj (L:=u) (k:=j) j1;rw [hy];simp
  ·rw [if_neg hjn,List.getElem?_eq_none j1]
theorem give_doc{B O:List Int}{k a:Int}{i n:Nat}(hi:(i:Int)=k-1)(hin:i<n)(hBn:B.length=n)(hB:∀x∈B,0<=x)(hO:∀x∈O,1<=x/\x<=n)(ha:0<=a):
  intoL B (giveO k O) a=(List.zipWith (λx y=>x+y) ((List.replicate n 0).set i (minI a (B.getD i 0))) (intoL (B.set i (B.getD i 0-minI a (B.getD i 0))) O (a-minI a (B.getD i 0))).1,(intoL (B.set i (B.getD i 0-minI a (B.getD i 0))) O (a-minI a (B.getD i 0))).2):=by
 obtain⟨b,hb⟩:∃b,B.getD i 0=b:=⟨_,rfl⟩
 have hb0:0<=b:=by
  rw [<-hb,List.getD_eq_getElem?_getD,List.getElem?_eq_getElem j1];exact hB _ (List.getElem_mem _)
 obtain⟨mn,hmn⟩:∃m,minI a b=m:=⟨_,rfl⟩;have hm:0<=mn/\mn<=a/\mn<=b/\(b-mn=0\/a-mn=0):=by rw [<-hmn];unfold minI;split<;>omega
 have hidx:(k-1).toNat=i:=j3;obtain⟨h1,h2⟩:=Yg hi hin hBn hB hb j1 O (List.replicate n 0) (a-mn) hO j1 hm.2.2.2 (by rw [List.getElem?_replicate,if_pos hin]) (by simp);rw [hb,hmn]
 have e1:intoL B (giveO k O) a=intoS B (O.filter (λx=>decide (x≠k))) ((List.replicate n 0).set i mn,a-mn):=by
  unfold intoL giveO
  conv=>lhs;unfold intoS
  simp only;rw [hidx,hb,hmn,hBn]
 have e2:intoL (B.set i (b-mn)) O (a-mn)=intoS (B.set i (b-mn)) O (List.replicate n 0,a-mn):=by
  unfold intoL;rw [List.length_set,hBn]
 rw [e1,e2,h1];have hlen:(intoS (B.set i (b-mn)) O (List.replicate n 0,a-mn)).1.length=n:=by rw [Gz];simp
 rw [Uu hlen h2 hin]
theorem Xv(L R:List Int)(cr du k a:Int)(ad adR:Option Addr)(cap cR n:Nat)(w:World)(hr:Reads w 1 (.slice ad n cap) n (L.flatMap i64c))(hN:L.length=n)(hl:n<=1000)(hR:Reads w 1 (.slice adR n cR) n (R.flatMap i64c))(hRn:R.length=n)(hz:askE ⟨L,cr,du⟩ [k] a=0):
  Calls Tryz.prog 176 #[.agg #[.slice ad n cap,.int .i64 cr,.int .i64 du],.slice adR n cR,.int .i64 k,.int .i64 a] w (Di (giveR ⟨L,cr,du⟩ R k a).1 (giveR ⟨L,cr,du⟩ R k a).2 w):=by
 obtain⟨i0,hi,hi0,hi1,hi2⟩:=info_parts Ca;refine j2J ?_;intro hask;rw [hz] at hask;unfold giveR;rw [hz,if_pos rfl];obtain⟨hright,htr,hmon⟩:=Gq hz;obtain⟨hbal,hcr,hdu,hn1,hn8⟩:=Cc hright;simp only at hbal hcr hdu hn1 hn8;rw [hN] at hn1 hn8;obtain⟨k1,k2⟩:1<=k/\k<=n:=by simpa [trB,hN] using htr
 obtain⟨a0,a1⟩:=(Aw a).1 hmon;obtain⟨j,hj⟩:∃j:Nat,(j:Int)=k-1:=⟨(k-1).toNat,by omega⟩;have hjn:j<n:=j3;have hjN:(k-1).toNat=j:=j3;obtain⟨b,hb⟩:=Aj (L:=L) (k:=j) j1;obtain⟨b0,b1⟩:=hbal b (List.mem_of_getElem? hb);obtain⟨m,hm⟩:∃m,minI a b=m:=⟨_,rfl⟩;have hm2:0<=m/\m<=a/\m<=b:=by rw [<-hm];unfold minI;split<;>omega
 obtain⟨m0,m1,m2⟩:=hm2;have hbD:L.getD j 0=b:=by rw [List.getD_eq_getElem?_getD,hb];rfl
 have hokH:=Pg true hRn;have hdoc:=give_doc (B:=L) (O:=rankL true R) (a:=a) hj hjn hN (λx hx=>(hbal x hx).1) hokH.ok a0;rw [hbD,hm] at hdoc;have hordG:=Wm hokH ⟨k1,k2⟩;have hGb:=Ef (B:=L) (O:=giveO k (rankL true R)) (a:=a) (λx hx=>(hbal x hx).1) a0 (by rw [hN];exact hordG.ok);have hGl:=Cb L (giveO k (rankL true R)) a;obtain⟨u,r,hu⟩:∃u r,intoL (L.set j (b-m)) (rankL true R) (a-m)=(u,r):=⟨_,_,rfl⟩;rw [hu] at hdoc;simp only at hdoc;obtain⟨Q,hQ⟩:∃Q,List.zipWith (λx y:Int=>x+y) ((List.replicate n 0).set j m) u=Q:=⟨_,rfl⟩;rw [hQ] at hdoc;rw [hdoc] at hGb hGl;simp only at hGb hGl;obtain⟨r0,r1,hQe⟩:=hGb;rw [hN] at hGl;have hLs:(L.set j (b-m)).length=n:=by rw [List.length_set];exact hN
 have hLsb:∀x∈L.set j (b-m),0<=x/\x<=1000000000000000:=λx hx=>by
  rcases List.mem_or_eq_of_mem_set hx with h|h
  ·exact hbal x h
  ·omega
 have hLm:(L.set j (b-m)).all Az=true:=List.all_eq_true.2 λx hx=>(Aw x).2 (hLsb x hx);have hub:=Ef (B:=L.set j (b-m)) (O:=rankL true R) (a:=a-m) (λx hx=>(hLsb x hx).1) j1 (by rw [hLs];exact hokH.ok);have hul:=Cb (L.set j (b-m)) (rankL true R) (a-m);rw [hu] at hub hul;simp only at hub hul;obtain⟨_,_,hue⟩:=hub;rw [hLs] at hul;have ham:Az (a-m)=true:=(Aw _).2 ⟨by omega,by omega⟩;have hrk:=Dn true R;rw [hRn] at hrk
 have hQb:∀x∈Q,0<=x/\x<=2000000000000000:=λx hx=>by
  obtain⟨i,hi⟩:=List.getElem?_of_mem hx;have:=p1bd hQe hbal hi;omega
 have hhigh:=λW (hW:Keeps (λ_=>False) w W)=>Nn R adR cR n W (hR.keeps hW (by simp)) hRn j1;have hin:=λW (ad:Option Addr) (c g cg:Nat) (hr:RowZ W 2 g n cg (L.set j (b-m))) (hO:Reads W 1 (.slice ad n c) n ((rankL true R).flatMap i64c))=>Jl (L.set j (b-m)) (rankL true R) (a-m) (some ⟨g,0,none⟩) ad cg c n n W hr.reads hLs hO hrk hLm ham hokH j1 j1;rw [hu] at hin;simp only at hin;have hless:=λW g (hW:Keeps (λ_=>False) w W) (hg:RowZ W 2 g n n Q)=>Nk L Q cr du r ad (some ⟨g,0,none⟩) cap n n W (hr.keeps hW (by simp)) hN hl hn1 hg.reads hGl hbal hQb hcr ⟨r0,by omega⟩;unfold giveP;simp only;rw [hdoc];simp only;obtain⟨⟨q,z⟩,hG⟩:∃G:Ps×Int,(if Ps.Ar ⟨List.zipWith (λx y=>x-y) L Q,cr+r,du⟩=true then((⟨List.zipWith (λx y=>x-y) L Q,cr+r,du⟩:Ps),(0:Int)) else(ps0,5))=G:=⟨_,rfl⟩;rw [hG] at hless⊢;simp only at hless⊢;refine jU ?_;intro hmk;simp only [Int.toNat_natCast,hi1,Nat.mul_one] at hmk;refine j0a ?_;intro Z hZ;rw [<-hZ] at hmk;refine j1R ?_;intro q1 q2 q4;have q5:IntKind.i64.wrap (b-m)=b-m:=IntWalk.i64_in _ ⟨by omega,by omega⟩;have q6:IntKind.i64.wrap (a-m)=a-m:=IntWalk.i64_in _ ⟨by omega,by omega⟩;obtain⟨Hr,HR,HRn,HN,Hask,Hz,Hi,Hi0,Hi1⟩:=hid9 hr hR hRn hN hask hz hi hi0 hi1;clear hi1 hi0 hi hz hask hN hRn hR hr;obtain⟨Hi2,Hright,Htr,Hmon,Hbal,Hcr,Hdu,Hj,Hb⟩:=hid9 hi2 hright htr hmon hbal hcr hdu hj hb;clear hb hj hdu hcr hbal hmon htr hright hi2;obtain⟨Hm,HbD,HokH,Hdoc,HordG,HGl,Hu,HQ,HQe⟩:=hid9 hm hbD hokH hdoc hordG hGl hu hQ hQe;clear hQe hQ hu hGl hordG hdoc hokH hbD hm;obtain⟨HLs,HLsb,HLm,Hue,Hul,Ham,Hrk,HQb,Hhigh⟩:=hid9 hLs hLsb hLm hue hul ham hrk hQb hhigh;clear hhigh hQb hrk ham hul hue hLm hLsb hLs;obtain⟨Hin,Hless,HG,HZ⟩:=hid4 hin hless hG hZ;clear hZ hG hless hin;go_enter Tryz.func176,Tryz.ntmps176;go_wp2_with fail;refine(Hask.out _ j8).mono ?_;rintro e w1 ⟨rfl,hk1⟩;refine j1s ?_;intro hbx hrs hkw;have b0':=Aa hbx 0;have bl:=lt_of_block hbx;obtain⟨Hbx,Hrs,Hkw,Hk1⟩:=hid4 hbx hrs hkw hk1;clear hk1 hkw hrs hbx
 go_upto_region 7 with fail
 have hmade:=RowZ.made w1 2 n j6;rw [<-HZ.out] at hmade;have ka:=Keeps.alloc (S:=λ_=>False) w1 (.cells Z 2);have hbx2:=Ac Hbx.out ka (by simp);have hrs2:=Ac Hrs.out ka (by simp);have hkw2:=Hkw.out.nt ka;have hg1w:w.heap.size+1<w1.heap.size:=lt_of_block Hrs.out;obtain⟨g1,hg1⟩:∃y,y=w1.heap.size:=⟨_,rfl⟩;obtain⟨w2,hw2⟩:∃y,y=w1.alloc (.cells Z 2):=⟨_,rfl⟩;rw [<-hw2] at hmade hbx2 hrs2 hkw2⊢;rw [<-hg1] at hmade hg1w⊢;have cL0:=(Hr.out.keeps hkw2 (by simp)).int (k:= .i64) Hb.out;obtain⟨gL,oL,he,cL⟩:=cL0;subst he;clear b0' bl ka hw2 hg1;have b0':=Aa hbx2 0;have bl:=lt_of_block hbx2;have lL:=Ai cL;have hmd2:=hmade.set hjn m;have hz0:(List.replicate n (0:Int))[j]?=some 0:=by rw [List.getElem?_replicate,if_pos hjn]
 have c1:=hmade.cell hz0;have f1:=hmade.free j;have l1:=hmade.lt;obtain⟨Hmade,Hbx2,Hrs2,Hkw2,Hmd2,Hz0,Hg1w⟩:=hid7 hmade hbx2 hrs2 hkw2 hmd2 hz0 hg1w;clear hg1w hz0 hmd2 hkw2 hrs2 hbx2 hmade;clear c1 f1 l1
 go_cut [12] (λy wx=>y= .int .i64 m/\w2=wx)
 case first=>
  have hmn:=Hm.out;unfold minI at hmn;rcases Int.lt_trichotomy a b with hle|hle|hle
  ·rw [if_pos j1] at hmn;exact jZ
  ·exact j5u
  ·rw [if_neg j1] at hmn;exact jZ
 obtain⟨rfl,rfl⟩:=hcut;have c1:=Hmade.out.cell Hz0.out;have f1:=Hmade.out.free j;have l1:=Hmade.out.lt
 go_upto_region 9 with fail
 have k3:Keeps (λi=>i=g1) w2 (w2.setCell ⟨g1,j,none⟩ (.int .i64 m)):=Keeps.setCell _ _ _ rfl;have hmd3:=Hmd2.out;obtain⟨w3,hw3⟩:∃y,y=w2.setCell ⟨g1,j,none⟩ (.int .i64 m):=⟨_,rfl⟩;rw [<-hw3] at hmd3 k3⊢;have hg1w:=Hg1w.out;have hbx3:=Ac Hbx2.out k3 j1;have hrs3:=Ac Hrs2.out k3 j1;have hkw3:=Hkw2.out.trans (k3.mono λi _ e=> .inr j1);clear b0' bl c1 f1 l1 cL lL hw3 k3;have b0':=Aa hbx3 0;have bl:=lt_of_block hbx3;obtain⟨Hmd3,Hbx3,Hrs3,Hkw3,Hg1w⟩:=hid5 hmd3 hbx3 hrs3 hkw3 hg1w;clear hg1w hkw3 hrs3 hbx3 hmd3
 go_wp2_with (at_builtin;refine Ba rfl (.const (.slice none 0 0)) (.tmp 51) 33 rfl 0 2 i0 _ 1 8 Tryz.underlying33 Hi.out Hi0.out Hi1.out Hi2.out rfl j2 _ 0 [] rfl (World.ownsRow_nil _ _ _ _) _ n (L.flatMap i64c) rfl (Hr.out.keeps Hkw3.out (by simp)) (Bo _) j6 j1 j1 ?_;intro v4 w4 hown4 hk4 hf4;refine haltD ?_)
 refine Lib.hid ?_;have hrow4:w4.ownsRow 0 2 1 v4 n (L.flatMap i64c):=by simpa using hown4
 have hf4w:Fresh w3 w4 v4:=(Fresh.nil w3).app hk4 hf4;obtain⟨g2,c2,rfl⟩:=Co hrow4 hn1;have hg2:w3.heap.size<=g2:=hf4w.2 g2 rfl;have hk4n:=hf4w.1;have hbx4:=Ac Hbx3.out hk4n (by simp);have hrs4:=Ac Hrs3.out hk4n (by simp);have hkw4:=Hkw3.out.nt hk4n;have hmd4:=Hmd3.out.keep hk4n;have hr4:RowZ w4 2 g2 n c2 L:=⟨hrow4,HN.out⟩;have hg12:g1<g2:=by have:=Hmd3.out.lt;omega
 clear hown4 hk4 hf4 b0' bl;have c2':=hr4.cell Hb.out;have f2':=hr4.free j;have l2':=hr4.lt;have hr5:=hr4.set hjn (b-m);obtain⟨Hrow4,Hf4w,Hg2,Hk4n,Hbx4,Hrs4,Hkw4,Hmd4,Hr4⟩:=hid9 hrow4 hf4w hg2 hk4n hbx4 hrs4 hkw4 hmd4 hr4;clear hr4 hmd4 hkw4 hrs4 hbx4 hk4n hg2 hf4w hrow4;obtain⟨Hg12,Hr5⟩:=hid2 hg12 hr5;clear hr5 hg12
 go_upto_region 11 with fail
 have k5:Keeps (λi=>i=g2) w4 (w4.setCell ⟨g2,j,none⟩ (.int .i64 (b-m))):=Keeps.setCell _ _ _ rfl;have hr5:=Hr5.out;obtain⟨w5,hw5⟩:∃y,y=w4.setCell ⟨g2,j,none⟩ (.int .i64 (b-m)):=⟨_,rfl⟩;rw [<-hw5] at hr5 k5⊢;have hg12:=Hg12.out;have hg1w:=Hg1w.out;have hbx5:=Ac Hbx4.out k5 j1;have hrs5:=Ac Hrs4.out k5 j1;have hkw5:=Hkw4.out.trans (k5.mono λi _ e=> .inr j1);have hmd5:RowZ w5 2 g1 n n ((List.replicate n 0).set j m):=⟨k5.row Hmd4.out.1 (λg' hg' e=>by have:=own_ne hg';omega),Hmd4.out.2⟩;clear c2' f2' l2' hw5 k5;obtain⟨Hr5,Hbx5,Hrs5,Hkw5,Hmd5,Hg12,Hg1w⟩:=hid7 hr5 hbx5 hrs5 hkw5 hmd5 hg12 hg1w;clear hg1w hg12 hmd5 hkw5 hrs5 hbx5 hr5;go_wp2_with fail;refine(Hhigh.out _ Hkw5.out).mono ?_;rintro e w6 ⟨a6,c6,rfl,hrow6,hk6⟩;have hr6:=Hr5.out.keep hk6;have hmd6:=Hmd5.out.keep hk6;have hbx6:=Ac Hbx5.out hk6 (by simp);have hrs6:=Ac Hrs5.out hk6 (by simp);have hkw6:=Hkw5.out.nt hk6;obtain⟨Hr6,Hmd6,Hbx6,Hrs6,Hkw6,Hrow6,Hk6⟩:=hid7 hr6 hmd6 hbx6 hrs6 hkw6 hrow6 hk6;clear hk6 hrow6 hkw6 hrs6 hbx6 hmd6 hr6;go_wp2_with fail;refine(Hin.out _ _ _ _ _ Hr6.out Hrow6.out).mono ?_;rintro e w7 ⟨g3,rfl,hrow7,hk7,hg3⟩;have hmd7:=Hmd6.out.keep hk7;have hbx7:=Ac Hbx6.out hk7 (by simp);have hrs7:=Ac Hrs6.out hk7 (by simp);have hkw7:=Hkw6.out.nt hk7;have hg13:¬g1=g3:=by have:=Hmd6.out.lt;omega
 obtain⟨Hmd7,Hbx7,Hrs7,Hkw7,Hrow7,Hk7,Hg3,Hg13⟩:=hid8 hmd7 hbx7 hrs7 hkw7 hrow7 hk7 hg3 hg13;clear hg13 hg3 hk7 hrow7 hkw7 hrs7 hbx7 hmd7;go_wp2;have hP1l:((List.replicate n (0:Int)).set j m).length=n:=by simp
 have hP1b:∀(i:Nat) (x:Int),((List.replicate n (0:Int)).set j m)[i]?=some x->0<=x/\x<=1000000000000000:=λi x hx=>by
  rcases List.mem_or_eq_of_mem_set (List.mem_of_getElem? hx) with h|h
  ·have:=(List.mem_replicate.1 h).2;omega
  ·omega
 obtain⟨P1,hP1⟩:∃P,(List.replicate n (0:Int)).set j m=P:=⟨_,rfl⟩;have hmd7:=Hmd7.out;have hQ':=HQ.out;rw [hP1] at hP1l hP1b hmd7 hQ';clear Hmd7 HQ;obtain⟨Hmd7,HQ',HP1l,HP1b,HP1⟩:=hid5 hmd7 hQ' hP1l hP1b hP1;clear hP1 hP1b hP1l hQ' hmd7
 go_loopw [17] (λx wx=>∃i:Nat,x= .int .i64 (i:Nat)/\i<=n/\RowZ wx 2 g1 n n (stepL (λx y=>x+y) P1 u i)/\Keeps (λk=>k=g1) w7 wx) (λx _=>n-(intOf x).toNat)
 case atStart=>exact⟨0,rfl,Nat.zero_le _,by rw [Dw];exact Hmd7.out,Keeps.refl _ _⟩
 case round=>
  obtain⟨i,rfl,hin,hrowj,hkj⟩:=hrel;obtain⟨wz,hwz⟩:∃x,x=wr:=⟨_,rfl⟩;subst hwz;have hrq:RowZ wz 2 g3 n n u:=⟨hkj.row Hrow7.out.1 (λg' hg e=>by simp only [Value.ownBlock,Option.some.injEq] at hg;subst hg;exact Hg13.out e.symm),Hrow7.out.2⟩;by_cases hlt:i<n
  ·have hltI:(i:Int)<(n:Int):=j3;obtain⟨x,hx⟩:=Aj (L:=P1) (k:=i) (by rw [HP1l.out];exact hlt);obtain⟨y,hy⟩:=Aj (L:=u) (k:=i) (by rw [Hul.out];exact hlt);obtain⟨x0,x1⟩:=HP1b.out i x hx;obtain⟨y0,y1⟩:=p1bd Hue.out HLsb.out hy;have hex:=El (f:=λx y=>x+y) (P:=u) (by rw [HP1l.out,Hul.out]) hx;have hS:r10T g1 i g3 i x y wz:=⟨hrowj.cell hex,hrq.cell hy⟩;have hSd:=hS.keep (S:=λ_=>False) (Keeps.drew wz) (by simp) (by simp);have hst:=Ej (f:=λx y=>x+y) (P:=u) (by rw [HP1l.out,Hul.out]) hx hy;have hq1:IntKind.i64.wrap (x+y)=x+y:=IntWalk.i64_in _ ⟨by omega,by omega⟩;have hrd:∀w1,Keeps (λ_=>False) wz w1->RowZ w1 2 g1 n n (stepL (λx y=>x+y) P1 u i):=λw1 h=>hrowj.keep h
   have hnewr:∀w1,Keeps (λ_=>False) wz w1->RowZ (w1.setCell ⟨g1,i,none⟩ (.int .i64 (x+y))) 2 g1 n n (stepL (λx y=>x+y) P1 u (i+1)):=λw1 h=>by
    have:=(hrowj.keep h).set hlt (x+y)
    rwa [hst] at this
   have hnk:∀w1,Keeps (λ_=>False) wz w1->Keeps (λk=>k=g1) w7 (w1.setCell ⟨g1,i,none⟩ (.int .i64 (x+y))):=λw1 h=>(hkj.trans (h.mono λk _ e=> .inl e.elim)).trans (Keeps.setCell _ _ _ (.inl rfl));obtain⟨Hrowj,Hkj,Hrq,Hx,Hy,Hex,HS,HSd,Hst⟩:=hid9 hrowj hkj hrq hx hy hex hS hSd hst;clear hst hSd hS hex hy hx hrq hkj hrowj;obtain⟨Hrd,Hnewr,Hnk⟩:=hid3 hrd hnewr hnk;clear hnk hnewr hrd;go_wp2_with fail;refine Bj (r10T g1 i g3 i x y) 12 (.take 0 (.take 1 (.take 2 (.take 3 (.take 4 (.take 5 (.take 6 (.take 7 (.take 8 (.take 9 (.take 10 (.take 11 (.move 12 .done))))))))))))) j4 j4 ?_ ?_
   ·exact HSd.out
   intro w9 hs9 hk9;have r9:=Hrd.out _ hk9;have c9:=r9.cell Hex.out;have f9:=r9.free i;have l9:=r9.lt;obtain⟨Hs9,Hk9,R9⟩:=hid3 hs9 hk9 r9;clear r9 hk9 hs9;refine jR ?_;refine jh ?_;have hn8:=Hnewr.out _ Hk9.out;have hn9:=Hnk.out _ Hk9.out;clear c9 f9 l9;exact j5v
  ·obtain rfl:i=n:=by omega
   rw [Dx (by rw [HP1l.out,Hul.out]) HP1l.out,HQ'.out] at hrowj;have hg1w:=Hg1w.out;have hkz:Keeps (λ_=>False) w wz:=Hkw7.out.trans (hkj.mono λi _ e=> .inr j1);have hbx8:=Ac Hbx7.out hkj j1;have hrs8:=Ac Hrs7.out hkj j1;have c0:=Aa hbx8 0;have c1:=Aa hbx8 1;have c2:=Aa hbx8 2;have bl:=lt_of_block hbx8;obtain⟨Hrowj,Hkj,Hrq,Hkz,Hbx8,Hrs8,Hg1w⟩:=hid7 hrowj hkj hrq hkz hbx8 hrs8 hg1w;clear hg1w hrs8 hbx8 hkz hrq hkj hrowj;go_wp2_with fail;refine(Hless.out _ _ Hkz.out Hrowj.out).mono ?_;intro e w10 hg;obtain⟨a2,n2,c3,rfl,hres,hend⟩:=hg.up Hkz.out Hrs8.out j1;clear hg c0 c1 c2 bl;refine js ?_;intro r0 r1 r2 rf0 rf1 rf2 rl sr0 sr1 sr2 hgv;obtain⟨Hres,Hend,Sr0,Sr1,Sr2,Hgv⟩:=hid6 hres hend sr0 sr1 sr2 hgv;clear hgv sr2 sr1 sr0 hend hres;go_wp2;refine ja ?_;intro R0' R1' R2';clear r0 r1 r2;exact bodyPost_ret (v:= .tuple #[.agg #[.slice a2 n2 c3,.int .i64 q.cr,.int .i64 q.du],.int .i64 z]) (by simp [results,Tryz.results176,go_sem,R0',R1',R2']) rfl Hgv.out
theorem Vr(L R:List Int)(cr du k a:Int)(ad adR:Option Addr)(cap cR n:Nat)(w:World)(hr:Reads w 1 (.slice ad n cap) n (L.flatMap i64c))(hN:L.length=n)(hl:n<=1000)(z:Int)(hz:askE ⟨L,cr,du⟩ [k] a=z)(h0:¬z=0):
  Calls Tryz.prog 176 #[.agg #[.slice ad n cap,.int .i64 cr,.int .i64 du],.slice adR n cR,.int .i64 k,.int .i64 a] w (Di (giveR ⟨L,cr,du⟩ R k a).1 (giveR ⟨L,cr,du⟩ R k a).2 w):=by
 refine j2J ?_;intro hask;rw [hz] at hask;unfold giveR;rw [hz,if_neg h0];have hne:decide (z=0)=false:=by rw [decide_eq_false_iff_not];exact h0
 obtain⟨Hr,Hask,Hz⟩:=hid3 hr hask hz;clear hz hask hr;go_enter Tryz.func176,Tryz.ntmps176;go_wp2_with fail;refine(Hask.out _ j8).mono ?_;rintro e w1 ⟨rfl,hk1⟩;refine j1t ?_;intro hres hkw;have hend:=P11.bad z hres hkw j1;obtain⟨Hkw,Hk1⟩:=hid2 hkw hk1;clear hk1 hkw;refine js ?_;intro r0 r1 r2 rf0 rf1 rf2 rl sr0 sr1 sr2 hgv;obtain⟨Hres,Hend,Sr0,Sr1,Sr2,Hgv⟩:=hid6 hres hend sr0 sr1 sr2 hgv;clear hgv sr2 sr1 sr0 hend hres;go_wp2;refine ja ?_;intro R0' R1' R2';clear r0 r1 r2;exact bodyPost_ret (v:= .tuple #[.agg #[.slice none 0 0,.int .i64 0,.int .i64 0],.int .i64 z]) (by simp [results,Tryz.results176,go_sem,R0',R1',R2']) rfl Hgv.out
theorem Nl(L R:List Int)(cr du k a:Int)(ad adR:Option Addr)(cap cR n:Nat)(w:World)(hr:Reads w 1 (.slice ad n cap) n (L.flatMap i64c))(hN:L.length=n)(hl:n<=1000)(hR:Reads w 1 (.slice adR n cR) n (R.flatMap i64c))(hRn:R.length=n):
  Calls Tryz.prog 176 #[.agg #[.slice ad n cap,.int .i64 cr,.int .i64 du],.slice adR n cR,.int .i64 k,.int .i64 a] w (Di (giveR ⟨L,cr,du⟩ R k a).1 (giveR ⟨L,cr,du⟩ R k a).2 w):=by
 by_cases h0:askE ⟨L,cr,du⟩ [k] a=0
 ·exact Xv L R cr du k a ad adR cap cR n w hr hN hl hR hRn h0
 ·exact Vr L R cr du k a ad adR cap cR n w hr hN hl _ rfl h0
theorem AB.keepB{E:Array Value}{w W W':World}{B:Nat}(h:AB E w W)(hk:Keeps (λi=>i=B) W W')(hB:w.heap.size+1+1<B):AB E w W':=⟨Ac h.e hk (by omega),Ac h.r hk (by omega),h.kp.trans (hk.mono λi _ e=> .inr (by have e':i=B:=e;omega))⟩
def okr(x:Int):Bool:=decide (0<=x)&&decide (x<=10000000)
def ok1(p:Ps)(R:List Int)(ki:Int):Bool:=p.Ar&&(decide (R.length=p.bal.length)&&(decide (1<=ki)&&decide (ki<=6)))
def ok3(p:Ps)(R:List Int)(ki tr:Int):Bool:=(ok1 p R ki&&R.all okr)&&(decide (ki=2)||(decide (1<=tr)&&decide (tr<=p.bal.length)))
theorem okr_not(x:Int):okr x= !(rateB x):=by
 rcases h:rateB x with _|_
 ·have:=(Mo x).1 h;simp [okr,this]
 ·rcases h2:okr x with _|_
  ·rfl
  ·simp only [okr,Bool.and_eq_true,decide_eq_true_eq] at h2;rw [(Mo x).2 h2] at h
   cases h
theorem mayA_ok3(p:Ps)(R:List Int)(e:Ev):mayA p R e=(ok3 p R e.kind e.tranche&& !(decide (e.kind=6)&&(decide (e.amount<0)||decide (10000000<e.amount)))):=by
 have hall:R.all okr= !(R.any rateB):=by
  rw [show okr=λx=> !(rateB x) from funext okr_not];simp [List.not_any_eq_all_not]
 unfold mayA ok3 ok1;rw [hall];rcases p.Ar with _|_
 ·simp
 ·by_cases hl:R.length=p.bal.length
  ·rcases R.any rateB with _|_
   ·have hl2:(R.length:Int)=(p.bal.length:Int):=j3;simp only [hl,decide_true,Bool.true_and,Bool.not_false,Bool.and_true];rw [Bool.eq_iff_iff];simp only [Bool.and_eq_true,Bool.or_eq_true,Bool.not_eq_true',Bool.or_eq_false_iff,Bool.and_eq_false_iff,decide_eq_true_eq,decide_eq_false_iff_not,bne_iff_ne,ne_eq,bne_eq_false_iff_eq];omega
   ·simp
  ·simp [hl]
end Go.Proofs.YtgfkeeicjjbnpaaGreat
