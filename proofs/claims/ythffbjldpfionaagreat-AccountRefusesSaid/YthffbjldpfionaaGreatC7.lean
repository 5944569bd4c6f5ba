/- Part 7 of what the laws of this seat share: walks of functions, and plain laws. -/
import Derived.Test.YthffbjldpfionaaGreatC6
namespace Go.Proofs.YthffbjldpfionaaGreat
open Go.RowKit
theorem jZ6{P:Prop}(h:P:=by
 have r0:=Aa hbx5 0
 have r1:=Aa hbx5 1
 have r2:=Aa hbx5 2
 have rf0:=Ab hbx5 0
 have rf1:=Ab hbx5 1
 have rf2:=Ab hbx5 2
 have rl:=lt_of_block hbx5
 obtain⟨hbx6,k6⟩:=store3 hbx5 (.slice a5 q.bal.length c5) (.int .i64 q.cr) (.int .i64 q.du)
 have k2W:Keeps (fun _=>False) w2 (((w6.setCell ⟨b4,0,none⟩ (.slice a5 q.bal.length c5)).setCell ⟨b4,1,none⟩ (.int .i64 q.cr)).setCell ⟨b4,2,none⟩ (.int .i64 q.du)):=k26.trans (k6.mono fun i _ e=> .inr (by have e':i=b4:=e;omega))
 have hrb6:=k6.row hrb5 (fun i hi e=>by have e':i=b4:=e;exact hneb i hi e')
 have hrr6:=k6.row hrr5 (fun i hi e=>by have e':i=b4:=e;exact hner i hi e')
 have hkA6:=hk2.nt k2W
 refine Ak rfl (fun K hK=> ?_)
 go_simp
 refine hK.out _ _ (by exact hs2.keep k2W) ?_
 clear hK K
 try simp only [aps]
 repeat ((first|refine Ai rfl (by rfl) ?_|refine Af rfl (by rfl) ?_|(refine Ah (v:= ?_) rfl (by rfl) ?_ ?_;rotate_left;(· intro w' hSw;unfold evS3 at hSw;go_simp;(try with_reducible rfl));rotate_right));try simp only [aps])
 refine Aw ?_
 clear r0 r1 r2 rf0 rf1 rf2 rl
 obtain⟨W6,hW6⟩:∃x,x=(((w6.setCell ⟨b4,0,none⟩ (.slice a5 q.bal.length c5)).setCell ⟨b4,1,none⟩ (.int .i64 q.cr)).setCell ⟨b4,2,none⟩ (.int .i64 q.du)):=⟨_,rfl⟩
 rw [←hW6] at hkA6 hrb6 hrr6 hbx6⊢
 clear hW6 k6 k2W hneb hner hrb5 hrr5 hbx5 k26 hs2 hk2
 have hkq6:=Hk1x.out.nt hkA6
 have hrv6:=Hrv.out.keep0 hkq6
 by_cases hz0:z=0
 ·subst hz0
  obtain⟨ok1,ok2,_,_⟩:=Hok.out rfl
  simp only at ok1 ok2
  have hev2:=Hev.out
  rw [if_pos rfl] at hev2
  have hq1:q.bal.length=n:=by rw [ok1];exact Hrv.out.nb
  have hq2:R'.length=n:=by rw [ok2];exact Hrv.out.nr
  rw [hq1] at hrb6 hbx6 hgb6⊢
  rw [hq2] at hrr6 hgr6⊢
  have hset:=Hrv.out.setP hkq6 hrb6 hrr6 hq1 hq2 hgb6 hgr6
  have hset2:=hset.setI (i+1)
  have t0:=Aa hbx6 0
  have t1:=Aa hbx6 1
  have t2:=Aa hbx6 2
  have tl:=lt_of_block hbx6
  have b8:=Aa hrv6.blk 8
  have b10:=Aa hrv6.blk 10
  have b11:=Aa hrv6.blk 11
  have b12:=Aa hrv6.blk 12
  have b13:=Aa hrv6.blk 13
  have b17:=Aa hrv6.blk 17
  have q8:=Ab hrv6.blk 8
  have q10:=Ab hrv6.blk 10
  have q11:=Ab hrv6.blk 11
  have q12:=Ab hrv6.blk 12
  have q13:=Ab hrv6.blk 13
  have bl:=lt_of_block hrv6.blk
  have hil:(i:Int)+1≤1000000:=by omega
  have hnil2:=Hnil.out
  obtain⟨W8,hW8⟩:∃x,x=(((((W6.setCell ⟨B,10,none⟩ (.slice a5 n c5)).setCell ⟨B,11,none⟩ (.int .i64 q.cr)).setCell ⟨B,12,none⟩ (.int .i64 q.du)).setCell ⟨B,13,none⟩ (.slice a6 n c6)).setCell ⟨B,8,none⟩ (.int .i64 ((i+1:Nat):Int))):=⟨_,rfl⟩
  rw [←hW8] at hset2
  rw [show((i+1:Nat):Int)=(i:Int)+1 by omega] at hW8
  have hci8:cellInt W8 B 8=((i+1:Nat):Int):=Ci (Aa hset2.blk 8)
  obtain⟨HkA6,Hrb6,Hrr6,Hbx6,Hkq6,Hrv6,Hset,Hset2,Hev2⟩:=hid9 hkA6 hrb6 hrr6 hbx6 hkq6 hrv6 hset hset2 hev2;clear hev2 hset2 hset hrv6 hkq6 hbx6 hrr6 hrb6 hkA6;obtain⟨Hgb6,Hgr6,Hci8,Hnil2,Ok1,Ok2,Hq1,Hq2,Hb4n⟩:=hid9 hgb6 hgr6 hci8 hnil2 ok1 ok2 hq1 hq2 hb4n;clear hb4n hq2 hq1 ok2 ok1 hnil2 hci8 hgr6 hgb6
  have hnil2:=Hnil.out
  go_wp2
  rw [←hW8]
  clear hW8
  go_roundw
  case rel=>exact⟨i+1,q,R',_,_,rfl,by omega,Hev2.out,Hset2.out⟩
  case measure=>rw [Hci.out,Hci8.out];omega
 ·have hev2:=Hev.out
  rw [if_neg hz0] at hev2
  have hz1:(z !=0)=true:=by simp [hz0]
  subst hev2
  obtain⟨HkA6,Hrb6,Hrr6,Hbx6,Hkq6,Hrv6,Hgb6,Hgr6,Hz0⟩:=hid9 hkA6 hrb6 hrr6 hbx6 hkq6 hrv6 hgb6 hgr6 hz0;clear hz0 hgr6 hgb6 hrv6 hkq6 hbx6 hrr6 hrb6 hkA6;have Hb4n:=Lib.hid hb4n;clear hb4n
  go_wp2
  go_ret
  exact⟨rfl,_,_,Hrv6.out⟩):P:=h
theorem jZ89{P:Prop}(h:P:=by
 refine Aw ?_
 have hrv1:=Hrv.out.keep0 hk1
 clear hs1
 obtain⟨Hk1,Hrv1⟩:=hid2 hk1 hrv1;clear hrv1 hk1
 go_wp2
 go_ret
 exact⟨rfl,_,_,Hrv1.out⟩):P:=h
set_option maxRecDepth 100000
set_option maxHeartbeats 6400000
theorem runEvents_nil{w0:World}{X:Fx}{B:Nat}{t:Tm}{n:Nat}{vt:Value}{L:List Ev}{f1 f2:Value}{s:St}{vl vb vr:Value}{g0 g1:Nat}{S0 S1:List SI}{vo:Value}{P:List SV}{W:World}(h:RunV w0 X B t n vt L .nilFunc f1 f2 s vl vb vr g0 g1 S0 S1 vo P W)(hn:n≤1000)
  (hl:L.length≤1000000) (hi:s.i≤L.length) (Z:Nat×Ps×List Int×Int) (hZ:evR s.day (L.drop s.i) s.i s.p s.R=Z):
  Calls Tryz.prog 83 #[(.pointer (some ⟨B,0,none⟩))] W fun e W'=>e= .returned (.int .i64 Z.2.2.2)∧∃vb' vr',RunV w0 X B t n vt L .nilFunc f1 f2 (evSt s Z) vl vb' vr' g0 g1 S0 S1 vo P W':=by
 obtain⟨N,hN⟩:∃N,L.length=N:=⟨_,rfl⟩
 obtain⟨adl,cl,rfl⟩:∃a c,vl= .slice a N c:=by obtain⟨a,c,h,_⟩:=Aj h.evs;rw [hN] at h;exact⟨a,c,h⟩
 rw [hN] at hl hi
 have hnil:∀w:World,(binOp .neq 118 .nilFunc .nilFunc).run Tryz.prog w= .ok (.bool false) w:=fun _=>by kernel_rfl
 obtain⟨H,HN,HZ,Hnil⟩:=hid4 h hN hZ hnil;clear hnil hZ hN h
 go_enter Tryz.func83,Tryz.ntmps83
 go_wp2
 go_loopw [2] (fun x wx=>∃(i:Nat) (p:Ps) (R:List Int) (vb vr:Value),x= .int .i64 0∧i≤N∧evR s.day (L.drop i) i p R=Z∧RunV w0 X B t n vt L .nilFunc f1 f2 { s with i:=i,p:=p,R:=R } (.slice adl N cl) vb vr g0 g1 S0 S1 vo P wx) (fun _ wx=>N-(cellInt wx B 8).toNat)
 case atStart=>exact⟨s.i,s.p,s.R,vb,vr,rfl,hi,HZ.out,H.out⟩
 case round=>
  obtain⟨i,p,R,vbi,vri,rfl,hin,hev,hrv⟩:=hrel
  obtain⟨wq,hwq⟩:∃x,x=wr:=⟨_,rfl⟩
  subst hwq
  have hci:cellInt wq B 8=(i:Int):=Ci (Aa hrv.blk 8)
  have b7:=Aa hrv.blk 7
  have b8:=Aa hrv.blk 8
  have b9:=Aa hrv.blk 9
  by_cases hlt:i<N
  ·have hltI:decide ((i:Int)<(N:Int))=true:=by rw [decide_eq_true_iff];omega
   have hltJ:(i:Int)<(N:Int):=by omega
   obtain⟨⟨ki,da,tr,am,re⟩,hx⟩:=Av (L:=L) (k:=i) (by rw [HN.out];exact hlt)
   obtain⟨g,o,c,he,hc⟩:=(Reads.Bh hrv.evs).elem Ev.Am hx (by decide)
   rw [HN.out] at he
   simp only [Value.slice.injEq,true_and] at he
   obtain⟨rfl,rfl⟩:=he
   have x0:wq.cell? ⟨g,o+i*5,none⟩=some (.int .i64 ki):=hc 0 (by decide)
   have x1:wq.cell? ⟨g,o+i*5+1,none⟩=some (.int .i64 da):=hc 1 (by decide)
   have x2:wq.cell? ⟨g,o+i*5+2,none⟩=some (.int .i64 tr):=hc 2 (by decide)
   have x3:wq.cell? ⟨g,o+i*5+3,none⟩=some (.int .i64 am):=hc 3 (by decide)
   have x4:wq.cell? ⟨g,o+i*5+4,none⟩=some (.int .i64 re):=hc 4 (by decide)
   clear hc
   have hdr:evR s.day (L.drop i) i p R=if da=s.day then(if(applyR p R ⟨ki,da,tr,am,re⟩).2.2=0 then evR s.day (L.drop (i+1)) (i+1) (applyR p R ⟨ki,da,tr,am,re⟩).1 (applyR p R ⟨ki,da,tr,am,re⟩).2.1 else(i,p,R,(applyR p R ⟨ki,da,tr,am,re⟩).2.2)) else(i,p,R,0):=by
    rw [Cn hx];rfl
   rw [hdr] at hev
   have hS:evS2 B (.slice (some ⟨g,o,none⟩) N cl) i s.day g (o+i*5+1) da wq:=⟨b7,b8,b9,x1⟩
   have hS':evS2 B (.slice (some ⟨g,o,none⟩) N cl) i s.day g (o+i*5+1) da wq.drew:=hS
   clear b7 b8 b9
   by_cases hd:da=s.day
   ·have hdI:(da==s.day)=true:=by simp [hd]
    rw [if_pos hd] at hev
    obtain⟨ab,cb,rfl⟩:∃a c,vbi= .slice a n c:=by obtain⟨a,c,h,_⟩:=Aj hrv.bal;exact⟨a,c,h⟩
    obtain⟨ar,cr2,rfl⟩:∃a c,vri= .slice a n c:=by obtain⟨a,c,h,_⟩:=Aj hrv.rts;exact⟨a,c,h⟩
    obtain⟨A,hA⟩:∃A,applyR p R ⟨ki,da,tr,am,re⟩=A:=⟨_,rfl⟩
    have hok:=applyR_ok (p:=p) (R:=R) (e:=⟨ki,da,tr,am,re⟩)
    rw [hA] at hev hok
    obtain⟨bal,pc,pd⟩:=p
    have hcall:=fun W (hW:Keeps (fun _=>False) wq W)=>repApply_any bal R pc pd ki da tr am re ab ar cb cr2 n n W ((Reads.Bh hrv.bal).keeps hW (by simp)) hrv.nb hn ((Reads.Bh hrv.rts).keeps hW (by simp)) hrv.nr hn
    rw [hA] at hcall
    obtain⟨Hrv,Hev,Hx,Hdr,HS,HS',Hd,Hci,HA⟩:=hid9 hrv hev hx hdr hS hS' hd hci hA;clear hA hci hd hS' hS hdr hx hev hrv;obtain⟨Hok,Hcall,X0,X1,X2,X3,X4⟩:=hid7 hok hcall x0 x1 x2 x3 x4;clear x4 x3 x2 x1 x0 hcall hok
    go_wp2_with fail
    refine Ao (evS2 B (.slice (some ⟨g,o,none⟩) N cl) i s.day g (o+i*5+1) da) (.take 0 (.take 1 (.take 2 (.take 3 (.take 4 (.take 5 (.take 6 (.take 7 (.take 8 (.take 9 (.take 10 (.take 11 (.take 12 (.take 13 (.take 14 (.take 15 (.take 16 (.take 17 (.take 18 (.take 19 (.take 20 (.take 21 (.take 22 (.take 23 (.take 24 (.take 25 (.take 26 (.take 27 .done)))))))))))))))))))))))))))) (by kernel_rfl) (by kernel_rfl) ?_ ?_
    ·exact HS'.out
    intro w1 hs1 hk1
    repeat ((first|refine Ai rfl (by rfl) ?_|refine Af rfl (by rfl) ?_|(refine Ah (v:= ?_) rfl (by rfl) ?_ ?_;rotate_left;(· intro w' hSw;unfold evS2 at hSw;go_simp;(try with_reducible rfl));rotate_right));try simp only [aps])
    refine Aw ?_
    have hrv1:=Hrv.out.keep0 hk1
    have b10:=Aa hrv1.blk 10
    have b11:=Aa hrv1.blk 11
    have b12:=Aa hrv1.blk 12
    have bl:=lt_of_block hrv1.blk
    have hk1x:=hk1.Ae (o:= .cells #[.slice ab n cb,.int .i64 pc,.int .i64 pd] 34)
    have hrv1x:=Hrv.out.keep0 hk1x
    have hkk:∀{p:Addr} {u:Value},wq.cell? p=some u→(w1.alloc (.cells #[.slice ab n cb,.int .i64 pc,.int .i64 pd] 34)).cell? p=some u:=fun hc=>(hk1x.cell (Ag hc) (by simp)).trans hc
    have hS3:evS3 B (.slice (some ⟨g,o,none⟩) N cl) (.slice ab n cb) (.slice ar n cr2) i pc pd g (o+i*5) ki da tr am re (w1.alloc (.cells #[.slice ab n cb,.int .i64 pc,.int .i64 pd] 34)).drew:=
     (show evS3 B (.slice (some ⟨g,o,none⟩) N cl) (.slice ab n cb) (.slice ar n cr2) i pc pd g (o+i*5) ki da tr am re (w1.alloc (.cells #[.slice ab n cb,.int .i64 pc,.int .i64 pd] 34)) from⟨Aa hrv1x.blk 7,Aa hrv1x.blk 8,Aa hrv1x.blk 10,Aa hrv1x.blk 11,Aa hrv1x.blk 12,Aa hrv1x.blk 13,hkk X0.out,hkk X1.out,hkk X2.out,hkk X3.out,hkk X4.out⟩).keep (Keeps.drew _)
    clear hs1 hkk
    obtain⟨Hk1,Hrv1,Hk1x,Hrv1x,HS3⟩:=hid5 hk1 hrv1 hk1x hrv1x hS3;clear hS3 hrv1x hk1x hrv1 hk1
    go_wp2_with fail
    refine Ao (evS3 B (.slice (some ⟨g,o,none⟩) N cl) (.slice ab n cb) (.slice ar n cr2) i pc pd g (o+i*5) ki da tr am re) (.take 0 (.take 1 (.take 2 (.take 3 (.take 4 (.take 5 (.take 6 (.take 7 (.take 8 (.take 9 (.take 10 (.take 11 (.take 12 (.take 13 (.take 14 (.take 15 (.take 16 (.take 17 (.fork 18 (.take 19 (.take 20 (.take 21 (.take 22 (.move 23 (.move 24 (.take 25 (.take 26 .done)))))))) 23 (.move 18 (.take 19 (.take 20 (.take 21 (.take 22 (.move 24 (.take 25 (.take 26 .done))))))))))))))))))))))))))) (by kernel_rfl) (by kernel_rfl) ?_ ?_
    ·exact HS3.out
    intro w2 hs2 hk2
    repeat ((first|refine Ai rfl (by rfl) ?_|refine Af rfl (by rfl) ?_|(refine Ah (v:= ?_) rfl (by rfl) ?_ ?_;rotate_left;(· intro w' hSw;unfold evS3 at hSw;go_simp;(try with_reducible rfl));rotate_right));try simp only [aps])
    obtain⟨q,R',z⟩:=A
    refine Cv ?_ ?_ hs2
    ·skip
     refine Ak rfl (fun K hK=> ?_)
     go_simp
     go_at_call 102
     ((with_reducible refine(Hcall.out _ (Hk1x.out.nt hk2)).mono ?_);rintro e w5 ⟨vb',vr',rfl,hrb,hrr,hk5,hgb,hgr⟩;dsimp only)
     obtain⟨a5,c5,rfl⟩:∃a c,vb'= .slice a q.bal.length c:=by obtain⟨a,c,h,_⟩:=Aj hrb;exact⟨a,c,h⟩
     obtain⟨a6,c6,rfl⟩:∃a c,vr'= .slice a R'.length c:=by obtain⟨a,c,h,_⟩:=Aj hrr;exact⟨a,c,h⟩
     refine hK.out _ _ (by exact hs2.keep hk5) ?_
     clear hK K
     try simp only [aps]
     repeat ((first|refine Ai rfl (by rfl) ?_|refine Af rfl (by rfl) ?_|(refine Ah (v:= ?_) rfl (by rfl) ?_ ?_;rotate_left;(· intro w' hSw;unfold evS3 at hSw;go_simp;(try with_reducible rfl));rotate_right));try simp only [aps])
     refine Ak rfl (fun K hK=> ?_)
     go_simp
     refine hK.out _ _ (by exact hs2.keep (hk5.Ae)) ?_
     clear hK K
     try simp only [aps]
     obtain⟨w6,hw6⟩:∃x,x=w5.alloc (.cells #[.slice none 0 0,.int .i64 0,.int .i64 0] 34):=⟨_,rfl⟩
     have hbx5:w6.heap[w5.heap.size]?=some (.cells #[.slice none 0 0,.int .i64 0,.int .i64 0] 34 (0,0)):=by rw [hw6];exact heap_alloc_new w5 _
     have k56:Keeps (fun _=>False) w5 w6:=by rw [hw6];exact Keeps.alloc _ _
     rw [←hw6]
     clear hw6
     have k26:=hk5.nt k56
     have hb4n:w2.heap.size≤w5.heap.size:=hk5.size
     have hqs:wq.heap.size≤w2.heap.size:=(Hk1x.out.nt hk2).size
     have hneb:∀b,(Value.slice a5 q.bal.length c5).ownBlock=some b→¬b=w5.heap.size:=fun b hb e=>by have:=Bu hrb hb;omega
     have hner:∀b,(Value.slice a6 R'.length c6).ownBlock=some b→¬b=w5.heap.size:=fun b hb e=>by have:=Bu hrr hb;omega
     have hrb5:=hrb.of_keeps k56
     have hrr5:=hrr.of_keeps k56
     have hgb6:∀b,(Value.slice a5 q.bal.length c5).ownBlock=some b→wq.heap.size≤b:=fun b hb=>by have:=hgb b hb;omega
     have hgr6:∀b,(Value.slice a6 R'.length c6).ownBlock=some b→wq.heap.size≤b:=fun b hb=>by have:=hgr b hb;omega
     obtain⟨b4,hb4⟩:∃x,x=w5.heap.size:=⟨_,rfl⟩
     rw [←hb4] at hbx5 hb4n hneb hner⊢
     clear hb4 hrb hrr hgb hgr k56 hk5
     exact jZ6
    ·skip
     refine Ak rfl (fun K hK=> ?_)
     go_simp
     refine hK.out _ _ (by exact hs2.keep (Keeps.alloc _ _)) ?_
     clear hK K
     try simp only [aps]
     refine Ak rfl (fun K hK=> ?_)
     go_simp
     go_at_call 102
     ((with_reducible refine(Hcall.out _ ((Hk1x.out.nt hk2).Ae)).mono ?_);rintro e w5 ⟨vb',vr',rfl,hrb,hrr,hk5,hgb,hgr⟩;dsimp only)
     obtain⟨a5,c5,rfl⟩:∃a c,vb'= .slice a q.bal.length c:=by obtain⟨a,c,h,_⟩:=Aj hrb;exact⟨a,c,h⟩
     obtain⟨a6,c6,rfl⟩:∃a c,vr'= .slice a R'.length c:=by obtain⟨a,c,h,_⟩:=Aj hrr;exact⟨a,c,h⟩
     refine hK.out _ _ (by exact(hs2.keep (Keeps.alloc _ _)).keep hk5) ?_
     clear hK K
     try simp only [aps]
     repeat ((first|refine Ai rfl (by rfl) ?_|refine Af rfl (by rfl) ?_|(refine Ah (v:= ?_) rfl (by rfl) ?_ ?_;rotate_left;(· intro w' hSw;unfold evS3 at hSw;go_simp;(try with_reducible rfl));rotate_right));try simp only [aps])
     have hbx5:=Ad (heap_alloc_new w2 (.cells #[.slice none 0 0,.int .i64 0,.int .i64 0] 34)) hk5 (by simp)
     have k26:=(Keeps.alloc (S:=fun _=>False) w2 (.cells #[.slice none 0 0,.int .i64 0,.int .i64 0] 34)).nt hk5
     have hb4n:w2.heap.size≤w2.heap.size:=Nat.le_refl _
     have hqs:wq.heap.size≤w2.heap.size:=(Hk1x.out.nt hk2).size
     have hneb:∀b,(Value.slice a5 q.bal.length c5).ownBlock=some b→¬b=w2.heap.size:=fun b hb e=>by have:=hgb b hb;simp at this;omega
     have hner:∀b,(Value.slice a6 R'.length c6).ownBlock=some b→¬b=w2.heap.size:=fun b hb e=>by have:=hgr b hb;simp at this;omega
     have hgb6:∀b,(Value.slice a5 q.bal.length c5).ownBlock=some b→wq.heap.size≤b:=fun b hb=>by have:=hgb b hb;simp at this;omega
     have hgr6:∀b,(Value.slice a6 R'.length c6).ownBlock=some b→wq.heap.size≤b:=fun b hb=>by have:=hgr b hb;simp at this;omega
     have hrb5:=hrb
     have hrr5:=hrr
     obtain⟨w6,hw6⟩:∃x,x=w5:=⟨_,rfl⟩
     obtain⟨b4,hb4⟩:∃x,x=w2.heap.size:=⟨_,rfl⟩
     rw [←hb4] at hbx5 hneb hner⊢
     rw [←hw6] at hbx5 k26 hrb5 hrr5⊢
     replace hb4n:w2.heap.size≤b4:=by rw [hb4];exact Nat.le_refl _
     clear hb4 hw6 hrb hrr hgb hgr hk5
     exact jZ6
   ·have hdI:(da==s.day)=false:=beq_eq_false_iff_ne.2 hd
    rw [if_neg hd] at hev
    subst hev
    obtain⟨Hrv,Hx,Hdr,HS,HS',Hd,Hci,X0,X1⟩:=hid9 hrv hx hdr hS hS' hd hci x0 x1;clear x1 x0 hci hd hS' hS hdr hx hrv;obtain⟨X2,X3,X4⟩:=hid3 x2 x3 x4;clear x4 x3 x2
    go_wp2_with fail
    refine Ao (evS2 B (.slice (some ⟨g,o,none⟩) N cl) i s.day g (o+i*5+1) da) (.take 0 (.take 1 (.take 2 (.take 3 (.take 4 (.take 5 (.take 6 (.take 7 (.take 8 (.take 9 (.take 10 (.take 11 (.take 12 (.take 13 (.take 14 (.take 15 (.take 16 (.take 17 (.take 18 (.take 19 (.take 20 (.take 21 (.take 22 (.take 23 (.take 24 (.take 25 (.take 26 (.take 27 .done)))))))))))))))))))))))))))) (by kernel_rfl) (by kernel_rfl) ?_ ?_
    ·exact HS'.out
    intro w1 hs1 hk1
    repeat ((first|refine Ai rfl (by rfl) ?_|refine Af rfl (by rfl) ?_|(refine Ah (v:= ?_) rfl (by rfl) ?_ ?_;rotate_left;(· intro w' hSw;unfold evS2 at hSw;go_simp;(try with_reducible rfl));rotate_right));try simp only [aps])
    exact jZ89
  ·obtain rfl:N=i:=by omega
   have hltI:decide ((N:Int)<(N:Int))=false:=by simp
   rw [List.drop_eq_nil_of_le (by rw [HN.out];exact Nat.le_refl _)] at hev
   simp only [evR] at hev
   subst hev
   have hS':evS B (.slice adl N cl) N s.day wq.drew:=(show evS B (.slice adl N cl) N s.day wq from⟨b7,b8,b9⟩)
   clear b7 b8 b9
   obtain⟨Hrv,HS',Hci⟩:=hid3 hrv hS' hci;clear hci hS' hrv
   go_wp2_with fail
   refine Ao (evS B (.slice adl N cl) N s.day) (.take 0 (.take 1 (.take 2 (.take 3 (.take 4 (.take 5 (.take 6 (.take 7 (.take 8 (.take 9 (.take 10 (.take 11 (.take 12 (.take 13 (.take 14 (.take 15 (.take 16 (.take 17 (.take 18 (.take 19 (.take 20 (.take 21 (.take 22 (.take 23 (.take 24 (.take 25 (.take 26 (.take 27 .done)))))))))))))))))))))))))))) (by kernel_rfl) (by kernel_rfl) ?_ ?_
   ·exact HS'.out
   intro w1 hs1 hk1
   repeat ((first|refine Ai rfl (by rfl) ?_|refine Af rfl (by rfl) ?_|(refine Ah (v:= ?_) rfl (by rfl) ?_ ?_;rotate_left;(· intro w' hSw;unfold evS at hSw;go_simp;(try with_reducible rfl));rotate_right));try simp only [aps])
   exact jZ89
def freeB(out:List Stm)(fr:Int)(L:List Ev):Bool:=match out.getLast? with
 |none=>true
 |some x=>hasB x.total fr x.due L
def frS1(B:Nat)(vo:Value)(g o:Nat)(cy fr te du:Int)(vl:Value)(tt cr mi:Int)(gr:Bool)(W:World):Prop:=W.cell? ⟨B,16,none⟩=some vo∧W.cell? ⟨g,o,none⟩=some (.int .i64 cy)∧W.cell? ⟨g,o+1,none⟩=some (.int .i64 fr)∧W.cell? ⟨g,o+2,none⟩=some (.int .i64 te)∧W.cell? ⟨g,o+3,none⟩=some (.int .i64 du)∧W.cell? ⟨g,o+4,none⟩=some vl∧W.cell? ⟨g,o+5,none⟩=some (.int .i64 tt)∧W.cell? ⟨g,o+6,none⟩=some (.int .i64 cr)∧W.cell? ⟨g,o+7,none⟩=some (.int .i64 mi)∧W.cell? ⟨g,o+8,none⟩=some (.bool gr)
theorem frS1.keep{B:Nat}{vo:Value}{g o:Nat}{cy fr te du:Int}{vl:Value}{tt cr mi:Int}{gr:Bool}{W W':World}(h:frS1 B vo g o cy fr te du vl tt cr mi gr W)(hk:Keeps (fun _=>False) W W'):frS1 B vo g o cy fr te du vl tt cr mi gr W':=by
 obtain⟨h1,h2,h3,h4,h5,h6,h7,h8,h9,h10⟩:=h
 have k:∀{p:Addr} {u:Value},W.cell? p=some u→W'.cell? p=some u:=fun hc=>(hk.cell (Ag hc) (by simp)).trans hc
 exact⟨k h1,k h2,k h3,k h4,k h5,k h6,k h7,k h8,k h9,k h10⟩
def frS2(B b3 b6:Nat)(vl:Value)(tt fr du:Int)(W:World):Prop:=W.cell? ⟨B,7,none⟩=some vl∧W.cell? ⟨b3,0,none⟩=some (.int .i64 fr)∧W.cell? ⟨b6,5,none⟩=some (.int .i64 tt)∧W.cell? ⟨b6,3,none⟩=some (.int .i64 du)
theorem frS2.keep{B b3 b6:Nat}{vl:Value}{tt fr du:Int}{W W':World}(h:frS2 B b3 b6 vl tt fr du W)(hk:Keeps (fun _=>False) W W'):frS2 B b3 b6 vl tt fr du W':=by
 obtain⟨h1,h2,h3,h4⟩:=h
 have k:∀{p:Addr} {u:Value},W.cell? p=some u→W'.cell? p=some u:=fun hc=>(hk.cell (Ag hc) (by simp)).trans hc
 exact⟨k h1,k h2,k h3,k h4⟩
set_option maxHeartbeats 3200000
theorem runFree_any{w0:World}{X:Fx}{B:Nat}{t:Tm}{n:Nat}{vt:Value}{L:List Ev}{f0 f1 f2:Value}{s:St}{vl vb vr:Value}{g0 g1:Nat}{S0 S1:List SI}{vo:Value}{P:List SV}{W:World}(h:RunV w0 X B t n vt L f0 f1 f2 s vl vb vr g0 g1 S0 S1 vo P W)
  (hl:L.length≤1000000) (hm:s.out.length≤1000) (hok:∀x∈L,x.kind=2→0≤x.amount∧x.amount≤1000000000000000) (fr te:Int):
  Calls Tryz.prog 103 #[(.pointer (some ⟨B,0,none⟩)),.agg #[.int .i64 fr,.int .i64 te]] W fun e W'=>e= .returned (.tuple #[.bool (freeB s.out fr L),.int .i64 0])∧Keeps (fun _=>False) W W':=by
 obtain⟨N,hN⟩:∃N,L.length=N:=⟨_,rfl⟩
 obtain⟨adl,cl,rfl⟩:∃a c,vl= .slice a N c:=by obtain⟨a,c,h,_⟩:=Aj h.evs;rw [hN] at h;exact⟨a,c,h⟩
 obtain⟨m,hmm⟩:∃m,P.length=m:=⟨_,rfl⟩
 obtain⟨av,cv,rfl⟩:∃a c,vo= .slice a m c:=by obtain⟨a,c,h,_⟩:=Aj h.out;rw [hmm] at h;exact⟨a,c,h⟩
 have hpo:s.out.length=m:=by rw [←h.lp,List.length_map];exact hmm
 have b16:=Aa h.blk 16
 have bl:=lt_of_block h.blk
 rw [hN] at hl
 rw [hpo] at hm
 by_cases h0:m=0
 ·subst h0
  have hf:freeB s.out fr L=true:=by
   have:s.out= []:=List.length_eq_zero_iff.1 hpo
   rw [this];rfl
  rw [hf]
  have h00:(((0:Nat):Int)==0)=true:=rfl
  obtain⟨H,HN,Hmm,Hpo,Hok,Hf⟩:=hid6 h hN hmm hpo hok hf;clear hf hok hpo hmm hN h
  go_enter Tryz.func103,Tryz.ntmps103
  go_wp2
  exact bodyPost_ret (v:= .tuple #[.bool true,.int .i64 0]) (by simp [results,Tryz.results103,go_sem]) rfl ⟨rfl,Keeps.alloc _ _⟩
 ·have h0I:((m:Int)==0)=false:=beq_eq_false_iff_ne.2 (by omega)
  obtain⟨k,hk⟩:∃k,m=k+1:=⟨m-1,by omega⟩
  obtain⟨x,hx⟩:=Av (L:=P) (k:=k) (by omega)
  obtain⟨g,o,c,he,hc⟩:=(Reads.Bh h.out).elem SV.Am hx (by decide)
  rw [hmm] at he
  simp only [Value.slice.injEq,true_and] at he
  obtain⟨rfl,rfl⟩:=he
  obtain⟨⟨cy,xf,xt,xd,tt,xc,xm,xg,ln⟩,ax,cx⟩:=x
  have x0:W.cell? ⟨g,o+k*9,none⟩=some (.int .i64 cy):=hc 0 (by decide)
  have x1:W.cell? ⟨g,o+k*9+1,none⟩=some (.int .i64 xf):=hc 1 (by decide)
  have x2:W.cell? ⟨g,o+k*9+2,none⟩=some (.int .i64 xt):=hc 2 (by decide)
  have x3:W.cell? ⟨g,o+k*9+3,none⟩=some (.int .i64 xd):=hc 3 (by decide)
  have x4:W.cell? ⟨g,o+k*9+4,none⟩=some (.slice ax ln.length cx):=hc 4 (by decide)
  have x5:W.cell? ⟨g,o+k*9+5,none⟩=some (.int .i64 tt):=hc 5 (by decide)
  have x6:W.cell? ⟨g,o+k*9+6,none⟩=some (.int .i64 xc):=hc 6 (by decide)
  have x7:W.cell? ⟨g,o+k*9+7,none⟩=some (.int .i64 xm):=hc 7 (by decide)
  have x8:W.cell? ⟨g,o+k*9+8,none⟩=some (.bool xg):=hc 8 (by decide)
  clear hc
  have hgl:s.out.getLast?=some ⟨cy,xf,xt,xd,tt,xc,xm,xg,ln⟩:=by
   rw [List.getLast?_eq_getElem?,hpo,hk,←h.lp,List.getElem?_map,show k+1-1=k from rfl,hx];rfl
  have hf:freeB s.out fr L=hasB tt fr xd L:=by unfold freeB;rw [hgl]
  rw [hf]
  have hgr:=fun W' (hW:Keeps (fun _=>False) W W')=>graceHas_any tt fr xd L adl cl N W' ((Reads.Bh h.evs).keeps hW (by simp)|>fun r=>by rw [hN] at r;exact r) hN hl hok
  obtain⟨z,hz⟩:∃z,hasB tt fr xd L=z:=⟨_,rfl⟩
  rw [hz] at hgr⊢
  have hm1:IntKind.i64.wrap ((k:Nat):Int)=(k:Int):=IntWalk.i64_in _ ⟨by omega,by omega⟩
  have hkI:(k:Int)<(m:Int):=by omega
  have hm2:(m:Int)-1=k:=by omega
  have ka:Keeps (fun _=>False) W (W.alloc (.cells #[.int .i64 fr,.int .i64 te] 39)):=Keeps.alloc _ _
  have hrA:=h.keep0 ka
  have hS1:frS1 B (.slice (some ⟨g,o,none⟩) m cv) g (o+k*9) cy xf xt xd (.slice ax ln.length cx) tt xc xm xg (W.alloc (.cells #[.int .i64 fr,.int .i64 te] 39)).drew:=
   (show frS1 B (.slice (some ⟨g,o,none⟩) m cv) g (o+k*9) cy xf xt xd (.slice ax ln.length cx) tt xc xm xg W from⟨b16,x0,x1,x2,x3,x4,x5,x6,x7,x8⟩).keep (ka.Ap)
  clear x0 x1 x2 x3 x4 x5 x6 x7 x8
  obtain⟨q,hq⟩:∃q,ln.length=q:=⟨_,rfl⟩
  rw [hq] at hS1
  obtain⟨H,HN,Hmm,Hpo,Hok,Hf,Hx,Hgl,Hgr⟩:=hid9 h hN hmm hpo hok hf hx hgl hgr;clear hgr hgl hx hf hok hpo hmm hN h;obtain⟨Hz,Ka,HrA,HS1,Hk,Hq⟩:=hid6 hz ka hrA hS1 hk hq;clear hq hk hS1 hrA ka hz
  go_enter Tryz.func103,Tryz.ntmps103
  go_wp2_with fail
  refine Ao (frS1 B (.slice (some ⟨g,o,none⟩) m cv) g (o+k*9) cy xf xt xd (.slice ax q cx) tt xc xm xg) (.take 0 (.take 1 (.take 2 (.take 3 (.take 4 (.take 5 (.take 6 (.take 7 (.take 8 (.take 9 (.take 10 (.take 11 (.move 12 (.move 13 .done)))))))))))))) (by kernel_rfl) (by kernel_rfl) ?_ ?_
  ·exact HS1.out
  intro w1 hs1 hk1
  repeat ((first|refine Ai rfl (by rfl) ?_|refine Af rfl (by rfl) ?_|(refine Ah (v:= ?_) rfl (by rfl) ?_ ?_;rotate_left;(· intro w' hSw;unfold frS1 at hSw;go_simp;(try with_reducible rfl));rotate_right));try simp only [aps])
  refine Ak rfl (fun K hK=> ?_)
  go_simp
  refine hK.out _ _ (by exact hs1.keep (Keeps.alloc _ _)) ?_
  clear hK K
  try simp only [aps]
  have r6:=heap_alloc_new w1 (.cells #[.int .i64 0,.int .i64 0,.int .i64 0,.int .i64 0,.slice none 0 0,.int .i64 0,.int .i64 0,.int .i64 0,.bool false] 42)
  have z0:=Aa r6 0
  have z1:=Aa r6 1
  have z2:=Aa r6 2
  have z3:=Aa r6 3
  have z4:=Aa r6 4
  have z5:=Aa r6 5
  have z6:=Aa r6 6
  have z7:=Aa r6 7
  have z8:=Aa r6 8
  have y0:=Ab r6 0
  have y1:=Ab r6 1
  have y2:=Ab r6 2
  have y3:=Ab r6 3
  have y4:=Ab r6 4
  have y5:=Ab r6 5
  have y6:=Ab r6 6
  have y7:=Ab r6 7
  have y8:=Ab r6 8
  have h9:=heap_alloc_new w1 (.cells #[.int .i64 cy,.int .i64 xf,.int .i64 xt,.int .i64 xd,.slice ax q cx,.int .i64 tt,.int .i64 xc,.int .i64 xm,.bool xg] 42)
  have k19:=Keeps.alloc (S:=fun _=>False) w1 (.cells #[.int .i64 cy,.int .i64 xf,.int .i64 xt,.int .i64 xd,.slice ax q cx,.int .i64 tt,.int .i64 xc,.int .i64 xm,.bool xg] 42)
  have kA:=Ka.out.nt hk1
  have kW:=kA.nt k19
  have hrW:=HrA.out.keep0 (hk1.nt k19)
  have hb3:=Ad (heap_alloc_new W (.cells #[.int .i64 fr,.int .i64 te] 39)) (hk1.nt k19) (by simp)
  have hS2:=(show frS2 B W.heap.size w1.heap.size (.slice adl N cl) tt fr xd _ from⟨Aa hrW.blk 7,Aa hb3 0,Aa h9 5,Aa h9 3⟩).keep (Keeps.drew _)
  have hs9:=hs1.keep k19
  obtain⟨R6,H9,K19,KA,KW,HrW,Hb3,HS2,Hs9⟩:=hid9 r6 h9 k19 kA kW hrW hb3 hS2 hs9;clear hs9 hS2 hb3 hrW kW kA k19 h9 r6
  refine Ak rfl (fun K hK=> ?_)
  go_simp
  refine hK.out _ _ (by exact Hs9.out) ?_
  clear hK K
  try simp only [aps]
  refine Aw ?_
  clear z0 z1 z2 z3 z4 z5 z6 z7 z8 y0 y1 y2 y3 y4 y5 y6 y7 y8 hs1
  go_wp2_with fail
  refine Ao (frS2 B W.heap.size w1.heap.size (.slice adl N cl) tt fr xd) (.take 0 (.take 1 (.take 2 (.take 3 (.take 4 (.take 5 (.take 6 (.take 7 (.take 8 (.take 9 (.move 10 (.take 11 (.take 12 (.take 13 (.take 14 .done))))))))))))))) (by kernel_rfl) (by kernel_rfl) ?_ ?_
  ·exact HS2.out
  intro w2 hs2 hk2
  repeat ((first|refine Ai rfl (by rfl) ?_|refine Af rfl (by rfl) ?_|(refine Ah (v:= ?_) rfl (by rfl) ?_ ?_;rotate_left;(· intro w' hSw;unfold frS2 at hSw;go_simp;(try with_reducible rfl));rotate_right));try simp only [aps])
  refine Ak rfl (fun K hK=> ?_)
  go_simp
  go_at_call 125
  ((with_reducible refine(Hgr.out _ (KW.out.nt hk2)).mono ?_);rintro e w3 ⟨rfl,hk3⟩;dsimp only)
  refine hK.out _ _ (by exact hs2.keep hk3) ?_
  clear hK K
  try simp only [aps]
  repeat ((first|refine Ai rfl (by rfl) ?_|refine Af rfl (by rfl) ?_|(refine Ah (v:= ?_) rfl (by rfl) ?_ ?_;rotate_left;(· intro w' hSw;unfold frS2 at hSw;go_simp;(try with_reducible rfl));rotate_right));try simp only [aps])
  refine Aw ?_
  have hfin:=(KW.out.nt hk2).nt hk3
  clear hs2
  obtain⟨Hfin,Hk2,Hk3⟩:=hid3 hfin hk2 hk3;clear hk3 hk2 hfin
  go_wp2
  exact bodyPost_ret (v:= .tuple #[.bool z,.int .i64 0]) (by simp [results,Tryz.results103,go_sem]) rfl ⟨rfl,Hfin.out⟩
end Go.Proofs.YthffbjldpfionaaGreat
namespace Go.Proofs.YthffbjldpfionaaGreat
open Go.RowKit
section
variable {w0:World} {X:Fx} {B:Nat} {t:Tm} {n:Nat} {vt:Value} {L:List Ev} {f0 f1 f2:Value} {s:St} {vl vb vr:Value} {g0 g1:Nat} {S0 S1:List SI} {vo:Value} {P:List SV} {W W':World}
theorem RunV.addOut(h:RunV w0 X B t n vt L f0 f1 f2 s vl vb vr g0 g1 S0 S1 vo P W){w4 w5:World}{x:SV}{vo':Value}(hk4:Keeps (fun _=>False) W w4)(hk5:Keeps (fun i=>vo.ownBlock=some i) w4 w5)
  (hr:w5.ownsRow 0 42 9 vo' (P.length+1) ((P++ [x]).flatMap SV.cells)) (hx:w4.ownsRow 0 102 3 x.v x.s.lines.length (x.s.lines.flatMap Ln.cells)) (hxo:Own w0 X x.v) (hf:vo'.ownBlock=vo.ownBlock∨∃g,vo'.ownBlock=some g∧w4.heap.size≤g):
  RunV w0 X B t n vt L f0 f1 f2 { s with out:=s.out++ [x.s] } vl vb vr g0 g1 S0 S1 vo' (P++ [x]) (w5.setCell ⟨B,16,none⟩ vo'):=by
 have h4:=h.keep0 hk4
 have hs4:=hk4.size
 have hs5:=hk5.size
 have nb:∀{e:TypeId} {b:Nat} {c:Array Value},w4.heap[b]?=some (.cells c e (0,0))→e≠42→¬vo.ownBlock=some b:=fun hb hne=>Aq h4.out hb hne
 have nr:∀{e:TypeId} {sz m:Nat} {u:Value} {xs:List Value},w4.ownsRow 0 e sz u m xs→e≠42→∀b,u.ownBlock=some b→¬vo.ownBlock=some b:=fun hr' hne b hb e=>rows_ne hr' h4.out hne hb e
 have h5b:=Ad h4.blk hk5 (nb h4.blk (by decide))
 have kB:Keeps (fun i=>i=B) w5 (w5.setCell ⟨B,16,none⟩ vo'):=Keeps.setCell _ _ _ rfl
 have hne:∀{e:TypeId} {sz m:Nat} {v:Value} {xs:List Value},w5.ownsRow 0 e sz v m xs→145≠e→∀i,v.ownBlock=some i→¬i=B:=fun hr hne i hi e=>by subst e;exact Aq hr h5b hne hi
 have r5:∀{e:TypeId} {sz m:Nat} {u:Value} {xs:List Value},w4.ownsRow 0 e sz u m xs→e≠42→145≠e→(w5.setCell ⟨B,16,none⟩ vo').ownsRow 0 e sz u m xs:=fun hr' h1 h2=>kB.row (hk5.row hr' (nr hr' h1)) (hne (hk5.row hr' (nr hr' h1)) h2)
 have nog:∀{g:Nat} {c:Array Value},w5.heap[g]?=some (.cells c 32 (0,0))→¬g=B:=fun hg e=>by
  subst e
  rw [hg] at h5b
  injection h5b with h1
  injection h1 with _ h1 _
  exact absurd h1 (by decide)
 have o0:=Ad h4.o0 hk5 (nb h4.o0 (by decide))
 have o1:=Ad h4.o1 hk5 (nb h4.o1 (by decide))
 have hown:Own w0 X vo':=fun b hb=>by
  rcases hf with hf|⟨g,hg,hh⟩
  ·exact h.wo b (hf▸hb)
  ·rw [hg] at hb;simp only [Option.some.injEq] at hb;exact h.new (by omega)
 exact { h4 with
  blk:=(heap_setCell_same _ _ 16 _ _ _ h5b).trans rfl
  trs:=(h4.trs.keeps hk5 (fun b hb e=>by have:=(h.wt b hb).1;have:=(h.wo b e).1;omega)).keeps kB (fun i hi e=>by have e':i=B:=e;have:=(h.wt i hi).1;have:=h.wB.1;omega)
  evs:=r5 h4.evs (by decide) (by decide)
  bal:=r5 h4.bal (by decide) (by decide)
  rts:=r5 h4.rts (by decide) (by decide)
  o0:=Ad o0 kB (nog o0)
  o1:=Ad o1 kB (nog o1)
  i0:=fun y hy=>r5 (h4.i0 y hy) (by decide) (by decide)
  i1:=fun y hy=>r5 (h4.i1 y hy) (by decide) (by decide)
  out:=by rw [List.length_append];exact kB.row hr (hne hr (by decide))
  ln:=fun y hy=>by
   rcases List.mem_append.1 hy with hy|hy
   ·exact r5 (h4.ln y hy) (by decide) (by decide)
   ·obtain rfl:y=x:=by simpa using hy
    exact r5 hx (by decide) (by decide)
  lp:=by rw [List.map_append,h.lp];rfl
  wo:=hown
  wln:=fun y hy=>by
   rcases List.mem_append.1 hy with hy|hy
   ·exact h.wln y hy
   ·obtain rfl:y=x:=by simpa using hy
    exact hxo
  xl:=fun b hb=>Nat.lt_of_lt_of_le (Nat.lt_of_lt_of_le (h4.xl b hb) hs5) kB.size
  fz:=fun b hb=>((kB.block b (Nat.lt_of_lt_of_le (h4.xl b (h4.yx b hb)) hs5) (fun e=>by have e':b=B:=e;exact h.wB.2 (e'▸h.yx b hb))).trans (hk5.block b (h4.xl b (h4.yx b hb)) (fun e=>(h.wo b e).2 (h.yx b hb)))).trans (h4.fz b hb)
  kp:=(h4.kp.trans (hk5.mono fun i _ e=> .inr (h.wo i e).1)).trans (kB.mono fun i _ e=> .inr (by have e':i=B:=e;rw [e'];exact h.wB.1)) }
end
def stm0:Stm:=⟨0,0,0,0,0,0,0,false, []⟩
def cloVal(o:Option (Stm×Ps)):Stm×Ps×Int:=match o with
 |none=>(stm0,ps0,5)
 |some (x,q)=>(x,q,0)
theorem Dn.uni{o:Option (Stm×Ps)}{w w':World}{e:Ending}(h:Dn o w e w'){x:Stm}{q:Ps}{z:Int}(ho:cloVal o=(x,q,z)):
  ∃al cl ab cb,e= .returned (.tuple #[.agg #[.int .i64 x.cycle,.int .i64 x.fr,.int .i64 x.te,.int .i64 x.due,.slice al x.lines.length cl,.int .i64 x.total,.int .i64 x.credit,.int .i64 x.min,.bool x.grace],.agg #[.slice ab q.bal.length cb,.int .i64 q.cr,.int .i64 q.du],.int .i64 z])∧
   w'.ownsRow 0 102 3 (.slice al x.lines.length cl) x.lines.length (x.lines.flatMap Ln.cells)∧w'.ownsRow 0 2 1 (.slice ab q.bal.length cb) q.bal.length (q.bal.flatMap i64c)∧Keeps (fun _=>False) w w'∧(∀g,(Value.slice al x.lines.length cl).ownBlock=some g→w.heap.size≤g)∧(∀g,(Value.slice ab q.bal.length cb).ownBlock=some g→w.heap.size≤g):=by
 rcases o with _|⟨x',q'⟩
 ·simp only [cloVal,Prod.mk.injEq] at ho
  obtain⟨rfl,rfl,rfl⟩:=ho
  obtain⟨rfl,hk⟩:=h
  exact⟨none,0,none,0,rfl,World.ownsRow_nil _ _ _ _,World.ownsRow_nil _ _ _ _,hk,by simp [Value.ownBlock],by simp [Value.ownBlock]⟩
 ·simp only [cloVal,Prod.mk.injEq] at ho
  obtain⟨rfl,rfl,rfl⟩:=ho
  obtain⟨vl,vb,rfl,h1,h2,h3,h4,h5⟩:=h
  obtain⟨al,cl,rfl,_⟩:=Aj h1
  obtain⟨ab,cb,rfl,_⟩:=Aj h2
  exact⟨al,cl,ab,cb,rfl,h1,h2,h3,h4,h5⟩
theorem si_reads{S:List SI}{g n:Nat}{W:World}(h:W.heap[g]?=some (.cells (S.map SI.v).toArray 32 (0,0)))(hn:S.length=n):Reads W 1 (.slice (some ⟨g,0,none⟩) n n) n (S.flatMap SI.cells):=by
 have h1:=Reads.blk (size:=1) (n:=n) h (by simp [hn])
 have h2:∀S:List SI,S.flatMap SI.cells=S.map SI.v:=fun S=>by
  induction S with
  |nil=>rfl
  |cons a l ih=>simp [SI.cells,ih]
 rw [h2]
 simpa using h1
theorem intrO_ok{g:Bool}:∀{T:List Tn} {B R:List (List Int)} {V:List Int} {n:Nat},T.length=n→B.length=n→R.length=n→(∀b∈B,∀y∈b,0≤y∧y≤1000000000000000)→(∀r∈R,∀y∈r,0≤y∧y≤10000000)→intrO g T B R=some V→V.length=n∧∀x∈V,0≤x∧x≤1000000000000000:=by
 intro T
 induction T with
 |nil=>intro B R V n h1 h2 h3 _ _ h;simp only [intrO,Option.some.injEq] at h;subst h;simp only [List.length_nil] at h1;subst h1;simp
 |cons x T ih=>
  intro B R V n h1 h2 h3 hB hR h
  rcases B with _|⟨b,B⟩
  ·simp only [List.length_cons,List.length_nil] at h1 h2;omega
  rcases R with _|⟨r,R⟩
  ·simp only [List.length_cons,List.length_nil] at h1 h3;omega
  simp only [List.length_cons] at h1 h2 h3
  have hB':∀b∈B,∀y∈b,0≤y∧y≤1000000000000000:=fun b' hb=>hB b' (List.mem_cons_of_mem _ hb)
  have hR':∀r∈R,∀y∈r,0≤y∧y≤10000000:=fun r' hr=>hR r' (List.mem_cons_of_mem _ hr)
  have hv:0≤(ofR b r).1∧(ofR b r).1≤1000000000000000:=by
   have hd:=dotI_bd b r (hB b (List.mem_cons_self ..)) (hR r (List.mem_cons_self ..))
   unfold ofR
   split
   ·constructor<;>decide
   ·rename_i hz
    refine⟨?_,by simpa using hz⟩
    have h1:0≤dotI b r / 1000000000:=Int.ediv_nonneg hd.1 (by decide)
    show 0≤evenI _ _
    unfold evenI
    split<;>omega
  simp only [intrO] at h
  have key:∀(a:Int),0≤a∧a≤1000000000000000→(intrO g T B R).map (fun l=>a::l)=some V→V.length=n∧∀x∈V,0≤x∧x≤1000000000000000:=fun a ha he=>by
   rcases ho:intrO g T B R with _|V'
   ·rw [ho] at he;cases he
   ·rw [ho,Option.map_some,Option.some.injEq] at he
    subst he
    obtain⟨i1,i2⟩:=ih (n:=n-1) (by omega) (by omega) (by omega) hB' hR' ho
    refine⟨by rw [List.length_cons,i1];omega,fun y hy=> ?_⟩
    rcases List.mem_cons.1 hy with rfl|hy
    ·exact ha
    ·exact i2 y hy
  split at h
  ·exact key 0 (by constructor<;>decide) h
  ·split at h
   ·exact key _ hv h
   ·cases h
theorem closeR_ok{t:Tm}{cy fr te:Int}{p:Ps}{R V:List Int}{g:Bool}{x:Stm}{q:Ps}(hz:t.err=0)(hp:p.rightB=true)(hl:V.length=p.bal.length)(hV:V.all moneyP=true)(h:closeR t cy fr te p R V g=some (x,q)):q.bal.length=p.bal.length∧q.rightB=true:=by
 unfold closeR at h
 have hb:=bearR_err hp hl hV
 split at h
 ·rename_i h0
  rcases hb with⟨_,h1,h2⟩|⟨h1,_⟩
  ·simp only [Option.some.injEq,Prod.mk.injEq] at h
   obtain⟨_,rfl⟩:=h
   refine⟨h2, ?_⟩
   obtain⟨_,_,_,_,⟨f0,_⟩,_⟩:=tm_nums hz
   have h3:=h1
   simp only [Ps.rightB,Bool.and_eq_true,scanB] at h3⊢
   obtain⟨⟨a1,a2⟩,a3,a4,a5,a6,a7⟩:=h3
   have hs:=(Bg _).1 a2
   have hle:=leastI_bd (mf:=t.minFixed) (mp:=t.minPart) hs.1 f0
   exact⟨⟨a1,a2⟩,a3,a4,a5,(Bg _).2 (by omega),a7⟩
  ·rw [h0] at h1;cases h1
 ·cases h
def closeS(t:Tm)(L:List Ev)(n:Nat)(s:St)(fr te:Int):Option St:=
 match intrO (freeB s.out fr L) t.trs s.e0 s.e1 with
 |none=>none
 |some V=>match closeR t ((s.out.length:Int)+1) fr te s.p s.R V (freeB s.out fr L) with
  |none=>none
  |some (x,q)=>some { s with p:=q,e0:=List.replicate n [],e1:=List.replicate n [],out:=s.out++ [x] }
end Go.Proofs.YthffbjldpfionaaGreat
namespace Go.Proofs.YthffbjldpfionaaGreat
open Go.RowKit
section
variable {P:Program} {md:Region.Mode} {ops:Array Oper} {Q:Exit→Act→World→Prop} {S:World→Prop}
def lastI(md:Region.Mode)(ops:Array Oper)(z i:Nat):Bool:=match ops[z]? with
 |none=>true
 |some o=>o.after.any fun e=>Region.binds md e&&e.on==i
theorem wpAnyM_slip2{z i:Nat}{oi:Oper}{v:Value}(hi:ops[i]?=some oi)(hz:lastI md ops z i=true)(hiz:i≠z)(hsel:∀(j:Nat) (o:Oper) cs b,ops[j]?=some o→o.op≠ .select cs b)(hQ:∀c a w,Q (.panic c) (a.put oi.dst v) w→Q (.panic c) a w):
  ∀(fuel:Nat) (listed:Array Bool) (a:Act) (w:World),i∈Region.ready md ops listed→YieldsP P ops S oi v a→S w→
   (∀j oj,ops[j]?=some oj→j≠i→listed.getD j true=false→(∀e∈oj.after,Region.binds md e=true→e.on≠i)→oi.apart ops oj=true)→
   wpAnyM P md ops Q S z fuel (listed.setIfInBounds i true) (a.put oi.dst v) w→wpAnyM P md ops Q S z (fuel+1) listed a w
 |0,listed,a,w,hr,hy,hS,hfree,H=>by
  refine⟨fun h=>absurd hr (by rw [h];simp),fun j hj=> ?_⟩
  by_cases hji:j=i
  ·subst hji;exact hy.wpOp hi hS ⟨.inr hS,H⟩
  ·have hc:=ready_mono hj hji
   rw [H.1] at hc
   simp at hc
 |fuel+1,listed,a,w,hr,hy,hS,hfree,H=>by
  refine⟨fun h=>absurd hr (by rw [h];simp),fun j hj=> ?_⟩
  by_cases hji:j=i
  ·subst hji;exact hy.wpOp hi hS ⟨.inr hS,H⟩
  obtain⟨hun,oj,hoj,hall⟩:=mem_ready.1 hj
  have hi0:=(mem_ready.1 hr).1
  have hno:∀e∈oj.after,Region.binds md e=true→e.on≠i:=by
   intro e he hb heq
   have ht:=hall e he hb
   rw [heq] at ht
   rcases Nat.lt_or_ge i listed.size with hlt|hge
   ·have e1:listed.getD i true=listed[i]:=by simp [hlt]
    have e2:listed.getD i false=listed[i]:=by simp [hlt]
    rw [e1] at hi0;rw [e2,hi0] at ht;simp at ht
   ·have e2:listed.getD i false=false:=by simp [Array.getElem?_eq_none hge]
    rw [e2] at ht;simp at ht
  have hjz:j≠z:=by
   intro e
   subst e
   unfold lastI at hz
   rw [hoj] at hz
   simp only [Array.any_eq_true',Bool.and_eq_true,beq_iff_eq] at hz
   obtain⟨e,he,hb,ho⟩:=hz
   exact hno e he hb ho
  obtain⟨p1,p2,p3⟩:=Oper.apart_spec (hfree j oj hoj hji hun hno)
  have hstep:=wpOp_slip hoj p1 p2 (hsel j oj · · hoj) hQ (Y:=YieldsP P ops S oi v) (fun a u hy=>hy.same (execOp_put oi (hsel i oi · · hi) a oj.dst u p3) (wanted_put oi a oj.dst u p3)) (fun a x hy=>hy.same rfl rfl) hy (H.2 j (ready_mono hj hji))
  refine wpOp_mono (fun a' w' h3=>⟨h3.2.1, ?_⟩) hstep
  have hS':S w':=h3.2.1.resolve_left hjz
  have hfree':∀k ok,ops[k]?=some ok→k≠i→(listed.setIfInBounds j true).getD k true=false→(∀e∈ok.after,Region.binds md e=true→e.on≠i)→oi.apart ops ok=true:=by
   intro k ok hk hki hku hkn
   by_cases hjk:j=k
   ·subst hjk;exact hfree j ok hk hki hun hkn
   ·rw [getD_set_ne true hjk] at hku;exact hfree k ok hk hki hku hkn
  refine wpAnyM_slip2 hi hz hiz hsel hQ fuel _ a' w' (ready_mono hr (Ne.symm hji)) h3.1 hS' hfree' ?_
  rw [Array.setIfInBounds_comm _ _ hji]
  exact h3.2.2
def mixB2(md:Region.Mode)(ops:Array Oper)(z:Nat):MO→Array Bool→Bool
 | .done,listed=>(Region.ready md ops listed).isEmpty
 | .take i r,listed=>(((Region.ready md ops listed).contains i&&Region.free md ops listed i)&&i !=z&&lastI md ops z i)&&mixB2 md ops z r (listed.setIfInBounds i true)
 | .move i r,listed=>(Region.ready md ops listed== [i]&&(i !=z||r.isDone))&&mixB2 md ops z r (listed.setIfInBounds i true)
 | .fork i r j s,listed=>((Region.ready md ops listed== [i,j]&&i !=z)&&j !=z)&&(mixB2 md ops z r (listed.setIfInBounds i true)&&mixB2 md ops z s (listed.setIfInBounds j true))
 | .fork3 ..,_=>false
theorem Mix.sound2{z:Nat}(hs:Region.noSelect ops=true)(hQ:∀(d:Option Tmp) (v:Value) c a w,Q (.panic c) (a.put d v) w→Q (.panic c) a w):
  ∀(ord:MO) (fuel:Nat) (listed:Array Bool) (a:Act) (w:World),ord.depth≤fuel→mixB2 md ops z ord listed=true→(ord.isDone=true∨S w)→Mix P ops Q S z ord a w→wpAnyM P md ops Q S z fuel listed a w
 | .done,fuel,listed,a,w,_,hB,_,h=>wpAnyM_done (by simpa [mixB2] using hB) h _
 | .take i r,fuel,listed,a,w,hd,hB,hS,h=>by
  simp only [mixB2,Bool.and_eq_true,bne_iff_ne] at hB
  obtain⟨⟨⟨⟨h1,h2⟩,hiz⟩,hz⟩,h3⟩:=hB
  obtain⟨o,v,hi,hy,h⟩:=h
  have hS':S w:=hS.resolve_left (by simp [MO.isDone])
  cases fuel with
  |zero=>simp [MO.depth] at hd
  |succ fuel=>
   refine wpAnyM_slip2 hi hz hiz (Region.noSelect_spec hs) (hQ o.dst v) fuel listed a w (by simpa using h1) hy hS' (Region.free_spec hi h2) ?_
   exact Mix.sound2 hs hQ r fuel _ _ _ (by simp only [MO.depth] at hd;omega) h3 (.inr hS') h
 | .move i r,fuel,listed,a,w,hd,hB,hS,h=>by
  simp only [mixB2,Bool.and_eq_true,beq_iff_eq,Bool.or_eq_true,bne_iff_ne] at hB
  obtain⟨⟨h1,h2⟩,h3⟩:=hB
  have hS':S w:=hS.resolve_left (by simp [MO.isDone])
  cases fuel with
  |zero=>simp [MO.depth] at hd
  |succ fuel=>
   have hd':r.depth≤fuel:=by simp only [MO.depth] at hd;omega
   refine⟨fun e=>by rw [h1] at e;simp at e,fun j hj=> ?_⟩
   obtain rfl:j=i:=by rw [h1] at hj;simpa using hj
   rcases h with⟨o,v,hi,hy,h⟩|h
   ·exact hy.wpOp hi hS' ⟨.inr hS',Mix.sound2 hs hQ r fuel _ _ _ hd' h3 (.inr hS') h⟩
   ·refine wpOp_mono (fun a' w' hh=>⟨hh.1,Mix.sound2 hs hQ r fuel _ _ _ hd' h3 ?_ hh.2⟩) h
    rcases hh.1 with e|e
    ·exact .inl (h2.resolve_left fun hn=>hn e)
    ·exact .inr e
 | .fork i r j s,fuel,listed,a,w,hd,hB,hS,h=>by
  simp only [mixB2,Bool.and_eq_true,beq_iff_eq,bne_iff_ne] at hB
  obtain⟨⟨⟨h1,hiz⟩,hjz⟩,h3,h4⟩:=hB
  cases fuel with
  |zero=>simp [MO.depth] at hd
  |succ fuel=>
   have hd1:r.depth≤fuel:=by simp only [MO.depth] at hd;omega
   have hd2:s.depth≤fuel:=by simp only [MO.depth] at hd;omega
   refine⟨fun e=>by rw [h1] at e;simp at e,fun k hk=> ?_⟩
   rw [h1] at hk
   rcases(by simpa using hk:k=i∨k=j) with rfl|rfl
   ·exact wpOp_mono (fun a' w' hh=>⟨hh.1,Mix.sound2 hs hQ r fuel _ _ _ hd1 h3 (.inr (hh.1.resolve_left hiz)) hh.2⟩) h.1
   ·exact wpOp_mono (fun a' w' hh=>⟨hh.1,Mix.sound2 hs hQ s fuel _ _ _ hd2 h4 (.inr (hh.1.resolve_left hjz)) hh.2⟩) h.2
 | .fork3 ..,fuel,listed,a,w,_,hB,_,_=>by simp [mixB2] at hB
theorem Ce{id:Nat}{a:Act}{w:World}{l:List Oper}(S:World→Prop)(z:Nat)(ord:MO)(hm:P.follows .mixedOrders=true)(hB:(mixB2 .any l.toArray z ord (Array.replicate l.toArray.size false)&&(Region.noSelect l.toArray&&Nat.ble ord.depth l.toArray.size))=true)
  (hS:S w.drew) (h:∀w1,S w1→Keeps (fun _=>False) w w1→Mix P l.toArray (NoPanic Q) S z ord a w1):(Code.region id l.toArray true).wp P Q a w:=by
 simp only [Bool.and_eq_true,Nat.ble_eq] at hB
 obtain⟨h1,h2,h3⟩:=hB
 exact wp_region_noPanic (wp_region_any hm (wpAny_of_M _ _ _ _ (Mix.sound2 h2 (fun _ _ _ _ _ hh=>(show False from hh).elim) ord _ _ _ _ h3 h1 (.inr hS) (h _ hS (Keeps.drew _)))))
theorem Cx{z:Nat}{dst:Option Tmp}{op:Op}{ty:TypeId}{pos:String}{af:Array Edge}{gd:Option (Nat×Bool)}{i:Nat}{r:MO}{v:Value}{a:Act}{w:World}(hi:ops[i]?=some ⟨dst,op,ty,pos,af,gd⟩)(hw:Region.wanted ⟨dst,op,ty,pos,af,gd⟩ (yielded ops a.tmps)=true)
  (hy:∀w,S w→(execOp a.eval ⟨dst,op,ty,pos,af,gd⟩).run P w= .ok (.value v) w) (h:Mix P ops Q S z r (a.put dst v) w):Mix P ops Q S z (.move i r) a w:= .inl ⟨_,v,hi,.inl ⟨hw,fun w hS=> .inl (hy w hS)⟩,h⟩
end
end Go.Proofs.YthffbjldpfionaaGreat
namespace Go.Proofs.YthffbjldpfionaaGreat
open Go.RowKit
def c4S(B:Nat)(li:Int)(vt:Value)(cy du mf mp st:Int)(v0 v1:Value)(W:World):Prop:=W.cell? ⟨B,0,none⟩=some (.int .i64 li)∧W.cell? ⟨B,1,none⟩=some vt∧W.cell? ⟨B,2,none⟩=some (.int .i64 cy)∧W.cell? ⟨B,3,none⟩=some (.int .i64 du)∧W.cell? ⟨B,4,none⟩=some (.int .i64 mf)∧W.cell? ⟨B,5,none⟩=some (.int .i64 mp)∧W.cell? ⟨B,6,none⟩=some (.int .i64 st)∧W.cell? ⟨B,14,none⟩=some v0∧W.cell? ⟨B,15,none⟩=some v1
theorem c4S.keep{B:Nat}{li:Int}{vt:Value}{cy du mf mp st:Int}{v0 v1:Value}{W W':World}(h:c4S B li vt cy du mf mp st v0 v1 W)(hk:Keeps (fun _=>False) W W'):c4S B li vt cy du mf mp st v0 v1 W':=by
 obtain⟨h1,h2,h3,h4,h5,h6,h7,h8,h9⟩:=h
 have k:∀{p:Addr} {u:Value},W.cell? p=some u→W'.cell? p=some u:=fun hc=>(hk.cell (Ag hc) (by simp)).trans hc
 exact⟨k h1,k h2,k h3,k h4,k h5,k h6,k h7,k h8,k h9⟩
def c7S(B b3:Nat)(li:Int)(vt:Value)(cy du mf mp st:Int)(vo vb:Value)(pc pd:Int)(vr:Value)(fr te:Int)(W:World):Prop:=W.cell? ⟨B,0,none⟩=some (.int .i64 li)∧W.cell? ⟨B,1,none⟩=some vt∧W.cell? ⟨B,2,none⟩=some (.int .i64 cy)∧W.cell? ⟨B,3,none⟩=some (.int .i64 du)∧W.cell? ⟨B,4,none⟩=some (.int .i64 mf)∧W.cell? ⟨B,5,none⟩=some (.int .i64 mp)∧W.cell? ⟨B,6,none⟩=some (.int .i64 st)∧
 W.cell? ⟨B,16,none⟩=some vo∧W.cell? ⟨B,10,none⟩=some vb∧W.cell? ⟨B,11,none⟩=some (.int .i64 pc)∧W.cell? ⟨B,12,none⟩=some (.int .i64 pd)∧W.cell? ⟨B,13,none⟩=some vr∧W.cell? ⟨b3,0,none⟩=some (.int .i64 fr)∧W.cell? ⟨b3,1,none⟩=some (.int .i64 te)
theorem c7S.keep{B b3:Nat}{li:Int}{vt:Value}{cy du mf mp st:Int}{vo vb:Value}{pc pd:Int}{vr:Value}{fr te:Int}{W W':World}(h:c7S B b3 li vt cy du mf mp st vo vb pc pd vr fr te W)(hk:Keeps (fun _=>False) W W'):c7S B b3 li vt cy du mf mp st vo vb pc pd vr fr te W':=by
 obtain⟨h1,h2,h3,h4,h5,h6,h7,h8,h9,h10,h11,h12,h13,h14⟩:=h
 have k:∀{p:Addr} {u:Value},W.cell? p=some u→W'.cell? p=some u:=fun hc=>(hk.cell (Ag hc) (by simp)).trans hc
 exact⟨k h1,k h2,k h3,k h4,k h5,k h6,k h7,k h8,k h9,k h10,k h11,k h12,k h13,k h14⟩
def r13S(B b8:Nat)(vo:Value)(cy fr te du:Int)(vl:Value)(tt cr mi:Int)(g:Bool)(W:World):Prop:=W.cell? ⟨B,16,none⟩=some vo∧W.cell? ⟨b8,0,none⟩=some (.int .i64 cy)∧W.cell? ⟨b8,1,none⟩=some (.int .i64 fr)∧W.cell? ⟨b8,2,none⟩=some (.int .i64 te)∧W.cell? ⟨b8,3,none⟩=some (.int .i64 du)∧W.cell? ⟨b8,4,none⟩=some vl∧W.cell? ⟨b8,5,none⟩=some (.int .i64 tt)∧W.cell? ⟨b8,6,none⟩=some (.int .i64 cr)∧W.cell? ⟨b8,7,none⟩=some (.int .i64 mi)∧W.cell? ⟨b8,8,none⟩=some (.bool g)
theorem r13S.keep{B b8:Nat}{vo:Value}{cy fr te du:Int}{vl:Value}{tt cr mi:Int}{g:Bool}{W W':World}{S:Nat→Prop}(h:r13S B b8 vo cy fr te du vl tt cr mi g W)(hk:Keeps S W W')(h1:¬S B)(h2:¬S b8):r13S B b8 vo cy fr te du vl tt cr mi g W':=by
 obtain⟨c0,c1,c2,c3,c4,c5,c6,c7,c8,c9⟩:=h
 have k:∀{p:Addr} {u:Value},¬S p.block→W.cell? p=some u→W'.cell? p=some u:=fun hn hc=>(hk.cell (Ag hc) hn).trans hc
 exact⟨k h1 c0,k h2 c1,k h2 c2,k h2 c3,k h2 c4,k h2 c5,k h2 c6,k h2 c7,k h2 c8,k h2 c9⟩
theorem r13S.of{B b8:Nat}{vo:Value}{cy fr te du:Int}{vl:Value}{tt cr mi:Int}{g:Bool}{W:World}{C:Array Value}{e:TypeId}(h:W.heap[B]?=some (.cells C e (0,0)))(hv:C[16]?=some vo)(h8:W.heap[b8]?=some (.cells #[.int .i64 cy,.int .i64 fr,.int .i64 te,.int .i64 du,vl,.int .i64 tt,.int .i64 cr,.int .i64 mi,.bool g] 42 (0,0))):r13S B b8 vo cy fr te du vl tt cr mi g W:=
 ⟨(Aa h 16).trans hv,Aa h8 0,Aa h8 1,Aa h8 2,Aa h8 3,Aa h8 4,Aa h8 5,Aa h8 6,Aa h8 7,Aa h8 8⟩
end Go.Proofs.YthffbjldpfionaaGreat
