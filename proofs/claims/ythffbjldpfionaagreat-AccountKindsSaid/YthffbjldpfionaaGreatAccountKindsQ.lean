/-
  AccountKinds: for every input the law returns true, and each argument reads behind the call as it read before. No condition.
-/
import Derived.Test.YthffbjldpfionaaGreatAccountKindsQ1
namespace Go.Proofs.YthffbjldpfionaaGreat
open Go.RowKit
theorem jY4{P:Prop}(h:P:=by
 have hch:=Hch.out
 rw [hcb] at hch
 obtain⟨Hch,Hcb⟩:=hid2 hch hcb;clear hcb hch
 go_wp2_with (go_at_call 19;(with_reducible refine(Hch.out _).mono ?_);rintro e we ⟨rfl,hke⟩;have Hke:=Lib.hid hke;clear hke)
 go_ret
 exact⟨rfl,(Hkf.out.nt Hke.out).below (by simp) (Nat.le_refl _)⟩):P:=h
theorem jY6{P:Prop}(h:P:=by
 have hcb:chB ⟨k,0,0,0,0⟩=false:=by simp [chB];try omega
 exact jY4):P:=h
set_option maxRecDepth 100000
set_option maxHeartbeats 3200000
theorem accountKinds_walk(w:World)(k:Int)(_:(Lit.int .i64 k).wf=true)(c:Cmd)(_:c.wf):Calls Tryz.prog 6 #[.int .i64 k,.agg #[.int .i64 c.kind,.int .i64 c.day,.int .i64 c.tranche,.int .i64 c.amount,.int .i64 c.ref]] w fun e w'=>e= .returned (.bool true)∧Below w.heap.size w w':=by
 obtain⟨ki,da,tr,am,re⟩:=c
 simp only
 obtain⟨hact,hz⟩:=kinds_act k
 obtain⟨p1,p2,p3⟩:=kinds_pay da tr re
 obtain⟨t1,t2,t3,t4⟩:=kinds_tick
 have hb0:=heap_alloc_new w (.cells #[.int .i64 ki,.int .i64 da,.int .i64 tr,.int .i64 am,.int .i64 re] 47)
 have hk0:Keeps (fun _=>False) w (w.alloc (.cells #[.int .i64 ki,.int .i64 da,.int .i64 tr,.int .i64 am,.int .i64 re] 47)):=Keeps.alloc _ _
 obtain⟨b0,hbb⟩:∃b,b=w.heap.size:=⟨_,rfl⟩
 rw [←hbb] at hb0
 have hb0l:w.heap.size≤b0:=by rw [hbb];exact Nat.le_refl _
 have hO0:∀i,i=b0→i<(w.alloc (.cells #[.int .i64 ki,.int .i64 da,.int .i64 tr,.int .i64 am,.int .i64 re] 47)).heap.size:=fun i e=>by rw [e];exact lt_of_block hb0
 obtain⟨Hact,Hz,P1,P2,P3,T1,T2,T3,T4⟩:=hid9 hact hz p1 p2 p3 t1 t2 t3 t4;clear t4 t3 t2 t1 p3 p2 p1 hz hact;obtain⟨Hb0,Hk0,HO0,Hb0l⟩:=hid4 hb0 hk0 hO0 hb0l;clear hb0l hO0 hk0 hb0
 go_enter Tryz.func6,Tryz.ntmps6
 go_wp2_with fail
 refine(terms22_any _).mono ?_
 rintro e w1 ⟨g,rfl,hr1,hk1⟩
 obtain⟨Hr1,Hk1⟩:=hid2 hr1 hk1;clear hk1 hr1
 rw [←hbb]
 clear hbb
 go_wp2_with fail
 refine(new22 (O:=fun i=>i=b0) (Hk0.out.nt Hk1.out) (fun i e=>Nat.lt_of_lt_of_le (HO0.out i e) Hk1.out.size) Hr1.out).mono ?_
 rintro e w2 ⟨B,rfl,hL2,hk2⟩
 have hb2:=Ad (Ad Hb0.out Hk1.out (by simp)) hk2 (by simp)
 clear hk2
 obtain⟨HL2,Hb2⟩:=hid2 hL2 hb2;clear hb2 hL2
 go_wp2_with fail
 refine(awake22_any _).mono ?_
 rintro e w3 ⟨rfl,hk3⟩
 have hL3:=HL2.out.keep hk3
 have hb3:=Ad Hb2.out hk3 (by simp)
 have hdo:=live_do hL3 ⟨k,0,0,0,0⟩ (by decide)
 unfold DoLive at hdo
 rw [Hact.out] at hdo
 obtain⟨z,hzz⟩:∃z,(acNew t22).dz ⟨k,0,0,0,0⟩=z:=⟨_,rfl⟩
 rw [hzz] at hdo
 have hz2:=Hz.out
 rw [hzz] at hz2
 clear hk3
 obtain⟨HL3,Hb3,Hdo,Hzz,Hz2⟩:=hid5 hL3 hb3 hdo hzz hz2;clear hz2 hzz hdo hb3 hL3
 go_wp2_with fail
 refine Hdo.out.mono ?_
 rintro e w4 ⟨v,rfl,hans,hL4,hk4⟩
 obtain⟨s0,s1,s3,s4,s7,p0,p1,p2,p3,p5,p6,p7,q1,n1,c1,q2,n2,c2,q3,n3,c3,q4,n4,c4,gr,rfl⟩:=hans.letters
 have hb4:=HL3.out.blk hk4 rfl Hb3.out
 obtain⟨rr,hrr⟩:∃r,(acNew t22).dr ⟨k,0,0,0,0⟩=r:=⟨_,rfl⟩
 obtain⟨ry,hry⟩:∃r,(acNew t22).dc ⟨k,0,0,0,0⟩=r:=⟨_,rfl⟩
 rw [hrr,hry]
 clear hans hk4
 obtain⟨Hb4,Hrr,Hry⟩:=hid3 hb4 hrr hry;clear hry hrr hb4
 obtain⟨w5,hw5⟩:∃W,W=((w4).alloc (.cells #[.int .i64 0,.int .i64 0,.int .i64 0,.int .i64 0,.int .i64 0,.slice none 0 0,.int .i64 0,.int .i64 0,.slice none 0 0,.slice none 0 0,.int .i64 0,.int .i64 0,.int .i64 0,.int .i64 0,.int .i64 0,.slice none 0 0,.int .i64 0,.int .i64 0,.int .i64 0,.bool false] 44)).setRow (w4).heap.size #[.int .i64 z,.int .i64 rr,.int .i64 ry,.int .i64 s0,.int .i64 s1,.slice q1 n1 c1,.int .i64 s3,.int .i64 s4,.slice q2 n2 c2,.slice q3 n3 c3,.int .i64 s7,.int .i64 p0,.int .i64 p1,.int .i64 p2,.int .i64 p3,.slice q4 n4 c4,.int .i64 p5,.int .i64 p6,.int .i64 p7,.bool gr]:=⟨_,rfl⟩
 obtain⟨hL5,hb5,hk5⟩:=Live.box hL4 hw5
 obtain⟨m5,hm5⟩:∃b,b=(w4).heap.size:=⟨_,rfl⟩
 rw [←hm5] at hL5 hb5
 have h1w5:(#[.int .i64 z,.int .i64 rr,.int .i64 ry,.int .i64 s0,.int .i64 s1,.slice q1 n1 c1,.int .i64 s3,.int .i64 s4,.slice q2 n2 c2,.slice q3 n3 c3,.int .i64 s7,.int .i64 p0,.int .i64 p1,.int .i64 p2,.int .i64 p3,.slice q4 n4 c4,.int .i64 p5,.int .i64 p6,.int .i64 p7,.bool gr]:Array Value).all (·.oneCell')=true:=(one_ansL z rr ry s0 s1 s3 s4 s7 p0 p1 p2 p3 p5 p6 p7 q1 q2 q3 q4 n1 c1 n2 c2 n3 c3 n4 c4 gr)
 obtain⟨HL5,Hb5,Hk5,H1w5⟩:=hid4 hL5 hb5 hk5 h1w5;clear h1w5 hk5 hb5 hL5
 go_upto_region 5 with(refine wpList_store_row rfl 44 (.tmp 7) (.tmp 30) rfl (w4).heap.size #[.int .i64 z,.int .i64 rr,.int .i64 ry,.int .i64 s0,.int .i64 s1,.slice q1 n1 c1,.int .i64 s3,.int .i64 s4,.slice q2 n2 c2,.slice q3 n3 c3,.int .i64 s7,.int .i64 p0,.int .i64 p1,.int .i64 p2,.int .i64 p3,.slice q4 n4 c4,.int .i64 p5,.int .i64 p6,.int .i64 p7,.bool gr] rfl rfl 44 #[.int .i64 0,.int .i64 0,.int .i64 0,.int .i64 0,.int .i64 0,.slice none 0 0,.int .i64 0,.int .i64 0,.slice none 0 0,.slice none 0 0,.int .i64 0,.int .i64 0,.int .i64 0,.int .i64 0,.int .i64 0,.slice none 0 0,.int .i64 0,.int .i64 0,.int .i64 0,.bool false] (heap_alloc_new w4 _) Ar rfl H1w5.out ?_;rw [←hw5,←hm5];clear hw5 hm5)
 have hb5c:=Ad Hb4.out Hk5.out (by simp)
 obtain⟨W6,hW6⟩:∃W,W=(w5.setCell ⟨b0,0,none⟩ (.int .i64 2)).setCell ⟨b0,3,none⟩ (.int .i64 5):=⟨_,rfl⟩
 have hb6:W6.heap[b0]?=some (.cells #[.int .i64 2,.int .i64 da,.int .i64 tr,.int .i64 5,.int .i64 re] 47 (0,0)):=by rw [hW6];exact heap_setCell_same _ _ 3 _ _ _ (heap_setCell_same _ _ 0 _ _ _ hb5c)
 have hL6:=(HL5.out.set hb5c (by decide) Hb0l.out rfl).set (j:=3) (v:= .int .i64 5) (heap_setCell_same _ _ 0 _ _ (.int .i64 2) hb5c) (by decide) Hb0l.out hW6
 have hm5:¬m5=b0:=fun e=>by rw [e] at Hb5;have h1:=Hb5.out;rw [hb5c] at h1;injection h1 with h1;injection h1 with _ h2 _;exact absurd h2 (by decide)
 have hb56:=Ad Hb5.out (show Keeps (fun i=>i=b0) w5 W6 by rw [hW6];exact((Keeps.refl _ _).setB _ _).setB _ _) hm5
 have c0:=Aa hb5c 0
 have c1:=Aa hb5c 1
 have c2:=Aa hb5c 2
 have c3:=Aa hb5c 3
 have c4:=Aa hb5c 4
 have f0:=Ab hb5c 0
 have f1:=Ab hb5c 1
 have f2:=Ab hb5c 2
 have f3:=Ab hb5c 3
 have f4:=Ab hb5c 4
 have cl:=lt_of_block hb5c
 obtain⟨Hb5c,Hb6,HL6,Hm5,Hb56⟩:=hid5 hb5c hb6 hL6 hm5 hb56;clear hb56 hm5 hL6 hb6 hb5c
 go_upto_region 6 with fail
 rw [←hW6]
 clear hW6
 clear c0 c1 c2 c3 c4 f0 f1 f2 f3 f4 cl
 have hpay:=Di HL6.out ⟨2,da,tr,5,re⟩ (by decide) (show(1:Int)≤2∧(2:Int)≤7 by decide)
 rw [P1.out,P2.out,P3.out] at hpay
 simp only at hpay
 have c0:=Aa Hb6.out 0
 have c1:=Aa Hb6.out 1
 have c2:=Aa Hb6.out 2
 have c3:=Aa Hb6.out 3
 have c4:=Aa Hb6.out 4
 have f0:=Ab Hb6.out 0
 have f1:=Ab Hb6.out 1
 have f2:=Ab Hb6.out 2
 have f3:=Ab Hb6.out 3
 have f4:=Ab Hb6.out 4
 have cl:=lt_of_block Hb6.out
 have Hpay:=Lib.hid hpay;clear hpay
 go_wp2_with fail
 refine Hpay.out.mono ?_
 rintro e w7 ⟨rfl,hL7,hk7⟩
 clear c0 c1 c2 c3 c4 f0 f1 f2 f3 f4 cl
 have hb7:=HL6.out.blk hk7 (.inl rfl) Hb6.out
 have hx7:=HL6.out.blk hk7 (.inr rfl) Hb56.out
 clear hk7
 obtain⟨Hb7,Hx7⟩:=hid2 hb7 hx7;clear hx7 hb7
 obtain⟨w8,hw8⟩:∃W,W=((w7).alloc (.cells #[.int .i64 0,.int .i64 0,.int .i64 0,.int .i64 0,.int .i64 0,.slice none 0 0,.int .i64 0,.int .i64 0,.slice none 0 0,.slice none 0 0,.int .i64 0,.int .i64 0,.int .i64 0,.int .i64 0,.int .i64 0,.slice none 0 0,.int .i64 0,.int .i64 0,.int .i64 0,.bool false] 44)).setRow (w7).heap.size #[.int .i64 0,.int .i64 0,.int .i64 0,.int .i64 0,.int .i64 0,.slice none 0 0,.int .i64 0,.int .i64 0,.slice none 0 0,.slice none 0 0,.int .i64 0,.int .i64 0,.int .i64 0,.int .i64 0,.int .i64 0,.slice none 0 0,.int .i64 0,.int .i64 0,.int .i64 0,.bool false]:=⟨_,rfl⟩
 obtain⟨hL8,hb8,hk8⟩:=Live.box hL7 hw8
 obtain⟨m8,hm8⟩:∃b,b=(w7).heap.size:=⟨_,rfl⟩
 rw [←hm8] at hL8 hb8
 have h1w8:(#[.int .i64 0,.int .i64 0,.int .i64 0,.int .i64 0,.int .i64 0,.slice none 0 0,.int .i64 0,.int .i64 0,.slice none 0 0,.slice none 0 0,.int .i64 0,.int .i64 0,.int .i64 0,.int .i64 0,.int .i64 0,.slice none 0 0,.int .i64 0,.int .i64 0,.int .i64 0,.bool false]:Array Value).all (·.oneCell')=true:=(Br 0 0 0)
 obtain⟨HL8,Hb8,Hk8,H1w8⟩:=hid4 hL8 hb8 hk8 h1w8;clear h1w8 hk8 hb8 hL8
 go_upto_region 7 with(refine wpList_store_row rfl 44 (.tmp 8) (.tmp 35) rfl (w7).heap.size #[.int .i64 0,.int .i64 0,.int .i64 0,.int .i64 0,.int .i64 0,.slice none 0 0,.int .i64 0,.int .i64 0,.slice none 0 0,.slice none 0 0,.int .i64 0,.int .i64 0,.int .i64 0,.int .i64 0,.int .i64 0,.slice none 0 0,.int .i64 0,.int .i64 0,.int .i64 0,.bool false] rfl rfl 44 #[.int .i64 0,.int .i64 0,.int .i64 0,.int .i64 0,.int .i64 0,.slice none 0 0,.int .i64 0,.int .i64 0,.slice none 0 0,.slice none 0 0,.int .i64 0,.int .i64 0,.int .i64 0,.int .i64 0,.int .i64 0,.slice none 0 0,.int .i64 0,.int .i64 0,.int .i64 0,.bool false] (heap_alloc_new w7 _) Ar rfl H1w8.out ?_;rw [←hw8,←hm8];clear hw8 hm8)
 have hb8c:=Ad Hb7.out Hk8.out (by simp)
 have hx8:=Ad Hx7.out Hk8.out (by simp)
 obtain⟨W9,hW9⟩:∃W,W=(w8.setCell ⟨b0,0,none⟩ (.int .i64 8)).setCell ⟨b0,1,none⟩ (.int .i64 3):=⟨_,rfl⟩
 have hb9:W9.heap[b0]?=some (.cells #[.int .i64 8,.int .i64 3,.int .i64 tr,.int .i64 5,.int .i64 re] 47 (0,0)):=by rw [hW9];exact heap_setCell_same _ _ 1 _ _ _ (heap_setCell_same _ _ 0 _ _ _ hb8c)
 have hL9:=(HL8.out.set hb8c (by decide) Hb0l.out rfl).set (j:=1) (v:= .int .i64 3) (heap_setCell_same _ _ 0 _ _ (.int .i64 8) hb8c) (by decide) Hb0l.out hW9
 have hm8:¬m8=b0:=fun e=>by rw [e] at Hb8;have h1:=Hb8.out;rw [hb8c] at h1;injection h1 with h1;injection h1 with _ h2 _;exact absurd h2 (by decide)
 have hk89:Keeps (fun i=>i=b0) w8 W9:=by rw [hW9];exact((Keeps.refl _ _).setB _ _).setB _ _
 have hx9:=Ad hx8 hk89 Hm5.out
 have hy9:=Ad Hb8.out hk89 hm8
 have c0:=Aa hb8c 0
 have c1:=Aa hb8c 1
 have c2:=Aa hb8c 2
 have c3:=Aa hb8c 3
 have c4:=Aa hb8c 4
 have f0:=Ab hb8c 0
 have f1:=Ab hb8c 1
 have f2:=Ab hb8c 2
 have f3:=Ab hb8c 3
 have f4:=Ab hb8c 4
 have cl:=lt_of_block hb8c
 obtain⟨Hb8c,Hx8,Hb9,HL9,Hm8,Hk89,Hx9,Hy9⟩:=hid8 hb8c hx8 hb9 hL9 hm8 hk89 hx9 hy9;clear hy9 hx9 hk89 hm8 hL9 hb9 hx8 hb8c
 go_upto_region 8 with fail
 rw [←hW9]
 clear hW9
 clear c0 c1 c2 c3 c4 f0 f1 f2 f3 f4 cl
 have hti:=live_tick HL9.out ⟨8,3,tr,5,re⟩ (by rw [T1.out];decide) rfl
 simp only [T2.out] at hti
 obtain⟨tc,htc⟩:∃c,((acNew t22).chg ⟨2,0,0,5,0⟩).tc 3=c:=⟨_,rfl⟩
 rw [htc] at hti
 have c0:=Aa Hb9.out 0
 have c1:=Aa Hb9.out 1
 have c2:=Aa Hb9.out 2
 have c3:=Aa Hb9.out 3
 have c4:=Aa Hb9.out 4
 have f0:=Ab Hb9.out 0
 have f1:=Ab Hb9.out 1
 have f2:=Ab Hb9.out 2
 have f3:=Ab Hb9.out 3
 have f4:=Ab Hb9.out 4
 have cl:=lt_of_block Hb9.out
 obtain⟨Hti,Htc⟩:=hid2 hti htc;clear htc hti
 go_wp2_with fail
 refine Hti.out.mono ?_
 rintro e wa ⟨rfl,hLa,hka⟩
 clear c0 c1 c2 c3 c4 f0 f1 f2 f3 f4 cl
 have hxa:=HL9.out.blk hka (.inl (.inr rfl)) Hx9.out
 have hya:=HL9.out.blk hka (.inr rfl) Hy9.out
 rw [show((acNew t22).chg ⟨2,0,0,5,0⟩).tick 3=ac35 from rfl] at hLa
 clear hka
 obtain⟨Hxa,Hya⟩:=hid2 hxa hya;clear hya hxa
 obtain⟨wb,hwb⟩:∃W,W=((wa).alloc (.cells #[.int .i64 0,.int .i64 0,.int .i64 0,.int .i64 0,.int .i64 0,.slice none 0 0,.int .i64 0,.int .i64 0,.slice none 0 0,.slice none 0 0,.int .i64 0,.int .i64 0,.int .i64 0,.int .i64 0,.int .i64 0,.slice none 0 0,.int .i64 0,.int .i64 0,.int .i64 0,.bool false] 44)).setRow (wa).heap.size #[.int .i64 0,.int .i64 0,.int .i64 tc,.int .i64 0,.int .i64 0,.slice none 0 0,.int .i64 0,.int .i64 0,.slice none 0 0,.slice none 0 0,.int .i64 0,.int .i64 0,.int .i64 0,.int .i64 0,.int .i64 0,.slice none 0 0,.int .i64 0,.int .i64 0,.int .i64 0,.bool false]:=⟨_,rfl⟩
 obtain⟨hLb,hbb,hkb⟩:=Live.box hLa hwb
 obtain⟨mb,hmb⟩:∃b,b=(wa).heap.size:=⟨_,rfl⟩
 rw [←hmb] at hLb hbb
 have h1wb:(#[.int .i64 0,.int .i64 0,.int .i64 tc,.int .i64 0,.int .i64 0,.slice none 0 0,.int .i64 0,.int .i64 0,.slice none 0 0,.slice none 0 0,.int .i64 0,.int .i64 0,.int .i64 0,.int .i64 0,.int .i64 0,.slice none 0 0,.int .i64 0,.int .i64 0,.int .i64 0,.bool false]:Array Value).all (·.oneCell')=true:=(Br 0 0 tc)
 obtain⟨HLb,Hbb,Hkb,H1wb⟩:=hid4 hLb hbb hkb h1wb;clear h1wb hkb hbb hLb
 go_wp2_with (refine wpList_store_row rfl 44 (.tmp 9) (.tmp 40) rfl (wa).heap.size #[.int .i64 0,.int .i64 0,.int .i64 tc,.int .i64 0,.int .i64 0,.slice none 0 0,.int .i64 0,.int .i64 0,.slice none 0 0,.slice none 0 0,.int .i64 0,.int .i64 0,.int .i64 0,.int .i64 0,.int .i64 0,.slice none 0 0,.int .i64 0,.int .i64 0,.int .i64 0,.bool false] rfl rfl 44 #[.int .i64 0,.int .i64 0,.int .i64 0,.int .i64 0,.int .i64 0,.slice none 0 0,.int .i64 0,.int .i64 0,.slice none 0 0,.slice none 0 0,.int .i64 0,.int .i64 0,.int .i64 0,.int .i64 0,.int .i64 0,.slice none 0 0,.int .i64 0,.int .i64 0,.int .i64 0,.bool false] (heap_alloc_new wa _) Ar rfl H1wb.out ?_;rw [←hwb,←hmb];clear hwb hmb)
 have hst:=live_st HLb.out (td:=10960) (cr:=5) T4.out rfl rfl T3.out rfl rfl rfl rfl
 obtain⟨sq,hsq⟩:∃x,ac35.seq=x:=⟨_,rfl⟩
 obtain⟨cy,hcy⟩:∃x,ac35.cyc ac35.today=x:=⟨_,rfl⟩
 obtain⟨du,hdu⟩:∃x,ac35.s.p.du=x:=⟨_,rfl⟩
 obtain⟨nb,hnb⟩:∃x,ac35.s.p.bal.length=x:=⟨_,rfl⟩
 obtain⟨nr,hnr⟩:∃x,ac35.s.R.length=x:=⟨_,rfl⟩
 obtain⟨nd,hnd⟩:∃x,ac35.D.length=x:=⟨_,rfl⟩
 rw [hcy,hsq,hdu,hnb,hnr,hnd] at hst
 obtain⟨Hst,Hsq,Hcy,Hdu,Hnb,Hnr,Hnd⟩:=hid7 hst hsq hcy hdu hnb hnr hnd;clear hnd hnr hnb hdu hcy hsq hst
 refine Hst.out.mono ?_
 rintro e wc ⟨l1,d1,l2,d2,l3,d3,rfl,_,_,_,hkc,_⟩
 have hLc:=HLb.out.keep hkc
 have hkbc:=Hkb.out.nt hkc
 have hxc:=Ad Hxa.out hkbc (by simp)
 have hyc:=Ad Hya.out hkbc (by simp)
 have hzc:=Ad Hbb.out hkc (by simp)
 clear hkbc hkc
 obtain⟨HLc,Hxc,Hyc,Hzc⟩:=hid4 hLc hxc hyc hzc;clear hzc hyc hxc hLc
 obtain⟨wd,hwd⟩:∃W,W=((wc).alloc (.cells #[.int .i64 0,.int .i64 0,.slice none 0 0,.int .i64 0,.int .i64 0,.slice none 0 0,.slice none 0 0,.int .i64 0] 37)).setRow (wc).heap.size #[.int .i64 10960,.int .i64 cy,.slice l1 nb d1,.int .i64 5,.int .i64 du,.slice l2 nr d2,.slice l3 nd d3,.int .i64 sq]:=⟨_,rfl⟩
 obtain⟨hLd,hbd,hkd⟩:=Live.box HLc.out hwd
 obtain⟨md,hmd⟩:∃b,b=(wc).heap.size:=⟨_,rfl⟩
 rw [←hmd] at hLd hbd
 have h1wd:(#[.int .i64 10960,.int .i64 cy,.slice l1 nb d1,.int .i64 5,.int .i64 du,.slice l2 nr d2,.slice l3 nd d3,.int .i64 sq]:Array Value).all (·.oneCell')=true:=(one_st _ _ _ _ _ _ _ _ _ _ _ _ _ _)
 obtain⟨HLd,Hbd,Hkd,H1wd⟩:=hid4 hLd hbd hkd h1wd;clear h1wd hkd hbd hLd
 go_upto_region 10 with(refine wpList_store_row rfl 37 (.tmp 10) (.tmp 42) rfl (wc).heap.size #[.int .i64 10960,.int .i64 cy,.slice l1 nb d1,.int .i64 5,.int .i64 du,.slice l2 nr d2,.slice l3 nd d3,.int .i64 sq] rfl rfl 37 #[.int .i64 0,.int .i64 0,.slice none 0 0,.int .i64 0,.int .i64 0,.slice none 0 0,.slice none 0 0,.int .i64 0] (heap_alloc_new wc _) Cq rfl H1wd.out ?_;rw [←hwd,←hmd];clear hwd hmd)
 have hxd:=Ad Hxc.out Hkd.out (by simp)
 have hyd:=Ad Hyc.out Hkd.out (by simp)
 have hzd:=Ad Hzc.out Hkd.out (by simp)
 have x0:=Aa hxd 0
 have y0:=Aa hyd 0
 have z0:=Aa hzd 0
 have s0':=Aa Hbd.out 0
 have s3':=Aa Hbd.out 3
 have xl:=lt_of_block hxd
 have yl:=lt_of_block hyd
 have zl:=lt_of_block hzd
 have sl:=lt_of_block Hbd.out
 have hch:=fun W=>accChanges_any ⟨k,0,0,0,0⟩ W
 simp only at hch
 have hkf:=HLd.out.kp
 have hz3:=Hz2.out
 obtain⟨Hxd,Hyd,Hzd,Hch,Hkf⟩:=hid5 hxd hyd hzd hch hkf;clear hkf hch hzd hyd hxd
 by_cases h8:k=8
 ·subst h8
  have hzq:(z==1)=true:=by rw [hz3];rfl
  clear hz3
  have hcb:chB ⟨8,0,0,0,0⟩=true:=by simp [chB];try omega
  exact jY4
 have k8:(k==8)=false:=by simp [h8]
 by_cases h1:k<1
 ·have hzq:(z==1)=true:=by rw [hz3];simp [h1]
  clear hz3 h8
  exact jY6
 by_cases h11:11<k
 ·have hzq:(z==1)=true:=by rw [hz3];simp [h11]
  have h88:decide (k≤8)=false:=decide_eq_false (by omega)
  clear hz3 h8
  exact jY6
 have hzq:(z==1)=false:=by rw [hz3,decide_eq_false h1,decide_eq_false h11,k8];rfl
 clear hz3
 by_cases h7:k≤8
 ·clear h8
  have hcb:chB ⟨k,0,0,0,0⟩=true:=by simp [chB];try omega
  exact jY4
 ·have h88:decide (k≤8)=false:=decide_eq_false h7
  clear h8
  exact jY6
end Go.Proofs.YthffbjldpfionaaGreat
namespace Go.Proofs.YthffbjldpfionaaGreat.accountKinds
open Go.ChangeShapes Go.WideShapes Go.ChangeAt Go.RowKit Go.Deep
set_option maxRecDepth 100000
theorem lifted(os:Os)(started:os.Started)(H:Type)(enc:TypeId×Value→H):
  ReturnsInHanded {} Tryz.checked os 6 .any (Rows.accountKindsSpec.pre6 enc Tryz.prog Tryz.f6 Rows.accountKindsRow.domain false) (Rows.accountKindsSpec.post enc Tryz.prog Tryz.f6 false true false false):=by
 refine returnsInHanded_of_change (C:=Tryz.checked) own started (by kernel_rfl) Tryz.func6
  (ChangeSpec.witness6 (enc:=enc) (C:=Tryz.checked) false ⟨#[], #[.int .i64 0,.agg #[.int .i64 0,.int .i64 0,.int .i64 0,.int .i64 0,.int .i64 0]], []⟩ 8 (by kernel_rfl) (by kernel_rfl) (by kernel_rfl) (by kernel_rfl)) ?_
 intro W base args ds gs before hval0 hW hcnd _
 have hval:∀(j:Nat) t v,Tryz.f6.params[j]?=some t→args[j]?=some v→Value.okWide Tryz.prog W .any base t v:=hval0
 have hW':=hW
 obtain⟨p,q,hA0,hV,rfl,hfz,hnd⟩:=hW
 have hA:DataW.TrodAll enc Tryz.prog W 0 (fun _=>true) true Tryz.f6.params.toList args.toList ds p:=hA0
 rw [Tryz.params6] at hA hval
 obtain⟨v0,vs0,d0,ds0,p0,q0,hargs,rfl,rfl,h0,r0⟩:=trodAll_cons hA
 obtain⟨v1,vs1,d1,ds1,p1,q1,rfl,rfl,rfl,h1,r1⟩:=trodAll_cons r0
 obtain⟨rfl,rfl,rfl⟩:=trodAll_nil r1
 obtain rfl:args= #[v0,v1]:=by cases args;simp_all
 obtain⟨rfl,rfl⟩:=trodVars_none hV
 obtain⟨a0,rfl,rfl,rfl,w0⟩:=open_int Tryz.underlying3 (hval 0 3 v0 rfl rfl) h0
 obtain⟨cs1,rfl,hsz1⟩:=okWide_struct Tryz.underlying47 (hval 1 47 v1 rfl rfl)
 have k1:=h1
 have lt1:∀x∈p1,x.block<W.heap.size:=by obtain⟨m,hm⟩:=k1;exact DataW.trod_lt m _ _ _ hm
 obtain⟨a1,e1,w1⟩:∃a:Cmd,(Value.agg cs1).cells.toList=a.cells∧a.wf:=by obtain⟨fuel,hf⟩:=h1;exact open_Cmd _ _ _ hf
 have f1:cs1=a1.cells.toArray:=by rw [←e1];simp [Value.cells]
 subst f1
 clear hA0 hval0
 refine(accountKinds_walk W a0 w0 a1 w1).mono fun e W' ⟨he,bel⟩=> ?_
 subst he
 exact⟨_,rfl,_,_,_, [],_, [],hW',trodAll_mk1 (shut_bool Tryz.underlying4 _),(trodAll_cons_mk (shut_int Tryz.underlying3 w0) (trodAll_cons_mk (Below.trod laidOut (by kernel_rfl) (of_decide_eq_true (by kernel_rfl)) k1 bel lt1) trodAll_mk0)),rfl,bel.frame _,fun h=>by cases h⟩
theorem over:Rows.accountKindsRow.holds Tryz.pinned (OpenSpec.ofChange Rows.accountKindsSpec):=
 OpenClaim.holds_of_wide 6 Tryz.f6 rfl rfl rfl rfl rfl rfl rfl ⟨rfl,rfl,rfl,rfl,rfl⟩ rfl rfl rfl rfl rfl (by kernel_rfl) Tryz.func6 (by kernel_rfl)
  (of_decide_eq_true (by kernel_rfl)) (by unfold Func.isWrapper;first|(rw [if_pos (by decide+kernel)];kernel_rfl)|(rw [if_neg (by decide+kernel)];exact⟨rfl,rfl⟩))
  (fun os started H enc _=>lifted os started H enc)
theorem proved:Rows.AccountKindsSaid:=over
#print axioms proved
end Go.Proofs.YthffbjldpfionaaGreat.accountKinds
