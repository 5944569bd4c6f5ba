/-
  AccountTicks: for every input the law returns true, and each argument reads behind the call as it read before. No condition.
-/
import Derived.Test.YthffbjldpfionaaGreatAccountTicksQ1
namespace Go.Proofs.YthffbjldpfionaaGreat
open Go.RowKit
theorem jY5{P:Prop}(h:P:=by
 go_wp2
 go_roundw
 case rel=>
  unfold TkR
  exact⟨i+1,n',X',yb,by omega,rfl,rfl,hn1,Hn'.out,K2.out,HTn.out,Hbn.out⟩
 case measure=>simp [intOf];omega):P:=h
set_option maxRecDepth 100000
set_option maxHeartbeats 3200000
theorem accountTicks_walk(w:World)(amount:Int)(_:(Lit.int .i64 amount).wf=true)(days:Int)(_:(Lit.int .i64 days).wf=true):Calls Tryz.prog 7 #[.int .i64 amount,.int .i64 days] w fun e w'=>e= .returned (.bool true)∧Below w.heap.size w w':=by
 have hu:∀x,0≤IntKind.u64.wrap x:=fun x=>by rw [IntKind.wrap_u64];omega
 obtain⟨d0,hd0⟩:∃r,(IntKind.u64.wrap days).tmod 100=r:=⟨_,rfl⟩
 have d1:0≤d0:=by rw [←hd0];exact Int.tmod_nonneg _ (hu days)
 have d2:d0<100:=by rw [←hd0];exact Int.tmod_lt_of_pos _ (by decide)
 obtain⟨a0,ha0⟩:∃r,(IntKind.u64.wrap amount).tmod 1000=r:=⟨_,rfl⟩
 have a1:0≤a0:=by rw [←ha0];exact Int.tmod_nonneg _ (hu amount)
 have a2:a0<1000:=by rw [←ha0];exact Int.tmod_lt_of_pos _ (by decide)
 obtain⟨D,hD⟩:∃D:Nat,1+d0=(D:Int):=⟨(1+d0).toNat,by omega⟩
 have hAm:1≤1+a0∧1+a0≤1000:=by omega
 obtain⟨e1,e2,e3,e4,e5,e6⟩:=draw22 (tr:=1) (.inl rfl) hAm
 obtain⟨A,hA⟩:∃A,(acNew t22).chg ⟨1,0,1,1+a0,0⟩=A:=⟨_,rfl⟩
 rw [hA] at e3 e4 e5 e6
 obtain⟨t1,t2,t3,t4⟩:=e3.tick (.inl rfl) hAm (d:=D) (by omega) (by omega)
 rw [Nat.zero_add] at t2
 have hs0:A.s.out= []:=by rw [←e3.is,←hA];exact Ac.chg_iss _ _
 obtain⟨AD,hAD⟩:∃X,A.tick D=X:=⟨_,rfl⟩
 rw [hAD] at t2 t3 t4
 obtain⟨nD,hnD⟩:∃n,AD.s.out.length=n:=⟨_,rfl⟩
 have t5:A.tc D=(nD:Int):=by
  rw [t4,hs0,hnD]
  by_cases h:0<nD
  ·rw [if_pos (by simpa using h)]
  ·rw [if_neg (by simpa using h)];omega
 rw [←hD] at t1 t5 hAD
 have hDl:D≤100:=by omega
 clear t3 t4
 obtain⟨Hu,E1,E2,E3,E4,E5,E6,HA,T1⟩:=hid9 hu e1 e2 e3 e4 e5 e6 hA t1;clear t1 hA e6 e5 e4 e3 e2 e1 hu;obtain⟨T2,T5,Hs0,HAD,HnD,HAm,HDl,HD⟩:=hid8 t2 t5 hs0 hAD hnD hAm hDl hD;clear hD hDl hAm hnD hAD hs0 t5 t2
 go_enter Tryz.func7,Tryz.ntmps7
 go_wp2_with fail
 refine(terms22_any _).mono ?_
 rintro e w1 ⟨g,rfl,hr1,hk1⟩
 obtain⟨Hr1,Hk1⟩:=hid2 hr1 hk1;clear hk1 hr1
 go_wp2_with fail
 refine(new22v Hr1.out).mono ?_
 rintro e w2 ⟨B,x,rfl,hB,hk2,hf2⟩
 obtain⟨HB,Hk2,Hf2⟩:=hid3 hB hk2 hf2;clear hf2 hk2 hB
 go_wp2_with fail
 refine(terms22_any _).mono ?_
 rintro e w3 ⟨g3,rfl,hr3,hk3⟩
 obtain⟨Hr3,Hk3⟩:=hid2 hr3 hk3;clear hk3 hr3
 go_wp2_with fail
 refine(new22v Hr3.out).mono ?_
 rintro e w4 ⟨C,y,rfl,hC,hk4,hf4⟩
 have hT4:=TwoV.new Hk1.out (HB.out.keep0 Hk3.out) Hf2.out (Hk2.out.nt Hk3.out) hC hf4 hk4
 clear hC hk4 hf4
 have HT4:=Lib.hid hT4;clear hT4
 go_wp2_with fail
 refine(awake22_any _).mono ?_
 rintro e w5 ⟨rfl,hk5⟩
 have hT5:=HT4.out.keep hk5
 have hq1:=ask22_post B x (acNew t22) 1 1 (1+a0) w5 hT5.h1 (by decide) (by decide)
 rw [E1.out,E2.out,HA.out] at hq1
 clear hk5
 obtain⟨HT5,Hq1⟩:=hid2 hT5 hq1;clear hq1 hT5
 go_wp2_with fail
 refine Hq1.out.mono ?_
 rintro e w6 ⟨rfl,hp6⟩
 obtain⟨x6,hT6⟩:=HT5.out.post hp6
 have hq2:=ask22_post C y (acNew t22) 1 1 (1+a0) w6 hT6.h2 (by decide) (by decide)
 rw [E1.out,E2.out,HA.out] at hq2
 clear hp6
 obtain⟨HT6,Hq2⟩:=hid2 hT6 hq2;clear hq2 hT6
 go_wp2_with fail
 refine Hq2.out.mono ?_
 rintro e w7 ⟨rfl,hp7⟩
 obtain⟨y7,hT7⟩:=HT6.out.swap.post hp7
 have hT7:=hT7.swap
 have hti:=accDo_tick B x6 A ⟨8,1+d0,0,0,0⟩ w7 hT7.h1 (by rw [E6.out];decide) rfl
 simp only at hti
 rw [T1.out,T5.out,HAD.out] at hti
 clear hp7
 obtain⟨HT7,Hti⟩:=hid2 hT7 hti;clear hti hT7
 go_wp2_with fail
 refine Hti.out.mono ?_
 rintro e w8 ⟨rfl,hp8⟩
 obtain⟨x8,hT8⟩:=HT7.out.post hp8
 clear hp8
 obtain⟨w9,hw9⟩:∃W,W=((w8).alloc (.cells #[.int .i64 0,.int .i64 0,.int .i64 0,.int .i64 0,.int .i64 0,.slice none 0 0,.int .i64 0,.int .i64 0,.slice none 0 0,.slice none 0 0,.int .i64 0,.int .i64 0,.int .i64 0,.int .i64 0,.int .i64 0,.slice none 0 0,.int .i64 0,.int .i64 0,.int .i64 0,.bool false] 44)).setRow (w8).heap.size #[.int .i64 0,.int .i64 0,.int .i64 (nD:Int),.int .i64 0,.int .i64 0,.slice none 0 0,.int .i64 0,.int .i64 0,.slice none 0 0,.slice none 0 0,.int .i64 0,.int .i64 0,.int .i64 0,.int .i64 0,.int .i64 0,.slice none 0 0,.int .i64 0,.int .i64 0,.int .i64 0,.bool false]:=⟨_,rfl⟩
 obtain⟨hT9,hb9,hk9⟩:=TwoV.box hT8 hw9
 obtain⟨m9,hm9⟩:∃b,b=(w8).heap.size:=⟨_,rfl⟩
 rw [←hm9] at hb9
 have h1w9:(#[.int .i64 0,.int .i64 0,.int .i64 (nD:Int),.int .i64 0,.int .i64 0,.slice none 0 0,.int .i64 0,.int .i64 0,.slice none 0 0,.slice none 0 0,.int .i64 0,.int .i64 0,.int .i64 0,.int .i64 0,.int .i64 0,.slice none 0 0,.int .i64 0,.int .i64 0,.int .i64 0,.bool false]:Array Value).all (·.oneCell')=true:=(Br 0 0 nD)
 obtain⟨HT9,Hb9,Hk9,H1w9⟩:=hid4 hT9 hb9 hk9 h1w9;clear h1w9 hk9 hb9 hT9
 go_wp2_with (refine wpList_store_row rfl 44 (.tmp 9) (.tmp 62) rfl (w8).heap.size #[.int .i64 0,.int .i64 0,.int .i64 (nD:Int),.int .i64 0,.int .i64 0,.slice none 0 0,.int .i64 0,.int .i64 0,.slice none 0 0,.slice none 0 0,.int .i64 0,.int .i64 0,.int .i64 0,.int .i64 0,.int .i64 0,.slice none 0 0,.int .i64 0,.int .i64 0,.int .i64 0,.bool false] rfl rfl 44 #[.int .i64 0,.int .i64 0,.int .i64 0,.int .i64 0,.int .i64 0,.slice none 0 0,.int .i64 0,.int .i64 0,.slice none 0 0,.slice none 0 0,.int .i64 0,.int .i64 0,.int .i64 0,.int .i64 0,.int .i64 0,.slice none 0 0,.int .i64 0,.int .i64 0,.int .i64 0,.bool false] (heap_alloc_new w8 _) Ar rfl H1w9.out ?_;rw [←hw9,←hm9];clear hw9 hm9)
 go_loopw [10,11] (fun l c wr=>TkR w D m9 nD B C AD x8 a0 l c wr) (fun _ c _=>D-(intOf c).toNat)
 case atStart=>
  unfold TkR
  exact⟨0,0,A,y7,Nat.zero_le _,rfl,rfl,by omega,by rw [Hs0.out];rfl,E3.out,HT9.out,Hb9.out⟩
 case round=>
  unfold TkR at hrel
  obtain⟨i,n,X,yi,hi,rfl,rfl,hn0,hn,hTk,hT,hbx⟩:=hrel
  by_cases hlt:i<D
  ·have hltI:(i:Int)<1+d0:=by have:=HD.out;omega
   obtain⟨k1,k2,k3,k4⟩:=hTk.tick (.inl rfl) HAm.out (d:=1) (by omega) (by have:=HDl.out;omega)
   have hti2:=accDo_tick C yi X ⟨8,1,0,0,0⟩ wr hT.h2 (by have:=hTk.sq;have:=HDl.out;omega) rfl
   simp only at hti2
   rw [show((1:Nat):Int)=1 from rfl] at k1 k2 k3 k4
   obtain⟨X',hX'⟩:∃Z,X.tick 1=Z:=⟨_,rfl⟩
   obtain⟨n',hn'⟩:∃n,X'.s.out.length=n:=⟨_,rfl⟩
   rw [hX',hn,hn'] at k3 k4
   rw [hX'] at k2
   rw [k1,hX'] at hti2
   obtain⟨c,hc⟩:∃c,X.tc 1=c:=⟨_,rfl⟩
   rw [hc] at k4 hti2
   have hn1:n'≤1000:=by
    rw [←hn',k2.s]
    have hz:=draw_ok (tr:=1) (.inl rfl) HAm.out (q:=i+1) (by have:=HDl.out;omega)
    have:=(walkR_out rfl hz).2.1
    omega
   clear k1
   obtain⟨HTk,HT,Hbx,Hti2,K2,HX',Hn,Hn',K3⟩:=hid9 hTk hT hbx hti2 k2 hX' hn hn' k3;clear k3 hn' hn hX' k2 hti2 hbx hT hTk;obtain⟨K4,Hc⟩:=hid2 k4 hc;clear hc k4
   go_wp2_with fail
   refine Hti2.out.mono ?_
   rintro e wb ⟨rfl,hpb⟩
   obtain⟨yb,hTb⟩:=HT.out.swap.post hpb
   have hbb:=HT.out.swap.old hpb Hbx.out
   clear hpb
   have Hbb:=Lib.hid hbb;clear hbb
   obtain⟨wc,hwc⟩:∃W,W=((wb).alloc (.cells #[.int .i64 0,.int .i64 0,.int .i64 0,.int .i64 0,.int .i64 0,.slice none 0 0,.int .i64 0,.int .i64 0,.slice none 0 0,.slice none 0 0,.int .i64 0,.int .i64 0,.int .i64 0,.int .i64 0,.int .i64 0,.slice none 0 0,.int .i64 0,.int .i64 0,.int .i64 0,.bool false] 44)).setRow (wb).heap.size #[.int .i64 0,.int .i64 0,.int .i64 c,.int .i64 0,.int .i64 0,.slice none 0 0,.int .i64 0,.int .i64 0,.slice none 0 0,.slice none 0 0,.int .i64 0,.int .i64 0,.int .i64 0,.int .i64 0,.int .i64 0,.slice none 0 0,.int .i64 0,.int .i64 0,.int .i64 0,.bool false]:=⟨_,rfl⟩
   obtain⟨hTc,hbc,hkc⟩:=TwoV.box hTb hwc
   obtain⟨mc,hmc⟩:∃b,b=(wb).heap.size:=⟨_,rfl⟩
   rw [←hmc] at hbc
   have h1wc:(#[.int .i64 0,.int .i64 0,.int .i64 c,.int .i64 0,.int .i64 0,.slice none 0 0,.int .i64 0,.int .i64 0,.slice none 0 0,.slice none 0 0,.int .i64 0,.int .i64 0,.int .i64 0,.int .i64 0,.int .i64 0,.slice none 0 0,.int .i64 0,.int .i64 0,.int .i64 0,.bool false]:Array Value).all (·.oneCell')=true:=(Br 0 0 c)
   obtain⟨HTc,Hbc,Hkc,H1wc⟩:=hid4 hTc hbc hkc h1wc;clear h1wc hkc hbc hTc
   go_upto_region 15 with(refine wpList_store_row rfl 44 (.tmp 12) (.tmp 70) rfl (wb).heap.size #[.int .i64 0,.int .i64 0,.int .i64 c,.int .i64 0,.int .i64 0,.slice none 0 0,.int .i64 0,.int .i64 0,.slice none 0 0,.slice none 0 0,.int .i64 0,.int .i64 0,.int .i64 0,.int .i64 0,.int .i64 0,.slice none 0 0,.int .i64 0,.int .i64 0,.int .i64 0,.bool false] rfl rfl 44 #[.int .i64 0,.int .i64 0,.int .i64 0,.int .i64 0,.int .i64 0,.slice none 0 0,.int .i64 0,.int .i64 0,.slice none 0 0,.slice none 0 0,.int .i64 0,.int .i64 0,.int .i64 0,.int .i64 0,.int .i64 0,.slice none 0 0,.int .i64 0,.int .i64 0,.int .i64 0,.bool false] (heap_alloc_new wb _) Ar rfl H1wc.out ?_;rw [←hwc,←hmc];clear hwc hmc)
   have b0:=Aa Hbc.out 0
   have b2:=Aa Hbc.out 2
   have bl:=lt_of_block Hbc.out
   have hbn:=Ad Hbb.out Hkc.out (by simp)
   have hTn:=HTc.out.swap
   obtain⟨Hbn,HTn⟩:=hid2 hbn hTn;clear hTn hbn
   by_cases hg:n<n'
   ·have k4:=K4.out
    rw [if_pos hg] at k4
    clear K4 Hc
    subst k4
    have hgI:(n:Int)<(n':Int):=by omega
    clear hg
    exact jY5
   ·have k4:=K4.out
    rw [if_neg hg] at k4
    clear K4 Hc
    subst k4
    obtain rfl:n'=n:=by have:=K3.out;omega
    clear hg K3
    by_cases h0:0<n'
    ·have h0I:(0:Int)<(n':Int):=by omega
     clear h0
     exact jY5
    ·obtain rfl:n'=0:=by omega
     clear h0
     rw [show((0:Nat):Int)=0 from rfl]
     go_wp2
     go_roundw
     case rel=>
      unfold TkR
      exact⟨i+1,0,X',yb,by omega,rfl,rfl,hn1,Hn'.out,K2.out,HTn.out,Hbn.out⟩
     case measure=>simp [intOf];omega
  ·obtain rfl:i=D:=by omega
   have hDD:=HD.out
   have hge:¬((i:Int)<1+d0):=by omega
   have hse:X.s=AD.s:=by rw [hTk.s,T2.out.s]
   have hie:X.iss=AD.iss:=by rw [hTk.is,T2.out.is,hse]
   have hnn:n=nD:=by rw [←hn,←HnD.out,hse]
   subst hnn
   have htd:X.today=10957+(1+d0):=by rw [hTk.td,hDD]
   have htd2:AD.today=10957+(1+d0):=by rw [T2.out.td,hDD]
   have hcy:X.cyc X.today=AD.cyc AD.today:=by unfold Ac.cyc;rw [htd,htd2,hTk.tt,T2.out.tt]
   obtain⟨cy,hcye⟩:∃z,AD.cyc AD.today=z:=⟨_,rfl⟩
   rw [hcye] at hcy
   obtain⟨nb,hnb⟩:∃z,AD.s.p.bal.length=z:=⟨_,rfl⟩
   obtain⟨nr,hnr⟩:∃z,AD.s.R.length=z:=⟨_,rfl⟩
   obtain⟨cr,hcr⟩:∃z,AD.s.p.cr=z:=⟨_,rfl⟩
   obtain⟨du,hdu⟩:∃z,AD.s.p.du=z:=⟨_,rfl⟩
   obtain⟨sa,hsa⟩:∃z,AD.seq=z:=⟨_,rfl⟩
   obtain⟨sb,hsb⟩:∃z,X.seq=z:=⟨_,rfl⟩
   obtain⟨da,hda⟩:∃z,AD.D.length=z:=⟨_,rfl⟩
   obtain⟨db,hdb⟩:∃z,X.D.length=z:=⟨_,rfl⟩
   have hst1:=at_st hT.h1 htd2 hcye hsa hcr hdu hnb hnr hda
   have hst2:=fun W (hW:Keeps (fun _=>False) wr W)=>at_st (hT.keep hW).h2 htd hcy hsb (by rw [hse];exact hcr:X.s.p.cr=cr) (by rw [hse];exact hdu:X.s.p.du=du) (by rw [hse];exact hnb:X.s.p.bal.length=nb) (by rw [hse];exact hnr:X.s.R.length=nr) hdb
   have hok1:=hT.h1.ok
   have hok2:=hT.h2.ok
   have hnb2:nb≤1000000:=by have:=hok1.nums.nb;have:=hok1.nums.n8;omega
   have hTr:=hT
   clear hDD
   obtain⟨Hse,Hie,Hst1,Hst2,Hok1,Hok2,HTr,Hbx,Htd⟩:=hid9 hse hie hst1 hst2 hok1 hok2 hTr hbx htd;clear htd hbx hTr hok2 hok1 hst2 hst1 hie hse;obtain⟨Htd2,Hcy,Hcye,Hnb,Hnr,Hcr,Hdu,Hsa,Hsb⟩:=hid9 htd2 hcy hcye hnb hnr hcr hdu hsa hsb;clear hsb hsa hdu hcr hnr hnb hcye hcy htd2
   go_wp2_with fail
   refine Hst1.out.mono ?_
   rintro e wS ⟨l1,c1,l2,c2,l3,c3,rfl,r1,_,_,hkS,_⟩
   have hst3:=Hst2.out wS hkS
   have hr1:=Reads.Bh r1
   clear r1
   obtain⟨HkS,Hst3,Hr1⟩:=hid3 hkS hst3 hr1;clear hr1 hst3 hkS
   go_wp2_with fail
   refine Hst3.out.mono ?_
   rintro e wU ⟨k1,e1,k2,e2,k3,e3,rfl,r2,_,_,hkU,_⟩
   have hr2:=Reads.Bh r2
   have hr1:=Hr1.out.keeps hkU (by simp)
   rw [Hse.out] at hr2
   clear r2
   obtain⟨W13,hW13⟩:∃W,W=(wU.alloc (.cells #[.int .i64 0,.int .i64 0,.slice none 0 0,.int .i64 0,.int .i64 0,.slice none 0 0,.slice none 0 0,.int .i64 0] 37)).alloc (.cells #[.int .i64 0,.int .i64 0,.slice none 0 0,.int .i64 0,.int .i64 0,.slice none 0 0,.slice none 0 0,.int .i64 0] 37):=⟨_,rfl⟩
   have g13:W13.heap[wU.heap.size]?=some (.cells #[.int .i64 0,.int .i64 0,.slice none 0 0,.int .i64 0,.int .i64 0,.slice none 0 0,.slice none 0 0,.int .i64 0] 37 (0,0)):=by rw [hW13];exact Au (heap_alloc_new wU _) _
   have g13b:W13.heap[wU.heap.size+1]?=some (.cells #[.int .i64 0,.int .i64 0,.slice none 0 0,.int .i64 0,.int .i64 0,.slice none 0 0,.slice none 0 0,.int .i64 0] 37 (0,0)):=by rw [hW13];exact Ay _ _ (by simp)
   have hk13:Keeps (fun _=>False) wU W13:=by rw [hW13];(repeat (first|exact Keeps.refl _ _|exact Keeps.alloc _ _|exact Keeps.drew _|exact Keeps.drewN _ _|refine Keeps.Ap ?_|refine Keeps.Al ?_|refine Keeps.Ae ?_))
   obtain⟨W15,hW15⟩:∃W,W=(W13.setRow wU.heap.size #[.int .i64 (10957+(1+d0)),.int .i64 cy,.slice l1 nb c1,.int .i64 cr,.int .i64 du,.slice l2 nr c2,.slice l3 da c3,.int .i64 sa]).setRow (wU.heap.size+1) #[.int .i64 (10957+(1+d0)),.int .i64 cy,.slice k1 nb e1,.int .i64 cr,.int .i64 du,.slice k2 nr e2,.slice k3 db e3,.int .i64 sb]:=⟨_,rfl⟩
   have g14:=setRow_heap W13 wU.heap.size _ #[.int .i64 (10957+(1+d0)),.int .i64 cy,.slice l1 nb c1,.int .i64 cr,.int .i64 du,.slice l2 nr c2,.slice l3 da c3,.int .i64 sa] 37 _ g13
   have g14b:=Ad g13b (Ca W13 wU.heap.size #[.int .i64 (10957+(1+d0)),.int .i64 cy,.slice l1 nb c1,.int .i64 cr,.int .i64 du,.slice l2 nr c2,.slice l3 da c3,.int .i64 sa]) (by show¬wU.heap.size+1=wU.heap.size;omega)
   have g15:=Ad g14 (Ca (W13.setRow wU.heap.size #[.int .i64 (10957+(1+d0)),.int .i64 cy,.slice l1 nb c1,.int .i64 cr,.int .i64 du,.slice l2 nr c2,.slice l3 da c3,.int .i64 sa]) (wU.heap.size+1) #[.int .i64 (10957+(1+d0)),.int .i64 cy,.slice k1 nb e1,.int .i64 cr,.int .i64 du,.slice k2 nr e2,.slice k3 db e3,.int .i64 sb]) (by show¬wU.heap.size=wU.heap.size+1;omega)
   have g15b:=setRow_heap (W13.setRow wU.heap.size #[.int .i64 (10957+(1+d0)),.int .i64 cy,.slice l1 nb c1,.int .i64 cr,.int .i64 du,.slice l2 nr c2,.slice l3 da c3,.int .i64 sa]) (wU.heap.size+1) _ #[.int .i64 (10957+(1+d0)),.int .i64 cy,.slice k1 nb e1,.int .i64 cr,.int .i64 du,.slice k2 nr e2,.slice k3 db e3,.int .i64 sb] 37 _ g14b
   have hk15:Keeps (fun _=>False) wU W15:=by
    rw [hW15]
    exact(hk13.trans ((Ca _ _ _).mono fun i _ e=> .inr (by have e':i=wU.heap.size:=e;omega))).trans ((Ca _ _ _).mono fun i _ e=> .inr (by have e':i=wU.heap.size+1:=e;omega))
   rw [←hW15] at g15 g15b
   have o1:(#[.int .i64 (10957+(1+d0)),.int .i64 cy,.slice l1 nb c1,.int .i64 cr,.int .i64 du,.slice l2 nr c2,.slice l3 da c3,.int .i64 sa]:Array Value).all (·.oneCell')=true:=one_st _ _ _ _ _ _ _ _ _ _ _ _ _ _
   have o2:(#[.int .i64 (10957+(1+d0)),.int .i64 cy,.slice k1 nb e1,.int .i64 cr,.int .i64 du,.slice k2 nr e2,.slice k3 db e3,.int .i64 sb]:Array Value).all (·.oneCell')=true:=one_st _ _ _ _ _ _ _ _ _ _ _ _ _ _
   have hkr15:=(HkS.out.nt hkU).nt hk15
   have hT15:=HTr.out.keep hkr15
   have hb15:=Ad Hbx.out hkr15 (by simp)
   have hr1:=hr1.keeps hk15 (by simp)
   have hr2:=hr2.keeps hk15 (by simp)
   clear hkU hk13 hk15 g14
   obtain⟨G13,G13b,G14b,G15,G15b,O1,O2,Hkr15,HT15⟩:=hid9 g13 g13b g14b g15 g15b o1 o2 hkr15 hT15;clear hT15 hkr15 o2 o1 g15b g15 g14b g13b g13;obtain⟨Hb15,Hr1,Hr2,HW13,HW15⟩:=hid5 hb15 hr1 hr2 hW13 hW15;clear hW15 hW13 hr2 hr1 hb15
   go_upto_region 19 with(first|(rw [←HW13.out];refine wpList_store_row (o:=⟨none,_,_,_,_,_⟩) rfl 37 (.tmp 13) (.tmp 79) rfl wU.heap.size #[.int .i64 (10957+(1+d0)),.int .i64 cy,.slice l1 nb c1,.int .i64 cr,.int .i64 du,.slice l2 nr c2,.slice l3 da c3,.int .i64 sa] rfl rfl 37 #[.int .i64 0,.int .i64 0,.slice none 0 0,.int .i64 0,.int .i64 0,.slice none 0 0,.slice none 0 0,.int .i64 0] G13.out Cq rfl O1.out ?_)|(refine wpList_store_row rfl 37 (.tmp 14) (.tmp 81) rfl (wU.heap.size+1) #[.int .i64 (10957+(1+d0)),.int .i64 cy,.slice k1 nb e1,.int .i64 cr,.int .i64 du,.slice k2 nr e2,.slice k3 db e3,.int .i64 sb] rfl rfl 37 #[.int .i64 0,.int .i64 0,.slice none 0 0,.int .i64 0,.int .i64 0,.slice none 0 0,.slice none 0 0,.int .i64 0] G14b.out Cq rfl O2.out ?_;rw [←HW15.out];clear HW15 HW13))
   obtain⟨ms,hms⟩:∃b,b=wU.heap.size:=⟨_,rfl⟩
   obtain⟨mt,hmt⟩:∃b,b=wU.heap.size+1:=⟨_,rfl⟩
   rw [←hmt,←hms]
   rw [←hms] at G15
   rw [←hmt] at G15b
   clear hms hmt G13 G13b G14b
   have b0:=Aa Hb15.out 0
   have b2:=Aa Hb15.out 2
   have bl:=lt_of_block Hb15.out
   have his1:=accIssued_any B x8 AD W15 HT15.out.h1
   have His1:=Lib.hid his1;clear his1
   go_wp2_with fail
   refine His1.out.mono ?_
   rintro e w16 ⟨v1,Q1,rfl,hp1,hq1⟩
   clear b0 b2 bl
   obtain⟨u1,z1,q1,rfl⟩:∃a m c,v1= .slice a m c:=by obtain⟨a,c,h,_⟩:=Aj hp1.row;exact⟨a,_,c,h⟩
   have hk16:=hp1.fr.1
   have hpg1:=(YI.of hp1 (Nat.zero_le _)).pages hq1 Hok1.out
   have his2:=accIssued_any C yi X w16 (HT15.out.keep hk16).h2
   clear hp1
   obtain⟨Hk16,Hpg1,Hq1,His2⟩:=hid4 hk16 hpg1 hq1 his2;clear his2 hq1 hpg1 hk16
   go_wp2_with fail
   refine His2.out.mono ?_
   rintro e w17 ⟨v2,Q2,rfl,hp2,hq2⟩
   obtain⟨u2,z2,q2,rfl⟩:∃a m c,v2= .slice a m c:=by obtain⟨a,c,h,_⟩:=Aj hp2.row;exact⟨a,_,c,h⟩
   have hk17:=hp2.fr.1
   have hpg2:=(YI.of hp2 (Nat.zero_le _)).pages hq2 Hok2.out
   have hsm:=sameStmL_any Q1 Q2 _ _ w17 (Hpg1.out.keeps hk17) hpg2 (by rw [Hq1.out,hq2,Hie.out])
   clear hp2 hpg2 hq2
   obtain⟨Hk17,Hsm⟩:=hid2 hk17 hsm;clear hsm hk17
   go_wp2_with fail
   refine Hsm.out.mono ?_
   rintro e w18 ⟨rfl,hk18⟩
   have hk58:=(Hk16.out.nt Hk17.out).nt hk18
   have hs18:=Ad G15.out hk58 (by simp)
   have ht18:=Ad G15b.out hk58 (by simp)
   have s2:=Aa hs18 2
   have s3:=Aa hs18 3
   have s4:=Aa hs18 4
   have sl:=lt_of_block hs18
   have t2:=Aa ht18 2
   have t3:=Aa ht18 3
   have t4:=Aa ht18 4
   have tl:=lt_of_block ht18
   have hps:=samePos_any AD.s.p.bal nb l1 k1 c1 e1 cr du w18 Hnb.out (Hr1.out.keeps hk58 (by simp)) (Hr2.out.keeps hk58 (by simp)) (by omega)
   clear hk18
   obtain⟨Hk58,Hs18,Ht18,Hps⟩:=hid4 hk58 hs18 ht18 hps;clear hps ht18 hs18 hk58
   go_wp2_with fail
   refine Hps.out.mono ?_
   rintro e w19 ⟨rfl,hk19⟩
   clear s2 s3 s4 sl t2 t3 t4 tl
   have hs19:=Ad Hs18.out hk19 (by simp)
   have ht19:=Ad Ht18.out hk19 (by simp)
   have s0:=Aa hs19 0
   have s1:=Aa hs19 1
   have sl:=lt_of_block hs19
   have t0:=Aa ht19 0
   have t1:=Aa ht19 1
   have tl:=lt_of_block ht19
   have hkf:=(HTr.out.kp.nt Hkr15.out).nt (Hk58.out.nt hk19)
   clear hk19
   obtain⟨Hs19,Ht19,Hkf⟩:=hid3 hs19 ht19 hkf;clear hkf ht19 hs19
   go_wp2
   go_ret
   exact⟨rfl,Hkf.out.below (by simp) (Nat.le_refl _)⟩
end Go.Proofs.YthffbjldpfionaaGreat
namespace Go.Proofs.YthffbjldpfionaaGreat.accountTicks
open Go.ChangeShapes Go.WideShapes Go.ChangeAt Go.RowKit Go.Deep
set_option maxRecDepth 100000
theorem lifted(os:Os)(started:os.Started)(H:Type)(enc:TypeId×Value→H):
  ReturnsInHanded {} Tryz.checked os 7 .any (Rows.accountTicksSpec.pre6 enc Tryz.prog Tryz.f7 Rows.accountTicksRow.domain false) (Rows.accountTicksSpec.post enc Tryz.prog Tryz.f7 false true false false):=by
 refine returnsInHanded_of_change (C:=Tryz.checked) own started (by kernel_rfl) Tryz.func7
  (ChangeSpec.witness6 (enc:=enc) (C:=Tryz.checked) false ⟨#[], #[.int .i64 0,.int .i64 0], []⟩ 8 (by kernel_rfl) (by kernel_rfl) (by kernel_rfl) (by kernel_rfl)) ?_
 intro W base args ds gs before hval0 hW hcnd _
 have hval:∀(j:Nat) t v,Tryz.f7.params[j]?=some t→args[j]?=some v→Value.okWide Tryz.prog W .any base t v:=hval0
 have hW':=hW
 obtain⟨p,q,hA0,hV,rfl,hfz,hnd⟩:=hW
 have hA:DataW.TrodAll enc Tryz.prog W 0 (fun _=>true) true Tryz.f7.params.toList args.toList ds p:=hA0
 rw [Tryz.params7] at hA hval
 obtain⟨v0,vs0,d0,ds0,p0,q0,hargs,rfl,rfl,h0,r0⟩:=trodAll_cons hA
 obtain⟨v1,vs1,d1,ds1,p1,q1,rfl,rfl,rfl,h1,r1⟩:=trodAll_cons r0
 obtain⟨rfl,rfl,rfl⟩:=trodAll_nil r1
 obtain rfl:args= #[v0,v1]:=by cases args;simp_all
 obtain⟨rfl,rfl⟩:=trodVars_none hV
 obtain⟨a0,rfl,rfl,rfl,w0⟩:=open_int Tryz.underlying2 (hval 0 2 v0 rfl rfl) h0
 obtain⟨a1,rfl,rfl,rfl,w1⟩:=open_int Tryz.underlying3 (hval 1 3 v1 rfl rfl) h1
 clear hA0 hval0
 refine(accountTicks_walk W a0 w0 a1 w1).mono fun e W' ⟨he,bel⟩=> ?_
 subst he
 exact⟨_,rfl,_,_,_, [],_, [],hW',trodAll_mk1 (shut_bool Tryz.underlying4 _),(trodAll_cons_mk (shut_int Tryz.underlying2 w0) (trodAll_cons_mk (shut_int Tryz.underlying3 w1) trodAll_mk0)),rfl,bel.frame _,fun h=>by cases h⟩
theorem over:Rows.accountTicksRow.holds Tryz.pinned (OpenSpec.ofChange Rows.accountTicksSpec):=
 OpenClaim.holds_of_wide 7 Tryz.f7 rfl rfl rfl rfl rfl rfl rfl ⟨rfl,rfl,rfl,rfl,rfl⟩ rfl rfl rfl rfl rfl (by kernel_rfl) Tryz.func7 (by kernel_rfl)
  (of_decide_eq_true (by kernel_rfl)) (by unfold Func.isWrapper;first|(rw [if_pos (by decide+kernel)];kernel_rfl)|(rw [if_neg (by decide+kernel)];exact⟨rfl,rfl⟩))
  (fun os started H enc _=>lifted os started H enc)
theorem proved:Rows.AccountTicksSaid:=over
#print axioms proved
end Go.Proofs.YthffbjldpfionaaGreat.accountTicks
