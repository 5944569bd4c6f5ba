/-
  AccountRates: for every input the law returns true, and each argument reads behind the call as it read before. No condition.
-/
import Derived.Test.YthffbjldpfionaaGreatAccountRatesQ1
namespace Go.Proofs.YthffbjldpfionaaGreat
open Go.RowKit
theorem evR_stop2{day:Int}{M:List Ev}{i:Nat}{p:Ps}{R:List Int}(h:∀x∈M,¬x.day=day):evR day M i p R=(i,p,R,0):=by
 cases M with
 |nil=>rfl
 |cons e M=>unfold evR;rw [if_neg (h e (List.mem_cons_self ..))]
theorem closeS_R{t:Tm}{L:List Ev}{n:Nat}{s s2:St}{fr te:Int}(h:closeS t L n s fr te=some s2):s2.R=s.R∧s2.i=s.i:=by
 unfold closeS at h
 split at h
 ·cases h
 ·split at h
  ·cases h
  ·simp only [Option.some.injEq] at h
   subst h
   exact⟨rfl,rfl⟩
theorem walkD_R{t:Tm}{T:List Ev}{n:Nat}:∀(d:Nat) (S:List (Int×Int)) (s:St) (Z:St×Int),(∀x∈T.drop s.i,x.day<s.day)→walkD t T n d S s=Z→Z.2=0→Z.1.R=s.R
 |0,S,s,Z,hT,h,hz=>by
  have he:=evR_stop2 (day:=s.day) (M:=T.drop s.i) (i:=s.i) (p:=s.p) (R:=s.R) fun x hx e=>by have:=hT x hx;omega
  unfold walkD at h
  rw [he] at h
  subst h
  rfl
 |d+1,S,s,Z,hT,h,hz=>by
  have he:=evR_stop2 (day:=s.day) (M:=T.drop s.i) (i:=s.i) (p:=s.p) (R:=s.R) fun x hx e=>by have:=hT x hx;omega
  unfold walkD at h
  rw [he] at h
  simp only [if_true] at h
  split at h
  ·subst h;simp at hz
  ·rename_i fr te S'
   split at h
   ·split at h
    ·subst h;simp at hz
    ·rename_i s2 hc
     obtain⟨h1,h2⟩:=closeS_R hc
     have:=walkD_R d S' _ Z (fun x hx=>by
      simp only [h2] at hx
      have:=hT x hx
      show x.day<s.day+1
      omega) h hz
     rw [this]
     exact h1
   ·have:=walkD_R d _ _ Z (fun x hx=>by have:=hT x hx;show x.day<s.day+1;omega) h hz
    rw [this]
    rfl
theorem Day0.tickR{a:Ac}{t:Tm}{p:Ps}{R:List Int}(h:Day0 a t p R)(d:Int):(a.tick d).s.R=R:=by
 unfold Ac.tick
 split
 ·rename_i ht
  have hd:1≤d∧(a.tz d).2=0:=by
   unfold Ac.te at ht
   split at ht
   ·cases ht
   ·split at ht
    ·cases ht
    ·exact⟨by omega,ht⟩
  have hso:sortL a.L=a.L:=sortL_id (sorted_same fun x hx=>(h.ev x hx).2)
  have hz:=hd.2
  obtain⟨Z,hZ⟩:∃Z,a.tz d=Z:=⟨_,rfl⟩
  show(a.tz d).1.R=R
  rw [hZ] at hz⊢
  unfold Ac.tz at hZ
  rw [h.tt,h.td] at hZ
  have hrp:repErr t a.L (t.start+d)=0:=(walkR_st hZ hz).1
  unfold walkR at hZ
  rw [if_pos hrp,hso,show(t.start+d-t.start).toNat=(d-1).toNat+1 by omega] at hZ
  unfold walkD at hZ
  have hev:evR (st0 t).day (a.L.drop (st0 t).i) (st0 t).i (st0 t).p (st0 t).R=(0+a.L.length,p,R,0):=h.rn
  rw [hev] at hZ
  simp only [if_true] at hZ
  have hno:∀x∈a.L.drop (0+a.L.length),x.day<t.start+1:=by simp
  split at hZ
  ·subst hZ;simp at hz
  ·rename_i fr te S' _
   split at hZ
   ·split at hZ
    ·subst hZ;simp at hz
    ·rename_i s2 hc
     obtain⟨h1,h2⟩:=closeS_R hc
     have:=walkD_R _ S' _ Z (fun x hx=>by
      simp only [h2] at hx
      exact hno x hx) hZ hz
     rw [this]
     exact h1
   ·have:=walkD_R _ _ _ Z (fun x hx=>hno x hx) hZ hz
    rw [this]
    rfl
 ·exact h.pos.2.1
def ar1(tr r:Int):Ac:=(acNew t22).chg ⟨7,0,tr,r,0⟩
def rtW(tr r:Int):Int:=if tr<1∨2<tr then 7 else if r<0∨10000000<r then 8 else 0
def rtR(tr r:Int):List Int:=if rtW tr r=0 then(if tr=1 then [r,900000] else [500000,r]) else [500000,900000]
theorem rate_set(tr r:Int):(acNew t22).xe ⟨7,0,tr,r,0⟩=rtW tr r∧(acNew t22).xr ⟨7,0,tr,r,0⟩=0∧(ar1 tr r).seq≤1∧∃p,Day0 (ar1 tr r) t22 p (rtR tr r):=by
 have hx7:¬((7:Int)=5∨(7:Int)=6):=by decide
 have hz:(acNew t22).xz ⟨7,0,tr,r,0⟩=(acNew t22).ee ⟨7,0,tr,r,0⟩:=by unfold Ac.xz;rw [if_neg hx7]
 have hlen:((acNew t22).t.trs.length:Int)=2:=rfl
 have hbad:∀z,(acNew t22).ee ⟨7,0,tr,r,0⟩=z→¬z=0→rtW tr r=z→(acNew t22).xe ⟨7,0,tr,r,0⟩=rtW tr r∧(acNew t22).xr ⟨7,0,tr,r,0⟩=0∧(ar1 tr r).seq≤1∧∃p,Day0 (ar1 tr r) t22 p (rtR tr r):=fun z h1 h2 h3=>by
  have hxe:=Ac.xe_bad (hz.trans h1) h2
  have hch:=Ac.chg_no hxe h2
  have he:ar1 tr r=acNew t22:=hch.1
  refine⟨by rw [hxe,h3],hch.2,by rw [he];decide,p22 0 0 0, ?_⟩
  rw [he]
  unfold rtR
  rw [h3,if_neg h2]
  exact day22
 by_cases h1:tr<1∨2<tr
 ·exact hbad 7 (Ac.ee_tr (c:=⟨7,0,tr,r,0⟩) (by show¬(7:Int)=2;decide) (by rw [hlen];show¬(1≤tr∧tr≤2);omega)) (by decide) (by unfold rtW;rw [if_pos h1])
 by_cases h2:r<0∨10000000<r
 ·exact hbad 8 (Ac.ee_am (c:=⟨7,0,tr,r,0⟩) (.inr (by rw [hlen];show 1≤tr∧tr≤2;omega)) (.inl ⟨rfl,h2⟩)) (by decide) (by unfold rtW;rw [if_neg h1,if_pos h2])
 have hw:rtW tr r=0:=by unfold rtW;rw [if_neg h1,if_neg h2]
 have hee:(acNew t22).ee ⟨7,0,tr,r,0⟩=0:=by rw [ee_num day22 (.inr (by omega)) (.inl ⟨rfl,by omega,by omega⟩),if_neg (by decide),if_neg (by decide),if_neg (by decide)]
 have hxv:(acNew t22).xev ⟨7,0,tr,r,0⟩=⟨6,10957,tr,r,0⟩:=by
  unfold Ac.xev
  rw [if_neg hx7,Ac.ee_yes hee]
  rfl
 have htr:tr=1∨tr=2:=by omega
 have happ:applyR (p22 0 0 0) [500000,900000] ⟨6,10957,tr,r,0⟩=(p22 0 0 0,rtR tr r,0):=by
  unfold applyR
  have hm:mayA (p22 0 0 0) [500000,900000] ⟨6,10957,tr,r,0⟩=true:=mayA2 (right22 (by omega) (by omega) (by omega) (.inl rfl)) (by decide) (by decide) (by show(1:Int)≤6∧(6:Int)≤6;decide) (.inr (by show 1≤tr∧tr≤2;omega)) (fun _=>⟨by show 0≤r;omega,by show r≤10000000;omega⟩)
  rw [if_pos hm]
  have hq:applyQ (p22 0 0 0) [500000,900000] ⟨6,10957,tr,r,0⟩=(p22 0 0 0,0):=rfl
  rw [hq]
  simp only [if_true,applyRt]
  unfold rtR
  rw [if_pos hw]
  rcases htr with rfl|rfl
  ·rfl
  ·rfl
 obtain⟨h1',h2',h3',_,_⟩:=day22.chg (c:=⟨7,0,tr,r,0⟩) (by decide) (by show(7:Int)≠6;decide) (hz.trans hee) (by rw [hxv];exact evErr22 (by decide) (.inr ⟨by decide,by omega⟩) (.inl ⟨rfl,by omega⟩) (by decide) (.inr ⟨by decide,rfl⟩)) (by rw [hxv];rfl) (by rw [hxv];exact happ)
 exact⟨by rw [h1',hw],by rw [(Ac.chg_yes h1').2,if_neg (by show¬(7:Int)=4;decide)],by unfold ar1;rw [h3'];decide,_,h2'⟩
set_option maxRecDepth 100000
set_option maxHeartbeats 3200000
theorem accountRates_walk(w:World)(tranche:Int)(_:(Lit.int .i64 tranche).wf=true)(rate:Int)(_:(Lit.int .i64 rate).wf=true)(days:Int)(_:(Lit.int .i64 days).wf=true):Calls Tryz.prog 5 #[.int .i64 tranche,.int .i64 rate,.int .i64 days] w fun e w'=>e= .returned (.bool true)∧Below w.heap.size w w':=by
 have hu:∀x,0≤IntKind.u64.wrap x:=fun x=>by rw [IntKind.wrap_u64];omega
 obtain⟨tr,htr⟩:∃r,(IntKind.u64.wrap tranche).tmod 4=r:=⟨_,rfl⟩
 have t1:0≤tr:=by rw [←htr];exact Int.tmod_nonneg _ (hu tranche)
 have t2:tr<4:=by rw [←htr];exact Int.tmod_lt_of_pos _ (by decide)
 obtain⟨d0,hd0⟩:∃r,(IntKind.u64.wrap days).tmod 20=r:=⟨_,rfl⟩
 have d1:0≤d0:=by rw [←hd0];exact Int.tmod_nonneg _ (hu days)
 have d2:d0<20:=by rw [←hd0];exact Int.tmod_lt_of_pos _ (by decide)
 obtain⟨a1,a2,a3,p,a4⟩:=rate_set tr rate
 obtain⟨q,hq⟩:∃q,rtW tr rate=q:=⟨_,rfl⟩
 have a5:=a4.tickR (1+d0)
 rw [hq] at a1
 obtain⟨Hu,A1,A2,A3,A4,A5,Hq⟩:=hid7 hu a1 a2 a3 a4 a5 hq;clear hq a5 a4 a3 a2 a1 hu
 go_enter Tryz.func5,Tryz.ntmps5
 go_wp2_with fail
 refine(terms22_any _).mono ?_
 rintro e w1 ⟨g,rfl,hr1,hk1⟩
 obtain⟨Hr1,Hk1⟩:=hid2 hr1 hk1;clear hk1 hr1
 go_wp2_with fail
 refine(new22 (O:=fun _=>False) Hk1.out (by simp) Hr1.out).mono ?_
 rintro e w2 ⟨B,rfl,hL2,_⟩
 have HL2:=Lib.hid hL2;clear hL2
 go_wp2_with fail
 refine(awake22_any _).mono ?_
 rintro e w3 ⟨rfl,hk3⟩
 have hd1:=ask22_any (HL2.out.keep hk3) 7 tr rate (by decide) (by decide)
 rw [A1.out,A2.out] at hd1
 clear hk3
 have Hd1:=Lib.hid hd1;clear hd1
 go_wp2_with fail
 refine Hd1.out.mono ?_
 rintro e w4 ⟨rfl,hL4,hk4⟩
 rw [show(acNew t22).chg ⟨7,0,tr,rate,0⟩=ar1 tr rate from rfl] at hL4
 clear hk4
 obtain⟨w5,hw5⟩:∃W,W=((w4).alloc (.cells #[.int .i64 0,.int .i64 0,.int .i64 0,.int .i64 0,.int .i64 0,.slice none 0 0,.int .i64 0,.int .i64 0,.slice none 0 0,.slice none 0 0,.int .i64 0,.int .i64 0,.int .i64 0,.int .i64 0,.int .i64 0,.slice none 0 0,.int .i64 0,.int .i64 0,.int .i64 0,.bool false] 44)).setRow (w4).heap.size #[.int .i64 q,.int .i64 0,.int .i64 0,.int .i64 0,.int .i64 0,.slice none 0 0,.int .i64 0,.int .i64 0,.slice none 0 0,.slice none 0 0,.int .i64 0,.int .i64 0,.int .i64 0,.int .i64 0,.int .i64 0,.slice none 0 0,.int .i64 0,.int .i64 0,.int .i64 0,.bool false]:=⟨_,rfl⟩
 obtain⟨hL5,hb5,hk5⟩:=Live.box hL4 hw5
 obtain⟨m1,hm1⟩:∃b,b=(w4).heap.size:=⟨_,rfl⟩
 rw [←hm1] at hL5 hb5
 have h1w5:(#[.int .i64 q,.int .i64 0,.int .i64 0,.int .i64 0,.int .i64 0,.slice none 0 0,.int .i64 0,.int .i64 0,.slice none 0 0,.slice none 0 0,.int .i64 0,.int .i64 0,.int .i64 0,.int .i64 0,.int .i64 0,.slice none 0 0,.int .i64 0,.int .i64 0,.int .i64 0,.bool false]:Array Value).all (·.oneCell')=true:=(Br q 0 0)
 obtain⟨HL5,Hb5,Hk5,H1w5⟩:=hid4 hL5 hb5 hk5 h1w5;clear h1w5 hk5 hb5 hL5
 go_upto_region 8 with(refine wpList_store_row rfl 44 (.tmp 9) (.tmp 41) rfl (w4).heap.size #[.int .i64 q,.int .i64 0,.int .i64 0,.int .i64 0,.int .i64 0,.slice none 0 0,.int .i64 0,.int .i64 0,.slice none 0 0,.slice none 0 0,.int .i64 0,.int .i64 0,.int .i64 0,.int .i64 0,.int .i64 0,.slice none 0 0,.int .i64 0,.int .i64 0,.int .i64 0,.bool false] rfl rfl 44 #[.int .i64 0,.int .i64 0,.int .i64 0,.int .i64 0,.int .i64 0,.slice none 0 0,.int .i64 0,.int .i64 0,.slice none 0 0,.slice none 0 0,.int .i64 0,.int .i64 0,.int .i64 0,.int .i64 0,.int .i64 0,.slice none 0 0,.int .i64 0,.int .i64 0,.int .i64 0,.bool false] (heap_alloc_new w4 _) Ar rfl H1w5.out ?_;rw [←hw5,←hm1];clear hw5 hm1)
 obtain⟨b1,hb1⟩:∃b,decide (rate<0∨10000000<rate)=b:=⟨_,rfl⟩
 obtain⟨b2,hb2⟩:∃b,decide (tr<1∨2<tr)=b:=⟨_,rfl⟩
 obtain⟨Hb1,Hb2⟩:=hid2 hb1 hb2;clear hb2 hb1
 go_cut [47] (fun x wx=>x= .bool b1∧wx=w5)
 case first=>
  have hb1:=Hb1.out
  by_cases r1:rate<0
  ·rw [decide_eq_true (.inl r1)] at hb1
   subst hb1
   go_wp2_with fail
   go_meet
   exact⟨rfl,rfl⟩
  ·by_cases r2:10000000<rate
   ·rw [decide_eq_true (.inr r2)] at hb1
    subst hb1
    go_wp2_with fail
    go_meet
    exact⟨rfl,rfl⟩
   ·rw [decide_eq_false (fun e=>e.elim r1 r2)] at hb1
    subst hb1
    go_wp2_with fail
    go_meet
    exact⟨rfl,rfl⟩
 obtain⟨rfl,rfl⟩:=hcut
 go_upto_if 47 with fail
 obtain⟨v1,hv1⟩:∃v:Int,(if b1=true then 8 else 0)=v:=⟨_,rfl⟩
 have Hv1:=Lib.hid hv1;clear hv1
 go_cut [10] (fun x wx=>x= .int .i64 v1∧wx=wc)
 case first=>
  cases b1
  ·obtain rfl:(0:Int)=v1:=Hv1.out
   go_wp2_with fail
   go_meet
   exact⟨rfl,rfl⟩
  ·obtain rfl:(8:Int)=v1:=Hv1.out
   go_wp2_with fail
   go_meet
   exact⟨rfl,rfl⟩
 obtain⟨rfl,hw⟩:=hcut
 subst hw
 go_upto_region 10 with fail
 go_cut [53] (fun x wx=>x= .bool b2∧wx=wc)
 case first=>
  have hb2:=Hb2.out
  by_cases r1:tr<1
  ·rw [decide_eq_true (.inl r1)] at hb2
   subst hb2
   go_wp2_with fail
   go_meet
   exact⟨rfl,rfl⟩
  ·by_cases r2:2<tr
   ·rw [decide_eq_true (.inr r2)] at hb2
    subst hb2
    go_wp2_with fail
    go_meet
    exact⟨rfl,rfl⟩
   ·rw [decide_eq_false (fun e=>e.elim r1 r2)] at hb2
    subst hb2
    go_wp2_with fail
    go_meet
    exact⟨rfl,rfl⟩
 obtain⟨rfl,hw⟩:=hcut
 subst hw
 go_upto_if 53 with fail
 have hq2:q=if b2=true then 7 else v1:=by
  rw [←Hq.out,←Hv1.out,←Hb1.out,←Hb2.out]
  unfold rtW
  by_cases e1:tr<1∨2<tr
  ·rw [if_pos e1,decide_eq_true e1];rfl
  ·rw [if_neg e1,decide_eq_false e1]
   by_cases e2:rate<0∨10000000<rate
   ·rw [if_pos e2,decide_eq_true e2];rfl
   ·rw [if_neg e2,decide_eq_false e2];rfl
 have Hq2:=Lib.hid hq2;clear hq2
 go_cut [10] (fun x wx=>x= .int .i64 q∧wx=wc)
 case first=>
  cases b2
  ·obtain rfl:q=v1:=Hq2.out
   go_wp2_with fail
   go_meet
   exact⟨rfl,rfl⟩
  ·obtain rfl:q=7:=Hq2.out
   go_wp2_with fail
   go_meet
   exact⟨rfl,rfl⟩
 obtain⟨rfl,hw⟩:=hcut
 subst hw
 have hti:=live_tick HL5.out ⟨8,1+d0,0,0,0⟩ (by have:=A3.out;omega) rfl
 simp only at hti
 have Hti:=Lib.hid hti;clear hti
 go_wp2_with fail
 refine Hti.out.mono ?_
 rintro e w6 ⟨rfl,hL6,hk6⟩
 have hx6:=HL5.out.blk hk6 (.inr rfl) Hb5.out
 clear hk6
 obtain⟨A,hA⟩:∃A,(ar1 tr rate).tick (1+d0)=A:=⟨_,rfl⟩
 have a5:=A5.out
 rw [hA] at hL6 a5
 obtain⟨r1,r2,hrr,hrk⟩:∃r1 r2,A.s.R= [r1,r2]∧((q=0∧tr=1→r1=rate)∧(¬(q=0∧tr=1)→r1=500000)∧(q=0∧tr=2→r2=rate)∧(¬(q=0∧tr=2)→r2=900000)):=by
  rw [a5]
  unfold rtR
  have hqq:=Hq.out
  rw [hqq]
  by_cases e0:q=0
  ·have e1:tr=1∨tr=2:=by rw [e0] at hqq;unfold rtW at hqq;split at hqq;cases hqq;omega
   rw [if_pos e0]
   rcases e1 with e1|e1
   ·rw [if_pos e1];exact⟨_,_,rfl,fun _=>rfl,fun h=>absurd ⟨e0,e1⟩ h,fun h=>by omega,fun _=>rfl⟩
   ·rw [if_neg (by omega)];exact⟨_,_,rfl,fun h=>by omega,fun _=>rfl,fun _=>rfl,fun h=>absurd ⟨e0,e1⟩ h⟩
  ·rw [if_neg e0];exact⟨_,_,rfl,fun h=>absurd h.1 e0,fun _=>rfl,fun h=>absurd h.1 e0,fun _=>rfl⟩
 have hst:=live_st hL6 (m:=2) rfl rfl rfl rfl rfl rfl (by rw [hrr];rfl) rfl
 obtain⟨td,htd⟩:∃x,A.today=x:=⟨_,rfl⟩
 obtain⟨cy,hcy⟩:∃x,A.cyc A.today=x:=⟨_,rfl⟩
 obtain⟨sq,hsq⟩:∃x,A.seq=x:=⟨_,rfl⟩
 obtain⟨cr,hcr⟩:∃x,A.s.p.cr=x:=⟨_,rfl⟩
 obtain⟨du,hdu⟩:∃x,A.s.p.du=x:=⟨_,rfl⟩
 obtain⟨nb,hnb⟩:∃x,A.s.p.bal.length=x:=⟨_,rfl⟩
 obtain⟨nd,hnd⟩:∃x,A.D.length=x:=⟨_,rfl⟩
 rw [hcy,htd,hsq,hcr,hdu,hnb,hnd] at hst
 obtain⟨HL6,Hx6,HA,A5,Hrr,Hrk,Hst,Htd,Hcy⟩:=hid9 hL6 hx6 hA a5 hrr hrk hst htd hcy;clear hcy htd hst hrk hrr a5 hA hx6 hL6;obtain⟨Hsq,Hcr,Hdu,Hnb,Hnd⟩:=hid5 hsq hcr hdu hnb hnd;clear hnd hnb hdu hcr hsq
 go_wp2_with fail
 refine Hst.out.mono ?_
 rintro e w7 ⟨l1,e1,l2,e2,l3,e3,rfl,_,hra,_,hk7,_⟩
 rw [Hrr.out] at hra
 obtain⟨g2,c2,he,_⟩:=Cu hra (by decide)
 simp only [Value.slice.injEq,true_and] at he
 obtain⟨rfl,rfl⟩:=he
 have y0:w7.cell? ⟨g2,0,none⟩=some (.int .i64 r1):=Bi Cc hra (k:=0) (x:=r1) rfl 0 (by decide)
 have y1:w7.cell? ⟨g2,1,none⟩=some (.int .i64 r2):=Bi Cc hra (k:=1) (x:=r2) rfl 0 (by decide)
 have yl:=Ag y0
 have hx7:=Ad Hx6.out hk7 (by simp)
 have x0:=Aa hx7 0
 have xl:=lt_of_block hx7
 have hkf:=(HL6.out.keep hk7).kp
 have hS:∀W,Keeps (fun _=>False) w7 W→W.cell? ⟨g2,0,none⟩=some (.int .i64 r1)∧W.cell? ⟨g2,1,none⟩=some (.int .i64 r2)∧g2<W.heap.size:=fun W hW=>⟨(hW.cell (Ag y0) (by simp)).trans y0,(hW.cell (Ag y1) (by simp)).trans y1,Nat.lt_of_lt_of_le yl hW.size⟩
 clear hk7 hra
 obtain⟨Hx7,Hkf,HS⟩:=hid3 hx7 hkf hS;clear hS hkf hx7
 have hfi:∀W,(Instr.field 37 (.agg #[.int .i64 td,.int .i64 cy,.slice l1 nb e1,.int .i64 cr,.int .i64 du,.slice (some ⟨g2,0,none⟩) 2 e2,.slice l3 nd e3,.int .i64 sq]) 3).run Tryz.prog W= .ok (.slice (some ⟨g2,0,none⟩) 2 e2) W:=fun _=>by kernel_rfl
 go_upto_region 16 with fail
 clear x0 xl y0 y1 yl hfi
 go_wp2_with fail
 go_loopw [12] (fun c wr=>∃k:Nat,k≤2∧c= .int .i64 (k:Nat)∧Keeps (fun _=>False) w7 wr) (fun c _=>2-(intOf c).toNat)
 case atStart=>exact⟨0,by omega,rfl,Keeps.refl _ _⟩
 case round=>
  obtain⟨k,hk,rfl,hkr⟩:=hrel
  obtain⟨y0,y1,yl⟩:=HS.out wr hkr
  obtain⟨k1,k2,k3,k4⟩:=Hrk.out
  have h3:k=0∨k=1∨k=2:=by omega
  have Hkr:=Lib.hid hkr;clear hkr
  rcases h3 with rfl|rfl|rfl
  ·rw [show((0:Nat):Int)=0 from rfl]
   by_cases e:q=0
   ·by_cases e':tr=1
    ·have hr:=k1 ⟨e,e'⟩
     clear k1 k2 k3 k4 Hrk
     subst hr
     subst e
     subst e'
     go_wp2
     go_roundw
     case rel=>exact⟨1,by omega,rfl,Hkr.out.nt (Keeps.alloc _ _)⟩
     case measure=>simp [intOf]
    ·have hr:=k2 (fun h=>e' h.2)
     have hb':(tr==1)=false:=beq_eq_false_iff_ne.2 e'
     clear k1 k2 k3 k4 Hrk
     subst hr
     subst e
     clear e'
     go_wp2
     go_roundw
     case rel=>exact⟨1,by omega,rfl,Hkr.out.nt (Keeps.alloc _ _)⟩
     case measure=>simp [intOf]
   ·have hr:=k2 (fun h=>e h.1)
    have hb':(q==0)=false:=beq_eq_false_iff_ne.2 e
    clear k1 k2 k3 k4 Hrk
    subst hr
    clear e
    go_wp2
    go_roundw
    case rel=>exact⟨1,by omega,rfl,Hkr.out.nt (Keeps.alloc _ _)⟩
    case measure=>simp [intOf]
  ·rw [show((1:Nat):Int)=1 from rfl]
   by_cases e:q=0
   ·by_cases e':tr=2
    ·have hr:=k3 ⟨e,e'⟩
     clear k1 k2 k3 k4 Hrk
     subst hr
     subst e
     subst e'
     go_wp2
     go_roundw
     case rel=>exact⟨2,by omega,rfl,Hkr.out.nt (Keeps.alloc _ _)⟩
     case measure=>simp [intOf]
    ·have hr:=k4 (fun h=>e' h.2)
     have hb':(tr==2)=false:=beq_eq_false_iff_ne.2 e'
     clear k1 k2 k3 k4 Hrk
     subst hr
     subst e
     clear e'
     go_wp2
     go_roundw
     case rel=>exact⟨2,by omega,rfl,Hkr.out.nt (Keeps.alloc _ _)⟩
     case measure=>simp [intOf]
   ·have hr:=k4 (fun h=>e h.1)
    have hb':(q==0)=false:=beq_eq_false_iff_ne.2 e
    clear k1 k2 k3 k4 Hrk
    subst hr
    clear e
    go_wp2
    go_roundw
    case rel=>exact⟨2,by omega,rfl,Hkr.out.nt (Keeps.alloc _ _)⟩
    case measure=>simp [intOf]
  ·rw [show((2:Nat):Int)=2 from rfl]
   clear k1 k2 k3 k4
   go_wp2
   go_ret
   exact⟨rfl,(Hkf.out.nt Hkr.out).below (by simp) (Nat.le_refl _)⟩
end Go.Proofs.YthffbjldpfionaaGreat
namespace Go.Proofs.YthffbjldpfionaaGreat.accountRates
open Go.ChangeShapes Go.WideShapes Go.ChangeAt Go.RowKit Go.Deep
set_option maxRecDepth 100000
theorem lifted(os:Os)(started:os.Started)(H:Type)(enc:TypeId×Value→H):
  ReturnsInHanded {} Tryz.checked os 5 .any (Rows.accountRatesSpec.pre6 enc Tryz.prog Tryz.f5 Rows.accountRatesRow.domain false) (Rows.accountRatesSpec.post enc Tryz.prog Tryz.f5 false true false false):=by
 refine returnsInHanded_of_change (C:=Tryz.checked) own started (by kernel_rfl) Tryz.func5
  (ChangeSpec.witness6 (enc:=enc) (C:=Tryz.checked) false ⟨#[], #[.int .i64 0,.int .i64 0,.int .i64 0], []⟩ 8 (by kernel_rfl) (by kernel_rfl) (by kernel_rfl) (by kernel_rfl)) ?_
 intro W base args ds gs before hval0 hW hcnd _
 have hval:∀(j:Nat) t v,Tryz.f5.params[j]?=some t→args[j]?=some v→Value.okWide Tryz.prog W .any base t v:=hval0
 have hW':=hW
 obtain⟨p,q,hA0,hV,rfl,hfz,hnd⟩:=hW
 have hA:DataW.TrodAll enc Tryz.prog W 0 (fun _=>true) true Tryz.f5.params.toList args.toList ds p:=hA0
 rw [Tryz.params5] at hA hval
 obtain⟨v0,vs0,d0,ds0,p0,q0,hargs,rfl,rfl,h0,r0⟩:=trodAll_cons hA
 obtain⟨v1,vs1,d1,ds1,p1,q1,rfl,rfl,rfl,h1,r1⟩:=trodAll_cons r0
 obtain⟨v2,vs2,d2,ds2,p2,q2,rfl,rfl,rfl,h2,r2⟩:=trodAll_cons r1
 obtain⟨rfl,rfl,rfl⟩:=trodAll_nil r2
 obtain rfl:args= #[v0,v1,v2]:=by cases args;simp_all
 obtain⟨rfl,rfl⟩:=trodVars_none hV
 obtain⟨a0,rfl,rfl,rfl,w0⟩:=open_int Tryz.underlying3 (hval 0 3 v0 rfl rfl) h0
 obtain⟨a1,rfl,rfl,rfl,w1⟩:=open_int Tryz.underlying2 (hval 1 2 v1 rfl rfl) h1
 obtain⟨a2,rfl,rfl,rfl,w2⟩:=open_int Tryz.underlying3 (hval 2 3 v2 rfl rfl) h2
 clear hA0 hval0
 refine(accountRates_walk W a0 w0 a1 w1 a2 w2).mono fun e W' ⟨he,bel⟩=> ?_
 subst he
 exact⟨_,rfl,_,_,_, [],_, [],hW',trodAll_mk1 (shut_bool Tryz.underlying4 _),(trodAll_cons_mk (shut_int Tryz.underlying3 w0) (trodAll_cons_mk (shut_int Tryz.underlying2 w1) (trodAll_cons_mk (shut_int Tryz.underlying3 w2) trodAll_mk0))),rfl,bel.frame _,fun h=>by cases h⟩
theorem over:Rows.accountRatesRow.holds Tryz.pinned (OpenSpec.ofChange Rows.accountRatesSpec):=
 OpenClaim.holds_of_wide 5 Tryz.f5 rfl rfl rfl rfl rfl rfl rfl ⟨rfl,rfl,rfl,rfl,rfl⟩ rfl rfl rfl rfl rfl (by kernel_rfl) Tryz.func5 (by kernel_rfl)
  (of_decide_eq_true (by kernel_rfl)) (by unfold Func.isWrapper;first|(rw [if_pos (by decide+kernel)];kernel_rfl)|(rw [if_neg (by decide+kernel)];exact⟨rfl,rfl⟩))
  (fun os started H enc _=>lifted os started H enc)
theorem proved:Rows.AccountRatesSaid:=over
#print axioms proved
end Go.Proofs.YthffbjldpfionaaGreat.accountRates
