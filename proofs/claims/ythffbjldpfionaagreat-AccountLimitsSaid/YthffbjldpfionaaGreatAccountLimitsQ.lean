/-
  AccountLimits: for every input the law returns true, and each argument reads behind the call as it read before. No condition.
-/
import Derived.Test.YthffbjldpfionaaGreatAccountLimitsQ1
namespace Go.Proofs.YthffbjldpfionaaGreat
open Go.RowKit
def am1(f:Int):Ac:=(acNew t22).chg ⟨1,0,1,f,0⟩
def am2(f p:Int):Ac:=(am1 f).chg ⟨2,0,0,p,0⟩
theorem lim_two{f p:Int}(hf:1≤f∧f≤1000)(hp:1≤p∧p≤3000):(acNew t22).xe ⟨1,0,1,f,0⟩=0∧(acNew t22).xr ⟨1,0,1,f,0⟩=0∧(am1 f).seq=1∧(am1 f).xe ⟨2,0,0,p,0⟩=0∧(am1 f).xr ⟨2,0,0,p,0⟩=0∧(am2 f p).seq=2∧Day0 (am2 f p) t22 (p22 (f-minI p f) 0 (p-minI p f)) [500000,900000]∧(am2 f p).L.length=2:=by
 obtain⟨a1,a2,a3,a4,a5,a6⟩:=day22.draw (tr:=1) (am:=f) (x':=f) (y':=0) (c':=0) (by decide) (.inl ⟨rfl,by unfold minI;split<;>omega,rfl⟩) (by unfold minI;split<;>omega) ⟨by omega,by omega⟩ (by omega) (right22 (by omega) (by omega) (by omega) (.inl rfl)) (right22 (by omega) (by omega) (by omega) (.inl rfl))
 obtain⟨b1,b2,b3,b4,b5⟩:=a3.payd (am:=p) (by rw [a6];decide) ⟨by omega,by omega⟩ ⟨by omega,by omega⟩
 exact⟨a1,a2,a4,b1,b2,by unfold am2 am1;rw [b4,a4];rfl,b3,by unfold am2 am1;rw [b5,a6];rfl⟩
theorem lim_yes{f p m:Int}(hf:1≤f∧f≤1000)(hp:1≤p∧p≤3000)(hm:1≤m)(hr:m≤1000-f+p):(am2 f p).xe ⟨1,0,2,m,0⟩=0∧(am2 f p).xr ⟨1,0,2,m,0⟩=0∧∃x y c,((am2 f p).chg ⟨1,0,2,m,0⟩).s.p=p22 x y c∧x+y-c=f-p+m∧Ps.rightB (p22 x y c)=true∧0≤x+y∧x+y≤100000∧0≤c∧c≤100000:=by
 obtain⟨_,_,_,_,_,_,h,hl⟩:=lim_two hf hp
 have hmin:minI p f≤p∧minI p f≤f∧(minI p f=p∨minI p f=f):=by unfold minI;split<;>omega
 obtain⟨k,hk⟩:∃k,minI p f=k:=⟨_,rfl⟩
 rw [hk] at h hmin
 have hmin2:minI m (p-k)≤m∧minI m (p-k)≤p-k∧(minI m (p-k)=m∨minI m (p-k)=p-k):=by unfold minI;split<;>omega
 obtain⟨q,hq⟩:∃q,minI m (p-k)=q:=⟨_,rfl⟩
 rw [hq] at hmin2
 have hr2:=right22 (a:=f-k) (b:=0+(m-q)) (c:=p-k-q) (by omega) (by omega) (by omega) (by omega)
 obtain⟨a1,a2,a3,_⟩:=h.draw (tr:=2) (am:=m) (x':=f-k) (y':=0+(m-q)) (c':=p-k-q) (by rw [hl];decide) (.inr ⟨rfl,rfl,by rw [hq]⟩) (by rw [hq]) ⟨hm,by omega⟩ (by omega) (right22 (by omega) (by omega) (by omega) (by omega)) hr2
 exact⟨a1,a2,_,_,_,a3.pos.1,by omega,hr2,by omega,by omega,by omega,by omega⟩
theorem lim_no{f p m:Int}(hf:1≤f∧f≤1000)(hp:1≤p∧p≤3000)(hm:1≤m∧m≤100000)(hr:1000-f+p<m):(am2 f p).xe ⟨1,0,2,m,0⟩=9∧(am2 f p).xr ⟨1,0,2,m,0⟩=0∧∃x y c,((am2 f p).chg ⟨1,0,2,m,0⟩).s.p=p22 x y c∧x+y-c=f-p∧Ps.rightB (p22 x y c)=true∧0≤x+y∧x+y≤100000∧0≤c∧c≤100000:=by
 obtain⟨_,_,_,_,_,_,h,hl⟩:=lim_two hf hp
 have hmin:minI p f≤p∧minI p f≤f∧(minI p f=p∨minI p f=f):=by unfold minI;split<;>omega
 obtain⟨k,hk⟩:∃k,minI p f=k:=⟨_,rfl⟩
 rw [hk] at h hmin
 have hee:(am2 f p).ee ⟨1,0,2,m,0⟩=9:=by rw [ee_num h (.inr (by decide)) (.inr ⟨by decide,hm.1,by omega⟩),if_pos rfl,if_pos (by omega)]
 have hxz:(am2 f p).xz ⟨1,0,2,m,0⟩=9:=by unfold Ac.xz;rw [if_neg (by show¬((1:Int)=5∨(1:Int)=6);decide)];exact hee
 have hxe:=Ac.xe_bad hxz (by decide)
 have hch:=Ac.chg_no hxe (by decide)
 exact⟨hxe,hch.2,f-k,0,p-k,by rw [hch.1];exact h.pos.1,by omega,right22 (by omega) (by omega) (by omega) (by omega),by omega,by omega,by omega,by omega⟩
def limS(m4 m5 m6 m7:Nat)(z:Int)(v:Value)(cr du:Int)(w:World):Prop:=w.cell? ⟨m4,0,none⟩=some (.int .i64 0)∧w.cell? ⟨m5,0,none⟩=some (.int .i64 0)∧w.cell? ⟨m6,0,none⟩=some (.int .i64 z)∧w.cell? ⟨m7,2,none⟩=some v∧w.cell? ⟨m7,3,none⟩=some (.int .i64 cr)∧w.cell? ⟨m7,4,none⟩=some (.int .i64 du)
theorem limS.keep{m4 m5 m6 m7:Nat}{z:Int}{v:Value}{cr du:Int}{w w':World}(h:limS m4 m5 m6 m7 z v cr du w)(hk:Keeps (fun _=>False) w w'):limS m4 m5 m6 m7 z v cr du w':=by
 obtain⟨h1,h2,h3,h4,h5,h6⟩:=h
 exact⟨(hk.cell (Ag h1) (by simp)).trans h1,(hk.cell (Ag h2) (by simp)).trans h2,(hk.cell (Ag h3) (by simp)).trans h3,(hk.cell (Ag h4) (by simp)).trans h4,(hk.cell (Ag h5) (by simp)).trans h5,(hk.cell (Ag h6) (by simp)).trans h6⟩
set_option maxRecDepth 100000
set_option maxHeartbeats 3200000
theorem accountLimits_walk(w:World)(first:Int)(_:(Lit.int .i64 first).wf=true)(paid:Int)(_:(Lit.int .i64 paid).wf=true)(more:Int)(_:(Lit.int .i64 more).wf=true):Calls Tryz.prog 3 #[.int .i64 first,.int .i64 paid,.int .i64 more] w fun e w'=>e= .returned (.bool true)∧Below w.heap.size w w':=by
 have hu:∀x,0≤IntKind.u64.wrap x:=fun x=>by rw [IntKind.wrap_u64];omega
 obtain⟨f0,hf0⟩:∃r,(IntKind.u64.wrap first).tmod 1000=r:=⟨_,rfl⟩
 have f1:0≤f0:=by rw [←hf0];exact Int.tmod_nonneg _ (hu first)
 have f2:f0<1000:=by rw [←hf0];exact Int.tmod_lt_of_pos _ (by decide)
 obtain⟨p0,hp0⟩:∃r,(IntKind.u64.wrap paid).tmod 3000=r:=⟨_,rfl⟩
 have g1:0≤p0:=by rw [←hp0];exact Int.tmod_nonneg _ (hu paid)
 have g2:p0<3000:=by rw [←hp0];exact Int.tmod_lt_of_pos _ (by decide)
 obtain⟨m0,hm0⟩:∃r,(IntKind.u64.wrap more).tmod (1000-(1+f0)+(1+p0)+3)=r:=⟨_,rfl⟩
 have m1:0≤m0:=by rw [←hm0];exact Int.tmod_nonneg _ (hu more)
 have m2:m0<1000-(1+f0)+(1+p0)+3:=by rw [←hm0];exact Int.tmod_lt_of_pos _ (by omega)
 have hF:1≤1+f0∧1+f0≤1000:=by omega
 have hP:1≤1+p0∧1+p0≤3000:=by omega
 have hwr:IntKind.u64.wrap (1000-(1+f0)+(1+p0)+3)=1000-(1+f0)+(1+p0)+3:=by rw [IntKind.wrap_u64];omega
 have hne:(1000-(1+f0)+(1+p0)+3==0)=false:=beq_eq_false_iff_ne.2 (by omega)
 have hne2:¬1000-(1+f0)+(1+p0)+3=0:=by omega
 obtain⟨a1,a2,a3,b1,b2,b3,b4,b5⟩:=lim_two hF hP
 obtain⟨Hu,A1,A2,A3,B1,B2,B3,B4,B5⟩:=hid9 hu a1 a2 a3 b1 b2 b3 b4 b5;clear b5 b4 b3 b2 b1 a3 a2 a1 hu;obtain⟨HF,HP⟩:=hid2 hF hP;clear hP hF
 go_enter Tryz.func3,Tryz.ntmps3
 go_wp2_with fail
 refine(terms22_any _).mono ?_
 rintro e w1 ⟨g,rfl,hr1,hk1⟩
 obtain⟨Hr1,Hk1⟩:=hid2 hr1 hk1;clear hk1 hr1
 go_wp2_with fail
 refine(new22 (O:=fun _=>False) Hk1.out (by simp) Hr1.out).mono ?_
 rintro e w2 ⟨B,rfl,hL2,_⟩
 have HL2:=Lib.hid hL2;clear hL2
 go_wp2_with fail
 refine(awake22_any _).mono ?_
 rintro e w3 ⟨rfl,hk3⟩
 have hL3:=HL2.out.keep hk3
 clear hk3
 have hd1:=Di hL3 ⟨1,0,1,1+f0,0⟩ (by decide) (show(1:Int)≤1∧(1:Int)≤7 by decide)
 rw [A1.out,A2.out] at hd1
 simp only at hd1
 obtain⟨HL3,Hd1⟩:=hid2 hL3 hd1;clear hd1 hL3
 go_wp2_with fail
 refine Hd1.out.mono ?_
 rintro e w4 ⟨rfl,hL4,hk4⟩
 rw [show(acNew t22).chg ⟨1,0,1,1+f0,0⟩=am1 (1+f0) from rfl] at hL4
 clear hk4
 obtain⟨w5,hw5⟩:∃W,W=((w4).alloc (.cells #[.int .i64 0,.int .i64 0,.int .i64 0,.int .i64 0,.int .i64 0,.slice none 0 0,.int .i64 0,.int .i64 0,.slice none 0 0,.slice none 0 0,.int .i64 0,.int .i64 0,.int .i64 0,.int .i64 0,.int .i64 0,.slice none 0 0,.int .i64 0,.int .i64 0,.int .i64 0,.bool false] 44)).setRow (w4).heap.size #[.int .i64 0,.int .i64 0,.int .i64 0,.int .i64 0,.int .i64 0,.slice none 0 0,.int .i64 0,.int .i64 0,.slice none 0 0,.slice none 0 0,.int .i64 0,.int .i64 0,.int .i64 0,.int .i64 0,.int .i64 0,.slice none 0 0,.int .i64 0,.int .i64 0,.int .i64 0,.bool false]:=⟨_,rfl⟩
 obtain⟨hL5,hb5,hk5⟩:=Live.box hL4 hw5
 obtain⟨m5,hm5⟩:∃b,b=(w4).heap.size:=⟨_,rfl⟩
 rw [←hm5] at hL5 hb5
 have h1w5:(#[.int .i64 0,.int .i64 0,.int .i64 0,.int .i64 0,.int .i64 0,.slice none 0 0,.int .i64 0,.int .i64 0,.slice none 0 0,.slice none 0 0,.int .i64 0,.int .i64 0,.int .i64 0,.int .i64 0,.int .i64 0,.slice none 0 0,.int .i64 0,.int .i64 0,.int .i64 0,.bool false]:Array Value).all (·.oneCell')=true:=(Br 0 0 0)
 obtain⟨HL5,Hb5,Hk5,H1w5⟩:=hid4 hL5 hb5 hk5 h1w5;clear h1w5 hk5 hb5 hL5
 go_wp2_with (refine wpList_store_row rfl 44 (.tmp 9) (.tmp 44) rfl (w4).heap.size #[.int .i64 0,.int .i64 0,.int .i64 0,.int .i64 0,.int .i64 0,.slice none 0 0,.int .i64 0,.int .i64 0,.slice none 0 0,.slice none 0 0,.int .i64 0,.int .i64 0,.int .i64 0,.int .i64 0,.int .i64 0,.slice none 0 0,.int .i64 0,.int .i64 0,.int .i64 0,.bool false] rfl rfl 44 #[.int .i64 0,.int .i64 0,.int .i64 0,.int .i64 0,.int .i64 0,.slice none 0 0,.int .i64 0,.int .i64 0,.slice none 0 0,.slice none 0 0,.int .i64 0,.int .i64 0,.int .i64 0,.int .i64 0,.int .i64 0,.slice none 0 0,.int .i64 0,.int .i64 0,.int .i64 0,.bool false] (heap_alloc_new w4 _) Ar rfl H1w5.out ?_;rw [←hw5,←hm5];clear hw5 hm5)
 have hd2:=Di HL5.out ⟨2,0,0,1+p0,0⟩ (by rw [A3.out];decide) (show(1:Int)≤2∧(2:Int)≤7 by decide)
 rw [B1.out,B2.out] at hd2
 simp only at hd2
 have Hd2:=Lib.hid hd2;clear hd2
 refine Hd2.out.mono ?_
 rintro e w6 ⟨rfl,hL6,hk6⟩
 rw [show(am1 (1+f0)).chg ⟨2,0,0,1+p0,0⟩=am2 (1+f0) (1+p0) from rfl] at hL6
 have hx6:=HL5.out.blk hk6 (.inr rfl) Hb5.out
 clear hk6
 have Hx6:=Lib.hid hx6;clear hx6
 obtain⟨w7,hw7⟩:∃W,W=((w6).alloc (.cells #[.int .i64 0,.int .i64 0,.int .i64 0,.int .i64 0,.int .i64 0,.slice none 0 0,.int .i64 0,.int .i64 0,.slice none 0 0,.slice none 0 0,.int .i64 0,.int .i64 0,.int .i64 0,.int .i64 0,.int .i64 0,.slice none 0 0,.int .i64 0,.int .i64 0,.int .i64 0,.bool false] 44)).setRow (w6).heap.size #[.int .i64 0,.int .i64 0,.int .i64 0,.int .i64 0,.int .i64 0,.slice none 0 0,.int .i64 0,.int .i64 0,.slice none 0 0,.slice none 0 0,.int .i64 0,.int .i64 0,.int .i64 0,.int .i64 0,.int .i64 0,.slice none 0 0,.int .i64 0,.int .i64 0,.int .i64 0,.bool false]:=⟨_,rfl⟩
 obtain⟨hL7,hb7,hk7⟩:=Live.box hL6 hw7
 obtain⟨m7,hm7⟩:∃b,b=(w6).heap.size:=⟨_,rfl⟩
 rw [←hm7] at hL7 hb7
 have h1w7:(#[.int .i64 0,.int .i64 0,.int .i64 0,.int .i64 0,.int .i64 0,.slice none 0 0,.int .i64 0,.int .i64 0,.slice none 0 0,.slice none 0 0,.int .i64 0,.int .i64 0,.int .i64 0,.int .i64 0,.int .i64 0,.slice none 0 0,.int .i64 0,.int .i64 0,.int .i64 0,.bool false]:Array Value).all (·.oneCell')=true:=(Br 0 0 0)
 obtain⟨HL7,Hb7,Hk7,H1w7⟩:=hid4 hL7 hb7 hk7 h1w7;clear h1w7 hk7 hb7 hL7
 go_wp2_with (refine wpList_store_row rfl 44 (.tmp 10) (.tmp 48) rfl (w6).heap.size #[.int .i64 0,.int .i64 0,.int .i64 0,.int .i64 0,.int .i64 0,.slice none 0 0,.int .i64 0,.int .i64 0,.slice none 0 0,.slice none 0 0,.int .i64 0,.int .i64 0,.int .i64 0,.int .i64 0,.int .i64 0,.slice none 0 0,.int .i64 0,.int .i64 0,.int .i64 0,.bool false] rfl rfl 44 #[.int .i64 0,.int .i64 0,.int .i64 0,.int .i64 0,.int .i64 0,.slice none 0 0,.int .i64 0,.int .i64 0,.slice none 0 0,.slice none 0 0,.int .i64 0,.int .i64 0,.int .i64 0,.int .i64 0,.int .i64 0,.slice none 0 0,.int .i64 0,.int .i64 0,.int .i64 0,.bool false] (heap_alloc_new w6 _) Ar rfl H1w7.out ?_;rw [←hw7,←hm7];clear hw7 hm7)
 have hx7:=Ad Hx6.out Hk7.out (by simp)
 have hd3:=Di HL7.out ⟨1,0,2,1+m0,0⟩ (by rw [B3.out];decide) (show(1:Int)≤1∧(1:Int)≤7 by decide)
 simp only at hd3
 by_cases hroom:1000-(1+f0)+(1+p0)<1+m0
 ·obtain⟨e1,e2,X,Y,C,e3,e4,e5,⟨e6,e7,e8,e9⟩⟩:=lim_no (m:=1+m0) HF.out HP.out ⟨by omega,by omega⟩ hroom
  rw [e1,e2] at hd3
  obtain⟨A,hA⟩:∃A,(am2 (1+f0) (1+p0)).chg ⟨1,0,2,1+m0,0⟩=A:=⟨_,rfl⟩
  rw [hA] at hd3 e3
  obtain⟨Hx7,Hd3,E1,E2,E3,E5,HA⟩:=hid7 hx7 hd3 e1 e2 e3 e5 hA;clear hA e5 e3 e2 e1 hd3 hx7
  refine Hd3.out.mono ?_
  rintro e w8 ⟨rfl,hL8,hk8⟩
  have hx8:=HL7.out.blk hk8 (.inl (.inr rfl)) Hx7.out
  have hy8:=HL7.out.blk hk8 (.inr rfl) Hb7.out
  clear hk8
  obtain⟨Hx8,Hy8⟩:=hid2 hx8 hy8;clear hy8 hx8
  obtain⟨w9,hw9⟩:∃W,W=((w8).alloc (.cells #[.int .i64 0,.int .i64 0,.int .i64 0,.int .i64 0,.int .i64 0,.slice none 0 0,.int .i64 0,.int .i64 0,.slice none 0 0,.slice none 0 0,.int .i64 0,.int .i64 0,.int .i64 0,.int .i64 0,.int .i64 0,.slice none 0 0,.int .i64 0,.int .i64 0,.int .i64 0,.bool false] 44)).setRow (w8).heap.size #[.int .i64 9,.int .i64 0,.int .i64 0,.int .i64 0,.int .i64 0,.slice none 0 0,.int .i64 0,.int .i64 0,.slice none 0 0,.slice none 0 0,.int .i64 0,.int .i64 0,.int .i64 0,.int .i64 0,.int .i64 0,.slice none 0 0,.int .i64 0,.int .i64 0,.int .i64 0,.bool false]:=⟨_,rfl⟩
  obtain⟨hL9,hb9,hk9⟩:=Live.box hL8 hw9
  obtain⟨m9,hm9⟩:∃b,b=(w8).heap.size:=⟨_,rfl⟩
  rw [←hm9] at hL9 hb9
  have h1w9:(#[.int .i64 9,.int .i64 0,.int .i64 0,.int .i64 0,.int .i64 0,.slice none 0 0,.int .i64 0,.int .i64 0,.slice none 0 0,.slice none 0 0,.int .i64 0,.int .i64 0,.int .i64 0,.int .i64 0,.int .i64 0,.slice none 0 0,.int .i64 0,.int .i64 0,.int .i64 0,.bool false]:Array Value).all (·.oneCell')=true:=(Br 9 0 0)
  obtain⟨HL9,Hb9,Hk9,H1w9⟩:=hid4 hL9 hb9 hk9 h1w9;clear h1w9 hk9 hb9 hL9
  go_wp2_with (refine wpList_store_row rfl 44 (.tmp 12) (.tmp 64) rfl (w8).heap.size #[.int .i64 9,.int .i64 0,.int .i64 0,.int .i64 0,.int .i64 0,.slice none 0 0,.int .i64 0,.int .i64 0,.slice none 0 0,.slice none 0 0,.int .i64 0,.int .i64 0,.int .i64 0,.int .i64 0,.int .i64 0,.slice none 0 0,.int .i64 0,.int .i64 0,.int .i64 0,.bool false] rfl rfl 44 #[.int .i64 0,.int .i64 0,.int .i64 0,.int .i64 0,.int .i64 0,.slice none 0 0,.int .i64 0,.int .i64 0,.slice none 0 0,.slice none 0 0,.int .i64 0,.int .i64 0,.int .i64 0,.int .i64 0,.int .i64 0,.slice none 0 0,.int .i64 0,.int .i64 0,.int .i64 0,.bool false] (heap_alloc_new w8 _) Ar rfl H1w9.out ?_;rw [←hw9,←hm9];clear hw9 hm9)
  have hx9:=Ad Hx8.out Hk9.out (by simp)
  have hy9:=Ad Hy8.out Hk9.out (by simp)
  have hst:=live_st HL9.out (cr:=C) (du:=0) (n:=2) rfl rfl rfl (by rw [E3.out];rfl) (by rw [E3.out];rfl) (by rw [E3.out];rfl) rfl rfl
  obtain⟨sq,hsq⟩:∃x,A.seq=x:=⟨_,rfl⟩
  obtain⟨td,htd⟩:∃x,A.today=x:=⟨_,rfl⟩
  obtain⟨cy,hcy⟩:∃x,A.cyc A.today=x:=⟨_,rfl⟩
  obtain⟨nr,hnr⟩:∃x,A.s.R.length=x:=⟨_,rfl⟩
  obtain⟨nd,hnd⟩:∃x,A.D.length=x:=⟨_,rfl⟩
  rw [hcy,htd,hsq,hnr,hnd] at hst
  obtain⟨Hst,Hsq,Htd,Hcy,Hnr,Hnd,Hx9,Hy9⟩:=hid8 hst hsq htd hcy hnr hnd hx9 hy9;clear hy9 hx9 hnd hnr hcy htd hsq hst
  refine Hst.out.mono ?_
  rintro e wa ⟨l1,d1,l2,d2,l3,d3,rfl,hra,_,_,hka,_⟩
  have hLa:=HL9.out.keep hka
  have hxa:=Ad Hx9.out hka (by simp)
  have hya:=Ad Hy9.out hka (by simp)
  have hza:=Ad Hb9.out hka (by simp)
  rw [E3.out] at hra
  have hrd:=Reads.Bh hra
  clear hka hra
  obtain⟨HLa,Hxa,Hya,Hza,Hrd⟩:=hid5 hLa hxa hya hza hrd;clear hrd hza hya hxa hLa
  obtain⟨wb,hwb⟩:∃W,W=((wa).alloc (.cells #[.int .i64 0,.int .i64 0,.slice none 0 0,.int .i64 0,.int .i64 0,.slice none 0 0,.slice none 0 0,.int .i64 0] 37)).setRow (wa).heap.size #[.int .i64 td,.int .i64 cy,.slice l1 2 d1,.int .i64 C,.int .i64 0,.slice l2 nr d2,.slice l3 nd d3,.int .i64 sq]:=⟨_,rfl⟩
  obtain⟨hLb,hbb,hkb⟩:=Live.box HLa.out hwb
  obtain⟨mb,hmb⟩:∃b,b=(wa).heap.size:=⟨_,rfl⟩
  rw [←hmb] at hLb hbb
  have h1wb:(#[.int .i64 td,.int .i64 cy,.slice l1 2 d1,.int .i64 C,.int .i64 0,.slice l2 nr d2,.slice l3 nd d3,.int .i64 sq]:Array Value).all (·.oneCell')=true:=(one_st _ _ _ _ _ _ _ _ _ _ _ _ _ _)
  obtain⟨HLb,Hbb,Hkb,H1wb⟩:=hid4 hLb hbb hkb h1wb;clear h1wb hkb hbb hLb
  go_upto_region 17 with(refine wpList_store_row rfl 37 (.tmp 13) (.tmp 66) rfl (wa).heap.size #[.int .i64 td,.int .i64 cy,.slice l1 2 d1,.int .i64 C,.int .i64 0,.slice l2 nr d2,.slice l3 nd d3,.int .i64 sq] rfl rfl 37 #[.int .i64 0,.int .i64 0,.slice none 0 0,.int .i64 0,.int .i64 0,.slice none 0 0,.slice none 0 0,.int .i64 0] (heap_alloc_new wa _) Cq rfl H1wb.out ?_;rw [←hwb,←hmb];clear hwb hmb)
  have hrb:=Hrd.out.keeps Hkb.out (by simp)
  have hxb:=Ad Hxa.out Hkb.out (by simp)
  have hyb:=Ad Hya.out Hkb.out (by simp)
  have hzb:=Ad Hza.out Hkb.out (by simp)
  have hS:limS m5 m7 m9 mb 9 (.slice l1 2 d1) C 0 wb:=⟨Aa hxb 0,Aa hyb 0,Aa hzb 0,Aa Hbb.out 2,Aa Hbb.out 3,Aa Hbb.out 4⟩
  have htot:=fun W (hW:Keeps (fun _=>False) wb W)=>r11Total_any [X,Y] C 0 l1 d1 2 W (hrb.keeps hW (by simp)) rfl (by decide) E5.out
  simp only [sumI,Int.add_zero] at htot
  have q1:IntKind.i64.wrap (X+Y-C)=X+Y-C:=IntWalk.i64_in _ ⟨by omega,by omega⟩
  rw [e4] at q1
  have hkf:=HLb.out.kp
  obtain⟨Hrb,Hxb,Hyb,Hzb,HS,Htot,Hkf⟩:=hid7 hrb hxb hyb hzb hS htot hkf;clear hkf htot hS hzb hyb hxb hrb
  refine Ao (limS m5 m7 m9 mb 9 (.slice l1 2 d1) C 0) (.take 0 (.take 1 (.take 2 (.take 3 (.take 4 (.take 5 (.take 6 (.take 7 (.take 8 (.take 9 (.take 10 (.take 11 (.take 12 (.take 13 (.take 14 (.take 15 (.take 16 (.take 18 (.take 19 (.take 20 (.take 22 (.move 17 (.take 21 (.take 23 (.take 24 (.take 25 .done)))))))))))))))))))))))))) (by kernel_rfl) (by kernel_rfl) ?_ ?_
  ·exact HS.out.keep (Keeps.drew _)
  intro wc hsc hkc
  repeat ((first|refine Ai rfl (by rfl) ?_|refine Af rfl (by rfl) ?_|(refine Ah (v:= ?_) rfl (by rfl) ?_ ?_;rotate_left;(· intro w' hSw;unfold limS at hSw;go_simp;(try with_reducible rfl));rotate_right));try simp only [aps])
  refine Ak rfl (fun K hK=> ?_)
  go_simp
  go_at_call 17
  ((with_reducible refine(Htot.out wc hkc).mono ?_);rintro e wd ⟨rfl,hkd⟩;dsimp only)
  refine hK.out _ _ (by exact hsc.keep hkd) ?_
  clear hK K
  try simp only [aps]
  repeat ((first|refine Ai rfl (by rfl) ?_|refine Af rfl (by rfl) ?_|(refine Ah (v:= ?_) rfl (by rfl) ?_ ?_;rotate_left;(· intro w' hSw;unfold limS at hSw;go_simp;(try with_reducible rfl));rotate_right));try simp only [aps])
  refine Aw ?_
  have hkz:=(Hkf.out.nt hkc).nt hkd
  clear hsc hkc hkd
  have Hkz:=Lib.hid hkz;clear hkz
  go_wp2
  go_ret
  exact⟨rfl,Hkz.out.below (by simp) (Nat.le_refl _)⟩
 ·obtain⟨e1,e2,X,Y,C,e3,e4,e5,⟨e6,e7,e8,e9⟩⟩:=lim_yes (m:=1+m0) HF.out HP.out (by omega) (by omega)
  rw [e1,e2] at hd3
  obtain⟨A,hA⟩:∃A,(am2 (1+f0) (1+p0)).chg ⟨1,0,2,1+m0,0⟩=A:=⟨_,rfl⟩
  rw [hA] at hd3 e3
  obtain⟨Hx7,Hd3,E1,E2,E3,E5,HA⟩:=hid7 hx7 hd3 e1 e2 e3 e5 hA;clear hA e5 e3 e2 e1 hd3 hx7
  refine Hd3.out.mono ?_
  rintro e w8 ⟨rfl,hL8,hk8⟩
  have hx8:=HL7.out.blk hk8 (.inl (.inr rfl)) Hx7.out
  have hy8:=HL7.out.blk hk8 (.inr rfl) Hb7.out
  clear hk8
  obtain⟨Hx8,Hy8⟩:=hid2 hx8 hy8;clear hy8 hx8
  obtain⟨w9,hw9⟩:∃W,W=((w8).alloc (.cells #[.int .i64 0,.int .i64 0,.int .i64 0,.int .i64 0,.int .i64 0,.slice none 0 0,.int .i64 0,.int .i64 0,.slice none 0 0,.slice none 0 0,.int .i64 0,.int .i64 0,.int .i64 0,.int .i64 0,.int .i64 0,.slice none 0 0,.int .i64 0,.int .i64 0,.int .i64 0,.bool false] 44)).setRow (w8).heap.size #[.int .i64 0,.int .i64 0,.int .i64 0,.int .i64 0,.int .i64 0,.slice none 0 0,.int .i64 0,.int .i64 0,.slice none 0 0,.slice none 0 0,.int .i64 0,.int .i64 0,.int .i64 0,.int .i64 0,.int .i64 0,.slice none 0 0,.int .i64 0,.int .i64 0,.int .i64 0,.bool false]:=⟨_,rfl⟩
  obtain⟨hL9,hb9,hk9⟩:=Live.box hL8 hw9
  obtain⟨m9,hm9⟩:∃b,b=(w8).heap.size:=⟨_,rfl⟩
  rw [←hm9] at hL9 hb9
  have h1w9:(#[.int .i64 0,.int .i64 0,.int .i64 0,.int .i64 0,.int .i64 0,.slice none 0 0,.int .i64 0,.int .i64 0,.slice none 0 0,.slice none 0 0,.int .i64 0,.int .i64 0,.int .i64 0,.int .i64 0,.int .i64 0,.slice none 0 0,.int .i64 0,.int .i64 0,.int .i64 0,.bool false]:Array Value).all (·.oneCell')=true:=(Br 0 0 0)
  obtain⟨HL9,Hb9,Hk9,H1w9⟩:=hid4 hL9 hb9 hk9 h1w9;clear h1w9 hk9 hb9 hL9
  go_wp2_with (refine wpList_store_row rfl 44 (.tmp 12) (.tmp 64) rfl (w8).heap.size #[.int .i64 0,.int .i64 0,.int .i64 0,.int .i64 0,.int .i64 0,.slice none 0 0,.int .i64 0,.int .i64 0,.slice none 0 0,.slice none 0 0,.int .i64 0,.int .i64 0,.int .i64 0,.int .i64 0,.int .i64 0,.slice none 0 0,.int .i64 0,.int .i64 0,.int .i64 0,.bool false] rfl rfl 44 #[.int .i64 0,.int .i64 0,.int .i64 0,.int .i64 0,.int .i64 0,.slice none 0 0,.int .i64 0,.int .i64 0,.slice none 0 0,.slice none 0 0,.int .i64 0,.int .i64 0,.int .i64 0,.int .i64 0,.int .i64 0,.slice none 0 0,.int .i64 0,.int .i64 0,.int .i64 0,.bool false] (heap_alloc_new w8 _) Ar rfl H1w9.out ?_;rw [←hw9,←hm9];clear hw9 hm9)
  have hx9:=Ad Hx8.out Hk9.out (by simp)
  have hy9:=Ad Hy8.out Hk9.out (by simp)
  have hst:=live_st HL9.out (cr:=C) (du:=0) (n:=2) rfl rfl rfl (by rw [E3.out];rfl) (by rw [E3.out];rfl) (by rw [E3.out];rfl) rfl rfl
  obtain⟨sq,hsq⟩:∃x,A.seq=x:=⟨_,rfl⟩
  obtain⟨td,htd⟩:∃x,A.today=x:=⟨_,rfl⟩
  obtain⟨cy,hcy⟩:∃x,A.cyc A.today=x:=⟨_,rfl⟩
  obtain⟨nr,hnr⟩:∃x,A.s.R.length=x:=⟨_,rfl⟩
  obtain⟨nd,hnd⟩:∃x,A.D.length=x:=⟨_,rfl⟩
  rw [hcy,htd,hsq,hnr,hnd] at hst
  obtain⟨Hst,Hsq,Htd,Hcy,Hnr,Hnd,Hx9,Hy9⟩:=hid8 hst hsq htd hcy hnr hnd hx9 hy9;clear hy9 hx9 hnd hnr hcy htd hsq hst
  refine Hst.out.mono ?_
  rintro e wa ⟨l1,d1,l2,d2,l3,d3,rfl,hra,_,_,hka,_⟩
  have hLa:=HL9.out.keep hka
  have hxa:=Ad Hx9.out hka (by simp)
  have hya:=Ad Hy9.out hka (by simp)
  have hza:=Ad Hb9.out hka (by simp)
  rw [E3.out] at hra
  have hrd:=Reads.Bh hra
  clear hka hra
  obtain⟨HLa,Hxa,Hya,Hza,Hrd⟩:=hid5 hLa hxa hya hza hrd;clear hrd hza hya hxa hLa
  obtain⟨wb,hwb⟩:∃W,W=((wa).alloc (.cells #[.int .i64 0,.int .i64 0,.slice none 0 0,.int .i64 0,.int .i64 0,.slice none 0 0,.slice none 0 0,.int .i64 0] 37)).setRow (wa).heap.size #[.int .i64 td,.int .i64 cy,.slice l1 2 d1,.int .i64 C,.int .i64 0,.slice l2 nr d2,.slice l3 nd d3,.int .i64 sq]:=⟨_,rfl⟩
  obtain⟨hLb,hbb,hkb⟩:=Live.box HLa.out hwb
  obtain⟨mb,hmb⟩:∃b,b=(wa).heap.size:=⟨_,rfl⟩
  rw [←hmb] at hLb hbb
  have h1wb:(#[.int .i64 td,.int .i64 cy,.slice l1 2 d1,.int .i64 C,.int .i64 0,.slice l2 nr d2,.slice l3 nd d3,.int .i64 sq]:Array Value).all (·.oneCell')=true:=(one_st _ _ _ _ _ _ _ _ _ _ _ _ _ _)
  obtain⟨HLb,Hbb,Hkb,H1wb⟩:=hid4 hLb hbb hkb h1wb;clear h1wb hkb hbb hLb
  go_upto_region 17 with(refine wpList_store_row rfl 37 (.tmp 13) (.tmp 66) rfl (wa).heap.size #[.int .i64 td,.int .i64 cy,.slice l1 2 d1,.int .i64 C,.int .i64 0,.slice l2 nr d2,.slice l3 nd d3,.int .i64 sq] rfl rfl 37 #[.int .i64 0,.int .i64 0,.slice none 0 0,.int .i64 0,.int .i64 0,.slice none 0 0,.slice none 0 0,.int .i64 0] (heap_alloc_new wa _) Cq rfl H1wb.out ?_;rw [←hwb,←hmb];clear hwb hmb)
  have hrb:=Hrd.out.keeps Hkb.out (by simp)
  have hxb:=Ad Hxa.out Hkb.out (by simp)
  have hyb:=Ad Hya.out Hkb.out (by simp)
  have hzb:=Ad Hza.out Hkb.out (by simp)
  have hS:limS m5 m7 m9 mb 0 (.slice l1 2 d1) C 0 wb:=⟨Aa hxb 0,Aa hyb 0,Aa hzb 0,Aa Hbb.out 2,Aa Hbb.out 3,Aa Hbb.out 4⟩
  have htot:=fun W (hW:Keeps (fun _=>False) wb W)=>r11Total_any [X,Y] C 0 l1 d1 2 W (hrb.keeps hW (by simp)) rfl (by decide) E5.out
  simp only [sumI,Int.add_zero] at htot
  have q1:IntKind.i64.wrap (X+Y-C)=X+Y-C:=IntWalk.i64_in _ ⟨by omega,by omega⟩
  rw [e4] at q1
  have hkf:=HLb.out.kp
  obtain⟨Hrb,Hxb,Hyb,Hzb,HS,Htot,Hkf⟩:=hid7 hrb hxb hyb hzb hS htot hkf;clear hkf htot hS hzb hyb hxb hrb
  refine Ao (limS m5 m7 m9 mb 0 (.slice l1 2 d1) C 0) (.take 0 (.take 1 (.take 2 (.take 3 (.take 4 (.take 5 (.take 6 (.take 7 (.take 8 (.take 9 (.take 10 (.take 11 (.take 12 (.take 13 (.take 14 (.take 15 (.take 16 (.take 18 (.take 19 (.take 20 (.take 22 (.move 17 (.take 21 (.take 23 (.take 24 (.take 25 .done)))))))))))))))))))))))))) (by kernel_rfl) (by kernel_rfl) ?_ ?_
  ·exact HS.out.keep (Keeps.drew _)
  intro wc hsc hkc
  repeat ((first|refine Ai rfl (by rfl) ?_|refine Af rfl (by rfl) ?_|(refine Ah (v:= ?_) rfl (by rfl) ?_ ?_;rotate_left;(· intro w' hSw;unfold limS at hSw;go_simp;(try with_reducible rfl));rotate_right));try simp only [aps])
  refine Ak rfl (fun K hK=> ?_)
  go_simp
  go_at_call 17
  ((with_reducible refine(Htot.out wc hkc).mono ?_);rintro e wd ⟨rfl,hkd⟩;dsimp only)
  refine hK.out _ _ (by exact hsc.keep hkd) ?_
  clear hK K
  try simp only [aps]
  repeat ((first|refine Ai rfl (by rfl) ?_|refine Af rfl (by rfl) ?_|(refine Ah (v:= ?_) rfl (by rfl) ?_ ?_;rotate_left;(· intro w' hSw;unfold limS at hSw;go_simp;(try with_reducible rfl));rotate_right));try simp only [aps])
  refine Aw ?_
  have hkz:=(Hkf.out.nt hkc).nt hkd
  clear hsc hkc hkd
  have Hkz:=Lib.hid hkz;clear hkz
  go_wp2
  go_ret
  exact⟨rfl,Hkz.out.below (by simp) (Nat.le_refl _)⟩
end Go.Proofs.YthffbjldpfionaaGreat
namespace Go.Proofs.YthffbjldpfionaaGreat.accountLimits
open Go.ChangeShapes Go.WideShapes Go.ChangeAt Go.RowKit Go.Deep
set_option maxRecDepth 100000
theorem lifted(os:Os)(started:os.Started)(H:Type)(enc:TypeId×Value→H):
  ReturnsInHanded {} Tryz.checked os 3 .any (Rows.accountLimitsSpec.pre6 enc Tryz.prog Tryz.f3 Rows.accountLimitsRow.domain false) (Rows.accountLimitsSpec.post enc Tryz.prog Tryz.f3 false true false false):=by
 refine returnsInHanded_of_change (C:=Tryz.checked) own started (by kernel_rfl) Tryz.func3
  (ChangeSpec.witness6 (enc:=enc) (C:=Tryz.checked) false ⟨#[], #[.int .i64 0,.int .i64 0,.int .i64 0], []⟩ 8 (by kernel_rfl) (by kernel_rfl) (by kernel_rfl) (by kernel_rfl)) ?_
 intro W base args ds gs before hval0 hW hcnd _
 have hval:∀(j:Nat) t v,Tryz.f3.params[j]?=some t→args[j]?=some v→Value.okWide Tryz.prog W .any base t v:=hval0
 have hW':=hW
 obtain⟨p,q,hA0,hV,rfl,hfz,hnd⟩:=hW
 have hA:DataW.TrodAll enc Tryz.prog W 0 (fun _=>true) true Tryz.f3.params.toList args.toList ds p:=hA0
 rw [Tryz.params3] at hA hval
 obtain⟨v0,vs0,d0,ds0,p0,q0,hargs,rfl,rfl,h0,r0⟩:=trodAll_cons hA
 obtain⟨v1,vs1,d1,ds1,p1,q1,rfl,rfl,rfl,h1,r1⟩:=trodAll_cons r0
 obtain⟨v2,vs2,d2,ds2,p2,q2,rfl,rfl,rfl,h2,r2⟩:=trodAll_cons r1
 obtain⟨rfl,rfl,rfl⟩:=trodAll_nil r2
 obtain rfl:args= #[v0,v1,v2]:=by cases args;simp_all
 obtain⟨rfl,rfl⟩:=trodVars_none hV
 obtain⟨a0,rfl,rfl,rfl,w0⟩:=open_int Tryz.underlying2 (hval 0 2 v0 rfl rfl) h0
 obtain⟨a1,rfl,rfl,rfl,w1⟩:=open_int Tryz.underlying2 (hval 1 2 v1 rfl rfl) h1
 obtain⟨a2,rfl,rfl,rfl,w2⟩:=open_int Tryz.underlying2 (hval 2 2 v2 rfl rfl) h2
 clear hA0 hval0
 refine(accountLimits_walk W a0 w0 a1 w1 a2 w2).mono fun e W' ⟨he,bel⟩=> ?_
 subst he
 exact⟨_,rfl,_,_,_, [],_, [],hW',trodAll_mk1 (shut_bool Tryz.underlying4 _),(trodAll_cons_mk (shut_int Tryz.underlying2 w0) (trodAll_cons_mk (shut_int Tryz.underlying2 w1) (trodAll_cons_mk (shut_int Tryz.underlying2 w2) trodAll_mk0))),rfl,bel.frame _,fun h=>by cases h⟩
theorem over:Rows.accountLimitsRow.holds Tryz.pinned (OpenSpec.ofChange Rows.accountLimitsSpec):=
 OpenClaim.holds_of_wide 3 Tryz.f3 rfl rfl rfl rfl rfl rfl rfl ⟨rfl,rfl,rfl,rfl,rfl⟩ rfl rfl rfl rfl rfl (by kernel_rfl) Tryz.func3 (by kernel_rfl)
  (of_decide_eq_true (by kernel_rfl)) (by unfold Func.isWrapper;first|(rw [if_pos (by decide+kernel)];kernel_rfl)|(rw [if_neg (by decide+kernel)];exact⟨rfl,rfl⟩))
  (fun os started H enc _=>lifted os started H enc)
theorem proved:Rows.AccountLimitsSaid:=over
#print axioms proved
end Go.Proofs.YthffbjldpfionaaGreat.accountLimits
