/-
  AccountDisputes: for every input the law returns true, and each argument reads behind the call as it read before. No condition.
-/
import Derived.Test.YthffbjldpfionaaGreatAccountDisputesQ1
namespace Go.Proofs.YthffbjldpfionaaGreat
open Go.RowKit
theorem min0{x:Int}(h:0≤x):minI x 0=0:=by unfold minI;split<;>omega
theorem Day0.oldB{a:Ac}{p:Ps}{R:List Int}(h:Day0 a t22 p R):a.oldB 10957=false:=by
 unfold Ac.oldB Ac.cyc
 rw [h.tt,h.td]
 decide+kernel
def ad1(f:Int):Ac:=(acNew t22).chg ⟨1,0,2,f,0⟩
def ad2(f k:Int):Ac:=(ad1 f).chg ⟨4,0,2,k,0⟩
theorem dis_draw{f:Int}(hf:1≤f∧f≤1000):(acNew t22).xe ⟨1,0,2,f,0⟩=0∧(acNew t22).xr ⟨1,0,2,f,0⟩=0∧(ad1 f).seq=1∧Day0 (ad1 f) t22 (p22 0 f 0) [500000,900000]∧(ad1 f).D= []∧(ad1 f).L.length=1:=by
 obtain⟨a1,a2,a3,a4,a5,a6⟩:=day22.draw (tr:=2) (am:=f) (x':=0) (y':=f) (c':=0) (by decide) (.inr ⟨rfl,rfl,by rw [min0 (by omega)];omega⟩) (by rw [min0 (by omega)];rfl) ⟨by omega,by omega⟩ (by omega) (right22 (by omega) (by omega) (by omega) (.inl rfl)) (right22 (by omega) (by omega) (by omega) (.inl rfl))
 exact⟨a1,a2,a4,a3,a5,a6⟩
theorem dis_more{f:Int}(hf:1≤f∧f≤1000):(ad1 f).xe ⟨4,0,2,f+1,0⟩=9∧(ad1 f).xr ⟨4,0,2,f+1,0⟩=0∧(ad1 f).chg ⟨4,0,2,f+1,0⟩=ad1 f:=by
 obtain⟨_,_,_,h,hD,hl⟩:=dis_draw hf
 have hee:(ad1 f).ee ⟨4,0,2,f+1,0⟩=9:=by
  rw [ee_num h (.inr (by decide)) (.inr ⟨by decide,by omega,by omega⟩),if_neg (by decide),if_neg (by decide),if_pos rfl]
  exact if_pos (by show f<f+1;omega)
 have hxz:(ad1 f).xz ⟨4,0,2,f+1,0⟩=9:=by unfold Ac.xz;rw [if_neg (by show¬((4:Int)=5∨(4:Int)=6);decide)];exact hee
 have hxe:=Ac.xe_bad hxz (by decide)
 exact⟨hxe,(Ac.chg_no hxe (by decide)).2,(Ac.chg_no hxe (by decide)).1⟩
theorem dis_open{f k:Int}(hf:1≤f∧f≤1000)(hk:1≤k∧k≤f):(ad1 f).xe ⟨4,0,2,k,0⟩=0∧(ad1 f).xr ⟨4,0,2,k,0⟩=1∧(ad2 f k).seq=2∧Day0 (ad2 f k) t22 (p22 0 (f-k) 0) [500000,900000]∧(ad2 f k).D= [⟨1,2,10957,k,1⟩]∧(ad2 f k).L.length=2:=by
 obtain⟨_,_,hs,h,hD,hl⟩:=dis_draw hf
 have ho:Ch (ad1 f).D 2 k=0:=by
  rw [hD]
  unfold Ch
  rw [if_neg (by decide),if_neg (by omega),if_neg (by simp only [heldOf];omega),if_neg (by decide)]
 have hee:(ad1 f).ee ⟨4,0,2,k,0⟩=0:=by
  rw [ee_num h (.inr (by decide)) (.inr ⟨by decide,by omega,by omega⟩),if_neg (by decide),if_neg (by decide),if_pos rfl]
  rw [if_neg (by show¬f<k;omega),ho]
 have hxz:(ad1 f).xz ⟨4,0,2,k,0⟩=0:=by unfold Ac.xz;rw [if_neg (by show¬((4:Int)=5∨(4:Int)=6);decide)];exact hee
 have hrf:Cw (ad1 f).D 2 k=1:=by unfold Cw;rw [if_pos ho,hD];rfl
 have hxv:(ad1 f).xev ⟨4,0,2,k,0⟩=⟨4,10957,2,k,1⟩:=by
  unfold Ac.xev
  rw [if_neg (by show¬((4:Int)=5∨(4:Int)=6);decide),Ac.ee_yes hee,h.td]
  show(⟨4,10957,2,k,Cw (ad1 f).D 2 k⟩:Ev)=_
  rw [hrf]
 have hxD:(ad1 f).xD ⟨4,0,2,k,0⟩= [⟨1,2,10957,k,1⟩]:=by
  unfold Ac.xD
  rw [if_neg (by show¬((4:Int)=5∨(4:Int)=6);decide),Ac.eD_yes hee rfl]
  show dOpen (ad1 f).D 2 (ad1 f).today k=_
  unfold dOpen
  rw [if_pos ho,hD,h.td]
  rfl
 obtain⟨h1,h2,h3,h4,h5⟩:=h.chg (c:=⟨4,0,2,k,0⟩) (p':=p22 0 (f-k) 0) (R':= [500000,900000]) (by rw [hl];decide) (by show(4:Int)≠6;decide) hxz (by rw [hxv];exact evErr22 (by decide) (.inr (by decide)) (.inr ⟨by decide,by omega⟩) (by decide) (.inl (by decide))) (by rw [hxv];rfl) (by rw [hxv];exact give2 (right22 (by omega) (by omega) (by omega) (.inl rfl)) (by omega) (by omega) (by decide) (by decide) (.inr rfl) (by omega) (.inr ⟨rfl,by omega,rfl,rfl⟩) (right22 (by omega) (by omega) (by omega) (.inl rfl)))
 exact⟨h1,by rw [(Ac.chg_yes h1).2,if_pos rfl,hxv],by unfold ad2;rw [h3,hs];rfl,h2,by unfold ad2;rw [h4,hxD],by unfold ad2;rw [h5,hl]⟩
def dkind(lost:Bool):Int:=if lost=true then 5 else 6
def ad3(f k:Int)(lost:Bool):Ac:=(ad2 f k).chg ⟨dkind lost,0,0,0,1⟩
theorem dis_end{f k:Int}(lost:Bool)(hf:1≤f∧f≤1000)(hk:1≤k∧k≤f):(ad2 f k).xe ⟨dkind lost,0,0,0,1⟩=0∧(ad2 f k).xr ⟨dkind lost,0,0,0,1⟩=0∧(ad3 f k lost).seq=3∧(ad3 f k lost).s.p=p22 0 (if lost=true then f else f-k) 0∧(ad3 f k lost).D= [⟨1,2,10957,k,if lost=true then 2 else 3⟩]:=by
 obtain⟨_,_,hs,h,hD,hl⟩:=dis_open hf hk
 have he:dEndErr (ad2 f k).D 1=0:=by rw [hD];rfl
 cases lost
 ·have hxz:(ad2 f k).xz ⟨6,0,0,0,1⟩=0:=by unfold Ac.xz;rw [if_pos (.inr rfl)];exact(Ac.de_won he rfl).1
  have hxe:=Ac.xe_won hxz (by rfl)
  have hch:=Ac.chg_yes hxe
  have hxD:(ad2 f k).xD ⟨6,0,0,0,1⟩= [⟨1,2,10957,k,3⟩]:=by unfold Ac.xD;rw [if_pos (.inr rfl),hD];rfl
  have hnx:(ad2 f k).nx ⟨6,0,0,0,1⟩={ ad2 f k with seq:=(ad2 f k).seq+1 }:=by unfold Ac.nx;rw [if_pos rfl]
  rw [hnx,hxD] at hch
  have e3:ad3 f k false={ ad2 f k with seq:=(ad2 f k).seq+1,D:= [⟨1,2,10957,k,3⟩] }:=hch.1
  refine⟨hxe,by show(ad2 f k).xr ⟨6,0,0,0,1⟩=0;rw [hch.2,if_neg (by show¬(6:Int)=4;decide)],by rw [e3];show(ad2 f k).seq+1=3;rw [hs];rfl,by rw [e3];exact h.pos.1,by rw [e3];rfl⟩
 ·have hdd:dEnded (ad2 f k).D 1 true=⟨1,2,10957,k,2⟩:=by rw [hD];rfl
  obtain⟨d1,d2⟩:=Ac.de_lost (a:=ad2 f k) (c:=⟨5,0,0,0,1⟩) he rfl (by rw [hdd];exact h.oldB)
  have hxz:(ad2 f k).xz ⟨5,0,0,0,1⟩=0:=by unfold Ac.xz;rw [if_pos (.inl rfl)];exact d1
  have hxv:(ad2 f k).xev ⟨5,0,0,0,1⟩=⟨5,10957,2,k,1⟩:=by unfold Ac.xev;rw [if_pos (.inl rfl),d2,hdd]
  have hxD:(ad2 f k).xD ⟨5,0,0,0,1⟩= [⟨1,2,10957,k,2⟩]:=by unfold Ac.xD;rw [if_pos (.inl rfl),hD];rfl
  obtain⟨h1,h2,h3,h4,h5⟩:=h.chg (c:=⟨5,0,0,0,1⟩) (p':=p22 0 f 0) (R':= [500000,900000]) (by rw [hl];decide) (by show(5:Int)≠6;decide) hxz (by rw [hxv];exact evErr22 (by decide) (.inr (by decide)) (.inr ⟨by decide,by omega⟩) (by decide) (.inl (by decide))) (by rw [hxv];rfl) (by rw [hxv];exact charge2 (right22 (by omega) (by omega) (by omega) (.inl rfl)) (by decide) (by decide) (.inr rfl) (by omega) (.inr ⟨rfl,rfl,by rw [min0 (by omega)];omega⟩) (by rw [min0 (by omega)];rfl) (right22 (by omega) (by omega) (by omega) (.inl rfl)))
  exact⟨h1,by show(ad2 f k).xr ⟨5,0,0,0,1⟩=0;rw [(Ac.chg_yes h1).2,if_neg (by show¬(5:Int)=4;decide)],by show((ad2 f k).chg ⟨5,0,0,0,1⟩).seq=3;rw [h3,hs];rfl,h2.pos.1,by show((ad2 f k).chg ⟨5,0,0,0,1⟩).D=_;rw [h4,hxD];rfl⟩
theorem dis_again{f k:Int}(lost o:Bool)(hf:1≤f∧f≤1000)(hk:1≤k∧k≤f):(ad3 f k lost).xe ⟨dkind o,0,0,0,1⟩=13∧(ad3 f k lost).xr ⟨dkind o,0,0,0,1⟩=0∧(ad3 f k lost).chg ⟨dkind o,0,0,0,1⟩=ad3 f k lost:=by
 obtain⟨_,_,_,_,hD⟩:=dis_end lost hf hk
 have he:dEndErr (ad3 f k lost).D 1=13:=by rw [hD];cases lost<;>rfl
 have hxz:(ad3 f k lost).xz ⟨dkind o,0,0,0,1⟩=13:=by
  unfold Ac.xz
  rw [if_pos (by cases o;exact .inr rfl;exact .inl rfl),(Ac.de_bad (a:=ad3 f k lost) (c:=⟨dkind o,0,0,0,1⟩) (by rw [he];decide)).1,he]
 have hxe:=Ac.xe_bad hxz (by decide)
 exact⟨hxe,(Ac.chg_no hxe (by decide)).2,(Ac.chg_no hxe (by decide)).1⟩
theorem dis_none{f k:Int}(lost o:Bool)(hf:1≤f∧f≤1000)(hk:1≤k∧k≤f):(ad3 f k lost).xe ⟨dkind o,0,0,0,2⟩=12∧(ad3 f k lost).xr ⟨dkind o,0,0,0,2⟩=0∧(ad3 f k lost).chg ⟨dkind o,0,0,0,2⟩=ad3 f k lost:=by
 obtain⟨_,_,_,_,hD⟩:=dis_end lost hf hk
 have he:dEndErr (ad3 f k lost).D 2=12:=by rw [hD];rfl
 have hxz:(ad3 f k lost).xz ⟨dkind o,0,0,0,2⟩=12:=by
  unfold Ac.xz
  rw [if_pos (by cases o;exact .inr rfl;exact .inl rfl),(Ac.de_bad (a:=ad3 f k lost) (c:=⟨dkind o,0,0,0,2⟩) (by rw [he];decide)).1,he]
 have hxe:=Ac.xe_bad hxz (by decide)
 exact⟨hxe,(Ac.chg_no hxe (by decide)).2,(Ac.chg_no hxe (by decide)).1⟩
structure DisK(m1 m2 m3 ms g1:Nat)(V:Array Value)(b:Int)(W:World):Prop where
 x:W.heap[m1]?=some (.cells #[.int .i64 0,.int .i64 0,.int .i64 0,.int .i64 0,.int .i64 0,.slice none 0 0,.int .i64 0,.int .i64 0,.slice none 0 0,.slice none 0 0,.int .i64 0,.int .i64 0,.int .i64 0,.int .i64 0,.int .i64 0,.slice none 0 0,.int .i64 0,.int .i64 0,.int .i64 0,.bool false] 44 (0,0))
 w:W.heap[m2]?=some (.cells #[.int .i64 9,.int .i64 0,.int .i64 0,.int .i64 0,.int .i64 0,.slice none 0 0,.int .i64 0,.int .i64 0,.slice none 0 0,.slice none 0 0,.int .i64 0,.int .i64 0,.int .i64 0,.int .i64 0,.int .i64 0,.slice none 0 0,.int .i64 0,.int .i64 0,.int .i64 0,.bool false] 44 (0,0))
 y:W.heap[m3]?=some (.cells #[.int .i64 0,.int .i64 1,.int .i64 0,.int .i64 0,.int .i64 0,.slice none 0 0,.int .i64 0,.int .i64 0,.slice none 0 0,.slice none 0 0,.int .i64 0,.int .i64 0,.int .i64 0,.int .i64 0,.int .i64 0,.slice none 0 0,.int .i64 0,.int .i64 0,.int .i64 0,.bool false] 44 (0,0))
 s:W.heap[ms]?=some (.cells V 37 (0,0))
 c:W.cell? ⟨g1,1,none⟩=some (.int .i64 b)
theorem DisK.keep{m1 m2 m3 ms g1:Nat}{V:Array Value}{b:Int}{W W':World}{S:Nat→Prop}(h:DisK m1 m2 m3 ms g1 V b W)(hk:Keeps S W W')(hS:∀i,i=m1∨i=m2∨i=m3∨i=ms∨i=g1→¬S i):DisK m1 m2 m3 ms g1 V b W':=
 ⟨Ad h.x hk (hS _ (.inl rfl)),Ad h.w hk (hS _ (.inr (.inl rfl))),Ad h.y hk (hS _ (.inr (.inr (.inl rfl)))),Ad h.s hk (hS _ (.inr (.inr (.inr (.inl rfl))))),(hk.cell (Ag h.c) (hS _ (.inr (.inr (.inr (.inr rfl)))))).trans h.c⟩
theorem dkind_bd(b:Bool):1≤dkind b∧dkind b≤7:=by cases b<;>decide
set_option maxRecDepth 100000
set_option maxHeartbeats 6400000
theorem accountDisputes_walk(w:World)(first:Int)(_:(Lit.int .i64 first).wf=true)(held:Int)(_:(Lit.int .i64 held).wf=true)(lost:Bool)(again:Bool):Calls Tryz.prog 4 #[.int .i64 first,.int .i64 held,.bool lost,.bool again] w fun e w'=>e= .returned (.bool true)∧Below w.heap.size w w':=by
 have hu:∀x,0≤IntKind.u64.wrap x:=fun x=>by rw [IntKind.wrap_u64];omega
 obtain⟨f0,hf0⟩:∃r,(IntKind.u64.wrap first).tmod 1000=r:=⟨_,rfl⟩
 have f1:0≤f0:=by rw [←hf0];exact Int.tmod_nonneg _ (hu first)
 have f2:f0<1000:=by rw [←hf0];exact Int.tmod_lt_of_pos _ (by decide)
 obtain⟨h0,hh0⟩:∃r,(IntKind.u64.wrap held).tmod (1+f0)=r:=⟨_,rfl⟩
 have h1:0≤h0:=by rw [←hh0];exact Int.tmod_nonneg _ (hu held)
 have h2:h0<1+f0:=by rw [←hh0];exact Int.tmod_lt_of_pos _ (by omega)
 have hwf:IntKind.u64.wrap (1+f0)=1+f0:=by rw [IntKind.wrap_u64];omega
 have hfn:(1+f0==0)=false:=beq_eq_false_iff_ne.2 (by omega)
 have hfn2:¬1+f0=0:=by omega
 have hF:1≤1+f0∧1+f0≤1000:=by omega
 have hK:1≤1+h0∧1+h0≤1+f0:=by omega
 obtain⟨a1,a2,a3,a4,_,_⟩:=dis_draw hF
 obtain⟨b1,b2,b3⟩:=dis_more hF
 obtain⟨c1,c2,c3,c4,c5,_⟩:=dis_open hF hK
 obtain⟨e1,e2,e3,e4,e5⟩:=dis_end lost hF hK
 obtain⟨o,ho⟩:∃o,(if again=true then lost else true)=o:=⟨_,rfl⟩
 obtain⟨g1',g2',g3'⟩:=dis_again lost o hF hK
 obtain⟨i1,i2,i3⟩:=dis_none lost lost hF hK
 have c6:=c4.pos.1
 obtain⟨kd,hkd⟩:∃k,dkind lost=k:=⟨_,rfl⟩
 obtain⟨ko,hko⟩:∃k,dkind o=k:=⟨_,rfl⟩
 have hkdb:=dkind_bd lost
 have hkob:=dkind_bd o
 rw [hkd] at e1 e2 i1 i2 i3 hkdb
 rw [hko] at g1' g2' g3' hkob
 have e0:(ad2 (1+f0) (1+h0)).chg ⟨kd,0,0,0,1⟩=ad3 (1+f0) (1+h0) lost:=by rw [←hkd];rfl
 obtain⟨Hu,A1,A2,A3,A4,B1,B2,B3,C1⟩:=hid9 hu a1 a2 a3 a4 b1 b2 b3 c1;clear c1 b3 b2 b1 a4 a3 a2 a1 hu;obtain⟨C2,C3,C4,C5,C6,E0,E1,E2,E3⟩:=hid9 c2 c3 c4 c5 c6 e0 e1 e2 e3;clear e3 e2 e1 e0 c6 c5 c4 c3 c2;obtain⟨E4,E5,G1',G2',G3',I1,I2,I3,HF⟩:=hid9 e4 e5 g1' g2' g3' i1 i2 i3 hF;clear hF i3 i2 i1 g3' g2' g1' e5 e4;obtain⟨HK,Ho,Hkd,Hko,Hkdb,Hkob⟩:=hid6 hK ho hkd hko hkdb hkob;clear hkob hkdb hko hkd ho hK
 go_enter Tryz.func4,Tryz.ntmps4
 go_wp2_with fail
 refine(terms22_any _).mono ?_
 rintro e w1 ⟨g,rfl,hr1,hk1⟩
 obtain⟨Hr1,Hk1⟩:=hid2 hr1 hk1;clear hk1 hr1
 go_wp2_with fail
 refine(new22 (O:=fun _=>False) Hk1.out (by simp) Hr1.out).mono ?_
 rintro e w2 ⟨B,rfl,hL2,_⟩
 have HL2:=Lib.hid hL2;clear hL2
 go_wp2_with fail
 refine(awake22_any _).mono ?_
 rintro e w3 ⟨rfl,hk3⟩
 have hd1:=ask22_any (HL2.out.keep hk3) 1 2 (1+f0) (by decide) (by decide)
 rw [A1.out,A2.out] at hd1
 clear hk3
 have Hd1:=Lib.hid hd1;clear hd1
 go_wp2_with fail
 refine Hd1.out.mono ?_
 rintro e w4 ⟨rfl,hL4,hk4⟩
 rw [show(acNew t22).chg ⟨1,0,2,1+f0,0⟩=ad1 (1+f0) from rfl] at hL4
 clear hk4
 obtain⟨w5,hw5⟩:∃W,W=((w4).alloc (.cells #[.int .i64 0,.int .i64 0,.int .i64 0,.int .i64 0,.int .i64 0,.slice none 0 0,.int .i64 0,.int .i64 0,.slice none 0 0,.slice none 0 0,.int .i64 0,.int .i64 0,.int .i64 0,.int .i64 0,.int .i64 0,.slice none 0 0,.int .i64 0,.int .i64 0,.int .i64 0,.bool false] 44)).setRow (w4).heap.size #[.int .i64 0,.int .i64 0,.int .i64 0,.int .i64 0,.int .i64 0,.slice none 0 0,.int .i64 0,.int .i64 0,.slice none 0 0,.slice none 0 0,.int .i64 0,.int .i64 0,.int .i64 0,.int .i64 0,.int .i64 0,.slice none 0 0,.int .i64 0,.int .i64 0,.int .i64 0,.bool false]:=⟨_,rfl⟩
 obtain⟨hL5,hb5,hk5⟩:=Live.box hL4 hw5
 obtain⟨m1,hm1⟩:∃b,b=(w4).heap.size:=⟨_,rfl⟩
 rw [←hm1] at hL5 hb5
 have h1w5:(#[.int .i64 0,.int .i64 0,.int .i64 0,.int .i64 0,.int .i64 0,.slice none 0 0,.int .i64 0,.int .i64 0,.slice none 0 0,.slice none 0 0,.int .i64 0,.int .i64 0,.int .i64 0,.int .i64 0,.int .i64 0,.slice none 0 0,.int .i64 0,.int .i64 0,.int .i64 0,.bool false]:Array Value).all (·.oneCell')=true:=(Br 0 0 0)
 obtain⟨HL5,Hb5,Hk5,H1w5⟩:=hid4 hL5 hb5 hk5 h1w5;clear h1w5 hk5 hb5 hL5
 go_wp2_with (refine wpList_store_row rfl 44 (.tmp 11) (.tmp 51) rfl (w4).heap.size #[.int .i64 0,.int .i64 0,.int .i64 0,.int .i64 0,.int .i64 0,.slice none 0 0,.int .i64 0,.int .i64 0,.slice none 0 0,.slice none 0 0,.int .i64 0,.int .i64 0,.int .i64 0,.int .i64 0,.int .i64 0,.slice none 0 0,.int .i64 0,.int .i64 0,.int .i64 0,.bool false] rfl rfl 44 #[.int .i64 0,.int .i64 0,.int .i64 0,.int .i64 0,.int .i64 0,.slice none 0 0,.int .i64 0,.int .i64 0,.slice none 0 0,.slice none 0 0,.int .i64 0,.int .i64 0,.int .i64 0,.int .i64 0,.int .i64 0,.slice none 0 0,.int .i64 0,.int .i64 0,.int .i64 0,.bool false] (heap_alloc_new w4 _) Ar rfl H1w5.out ?_;rw [←hw5,←hm1];clear hw5 hm1)
 have hd2:=ask22_any HL5.out 4 2 (1+f0+1) (by rw [A3.out];decide) (by decide)
 rw [B1.out,B2.out,B3.out] at hd2
 have Hd2:=Lib.hid hd2;clear hd2
 refine Hd2.out.mono ?_
 rintro e w6 ⟨rfl,hL6,hk6⟩
 have hx6:=HL5.out.blk hk6 (.inr rfl) Hb5.out
 clear hk6
 have Hx6:=Lib.hid hx6;clear hx6
 obtain⟨w7,hw7⟩:∃W,W=((w6).alloc (.cells #[.int .i64 0,.int .i64 0,.int .i64 0,.int .i64 0,.int .i64 0,.slice none 0 0,.int .i64 0,.int .i64 0,.slice none 0 0,.slice none 0 0,.int .i64 0,.int .i64 0,.int .i64 0,.int .i64 0,.int .i64 0,.slice none 0 0,.int .i64 0,.int .i64 0,.int .i64 0,.bool false] 44)).setRow (w6).heap.size #[.int .i64 9,.int .i64 0,.int .i64 0,.int .i64 0,.int .i64 0,.slice none 0 0,.int .i64 0,.int .i64 0,.slice none 0 0,.slice none 0 0,.int .i64 0,.int .i64 0,.int .i64 0,.int .i64 0,.int .i64 0,.slice none 0 0,.int .i64 0,.int .i64 0,.int .i64 0,.bool false]:=⟨_,rfl⟩
 obtain⟨hL7,hb7,hk7⟩:=Live.box hL6 hw7
 obtain⟨m2,hm2⟩:∃b,b=(w6).heap.size:=⟨_,rfl⟩
 rw [←hm2] at hL7 hb7
 have h1w7:(#[.int .i64 9,.int .i64 0,.int .i64 0,.int .i64 0,.int .i64 0,.slice none 0 0,.int .i64 0,.int .i64 0,.slice none 0 0,.slice none 0 0,.int .i64 0,.int .i64 0,.int .i64 0,.int .i64 0,.int .i64 0,.slice none 0 0,.int .i64 0,.int .i64 0,.int .i64 0,.bool false]:Array Value).all (·.oneCell')=true:=(Br 9 0 0)
 obtain⟨HL7,Hb7,Hk7,H1w7⟩:=hid4 hL7 hb7 hk7 h1w7;clear h1w7 hk7 hb7 hL7
 go_wp2_with (refine wpList_store_row rfl 44 (.tmp 12) (.tmp 55) rfl (w6).heap.size #[.int .i64 9,.int .i64 0,.int .i64 0,.int .i64 0,.int .i64 0,.slice none 0 0,.int .i64 0,.int .i64 0,.slice none 0 0,.slice none 0 0,.int .i64 0,.int .i64 0,.int .i64 0,.int .i64 0,.int .i64 0,.slice none 0 0,.int .i64 0,.int .i64 0,.int .i64 0,.bool false] rfl rfl 44 #[.int .i64 0,.int .i64 0,.int .i64 0,.int .i64 0,.int .i64 0,.slice none 0 0,.int .i64 0,.int .i64 0,.slice none 0 0,.slice none 0 0,.int .i64 0,.int .i64 0,.int .i64 0,.int .i64 0,.int .i64 0,.slice none 0 0,.int .i64 0,.int .i64 0,.int .i64 0,.bool false] (heap_alloc_new w6 _) Ar rfl H1w7.out ?_;rw [←hw7,←hm2];clear hw7 hm2)
 have hx7:=Ad Hx6.out Hk7.out (by simp)
 have hd3:=ask22_any HL7.out 4 2 (1+h0) (by rw [A3.out];decide) (by decide)
 rw [C1.out,C2.out] at hd3
 obtain⟨Hd3,Hx7⟩:=hid2 hd3 hx7;clear hx7 hd3
 refine Hd3.out.mono ?_
 rintro e w8 ⟨rfl,hL8,hk8⟩
 rw [show(ad1 (1+f0)).chg ⟨4,0,2,1+h0,0⟩=ad2 (1+f0) (1+h0) from rfl] at hL8
 have hx8:=HL7.out.blk hk8 (.inl (.inr rfl)) Hx7.out
 have hy8:=HL7.out.blk hk8 (.inr rfl) Hb7.out
 clear hk8
 obtain⟨Hx8,Hy8⟩:=hid2 hx8 hy8;clear hy8 hx8
 obtain⟨w9,hw9⟩:∃W,W=((w8).alloc (.cells #[.int .i64 0,.int .i64 0,.int .i64 0,.int .i64 0,.int .i64 0,.slice none 0 0,.int .i64 0,.int .i64 0,.slice none 0 0,.slice none 0 0,.int .i64 0,.int .i64 0,.int .i64 0,.int .i64 0,.int .i64 0,.slice none 0 0,.int .i64 0,.int .i64 0,.int .i64 0,.bool false] 44)).setRow (w8).heap.size #[.int .i64 0,.int .i64 1,.int .i64 0,.int .i64 0,.int .i64 0,.slice none 0 0,.int .i64 0,.int .i64 0,.slice none 0 0,.slice none 0 0,.int .i64 0,.int .i64 0,.int .i64 0,.int .i64 0,.int .i64 0,.slice none 0 0,.int .i64 0,.int .i64 0,.int .i64 0,.bool false]:=⟨_,rfl⟩
 obtain⟨hL9,hb9,hk9⟩:=Live.box hL8 hw9
 obtain⟨m3,hm3⟩:∃b,b=(w8).heap.size:=⟨_,rfl⟩
 rw [←hm3] at hL9 hb9
 have h1w9:(#[.int .i64 0,.int .i64 1,.int .i64 0,.int .i64 0,.int .i64 0,.slice none 0 0,.int .i64 0,.int .i64 0,.slice none 0 0,.slice none 0 0,.int .i64 0,.int .i64 0,.int .i64 0,.int .i64 0,.int .i64 0,.slice none 0 0,.int .i64 0,.int .i64 0,.int .i64 0,.bool false]:Array Value).all (·.oneCell')=true:=(Br 0 1 0)
 obtain⟨HL9,Hb9,Hk9,H1w9⟩:=hid4 hL9 hb9 hk9 h1w9;clear h1w9 hk9 hb9 hL9
 go_wp2_with (refine wpList_store_row rfl 44 (.tmp 13) (.tmp 58) rfl (w8).heap.size #[.int .i64 0,.int .i64 1,.int .i64 0,.int .i64 0,.int .i64 0,.slice none 0 0,.int .i64 0,.int .i64 0,.slice none 0 0,.slice none 0 0,.int .i64 0,.int .i64 0,.int .i64 0,.int .i64 0,.int .i64 0,.slice none 0 0,.int .i64 0,.int .i64 0,.int .i64 0,.bool false] rfl rfl 44 #[.int .i64 0,.int .i64 0,.int .i64 0,.int .i64 0,.int .i64 0,.slice none 0 0,.int .i64 0,.int .i64 0,.slice none 0 0,.slice none 0 0,.int .i64 0,.int .i64 0,.int .i64 0,.int .i64 0,.int .i64 0,.slice none 0 0,.int .i64 0,.int .i64 0,.int .i64 0,.bool false] (heap_alloc_new w8 _) Ar rfl H1w9.out ?_;rw [←hw9,←hm3];clear hw9 hm3)
 have hx9:=Ad Hx8.out Hk9.out (by simp)
 have hy9:=Ad Hy8.out Hk9.out (by simp)
 have hst:=live_st HL9.out (sq:=2) (cr:=0) (du:=0) (n:=2) (q:=1) rfl rfl C3.out (by rw [C6.out];rfl) (by rw [C6.out];rfl) (by rw [C6.out];rfl) rfl (by rw [C5.out];rfl)
 obtain⟨td,htd⟩:∃x,(ad2 (1+f0) (1+h0)).today=x:=⟨_,rfl⟩
 obtain⟨cy,hcy⟩:∃x,(ad2 (1+f0) (1+h0)).cyc (ad2 (1+f0) (1+h0)).today=x:=⟨_,rfl⟩
 obtain⟨nr,hnr⟩:∃x,(ad2 (1+f0) (1+h0)).s.R.length=x:=⟨_,rfl⟩
 rw [hcy,htd,hnr] at hst
 obtain⟨Hst,Htd,Hcy,Hnr,Hx9,Hy9⟩:=hid6 hst htd hcy hnr hx9 hy9;clear hy9 hx9 hnr hcy htd hst
 refine Hst.out.mono ?_
 rintro e wa ⟨l1,d1,l2,d2,l3,d3,rfl,hra,_,_,hka,hfa⟩
 rw [C6.out] at hra
 obtain⟨gg,cc,he,hgl⟩:=Cu hra (by decide)
 simp only [Value.slice.injEq,true_and] at he
 obtain⟨rfl,rfl⟩:=he
 have hgw:=hfa gg (.inl rfl)
 have hca:wa.cell? ⟨gg,1,none⟩=some (.int .i64 (1+f0-(1+h0))):=Bi Cc hra (k:=1) (x:=1+f0-(1+h0)) rfl 0 (by decide)
 have hLa:=HL9.out.more hka (fun i=>i=gg) (fun i e=>by rw [e];exact⟨hgw,hgl⟩)
 have hxa:=Ad Hx9.out hka (by simp)
 have hya:=Ad Hy9.out hka (by simp)
 have hza:=Ad Hb9.out hka (by simp)
 clear hka hra hfa hgw hgl
 obtain⟨HLa,Hxa,Hya,Hza,Hca⟩:=hid5 hLa hxa hya hza hca;clear hca hza hya hxa hLa
 obtain⟨wb,hwb⟩:∃W,W=((wa).alloc (.cells #[.int .i64 0,.int .i64 0,.slice none 0 0,.int .i64 0,.int .i64 0,.slice none 0 0,.slice none 0 0,.int .i64 0] 37)).setRow (wa).heap.size #[.int .i64 td,.int .i64 cy,.slice (some ⟨gg,0,none⟩) 2 d1,.int .i64 0,.int .i64 0,.slice l2 nr d2,.slice l3 1 d3,.int .i64 2]:=⟨_,rfl⟩
 obtain⟨hLb,hbb,hkb⟩:=Live.box HLa.out hwb
 obtain⟨ms,hms⟩:∃b,b=(wa).heap.size:=⟨_,rfl⟩
 rw [←hms] at hLb hbb
 have h1wb:(#[.int .i64 td,.int .i64 cy,.slice (some ⟨gg,0,none⟩) 2 d1,.int .i64 0,.int .i64 0,.slice l2 nr d2,.slice l3 1 d3,.int .i64 2]:Array Value).all (·.oneCell')=true:=(one_st _ _ _ _ _ _ _ _ _ _ _ _ _ _)
 obtain⟨HLb,Hbb,Hkb,H1wb⟩:=hid4 hLb hbb hkb h1wb;clear h1wb hkb hbb hLb
 go_upto_region 10 with(refine wpList_store_row rfl 37 (.tmp 14) (.tmp 60) rfl (wa).heap.size #[.int .i64 td,.int .i64 cy,.slice (some ⟨gg,0,none⟩) 2 d1,.int .i64 0,.int .i64 0,.slice l2 nr d2,.slice l3 1 d3,.int .i64 2] rfl rfl 37 #[.int .i64 0,.int .i64 0,.slice none 0 0,.int .i64 0,.int .i64 0,.slice none 0 0,.slice none 0 0,.int .i64 0] (heap_alloc_new wa _) Cq rfl H1wb.out ?_;rw [←hwb,←hms];clear hwb hms)
 have hD:DisK m1 m2 m3 ms gg #[.int .i64 td,.int .i64 cy,.slice (some ⟨gg,0,none⟩) 2 d1,.int .i64 0,.int .i64 0,.slice l2 nr d2,.slice l3 1 d3,.int .i64 2] (1+f0-(1+h0)) wb:=⟨Ad Hxa.out Hkb.out (by simp),Ad Hya.out Hkb.out (by simp),Ad Hza.out Hkb.out (by simp),Hbb.out,(Hkb.out.cell (Ag Hca.out) (by simp)).trans Hca.out⟩
 have hO:∀i,i=m1∨i=m2∨i=m3∨i=ms∨i=gg→((((((False∨i=m1)∨i=m2)∨i=m3)∨i=gg)∨i=ms)):=fun i e=>by omega
 obtain⟨HD,HO⟩:=hid2 hD hO;clear hO hD
 go_upto_if 61 with fail
 go_cut [15] (fun p wx=>p= .int .i64 kd∧wx=wb)
 case first=>
  cases lost
  ·obtain rfl:(6:Int)=kd:=Hkd.out
   go_wp2_with fail
   go_meet
   exact⟨rfl,rfl⟩
  ·obtain rfl:(5:Int)=kd:=Hkd.out
   go_wp2_with fail
   go_meet
   exact⟨rfl,rfl⟩
 obtain⟨rfl,rfl⟩:=hcut
 go_upto_if 62 with fail
 go_cut [16] (fun p wx=>p= .int .i64 ko∧wx=wc)
 case first=>
  cases again
  ·obtain rfl:true=o:=Ho.out
   obtain rfl:(5:Int)=ko:=Hko.out
   go_wp2_with fail
   go_meet
   exact⟨rfl,rfl⟩
  ·obtain rfl:lost=o:=Ho.out
   obtain rfl:kd=ko:=by rw [←Hkd.out,←Hko.out]
   go_wp2_with fail
   go_meet
   exact⟨rfl,rfl⟩
 obtain⟨rfl,hw⟩:=hcut
 subst hw
 have r1:=Aa HD.out.y 1
 have rl:=lt_of_block HD.out.y
 have hd4:=Di HLb.out ⟨kd,0,0,0,1⟩ (by rw [C3.out];decide) Hkdb.out
 rw [E0.out,E1.out,E2.out] at hd4
 simp only at hd4
 have Hd4:=Lib.hid hd4;clear hd4
 go_wp2_with fail
 refine Hd4.out.mono ?_
 rintro e w4z ⟨rfl,hLz,hkz⟩
 have hDz:=HD.out.keep hkz fun i hi e=>e.2 (HO.out i hi)
 clear r1 rl hkz
 have HDz:=Lib.hid hDz;clear hDz
 obtain⟨wz,hwz⟩:∃W,W=((w4z).alloc (.cells #[.int .i64 0,.int .i64 0,.int .i64 0,.int .i64 0,.int .i64 0,.slice none 0 0,.int .i64 0,.int .i64 0,.slice none 0 0,.slice none 0 0,.int .i64 0,.int .i64 0,.int .i64 0,.int .i64 0,.int .i64 0,.slice none 0 0,.int .i64 0,.int .i64 0,.int .i64 0,.bool false] 44)).setRow (w4z).heap.size #[.int .i64 0,.int .i64 0,.int .i64 0,.int .i64 0,.int .i64 0,.slice none 0 0,.int .i64 0,.int .i64 0,.slice none 0 0,.slice none 0 0,.int .i64 0,.int .i64 0,.int .i64 0,.int .i64 0,.int .i64 0,.slice none 0 0,.int .i64 0,.int .i64 0,.int .i64 0,.bool false]:=⟨_,rfl⟩
 obtain⟨hLz2,hbz,hkz2⟩:=Live.box hLz hwz
 obtain⟨mz,hmz⟩:∃b,b=(w4z).heap.size:=⟨_,rfl⟩
 rw [←hmz] at hLz2 hbz
 have h1wz:(#[.int .i64 0,.int .i64 0,.int .i64 0,.int .i64 0,.int .i64 0,.slice none 0 0,.int .i64 0,.int .i64 0,.slice none 0 0,.slice none 0 0,.int .i64 0,.int .i64 0,.int .i64 0,.int .i64 0,.int .i64 0,.slice none 0 0,.int .i64 0,.int .i64 0,.int .i64 0,.bool false]:Array Value).all (·.oneCell')=true:=(Br 0 0 0)
 obtain⟨HLz2,Hbz,Hkz2,H1wz⟩:=hid4 hLz2 hbz hkz2 h1wz;clear h1wz hkz2 hbz hLz2
 go_upto_region 16 with(refine wpList_store_row rfl 44 (.tmp 17) (.tmp 69) rfl (w4z).heap.size #[.int .i64 0,.int .i64 0,.int .i64 0,.int .i64 0,.int .i64 0,.slice none 0 0,.int .i64 0,.int .i64 0,.slice none 0 0,.slice none 0 0,.int .i64 0,.int .i64 0,.int .i64 0,.int .i64 0,.int .i64 0,.slice none 0 0,.int .i64 0,.int .i64 0,.int .i64 0,.bool false] rfl rfl 44 #[.int .i64 0,.int .i64 0,.int .i64 0,.int .i64 0,.int .i64 0,.slice none 0 0,.int .i64 0,.int .i64 0,.slice none 0 0,.slice none 0 0,.int .i64 0,.int .i64 0,.int .i64 0,.int .i64 0,.int .i64 0,.slice none 0 0,.int .i64 0,.int .i64 0,.int .i64 0,.bool false] (heap_alloc_new w4z _) Ar rfl H1wz.out ?_;rw [←hwz,←hmz];clear hwz hmz)
 have hDz2:=HDz.out.keep Hkz2.out (by simp)
 have r1:=Aa hDz2.y 1
 have rl:=lt_of_block hDz2.y
 have hd5:=Di HLz2.out ⟨ko,0,0,0,1⟩ (by rw [E3.out];decide) Hkob.out
 rw [G1'.out,G2'.out,G3'.out] at hd5
 simp only at hd5
 obtain⟨Hd5,HDz2⟩:=hid2 hd5 hDz2;clear hDz2 hd5
 go_wp2_with fail
 refine Hd5.out.mono ?_
 rintro e w4v ⟨rfl,hLv,hkv⟩
 have hDv:=HDz2.out.keep hkv fun i hi e=>e.2 (.inl (HO.out i hi))
 have hzv:=HLz2.out.blk hkv (.inr rfl) Hbz.out
 clear r1 rl hkv
 obtain⟨HDv,Hzv⟩:=hid2 hDv hzv;clear hzv hDv
 obtain⟨wv,hwv⟩:∃W,W=((w4v).alloc (.cells #[.int .i64 0,.int .i64 0,.int .i64 0,.int .i64 0,.int .i64 0,.slice none 0 0,.int .i64 0,.int .i64 0,.slice none 0 0,.slice none 0 0,.int .i64 0,.int .i64 0,.int .i64 0,.int .i64 0,.int .i64 0,.slice none 0 0,.int .i64 0,.int .i64 0,.int .i64 0,.bool false] 44)).setRow (w4v).heap.size #[.int .i64 13,.int .i64 0,.int .i64 0,.int .i64 0,.int .i64 0,.slice none 0 0,.int .i64 0,.int .i64 0,.slice none 0 0,.slice none 0 0,.int .i64 0,.int .i64 0,.int .i64 0,.int .i64 0,.int .i64 0,.slice none 0 0,.int .i64 0,.int .i64 0,.int .i64 0,.bool false]:=⟨_,rfl⟩
 obtain⟨hLv2,hbv,hkv2⟩:=Live.box hLv hwv
 obtain⟨mv,hmv⟩:∃b,b=(w4v).heap.size:=⟨_,rfl⟩
 rw [←hmv] at hLv2 hbv
 have h1wv:(#[.int .i64 13,.int .i64 0,.int .i64 0,.int .i64 0,.int .i64 0,.slice none 0 0,.int .i64 0,.int .i64 0,.slice none 0 0,.slice none 0 0,.int .i64 0,.int .i64 0,.int .i64 0,.int .i64 0,.int .i64 0,.slice none 0 0,.int .i64 0,.int .i64 0,.int .i64 0,.bool false]:Array Value).all (·.oneCell')=true:=(Br 13 0 0)
 obtain⟨HLv2,Hbv,Hkv2,H1wv⟩:=hid4 hLv2 hbv hkv2 h1wv;clear h1wv hkv2 hbv hLv2
 go_wp2_with (refine wpList_store_row rfl 44 (.tmp 18) (.tmp 75) rfl (w4v).heap.size #[.int .i64 13,.int .i64 0,.int .i64 0,.int .i64 0,.int .i64 0,.slice none 0 0,.int .i64 0,.int .i64 0,.slice none 0 0,.slice none 0 0,.int .i64 0,.int .i64 0,.int .i64 0,.int .i64 0,.int .i64 0,.slice none 0 0,.int .i64 0,.int .i64 0,.int .i64 0,.bool false] rfl rfl 44 #[.int .i64 0,.int .i64 0,.int .i64 0,.int .i64 0,.int .i64 0,.slice none 0 0,.int .i64 0,.int .i64 0,.slice none 0 0,.slice none 0 0,.int .i64 0,.int .i64 0,.int .i64 0,.int .i64 0,.int .i64 0,.slice none 0 0,.int .i64 0,.int .i64 0,.int .i64 0,.bool false] (heap_alloc_new w4v _) Ar rfl H1wv.out ?_;rw [←hwv,←hmv];clear hwv hmv)
 have hDv2:=HDv.out.keep Hkv2.out (by simp)
 have hzv2:=Ad Hzv.out Hkv2.out (by simp)
 have hd6:=Di HLv2.out ⟨kd,0,0,0,2⟩ (by rw [E3.out];decide) Hkdb.out
 rw [I1.out,I2.out,I3.out] at hd6
 simp only at hd6
 obtain⟨Hd6,HDv2,Hzv2⟩:=hid3 hd6 hDv2 hzv2;clear hzv2 hDv2 hd6
 refine Hd6.out.mono ?_
 rintro e w4u ⟨rfl,hLu,hku⟩
 have hDu:=HDv2.out.keep hku fun i hi e=>e.2 (.inl (.inl (HO.out i hi)))
 have hzu:=HLv2.out.blk hku (.inl (.inr rfl)) Hzv2.out
 have hvu:=HLv2.out.blk hku (.inr rfl) Hbv.out
 clear hku
 obtain⟨HDu,Hzu,Hvu⟩:=hid3 hDu hzu hvu;clear hvu hzu hDu
 obtain⟨wu,hwu⟩:∃W,W=((w4u).alloc (.cells #[.int .i64 0,.int .i64 0,.int .i64 0,.int .i64 0,.int .i64 0,.slice none 0 0,.int .i64 0,.int .i64 0,.slice none 0 0,.slice none 0 0,.int .i64 0,.int .i64 0,.int .i64 0,.int .i64 0,.int .i64 0,.slice none 0 0,.int .i64 0,.int .i64 0,.int .i64 0,.bool false] 44)).setRow (w4u).heap.size #[.int .i64 12,.int .i64 0,.int .i64 0,.int .i64 0,.int .i64 0,.slice none 0 0,.int .i64 0,.int .i64 0,.slice none 0 0,.slice none 0 0,.int .i64 0,.int .i64 0,.int .i64 0,.int .i64 0,.int .i64 0,.slice none 0 0,.int .i64 0,.int .i64 0,.int .i64 0,.bool false]:=⟨_,rfl⟩
 obtain⟨hLu2,hbu,hku2⟩:=Live.box hLu hwu
 obtain⟨mu,hmu⟩:∃b,b=(w4u).heap.size:=⟨_,rfl⟩
 rw [←hmu] at hLu2 hbu
 have h1wu:(#[.int .i64 12,.int .i64 0,.int .i64 0,.int .i64 0,.int .i64 0,.slice none 0 0,.int .i64 0,.int .i64 0,.slice none 0 0,.slice none 0 0,.int .i64 0,.int .i64 0,.int .i64 0,.int .i64 0,.int .i64 0,.slice none 0 0,.int .i64 0,.int .i64 0,.int .i64 0,.bool false]:Array Value).all (·.oneCell')=true:=(Br 12 0 0)
 obtain⟨HLu2,Hbu,Hku2,H1wu⟩:=hid4 hLu2 hbu hku2 h1wu;clear h1wu hku2 hbu hLu2
 go_wp2_with (refine wpList_store_row rfl 44 (.tmp 19) (.tmp 79) rfl (w4u).heap.size #[.int .i64 12,.int .i64 0,.int .i64 0,.int .i64 0,.int .i64 0,.slice none 0 0,.int .i64 0,.int .i64 0,.slice none 0 0,.slice none 0 0,.int .i64 0,.int .i64 0,.int .i64 0,.int .i64 0,.int .i64 0,.slice none 0 0,.int .i64 0,.int .i64 0,.int .i64 0,.bool false] rfl rfl 44 #[.int .i64 0,.int .i64 0,.int .i64 0,.int .i64 0,.int .i64 0,.slice none 0 0,.int .i64 0,.int .i64 0,.slice none 0 0,.slice none 0 0,.int .i64 0,.int .i64 0,.int .i64 0,.int .i64 0,.int .i64 0,.slice none 0 0,.int .i64 0,.int .i64 0,.int .i64 0,.bool false] (heap_alloc_new w4u _) Ar rfl H1wu.out ?_;rw [←hwu,←hmu];clear hwu hmu)
 obtain⟨wt,hwt⟩:∃x,x=(if lost=true then 1+f0 else 1+f0-(1+h0)):=⟨_,rfl⟩
 have e4':=E4.out
 rw [←hwt] at e4'
 have hst2:=live_st HLu2.out (sq:=3) (cr:=0) (du:=0) (n:=2) rfl rfl E3.out (by rw [e4'];rfl) (by rw [e4'];rfl) (by rw [e4'];rfl) rfl rfl
 obtain⟨td2,htd2⟩:∃x,(ad3 (1+f0) (1+h0) lost).today=x:=⟨_,rfl⟩
 obtain⟨cy2,hcy2⟩:∃x,(ad3 (1+f0) (1+h0) lost).cyc (ad3 (1+f0) (1+h0) lost).today=x:=⟨_,rfl⟩
 obtain⟨nr2,hnr2⟩:∃x,(ad3 (1+f0) (1+h0) lost).s.R.length=x:=⟨_,rfl⟩
 obtain⟨nd2,hnd2⟩:∃x,(ad3 (1+f0) (1+h0) lost).D.length=x:=⟨_,rfl⟩
 rw [hcy2,htd2,hnr2,hnd2] at hst2
 have hDu2:=HDu.out.keep Hku2.out (by simp)
 have hzu2:=Ad Hzu.out Hku2.out (by simp)
 have hvu2:=Ad Hvu.out Hku2.out (by simp)
 obtain⟨Hst2,Htd2,Hcy2,Hnr2,Hnd2,HDu2,Hzu2,Hvu2,E4'⟩:=hid9 hst2 htd2 hcy2 hnr2 hnd2 hDu2 hzu2 hvu2 e4';clear e4' hvu2 hzu2 hDu2 hnd2 hnr2 hcy2 htd2 hst2
 refine Hst2.out.mono ?_
 rintro e wp ⟨l1,dd1,l4,d4,l5,d5,rfl,hra,_,_,hka,_⟩
 rw [E4'.out] at hra
 obtain⟨gh,ch,he,hgl⟩:=Cu hra (by decide)
 simp only [Value.slice.injEq,true_and] at he
 obtain⟨rfl,rfl⟩:=he
 have hca:wp.cell? ⟨gh,1,none⟩=some (.int .i64 wt):=Bi Cc hra (k:=1) (x:=wt) rfl 0 (by decide)
 have hLp:=HLu2.out.keep hka
 have hDp:=HDu2.out.keep hka (by simp)
 have hzp:=Ad Hzu2.out hka (by simp)
 have hvp:=Ad Hvu2.out hka (by simp)
 have hup:=Ad Hbu.out hka (by simp)
 clear hka hra hgl
 obtain⟨HLp,HDp,Hzp,Hvp,Hup,Hca⟩:=hid6 hLp hDp hzp hvp hup hca;clear hca hup hvp hzp hDp hLp
 obtain⟨wq,hwq⟩:∃W,W=((wp).alloc (.cells #[.int .i64 0,.int .i64 0,.slice none 0 0,.int .i64 0,.int .i64 0,.slice none 0 0,.slice none 0 0,.int .i64 0] 37)).setRow (wp).heap.size #[.int .i64 td2,.int .i64 cy2,.slice (some ⟨gh,0,none⟩) 2 dd1,.int .i64 0,.int .i64 0,.slice l4 nr2 d4,.slice l5 nd2 d5,.int .i64 3]:=⟨_,rfl⟩
 obtain⟨hLq,hbq,hkq⟩:=Live.box HLp.out hwq
 obtain⟨mq,hmq⟩:∃b,b=(wp).heap.size:=⟨_,rfl⟩
 rw [←hmq] at hLq hbq
 have h1wq:(#[.int .i64 td2,.int .i64 cy2,.slice (some ⟨gh,0,none⟩) 2 dd1,.int .i64 0,.int .i64 0,.slice l4 nr2 d4,.slice l5 nd2 d5,.int .i64 3]:Array Value).all (·.oneCell')=true:=(one_st _ _ _ _ _ _ _ _ _ _ _ _ _ _)
 obtain⟨HLq,Hbq,Hkq,H1wq⟩:=hid4 hLq hbq hkq h1wq;clear h1wq hkq hbq hLq
 go_upto_region 19 with(refine wpList_store_row rfl 37 (.tmp 20) (.tmp 81) rfl (wp).heap.size #[.int .i64 td2,.int .i64 cy2,.slice (some ⟨gh,0,none⟩) 2 dd1,.int .i64 0,.int .i64 0,.slice l4 nr2 d4,.slice l5 nd2 d5,.int .i64 3] rfl rfl 37 #[.int .i64 0,.int .i64 0,.slice none 0 0,.int .i64 0,.int .i64 0,.slice none 0 0,.slice none 0 0,.int .i64 0] (heap_alloc_new wp _) Cq rfl H1wq.out ?_;rw [←hwq,←hmq];clear hwq hmq)
 have hDq:=HDp.out.keep Hkq.out (by simp)
 have hzq:=Ad Hzp.out Hkq.out (by simp)
 have hvq:=Ad Hvp.out Hkq.out (by simp)
 have huq:=Ad Hup.out Hkq.out (by simp)
 have x0:=Aa hDq.x 0
 have xl:=lt_of_block hDq.x
 have y0:=Aa hDq.w 0
 have yl:=lt_of_block hDq.w
 have z0:=Aa hDq.y 0
 have z1:=Aa hDq.y 1
 have zl:=lt_of_block hDq.y
 have s2:=Aa hDq.s 2
 have s6:=Aa hDq.s 6
 have sl:=lt_of_block hDq.s
 have gc:=hDq.c
 have gl:=Ag gc
 have zz0:=Aa hzq 0
 have zzl:=lt_of_block hzq
 have v0:=Aa hvq 0
 have vl:=lt_of_block hvq
 have u0:=Aa huq 0
 have ul:=lt_of_block huq
 have q2:=Aa Hbq.out 2
 have q7:=Aa Hbq.out 7
 have ql:=lt_of_block Hbq.out
 have gd:=(Hkq.out.cell (Ag Hca.out) (by simp)).trans Hca.out
 have gdl:=Ag gd
 have hkf:=HLq.out.kp
 obtain⟨HDq,Hzq,Hvq,Huq,Hkf⟩:=hid5 hDq hzq hvq huq hkf;clear hkf huq hvq hzq hDq
 cases lost
 ·rw [if_neg (by decide)] at hwt
  subst hwt
  go_wp2
  go_ret
  exact⟨rfl,Hkf.out.below (by simp) (Nat.le_refl _)⟩
 ·rw [if_pos rfl] at hwt
  subst hwt
  go_wp2
  go_ret
  exact⟨rfl,Hkf.out.below (by simp) (Nat.le_refl _)⟩
end Go.Proofs.YthffbjldpfionaaGreat
namespace Go.Proofs.YthffbjldpfionaaGreat.accountDisputes
open Go.ChangeShapes Go.WideShapes Go.ChangeAt Go.RowKit Go.Deep
set_option maxRecDepth 100000
theorem lifted(os:Os)(started:os.Started)(H:Type)(enc:TypeId×Value→H):
  ReturnsInHanded {} Tryz.checked os 4 .any (Rows.accountDisputesSpec.pre6 enc Tryz.prog Tryz.f4 Rows.accountDisputesRow.domain false) (Rows.accountDisputesSpec.post enc Tryz.prog Tryz.f4 false true false false):=by
 refine returnsInHanded_of_change (C:=Tryz.checked) own started (by kernel_rfl) Tryz.func4
  (ChangeSpec.witness6 (enc:=enc) (C:=Tryz.checked) false ⟨#[], #[.int .i64 0,.int .i64 0,.bool false,.bool false], []⟩ 8 (by kernel_rfl) (by kernel_rfl) (by kernel_rfl) (by kernel_rfl)) ?_
 intro W base args ds gs before hval0 hW hcnd _
 have hval:∀(j:Nat) t v,Tryz.f4.params[j]?=some t→args[j]?=some v→Value.okWide Tryz.prog W .any base t v:=hval0
 have hW':=hW
 obtain⟨p,q,hA0,hV,rfl,hfz,hnd⟩:=hW
 have hA:DataW.TrodAll enc Tryz.prog W 0 (fun _=>true) true Tryz.f4.params.toList args.toList ds p:=hA0
 rw [Tryz.params4] at hA hval
 obtain⟨v0,vs0,d0,ds0,p0,q0,hargs,rfl,rfl,h0,r0⟩:=trodAll_cons hA
 obtain⟨v1,vs1,d1,ds1,p1,q1,rfl,rfl,rfl,h1,r1⟩:=trodAll_cons r0
 obtain⟨v2,vs2,d2,ds2,p2,q2,rfl,rfl,rfl,h2,r2⟩:=trodAll_cons r1
 obtain⟨v3,vs3,d3,ds3,p3,q3,rfl,rfl,rfl,h3,r3⟩:=trodAll_cons r2
 obtain⟨rfl,rfl,rfl⟩:=trodAll_nil r3
 obtain rfl:args= #[v0,v1,v2,v3]:=by cases args;simp_all
 obtain⟨rfl,rfl⟩:=trodVars_none hV
 obtain⟨a0,rfl,rfl,rfl,w0⟩:=open_int Tryz.underlying2 (hval 0 2 v0 rfl rfl) h0
 obtain⟨a1,rfl,rfl,rfl,w1⟩:=open_int Tryz.underlying2 (hval 1 2 v1 rfl rfl) h1
 obtain⟨a2,rfl,rfl,rfl⟩:=open_bool Tryz.underlying4 (hval 2 4 v2 rfl rfl) h2
 obtain⟨a3,rfl,rfl,rfl⟩:=open_bool Tryz.underlying4 (hval 3 4 v3 rfl rfl) h3
 clear hA0 hval0
 refine(accountDisputes_walk W a0 w0 a1 w1 a2 a3).mono fun e W' ⟨he,bel⟩=> ?_
 subst he
 exact⟨_,rfl,_,_,_, [],_, [],hW',trodAll_mk1 (shut_bool Tryz.underlying4 _),(trodAll_cons_mk (shut_int Tryz.underlying2 w0) (trodAll_cons_mk (shut_int Tryz.underlying2 w1) (trodAll_cons_mk (shut_bool Tryz.underlying4 _) (trodAll_cons_mk (shut_bool Tryz.underlying4 _) trodAll_mk0)))),rfl,bel.frame _,fun h=>by cases h⟩
theorem over:Rows.accountDisputesRow.holds Tryz.pinned (OpenSpec.ofChange Rows.accountDisputesSpec):=
 OpenClaim.holds_of_wide 4 Tryz.f4 rfl rfl rfl rfl rfl rfl rfl ⟨rfl,rfl,rfl,rfl,rfl⟩ rfl rfl rfl rfl rfl (by kernel_rfl) Tryz.func4 (by kernel_rfl)
  (of_decide_eq_true (by kernel_rfl)) (by unfold Func.isWrapper;first|(rw [if_pos (by decide+kernel)];kernel_rfl)|(rw [if_neg (by decide+kernel)];exact⟨rfl,rfl⟩))
  (fun os started H enc _=>lifted os started H enc)
theorem proved:Rows.AccountDisputesSaid:=over
#print axioms proved
end Go.Proofs.YthffbjldpfionaaGreat.accountDisputes
