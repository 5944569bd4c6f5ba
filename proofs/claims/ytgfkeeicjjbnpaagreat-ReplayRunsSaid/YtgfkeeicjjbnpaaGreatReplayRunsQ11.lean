/- Part 11 of the proof of ReplayRuns: walks and plain laws. -/
import Derived.Test.YtgfkeeicjjbnpaaGreatReplayRunsQ10
set_option maxRecDepth 100000
set_option maxHeartbeats 3200000
namespace Go.Proofs.YtgfkeeicjjbnpaaGreat
open Go.RowKit
theorem Vs(L X:List Int)(cr du:Int)(ad adX:Option Addr)(cap cX n:Nat)(w:World)(hr:Reads w 1 (.slice ad n cap) n (L.flatMap i64c))(hN:L.length=n)(hX:Reads w 1 (.slice adX n cX) n (X.flatMap i64c))(hXn:X.length=n)(hXm:X.all Az=true)(hright:Ps.Ar ⟨L,cr,du⟩=true):
  Calls Tryz.prog 231 #[.agg #[.slice ad n cap,.int .i64 cr,.int .i64 du],.slice adX n cX] w (Di (bearR ⟨L,cr,du⟩ X).1 (bearR ⟨L,cr,du⟩ X).2 w):=by
 obtain⟨_,_,_,hn1,hn8⟩:=Cc hright;simp only at hn1 hn8;rw [hN] at hn1 hn8;have hX0:∀x∈X,0<=x:=λx hx=>((Aw x).1 (List.all_eq_true.1 hXm x hx)).1;obtain⟨p,hp⟩:∃p:Ps,(⟨L,cr,du⟩:Ps)=p:=⟨_,rfl⟩;rw [hp] at hright;have hpl:p.bal.length=n:=by rw [<-hp];exact hN
 have hri:=λW (hW:Keeps (λ_=>False) w W)=>Ct L cr du ad cap n W (hr.keeps hW (by simp)) hN j1 true (by rw [hp];exact hright);have hnn:((n:Int)==(n:Int))=true:=by simp
 rw [hp];obtain⟨Hr,HN,HX,HXn,HXm,Hright,HX0,Hpl,Hri⟩:=hid9 hr hN hX hXn hXm hright hX0 hpl hri;clear hri hpl hX0 hright hXm hXn hX hN hr;have Hp:=Lib.hid hp;clear hp;go_enter Tryz.func231,Tryz.ntmps231;go_wp2_with fail;refine(Hri.out _ j8).mono ?_;rintro e w1 ⟨rfl,hk1⟩;refine j1s ?_;intro hbx hrs hkw;have b0:=Aa hbx 0;have bl:=lt_of_block hbx;obtain⟨Hk1,Hbx,Hrs,Hkw⟩:=hid4 hk1 hbx hrs hkw;clear hkw hrs hbx hk1;go_wp2_with fail
 go_loopw [6,7] (λok c wr=>∃k:Nat,k<=n/\ok= .bool true/\c= .int .i64 (k:Nat)/\Keeps (λ_=>False) w1 wr) (λ_ c _=>n-(intOf c).toNat)
 case atStart=>exact⟨0,Nat.zero_le _,rfl,rfl,Keeps.refl _ _⟩
 case round=>
  obtain⟨k,hkn,rfl,rfl,hk⟩:=hrel;refine jc ?_;intro wq hwq;subst hwq;clear b0 bl;by_cases hlt:k<n
  ·have hltI:(k:Int)<(n:Int):=j3;obtain⟨x,hx⟩:=Aj (L:=X) (k:=k) (by rw [HXn.out];exact hlt);obtain⟨g,o,c,he,hc⟩:=(HX.out.keeps (Hkw.out.nt hk) (by simp)).elem Bg hx j2;simp only [Value.slice.injEq,true_and] at he;obtain⟨rfl,rfl⟩:=he;have x0:wq.cell? ⟨g,o+k,none⟩=some (.int .i64 x):=by have:=hc 0 j2;simpa [i64c] using this
   have xl:=Ai x0;have hm:Az x=true:=List.all_eq_true.1 HXm.out x (List.mem_of_getElem? hx);clear hc;obtain⟨Hk,Hx,Hm⟩:=hid3 hk hx hm;clear hm hx hk
   go_wp2_with (go_at_call 220;(with_reducible refine(Bl Hm.out _).mono ?_);rintro e w2 ⟨rfl,rfl⟩)
   go_roundw
   case rel=>exact⟨k+1,by omega,rfl,by go_num,Hk.out⟩
   case measure=>simp [intOf];omega
  ·obtain rfl:k=n:=by omega
   have hge:¬(k:Int)<(k:Int):=j3;have hkq:=Hkw.out.nt hk;have hbq:=Ac Hbx.out hk (by simp);have hrq:=Ac Hrs.out hk (by simp);have hst:Br11R w X p k (.int .i64 0) wq:=⟨0,p,ad,cap,Nat.zero_le _,rfl,rfl,Hright.out,by rw [<-Hp.out];exact hbq,hrq,by rw [<-Hp.out];exact Hr.out.keeps hkq (by simp),hkq⟩;clear hk hkq hbq hrq;have Hst:=Lib.hid hst;clear hst;go_wp2_with fail
   go_loopw [8] (λc wx=>Br11R w X p k c wx) (λc _=>k-(intOf c).toNat)
   case atStart=>exact Hst.out
   case round=>
    unfold Br11R at hrel;obtain⟨i,q,a,cv,hik,rfl,hq,hqr,hB,hR,hrd,hkx⟩:=hrel;obtain⟨wx,hwx⟩:∃x,x=wr:=⟨_,rfl⟩;subst hwx;have hinv:=Gp (p:=p) HX0.out Hright.out i (by rw [Hpl.out];exact hik);rw [hq] at hinv;have hql:q.bal.length=k:=hinv.ln.trans Hpl.out;obtain⟨qb,qc,qd⟩:=q;simp only at hB hrd hql;by_cases hlt2:i<k
    ·have hltI:(i:Int)<(k:Int):=j3;obtain⟨x,hx⟩:=Aj (L:=X) (k:=i) (by rw [HXn.out];exact hlt2);obtain⟨g,o,c,he,hc⟩:=(HX.out.keeps hkx (by simp)).elem Bg hx j2;simp only [Value.slice.injEq,true_and] at he;obtain⟨rfl,rfl⟩:=he;have x0:wx.cell? ⟨g,o+i,none⟩=some (.int .i64 x):=by have:=hc 0 j2;simpa [i64c] using this
     have hm:Az x=true:=List.all_eq_true.1 HXm.out x (List.mem_of_getElem? hx);have hS:br11 w.heap.size g (o+i) (.slice a k cv) qc qd x wx:=⟨Aa hB 0,Aa hB 1,Aa hB 2,x0⟩;have hgd:X.getD i 0=x:=by rw [List.getD_eq_getElem?_getD,hx];rfl
     have hadd:=λW (hW:Keeps (λ_=>False) wx W)=>Qa qb qc qd ((i:Int)+1) x a cv k W (hrd.keeps hW (by simp)) hql j1 hqr j1 hm;have hnext:bearS X p (i+1)=Cg ⟨qb,qc,qd⟩ ((i:Int)+1) x:=by show Cg (bearS X p i) _ _=_;rw [hq,hgd]
     obtain⟨q2,hq2⟩:∃q2,Cg ⟨qb,qc,qd⟩ ((i:Int)+1) x=q2:=⟨_,rfl⟩;rw [hq2] at hadd hnext;have hi1:IntKind.i64.wrap ((i:Int)+1)=(i:Int)+1:=IntWalk.i64_in _ ⟨by omega,by omega⟩;clear hc x0;obtain⟨Hq,Hqr,HB,HR,Hrd,Hkx,Hinv,Hql,Hx⟩:=hid9 hq hqr hB hR hrd hkx hinv hql hx;clear hx hql hinv hkx hrd hR hB hqr hq;obtain⟨Hm,HS,Hgd,Hnext,Hq2⟩:=hid5 hm hS hgd hnext hq2;clear hq2 hnext hgd hS hm
     go_upto_region 11 with fail
     refine Ak (br11 w.heap.size g (o+i) (.slice a k cv) qc qd x) (.take 0 (.take 1 (.take 2 (.take 3 (.take 4 (.take 5 (.take 6 (.fork 7 (.take 8 (.take 9 (.take 10 (.move 11 (.move 12 (.take 13 .done)))))) 11 (.move 7 (.take 8 (.take 9 (.take 10 (.move 12 (.take 13 .done)))))))))))))) j4 j4 ?_ ?_
     ·exact j08
     intro w3 hs3 hk3;have hadd3:=hadd w3 hk3;by_cases hg:q2.Ar=true
     ·have hq2l:q2.bal.length=k:=by
       have h:=Gp (p:=p) HX0.out Hright.out (i+1) (by rw [Hpl.out];omega);rw [Hnext.out] at h;exact h.ln.trans Hpl.out
      have hz0:((0:Int) !=0)=false:=by decide
      simp only [if_pos hg] at hadd;obtain⟨Hq2l,Hadd⟩:=hid2 hq2l hadd;clear hadd hq2l;refine jR ?_;refine Bz ?_ ?_ hs3
      ·skip
       refine j7 ?_;intro K hK
       go_at_call 222
       ((with_reducible refine(Hadd.out w3 hk3).mono ?_);rintro e w5 ⟨v5,rfl,hrow5,hf5⟩)
       rw [Hq2l.out] at hrow5;obtain⟨a5,c5,rfl,_,_⟩:=Ad hrow5;dsimp only;refine hK.out _ _ (by exact hs3.keep hf5.1) ?_;clear hK K;refine jm ?_;intro K hK;refine j1u ?_;clear hK K;refine j5 ?_;refine j7 ?_;intro K hK;refine j1u ?_;clear hK K;refine jg ?_;obtain⟨W6,hW6⟩:∃W,W=w5.alloc (.cells #[.slice a5 k c5,.int .i64 q2.cr,.int .i64 q2.du] 35):=⟨_,rfl⟩;have hT6:W6.heap[w5.heap.size]?=some (.cells #[.slice a5 k c5,.int .i64 q2.cr,.int .i64 q2.du] 35 (0,0)):=by rw [hW6];exact heap_alloc_new _ _
       have hk56:Keeps (λ_=>False) w5 W6:=by rw [hW6];exact Keeps.alloc _ _
       have hkx6:=(hk3.nt hf5.1).nt hk56;have hB6:=Ac HB.out hkx6 (by simp);have hR6:=Ac HR.out hkx6 (by simp);have hrow6:=hrow5.of_keeps hk56;have hne6:∀g,(Value.slice a5 k c5).ownBlock=some g->g=w.heap.size->False:=λg hg e=>by have:=hf5.2 g hg;have:=lt_of_block HB.out;have:=hk3.size;omega
       rw [<-hW6];clear hs3 hk3 hf5 hrow5 hk56 hW6;exact j5M
      ·skip
       refine j5N ?_;intro Hadd4;refine j7 ?_;intro K hK
       go_at_call 222
       ((with_reducible refine(Hadd4.out).mono ?_);rintro e w5 ⟨v5,rfl,hrow5,hf5⟩)
       rw [Hq2l.out] at hrow5;obtain⟨a5,c5,rfl,_,_⟩:=Ad hrow5;refine j5O ?_;intro hT5 hs5;obtain⟨hT6,k6⟩:=Bb hT5 (.slice a5 k c5) (.int .i64 q2.cr) (.int .i64 q2.du);have t0:=Aa hT5 0;have t1:=Aa hT5 1;have t2:=Aa hT5 2;have tf0:=Ab hT5 0;have tf1:=Ab hT5 1;have tf2:=Ab hT5 2;have tl:=lt_of_block hT5;have hk36:Keeps (λ_=>False) w3 (((w5.setCell ⟨w3.heap.size,0,none⟩ (.slice a5 k c5)).setCell ⟨w3.heap.size,1,none⟩ (.int .i64 q2.cr)).setCell ⟨w3.heap.size,2,none⟩ (.int .i64 q2.du)):=((Keeps.alloc (S:=λ_=>False) w3 _).nt hf5.1).trans (k6.mono λi _ e=> .inr j2L);have hs6:=hs3.keep hk36;refine hK.out _ _ (by exact hs5) ?_;clear hK K;refine jm ?_;intro K hK;refine hK.out _ _ (by exact hs6) ?_;clear hK K;refine jg ?_;obtain⟨W6,hW6⟩:∃W,W=(((w5.setCell ⟨w3.heap.size,0,none⟩ (.slice a5 k c5)).setCell ⟨w3.heap.size,1,none⟩ (.int .i64 q2.cr)).setCell ⟨w3.heap.size,2,none⟩ (.int .i64 q2.du)):=⟨_,rfl⟩;rw [<-hW6] at hT6 k6 hk36;have hkx6:=hk3.nt hk36;have hB6:=Ac HB.out hkx6 (by simp);have hR6:=Ac HR.out hkx6 (by simp);have hne5:∀g,(Value.slice a5 k c5).ownBlock=some g->w3.heap.size+1<=g:=λg hg=>by have:=hf5.2 g hg;simpa using this
       have hrow6:=k6.row hrow5 (λg hg e=>by have:=hne5 g hg;have e':g=w3.heap.size:=e;omega);have hne6:∀g,(Value.slice a5 k c5).ownBlock=some g->g=w.heap.size->False:=λg hg e=>by have:=hne5 g hg;have:=lt_of_block HB.out;have:=hk3.size;omega
       rw [<-hW6];clear hs3 hs5 hs6 hk3 hf5 hrow5 hk36 k6 hne5 hW6 t0 t1 t2 tf0 tf1 tf2 tl hT5;exact j5M
     ·simp only [if_neg hg] at hadd;have hbad:bearR p X=(ps0,5):=bear_bad HXm.out (by rw [HXn.out,Hpl.out]) Hright.out (i:=i+1) (by rw [HXn.out];omega) (by rw [Hnext.out];exact hg);obtain⟨Hbad,Hadd⟩:=hid2 hbad hadd;clear hadd hbad;refine jR ?_;refine Bz ?_ ?_ hs3
      ·skip
       refine j7 ?_;intro K hK
       go_at_call 222
       ((with_reducible refine(Hadd.out w3 hk3).mono ?_);rintro e w5 ⟨v5,rfl,hrow5,hf5⟩)
       obtain⟨a5,c5,rfl,_,_⟩:=Ad hrow5;dsimp only;refine hK.out _ _ (by exact hs3.keep hf5.1) ?_;clear hK K;refine jm ?_;intro K hK;refine j1u ?_;clear hK K;refine j5 ?_;refine j7 ?_;intro K hK;refine j1u ?_;clear hK K;refine jg ?_;have hkx6:=(hk3.nt hf5.1).nt (Keeps.alloc w5 (.cells #[.slice a5 ps0.bal.length c5,.int .i64 ps0.cr,.int .i64 ps0.du] 35));have hR6:=Ac HR.out hkx6 (by simp);clear hs3 hk3 hf5 hrow5;exact j5P
      ·skip
       refine j5N ?_;intro Hadd4;refine j7 ?_;intro K hK
       go_at_call 222
       ((with_reducible refine(Hadd4.out).mono ?_);rintro e w5 ⟨v5,rfl,hrow5,hf5⟩)
       obtain⟨a5,c5,rfl,_,_⟩:=Ad hrow5;refine j5O ?_;intro hT5 hs5;obtain⟨hT6,k6⟩:=Bb hT5 (.slice a5 ps0.bal.length c5) (.int .i64 ps0.cr) (.int .i64 ps0.du);have t0:=Aa hT5 0;have t1:=Aa hT5 1;have t2:=Aa hT5 2;have tf0:=Ab hT5 0;have tf1:=Ab hT5 1;have tf2:=Ab hT5 2;have tl:=lt_of_block hT5;have hk36:Keeps (λ_=>False) w3 (((w5.setCell ⟨w3.heap.size,0,none⟩ (.slice a5 ps0.bal.length c5)).setCell ⟨w3.heap.size,1,none⟩ (.int .i64 ps0.cr)).setCell ⟨w3.heap.size,2,none⟩ (.int .i64 ps0.du)):=((Keeps.alloc (S:=λ_=>False) w3 _).nt hf5.1).trans (k6.mono λi _ e=> .inr j2L);have hs6:=hs3.keep hk36;refine hK.out _ _ (by exact hs5) ?_;clear hK K;refine jm ?_;intro K hK;refine hK.out _ _ (by exact hs6) ?_;clear hK K;refine jg ?_;have hkx6:=hk3.nt hk36;have hR6:=Ac HR.out hkx6 (by simp);clear hs3 hs5 hs6 hk3 hf5 hrow5 hk36 k6 t0 t1 t2 tf0 tf1 tf2 tl hT5 hT6;exact j5P
    ·obtain rfl:i=k:=by omega
     have hge2:¬(i:Int)<(i:Int):=j3;have hcp:=Ep qb qc qd a cv i wx hrd j1
     have hbe:bearR p X=(⟨qb,qc,qd⟩,0):=by
      unfold bearR;rw [if_pos ⟨Hright.out,by rw [HXn.out,Hpl.out],HXm.out⟩,HXn.out,hq,if_pos hqr]
     have b0:=Aa hB 0;have b1:=Aa hB 1;have b2:=Aa hB 2;have bl:=lt_of_block hB;have hRl:=lt_of_block hR;obtain⟨Hq,Hqr,HB,HR,Hrd,Hkx,Hinv,Hql,Hcp⟩:=hid9 hq hqr hB hR hrd hkx hinv hql hcp;clear hcp hql hinv hkx hrd hR hB hqr hq;obtain⟨Hbe,HRl⟩:=hid2 hbe hRl;clear hRl hbe;go_wp2_with fail;refine Hcp.out.mono ?_;rintro e w6 ⟨v6,rfl,hrow6,hf6⟩;obtain⟨a6,c6,rfl,_,_⟩:=Ad hrow6;have hR6:=Ac HR.out hf6.1 (by simp);obtain⟨hR7,k7⟩:=Bb hR6 (.slice a6 i c6) (.int .i64 qc) (.int .i64 qd)
     have hgv:Di (bearR p X).1 (bearR p X).2 w (.returned (.tuple #[.agg #[.slice a6 i c6,.int .i64 qc,.int .i64 qd],.int .i64 0])) (((w6.setCell ⟨w.heap.size+1,0,none⟩ (.slice a6 i c6)).setCell ⟨w.heap.size+1,1,none⟩ (.int .i64 qc)).setCell ⟨w.heap.size+1,2,none⟩ (.int .i64 qd)):=by
      rw [Hbe.out];refine⟨_,rfl, ?_,(Hkx.out.nt hf6.1).trans (k7.mono λj _ e=> .inr (by have e':j=w.heap.size+1:=e;omega)),λg hg=> ?_⟩
      ·show World.ownsRow _ 0 _ 1 _ qb.length _;rw [Hql.out];exact k7.row hrow6 (λg hg e=>by have:=hf6.2 g hg;have e':g=w.heap.size+1:=e;have:=HRl.out;omega)
      ·have:=hf6.2 g hg;have:=Hkx.out.size;omega
     have r0:=Aa hR6 0;have r1:=Aa hR6 1;have r2:=Aa hR6 2;have rf0:=Ab hR6 0;have rf1:=Ab hR6 1;have rf2:=Ab hR6 2;have rl:=lt_of_block hR6;have sr0:=Aa hR7 0;have sr1:=Aa hR7 1;have sr2:=Aa hR7 2;clear b0 b1 b2 bl hrow6 hf6 k7;obtain⟨HR6,HR7,Sr0,Sr1,Sr2,Hgv⟩:=hid6 hR6 hR7 sr0 sr1 sr2 hgv;clear hgv sr2 sr1 sr0 hR7 hR6;go_wp2;refine ja ?_;intro R0' R1' R2';clear r0 r1 r2;exact bodyPost_ret (v:= .tuple #[.agg #[.slice a6 i c6,.int .i64 qc,.int .i64 qd],.int .i64 0]) (by simp [results,Tryz.results231,go_sem,R0',R1',R2']) rfl Hgv.out
theorem CB.start5(T S C:Array Value)(w:World):CB T S w (((((w.alloc (.cells T 24)).alloc (.cells S 55)).alloc (.cells C 35)).alloc (.cells #[.int .i64 0,.int .i64 0,.int .i64 0,.int .i64 0,.slice none 0 0,.int .i64 0,.int .i64 0,.int .i64 0,.bool false] 58)).alloc (.cells #[.slice none 0 0,.int .i64 0,.int .i64 0] 35)):=
 ⟨Ap (Ap (Ap (Ap (heap_alloc_new w _) _) _) _) _,Ap (Ap (Ap (Av _ _ (by simp)) _) _) _,Ap (Av _ _ (by simp)) _,Av _ _ (by simp),
  ((((Keeps.alloc _ _).Af).Af).Af).Af⟩
def c17S(b p gB oB gX oX gR oR:Nat)(vl pv:Value)(bk x r:Int)(W:World):Prop:=W.cell? ⟨b,4,none⟩=some vl/\W.cell? ⟨p,0,none⟩=some pv/\W.cell? ⟨gB,oB,none⟩=some (.int .i64 bk)/\W.cell? ⟨gX,oX,none⟩=some (.int .i64 x)/\W.cell? ⟨gR,oR,none⟩=some (.int .i64 r)
theorem c17S.keep{b p gB oB gX oX gR oR:Nat}{vl pv:Value}{bk x r:Int}{W W':World}{S:Nat->Prop}(h:c17S b p gB oB gX oX gR oR vl pv bk x r W)(hk:Keeps S W W')(hS:∀i,S i->i≠b/\i≠p/\i≠gB/\i≠gX/\i≠gR):c17S b p gB oB gX oX gR oR vl pv bk x r W':=by
 obtain⟨h1,h2,h3,h4,h5⟩:=h;exact⟨(hk.cell (Ai h1) (λe=>(hS _ e).1 rfl)).trans h1,(hk.cell (Ai h2) (λe=>(hS _ e).2.1 rfl)).trans h2,(hk.cell (Ai h3) (λe=>(hS _ e).2.2.1 rfl)).trans h3,(hk.cell (Ai h4) (λe=>(hS _ e).2.2.2.1 rfl)).trans h4,(hk.cell (Ai h5) (λe=>(hS _ e).2.2.2.2 rfl)).trans h5⟩
theorem Tt(t:Tm)(v:Value)(cy fr te:Int)(L X R:List Int)(cr du:Int)(ad adX adR:Option Addr)(cap cX cR n:Nat)(g:Bool)(w:World)(hz:t.err=0)(hn:t.trs.length=n)(hr:Reads w 2 v n (t.trs.flatMap Tn.cells))
  (hcy:1<=cy/\cy<=300) (hsp: -135140<=fr/\fr<=te/\te<=2932896) (hL:Reads w 1 (.slice ad n cap) n (L.flatMap i64c)) (hLn:L.length=n) (hX:Reads w 1 (.slice adX n cX) n (X.flatMap i64c)) (hXn:X.length=n) (hR:Reads w 1 (.slice adR n cR) n (R.flatMap i64c)) (hRn:R.length=n)
  (hright:Ps.Ar ⟨L,cr,du⟩=true) (hXb:X.all Az=true) (hRb:∀x∈R,0<=x/\x<=10000000):
  Calls Tryz.prog 180 #[.agg #[.int .i64 t.limit,v,.int .i64 t.cyc,.int .i64 t.due,.int .i64 t.minFixed,.int .i64 t.minPart,.int .i64 t.start],.int .i64 cy,.agg #[.int .i64 fr,.int .i64 te],.agg #[.slice ad n cap,.int .i64 cr,.int .i64 du],.slice adR n cR,.slice adX n cX,.bool g] w (Cr (Eu t cy fr te ⟨L,cr,du⟩ R X g) w):=by
 obtain⟨i0,hi,hi0,hi1,hi2⟩:=info_parts Qn;have hnum:=Ck hz;rw [hn] at hnum;obtain⟨⟨l0,l1⟩,_,_,⟨d0,d1⟩,⟨f0,f1⟩,_⟩:=hnum;have htm:=λW (hW:Keeps (λ_=>False) w W)=>Fy t v W hz jN j1;have hle:=λW (hW:Keeps (λ_=>False) w W) total h0 h1=>r15Of_any t v total W hz jN h0 h1;have hbe:=λW (hW:Keeps (λ_=>False) w W)=>Vs L X cr du ad adX cap cX n W (hL.keeps hW (by simp)) hLn (hX.keeps hW (by simp)) hXn hXb hright;have hber:=Kc hright (show X.length=(Ps.mk L cr du).bal.length by rw [hXn];exact hLn.symm) hXb;obtain⟨O,hO⟩:∃O,Eu t cy fr te ⟨L,cr,du⟩ R X g=O:=⟨_,rfl⟩;rw [hO];unfold Eu at hO;obtain⟨⟨q,z⟩,hq⟩:∃q,bearR ⟨L,cr,du⟩ X=q:=⟨_,rfl⟩;rw [hq] at hbe hber hO;simp only at hbe hber hO;obtain⟨li,cyc,due,mf,mp,st,TL⟩:=t;dsimp only at *;obtain⟨adT,cT,rfl⟩:∃a c,v= .slice a n c:=by obtain⟨a,c,h,_⟩:=hr;exact⟨a,c,h⟩
 have hst:=CB.start5 #[.int .i64 li,.slice adT n cT,.int .i64 cyc,.int .i64 due,.int .i64 mf,.int .i64 mp,.int .i64 st] #[.int .i64 fr,.int .i64 te] #[.slice ad n cap,.int .i64 cr,.int .i64 du] w;obtain⟨W0,hW0⟩:∃W0,W0=(((((w.alloc (.cells #[.int .i64 li,.slice adT n cT,.int .i64 cyc,.int .i64 due,.int .i64 mf,.int .i64 mp,.int .i64 st] 24)).alloc (.cells #[.int .i64 fr,.int .i64 te] 55)).alloc (.cells #[.slice ad n cap,.int .i64 cr,.int .i64 du] 35)).alloc (.cells #[.int .i64 0,.int .i64 0,.int .i64 0,.int .i64 0,.slice none 0 0,.int .i64 0,.int .i64 0,.int .i64 0,.bool false] 58)).alloc (.cells #[.slice none 0 0,.int .i64 0,.int .i64 0] 35)):=⟨_,rfl⟩;have hpb:W0.heap[w.heap.size+1+1]?=some (.cells #[.slice ad n cap,.int .i64 cr,.int .i64 du] 35 (0,0)):=by rw [hW0];exact Ap (Ap (Av _ _ (by simp)) _) _
 rw [<-hW0] at hst;obtain⟨c0,c1⟩:=hcy;obtain⟨s0,s1,s2⟩:=hsp;have hnn:((n:Int) !=(n:Int))=false:=by simp
 have hnn2:((n:Int)==(n:Int))=true:=by simp
 have c0I:decide (1<=cy)=true:=by simp [c0]
 have c1I:decide (cy<=300)=true:=by simp [c1]
 have s0I:decide (-135140<=fr)=true:=by simp [s0]
 have s1I:decide (fr<=te)=true:=by simp [s1]
 have s2I:decide (te<=2932896)=true:=by simp [s2]
 obtain⟨Hz,Hn,Hr,HL,HLn,HX,HXn,HR,HRn⟩:=hid9 hz hn hr hL hLn hX hXn hR hRn;clear hRn hR hXn hX hLn hL hr hn hz;obtain⟨Hright,HXb,HRb,Hi,Hi0,Hi1,Hi2,Htm,Hle⟩:=hid9 hright hXb hRb hi hi0 hi1 hi2 htm hle;clear hle htm hi2 hi1 hi0 hi hRb hXb hright;obtain⟨Hbe,Hber,HO,Hq,Hst,HW0,Hpb⟩:=hid7 hbe hber hO hq hst hW0 hpb;clear hpb hW0 hst hq hO hber hbe;go_enter Tryz.func180,Tryz.ntmps180;go_wp2_with fail;rw [<-HW0.out];refine(Htm.out _ Hst.out.kp).mono ?_;rintro e w1 ⟨rfl,hk1⟩;have hcb1:=Hst.out.keep0 hk1;have hpb1:=Ac Hpb.out hk1 (by simp);have t1:=Aa hcb1.t 1;have sp0:=Aa hcb1.s 0;have sp1:=Aa hcb1.s 1;have p0:=Aa hpb1 0;have p1:=Aa hpb1 1;have p2:=Aa hpb1 2;have tl:=lt_of_block hcb1.t;have spl:=lt_of_block hcb1.s;have pl:=lt_of_block hpb1;obtain⟨Hk1,Hcb1,Hpb1⟩:=hid3 hk1 hcb1 hpb1;clear hpb1 hcb1 hk1;go_wp2_with fail
 go_loop [17,18] (λok x=>∃k:Nat,ok= .bool true/\x= .int .i64 (k:Nat)/\k<=n) (λ_ x=>n-(intOf x).toNat)
 case atStart=>exact⟨0,rfl,rfl,Nat.zero_le _⟩
 case round=>
  obtain⟨k,rfl,rfl,hkn⟩:=hrel;by_cases hlt:k<n
  ·have hltI:(k:Int)<(n:Int):=j3;obtain⟨x,hx⟩:=Aj (L:=R) (k:=k) (by rw [HRn.out];exact hlt);obtain⟨gR,oR,he,hc⟩:=(HR.out.keeps Hcb1.out.kp (by simp)).int (k:= .i64) hx;subst he;have hgl:=Ai hc;obtain⟨x0,x1⟩:=HRb.out x (List.mem_of_getElem? hx);have x0I:decide (0<=x)=true:=by simp [x0]
   have x1I:decide (x<=10000000)=true:=by simp [x1]
   have Hx:=Lib.hid hx;clear hx;clear x0 x1;go_wp2
   go_round
   case rel=>exact⟨k+1,rfl,by go_num,by omega⟩
   case measure=>simp [intOf];omega
  ·obtain rfl:n=k:=by omega
   go_wp2_with fail;refine(Hbe.out _ Hcb1.out.kp).mono ?_;rintro e w2 ⟨v2,rfl,hrow2,hf2⟩;obtain⟨a2,m2,rfl⟩:∃a c,v2= .slice a q.bal.length c:=by obtain⟨a,c,h,_⟩:=Ad hrow2;exact⟨a,c,h⟩
   have hcb2:=Hcb1.out.keep0 hf2.1;have hpb2:=Ac Hpb1.out hf2.1 (by simp);obtain⟨hpb3,k3⟩:=Bb hpb2 (.slice a2 q.bal.length m2) (.int .i64 q.cr) (.int .i64 q.du);have hcb3:=hcb2.keep (k3.mono λi _ e=> .inl e);have hrow3:=k3.row hrow2 (λi e h=>by have h':i=w.heap.size+1+1:=h;have:=hf2.2 i e;have:=lt_of_block Hpb1.out;omega);have g2:∀i,(Value.slice a2 q.bal.length m2).ownBlock=some i->w.heap.size+1+1+1+1<i:=λi e=>by have:=hf2.2 i e;have:=lt_of_block Hcb1.out.r2;omega
   clear t1 sp0 sp1 p0 p1 p2 tl spl pl;have p0:=Aa hpb2 0;have p1:=Aa hpb2 1;have p2:=Aa hpb2 2;have pf0:=Ab hpb2 0;have pf1:=Ab hpb2 1;have pf2:=Ab hpb2 2;have pl:=lt_of_block hpb2;rcases Hber.out with⟨hz0,hqr,hql⟩|⟨hz5,hq0⟩
   ·subst hz0;have hO5:=HO.out;rw [if_pos rfl] at hO5;subst hO5;clear HO;obtain⟨B,qc,qd⟩:=q;simp only at hql;obtain⟨hqb,⟨qc0,qc1⟩,_,_,_⟩:=Cc hqr;have hsum:=hqr;simp only [Ps.Ar,scanB,Bool.and_eq_true] at hsum;obtain⟨S0,S1⟩:=(Aw _).1 hsum.1.2;have hBn:B.length=n:=by rw [hql];exact HLn.out
    simp only at hqb qc0 qc1 S0 S1 hrow2 hrow3 hpb3 k3 hcb3 g2⊢;rw [hBn] at hrow2 hrow3 hpb3 k3 hcb3 g2⊢;obtain⟨S,hS⟩:∃S,sumI B=S:=⟨_,rfl⟩;rw [hS] at S0 S1;refine j4k ?_;intro W3 hW3;rw [<-hW3] at hpb3 k3 hcb3 hrow3;have hTot:=λW (hW:Keeps (λ_=>False) W3 W)=>Tv B qc qd a2 m2 n W ((Reads.Ay hrow3).keeps hW (by simp)) hBn j1 hqr;rw [hS] at hTot;refine j4l ?_;intro hS13 hlet te0;obtain⟨Hcb2,Hpb2,Hpb3,K3,Hcb3,Hrow2,Hf2,Hrow3,G2⟩:=hid9 hcb2 hpb2 hpb3 k3 hcb3 hrow2 hf2 hrow3 g2;clear g2 hrow3 hf2 hrow2 hcb3 k3 hpb3 hpb2 hcb2;obtain⟨Hqr,Hql,Hqb,Hsum,HBn,HTot,HS13,Hlet,HS⟩:=hid9 hqr hql hqb hsum hBn hTot hS13 hlet hS;clear hS hlet hS13 hTot hBn hsum hqb hql hqr;go_wp2_with fail;rw [<-hW3];clear p0 p1 p2 pf0 pf1 pf2 pl;refine Ak (c13S w.heap.size fr te due (.slice a2 n m2) qc qd) (.take 0 (.take 1 (.take 2 (.take 3 (.take 4 (.take 5 (.take 6 (.take 7 (.take 9 (.take 10 (.take 11 (.fork 8 (.take 12 (.move 13 (.move 14 .done))) 13 (.move 8 (.take 12 (.move 14 .done))))))))))))))) j4 j4 ?_ ?_
    ·exact HS13.out
    intro w3 hs3 hk3;refine jR ?_;refine Bz ?_ ?_ hs3
    ·skip
     refine j7 ?_;intro K hK
     go_at_call 189
     ((with_reducible refine(HTot.out _ hk3).mono ?_);rintro e w4 ⟨rfl,hk4⟩)
     refine hK.out _ _ (by exact hs3.keep hk4 (by simp)) ?_;clear hK K;refine j5Q ?_;refine j5Q ?_;refine jg ?_;obtain⟨W5,hW5⟩:∃W,W=w4.alloc (.cells #[.int .i64 cy,.int .i64 fr,.int .i64 te,.int .i64 (te+due),.slice none 0 0,.int .i64 S,.int .i64 qc,.int .i64 0,.bool g] 58):=⟨_,rfl⟩;obtain⟨A,hA⟩:∃A,A=w4.heap.size:=⟨_,rfl⟩;have hob5:W5.heap[A]?=some (.cells #[.int .i64 cy,.int .i64 fr,.int .i64 te,.int .i64 (te+due),.slice none 0 0,.int .i64 S,.int .i64 qc,.int .i64 0,.bool g] 58 (0,0)):=by rw [hW5,hA];exact heap_alloc_new _ _
     have hk45:Keeps (λ_=>False) w4 W5:=by rw [hW5];exact Keeps.alloc _ _
     have hk35:=(hk3.nt hk4).nt hk45;have hcb5:=Hcb3.out.keep0 hk35;have hpb5:=Ac Hpb3.out hk35 (by simp);have hrow5:=Hrow3.out.of_keeps hk35;have hA5:w.heap.size+1+1+1+1<A:=by have:=lt_of_block Hcb3.out.r2;have:=hk3.size;have:=hk4.size;omega
     rw [<-hW5,<-hA];clear hs3 hk3 hk4 hk45 hk35 hW5 hA;exact j5R
    ·skip
     refine j7 ?_;intro K hK;refine hK.out _ _ (by exact hs3.keep (S:=λ_=>False) (Keeps.alloc _ _) (by simp)) ?_;clear hK K;refine j5 ?_;have hto4:=HTot.out (w3.alloc (.cells #[.int .i64 0,.int .i64 0,.int .i64 0,.int .i64 0,.slice none 0 0,.int .i64 0,.int .i64 0,.int .i64 0,.bool false] 58)) (hk3.nt (Keeps.alloc _ _));have Hto4:=Lib.hid hto4;clear hto4;refine j7 ?_;intro K hK
     go_at_call 189
     ((with_reducible refine(Hto4.out).mono ?_);rintro e w4 ⟨rfl,hk4⟩)
     have hob4:=Ac (heap_alloc_new w3 (.cells #[.int .i64 0,.int .i64 0,.int .i64 0,.int .i64 0,.slice none 0 0,.int .i64 0,.int .i64 0,.int .i64 0,.bool false] 58)) hk4 (by simp);have hs4:=(hs3.keep (S:=λ_=>False) (Keeps.alloc w3 (.cells #[.int .i64 0,.int .i64 0,.int .i64 0,.int .i64 0,.slice none 0 0,.int .i64 0,.int .i64 0,.int .i64 0,.bool false] 58)) (by simp)).keep hk4 (by simp);refine j4m ?_;intro hob5 k5 of0 oc0 of1 oc1 of2 oc2 of3 oc3 of4 oc4 of5 oc5 of6 oc6 of7 oc7 of8 oc8 ol;obtain⟨W5,hW5⟩:∃W5,W5=(((((((((w4.setCell ⟨w3.heap.size,0,none⟩ (.int .i64 cy)).setCell ⟨w3.heap.size,1,none⟩ (.int .i64 fr)).setCell ⟨w3.heap.size,2,none⟩ (.int .i64 te)).setCell ⟨w3.heap.size,3,none⟩ (.int .i64 (te+due))).setCell ⟨w3.heap.size,4,none⟩ (.slice none 0 0)).setCell ⟨w3.heap.size,5,none⟩ (.int .i64 S)).setCell ⟨w3.heap.size,6,none⟩ (.int .i64 qc)).setCell ⟨w3.heap.size,7,none⟩ (.int .i64 0)).setCell ⟨w3.heap.size,8,none⟩ (.bool g)):=⟨_,rfl⟩;rw [<-hW5] at hob5 k5;have hk35:Keeps (λ_=>False) w3 W5:=((Keeps.alloc (S:=λ_=>False) w3 _).nt hk4).trans (k5.mono λi _ e=> .inr j2L);have hs5:=hs3.keep hk35 (by simp);refine hK.out _ _ (by exact hs4) ?_;clear hK K;refine jm ?_;intro K hK;rw [<-hW5];refine hK.out _ _ (by exact hs5) ?_;clear hK K;refine jg ?_;obtain⟨A,hA⟩:∃A,A=w3.heap.size:=⟨_,rfl⟩;rw [<-hA] at hob5;have hkw5:=hk3.nt hk35;have hcb5:=Hcb3.out.keep0 hkw5;have hpb5:=Ac Hpb3.out hkw5 (by simp);have hrow5:=Hrow3.out.of_keeps hkw5;have hA5:w.heap.size+1+1+1+1<A:=by have:=lt_of_block Hcb3.out.r2;have:=hk3.size;omega
     clear of0 of1 of2 of3 of4 of5 of6 of7 of8 oc0 oc1 oc2 oc3 oc4 oc5 oc6 oc7 oc8 ol;rw [<-hA];clear hs3 hs4 hs5 hk3 hk4 hk35 hkw5 k5 hob4 hW5 hA;exact j5R
   ·subst hz5;subst hq0;have hO5:=HO.out;rw [if_neg j2] at hO5;subst hO5;simp only [ps0,List.length_nil] at *;refine j4r ?_;intro hr9 k9 hr10 k10 hr9' hkf ra0 rb0 ra1 rb1 ra2 rb2 ra3 rb3 ra4 rb4 ra5 rb5 ra6 rb6 ra7 rb7 ra8 rb8 rc0 rd0 rc1 rd1 rc2 rd2;have rl1:=lt_of_block (hcb2).r1;have rl2:=lt_of_block (hcb2).r2;refine j2a ?_;intro Sa0 Sa1 Sa2 Sa3 Sa4 Sa5 Sa6 Sa7 Sa8 Sb0 Sb1 Sb2;obtain⟨Hcb2,Hpb2,Hpb3,K3,Hcb3,Hrow2,Hf2,Hrow3,G2⟩:=hid9 hcb2 hpb2 hpb3 k3 hcb3 hrow2 hf2 hrow3 g2;clear g2 hrow3 hf2 hrow2 hcb3 k3 hpb3 hpb2 hcb2;obtain⟨Hr9,K9,Hr10,K10,Hr9',Hkf⟩:=hid6 hr9 k9 hr10 k10 hr9' hkf;clear hkf hr9' k10 hr10 k9 hr9;go_wp2;refine j0V ?_;intro Sa0' Sa1' Sa2' Sa3' Sa4' Sa5' Sa6' Sa7' Sa8' Sb0' Sb1' Sb2';clear ra0 ra1 ra2 ra3 ra4 ra5 ra6 ra7 ra8 rc0 rc1 rc2;exact bodyPost_ret (v:= .tuple #[.agg #[.int .i64 0,.int .i64 0,.int .i64 0,.int .i64 0,.slice none 0 0,.int .i64 0,.int .i64 0,.int .i64 0,.bool false],.agg #[.slice none 0 0,.int .i64 0,.int .i64 0],.int .i64 5]) j5S rfl ⟨rfl,Hkf.out⟩
def r14R(w:World)(f d:Int)(L:List Ev)(n:Nat)(R:Int)(s c:Value)(wr:World):Prop:=∃(k:Nat) (v:Int),k<=n/\c= .int .i64 (k:Nat)/\s= .int .i64 v/\0<=v/\v<=1000000000000000/\paidS f d (L.drop k) v=R/\Keeps (λ_=>False) w wr
theorem Vq(f d:Int)(L:List Ev)(ad:Option Addr)(cap n:Nat)(w:World)(hr:Reads w 5 (.slice ad n cap) n (L.flatMap Ev.cells))(hN:L.length=n)(hn:n<=1000000)(hok:∀x∈L,x.kind=2->0<=x.amount/\x.amount<=1000000000000000):
  Calls Tryz.prog 229 #[.int .i64 f,.int .i64 d,.slice ad n cap] w λe w'=>e= .returned (.tuple #[.int .i64 (paidS f d L 0),.int .i64 0])/\Keeps (λ_=>False) w w':=by
 obtain⟨R,hR⟩:∃R,paidS f d L 0=R:=⟨_,rfl⟩;rw [hR];obtain⟨Hr,HN,Hok,HR⟩:=hid4 hr hN hok hR;clear hR hok hN hr;go_enter Tryz.func229,Tryz.ntmps229;go_wp2
 go_loopw [8,9] (λs c wr=>r14R w f d L n R s c wr) (λ_ c _=>n-(intOf c).toNat)
 case atStart=>
  unfold r14R;exact⟨0,0,Nat.zero_le _,rfl,rfl,Int.le_refl _,by decide,HR.out,Keeps.refl _ _⟩
 case round=>
  unfold r14R at hrel;obtain⟨k,s,hkn,rfl,rfl,s0,s1,hR2,hk⟩:=hrel;by_cases hlt:k<n
  ·have hltI:(k:Int)<(n:Int):=j3;obtain⟨x,hx⟩:=Aj (L:=L) (k:=k) jw;obtain⟨g,o,c,he,hc⟩:=(Hr.out.keeps hk (by simp)).elem Ev.Aq hx j2;simp only [Value.slice.injEq,true_and] at he;obtain⟨rfl,rfl⟩:=he;have hok1:=Hok.out x (List.mem_of_getElem? hx);obtain⟨ki,da,tr,am,re⟩:=x;have x0:wr.cell? ⟨g,o+k*5,none⟩=some (.int .i64 ki):=hc 0 j2;have x1:wr.cell? ⟨g,o+k*5+1,none⟩=some (.int .i64 da):=hc 1 j2;have x2:wr.cell? ⟨g,o+k*5+2,none⟩=some (.int .i64 tr):=hc 2 j2;have x3:wr.cell? ⟨g,o+k*5+3,none⟩=some (.int .i64 am):=hc 3 j2;have x4:wr.cell? ⟨g,o+k*5+4,none⟩=some (.int .i64 re):=hc 4 j2;have xl:=Ai x0;simp only at hok1;clear hc;obtain⟨Hk,Hx,HR2⟩:=hid3 hk hx hR2;clear hR2 hx hk;by_cases e1:ki=2
   ·subst e1;obtain⟨a0,a1⟩:=hok1 rfl;by_cases e2:da<f
    ·skip
     exact j2M
    ·by_cases e3:d<da
     ·skip
      exact j2M
     ·have a0I:¬am<0:=j3;have a1I:¬1000000000000000<am:=j3;rcases Int.lt_trichotomy (s+am) 1000000000000000 with m2|m2|m2
      ·skip
       have hst:paidS f d (L.drop (k+1)) (s+am)=R:=by rw [<-HR2.out,Br Hx.out];simp only [paidS];rw [if_pos jY];congr 1;unfold minI;split<;>omega
       have Hst:=Lib.hid hst;clear hst;go_wp2;go_roundw
       case rel=>
        unfold r14R;exact⟨k+1,s+am,by omega,by go_num,rfl,by omega,by omega,Hst.out,Hk.out.trans (Keeps.alloc _ _)⟩
       case measure=>simp [intOf];omega
      ·exact j5T
      ·exact j5T
   ·have e1I:(ki==2)=false:=beq_eq_false_iff_ne.2 e1;exact j2M
  ·obtain rfl:k=n:=by omega
   have hge:¬(k:Int)<(k:Int):=j3;rw [List.drop_eq_nil_of_le j0f] at hR2;simp only [paidS] at hR2;subst hR2;have Hk:=Lib.hid hk;clear hk;go_wp2
   go_ret2
   exact⟨rfl,Hk.out⟩
theorem Xr(owed f d:Int)(L:List Ev)(ad:Option Addr)(cap n:Nat)(w:World)(hr:Reads w 5 (.slice ad n cap) n (L.flatMap Ev.cells))(hN:L.length=n)(hn:n<=1000000)(hok:∀x∈L,x.kind=2->0<=x.amount/\x.amount<=1000000000000000):
  Calls Tryz.prog 178 #[.int .i64 owed,.int .i64 f,.int .i64 d,.slice ad n cap] w λe w'=>e= .returned (.tuple #[.bool (hasB owed f d L),.int .i64 0])/\Keeps (λ_=>False) w w':=by
 have hp:=Vq f d L ad cap n w hr hN hn hok;unfold hasB;obtain⟨p,hpp⟩:∃p,paidS f d L 0=p:=⟨_,rfl⟩;rw [hpp] at hp⊢;obtain⟨b1,h1⟩:∃b,decide (owed<=0)=b:=⟨_,rfl⟩;obtain⟨b2,h2⟩:∃b,decide (owed<=p)=b:=⟨_,rfl⟩;rw [h1,h2];obtain⟨Hr,HN,Hok,Hp,Hpp⟩:=hid5 hr hN hok hp hpp;clear hpp hp hok hN hr;rcases b1 with _|_<;>rcases b2 with _|_
 all_goals
  go_enter Tryz.func178,Tryz.ntmps178;go_wp2_with fail;refine Hp.out.mono ?_;rintro e w1 ⟨rfl,hk1⟩;have Hk1:=Lib.hid hk1;clear hk1;go_wp2
  go_ret2
  exact⟨rfl,Hk1.out⟩
theorem Su:∀S:List SI,S.flatMap SI.cells=S.map SI.v
 | []=>rfl
 |x::S=>by rw [List.flatMap_cons,Su S];rfl
def c9S(b5 B:Nat)(li:Int)(vt:Value)(cy du mf mp st:Int)(v1 v2:Value)(W:World):Prop:=W.cell? ⟨b5,0,none⟩=some (.int .i64 li)/\W.cell? ⟨b5,1,none⟩=some vt/\W.cell? ⟨b5,2,none⟩=some (.int .i64 cy)/\W.cell? ⟨b5,3,none⟩=some (.int .i64 du)/\W.cell? ⟨b5,4,none⟩=some (.int .i64 mf)/\W.cell? ⟨b5,5,none⟩=some (.int .i64 mp)/\W.cell? ⟨b5,6,none⟩=some (.int .i64 st)/\W.cell? ⟨B,7,none⟩=some v1/\W.cell? ⟨B,8,none⟩=some v2
theorem c9S.keep{b5 B:Nat}{li:Int}{vt:Value}{cy du mf mp st:Int}{v1 v2:Value}{W W':World}(h:c9S b5 B li vt cy du mf mp st v1 v2 W)(hk:Keeps (λ_=>False) W W'):c9S b5 B li vt cy du mf mp st v1 v2 W':=by
 exact j2o
def c12S(b5 b7 B:Nat)(li:Int)(vt:Value)(cy du mf mp st fr te:Int)(vb:Value)(pc pd:Int)(vr:Value)(W:World):Prop:=W.cell? ⟨b5,0,none⟩=some (.int .i64 li)/\W.cell? ⟨b5,1,none⟩=some vt/\W.cell? ⟨b5,2,none⟩=some (.int .i64 cy)/\W.cell? ⟨b5,3,none⟩=some (.int .i64 du)/\W.cell? ⟨b5,4,none⟩=some (.int .i64 mf)/\W.cell? ⟨b5,5,none⟩=some (.int .i64 mp)/\W.cell? ⟨b5,6,none⟩=some (.int .i64 st)/\W.cell? ⟨b7,0,none⟩=some (.int .i64 fr)/\W.cell? ⟨b7,1,none⟩=some (.int .i64 te)/\
 W.cell? ⟨B,0,none⟩=some vb/\W.cell? ⟨B,1,none⟩=some (.int .i64 pc)/\W.cell? ⟨B,2,none⟩=some (.int .i64 pd)/\W.cell? ⟨B,3,none⟩=some vr
theorem c12S.keep{b5 b7 B:Nat}{li:Int}{vt:Value}{cy du mf mp st fr te:Int}{vb:Value}{pc pd:Int}{vr:Value}{W W':World}(h:c12S b5 b7 B li vt cy du mf mp st fr te vb pc pd vr W)(hk:Keeps (λ_=>False) W W'):c12S b5 b7 B li vt cy du mf mp st fr te vb pc pd vr W':=by
 obtain⟨h1,h2,h3,h4,h5,h6,h7,h8,h9,h10,h11,h12,h13⟩:=h;refine j06 ?_;intro k;exact⟨k h1,k h2,k h3,k h4,k h5,k h6,k h7,k h8,k h9,k h10,k h11,k h12,k h13⟩
structure Clo12(w4 wx:World)(x:Stm)(q:Ps)(b8 b9:Nat)(al:Option Addr)(cl2:Nat)(ab2:Option Addr)(cb2:Nat):Prop where
 h8:wx.heap[b8]?=some (.cells #[.int .i64 x.cycle,.int .i64 x.fr,.int .i64 x.te,.int .i64 x.due,.slice al x.lines.length cl2,.int .i64 x.total,.int .i64 x.credit,.int .i64 x.min,.bool x.grace] 58 (0,0))
 h9:wx.heap[b9]?=some (.cells #[.slice ab2 q.bal.length cb2,.int .i64 q.cr,.int .i64 q.du] 35 (0,0))
 ln:wx.ownsRow 0 92 3 (.slice al x.lines.length cl2) x.lines.length (x.lines.flatMap Ln.cells)
 bn:wx.ownsRow 0 2 1 (.slice ab2 q.bal.length cb2) q.bal.length (q.bal.flatMap i64c)
 ol:∀b,(Value.slice al x.lines.length cl2).ownBlock=some b->w4.heap.size<=b
 ob:∀b,(Value.slice ab2 q.bal.length cb2).ownBlock=some b->w4.heap.size<=b
 kp:Keeps (λ_=>False) w4 wx
 n8:w4.heap.size<=b8
 n9:w4.heap.size<=b9
def c15S(B b9:Nat)(vp vb:Value)(pc pd:Int)(vq:Value)(qc qd:Int)(W:World):Prop:=W.cell? ⟨B,6,none⟩=some vp/\W.cell? ⟨B,0,none⟩=some vb/\W.cell? ⟨B,1,none⟩=some (.int .i64 pc)/\W.cell? ⟨B,2,none⟩=some (.int .i64 pd)/\W.cell? ⟨b9,0,none⟩=some vq/\W.cell? ⟨b9,1,none⟩=some (.int .i64 qc)/\W.cell? ⟨b9,2,none⟩=some (.int .i64 qd)
theorem c15S.keep{B b9:Nat}{vp vb:Value}{pc pd:Int}{vq:Value}{qc qd:Int}{W W':World}{S:Nat->Prop}(h:c15S B b9 vp vb pc pd vq qc qd W)(hk:Keeps S W W')(h1:¬S B)(h2:¬S b9):c15S B b9 vp vb pc pd vq qc qd W':=by
 obtain⟨c0,c1,c2,c3,c4,c5,c6⟩:=h;refine j2p ?_;intro k;exact⟨k h1 c0,k h1 c1,k h1 c2,k h1 c3,k h2 c4,k h2 c5,k h2 c6⟩
def c16S(b8 b9:Nat)(x:Stm)(vl vq:Value)(qc qd:Int)(W:World):Prop:=W.cell? ⟨b8,0,none⟩=some (.int .i64 x.cycle)/\W.cell? ⟨b8,1,none⟩=some (.int .i64 x.fr)/\W.cell? ⟨b8,2,none⟩=some (.int .i64 x.te)/\W.cell? ⟨b8,3,none⟩=some (.int .i64 x.due)/\W.cell? ⟨b8,4,none⟩=some vl/\W.cell? ⟨b8,5,none⟩=some (.int .i64 x.total)/\W.cell? ⟨b8,6,none⟩=some (.int .i64 x.credit)/\W.cell? ⟨b8,7,none⟩=some (.int .i64 x.min)/\W.cell? ⟨b8,8,none⟩=some (.bool x.grace)/\
 W.cell? ⟨b9,0,none⟩=some vq/\W.cell? ⟨b9,1,none⟩=some (.int .i64 qc)/\W.cell? ⟨b9,2,none⟩=some (.int .i64 qd)
theorem c16S.of{b8 b9:Nat}{x:Stm}{vl vq:Value}{qc qd:Int}{W:World}(h8:W.heap[b8]?=some (.cells #[.int .i64 x.cycle,.int .i64 x.fr,.int .i64 x.te,.int .i64 x.due,vl,.int .i64 x.total,.int .i64 x.credit,.int .i64 x.min,.bool x.grace] 58 (0,0)))(h9:W.heap[b9]?=some (.cells #[vq,.int .i64 qc,.int .i64 qd] 35 (0,0))):c16S b8 b9 x vl vq qc qd W:=
 ⟨Aa h8 0,Aa h8 1,Aa h8 2,Aa h8 3,Aa h8 4,Aa h8 5,Aa h8 6,Aa h8 7,Aa h8 8,Aa h9 0,Aa h9 1,Aa h9 2⟩
theorem c16S.keep{b8 b9:Nat}{x:Stm}{vl vq:Value}{qc qd:Int}{W W':World}{S:Nat->Prop}(h:c16S b8 b9 x vl vq qc qd W)(hk:Keeps S W W')(h2:¬S b8)(h3:¬S b9):c16S b8 b9 x vl vq qc qd W':=by
 obtain⟨c1,c2,c3,c4,c5,c6,c7,c8,c9,d0,d1,d2⟩:=h;refine j2p ?_;intro k;exact⟨k h2 c1,k h2 c2,k h2 c3,k h2 c4,k h2 c5,k h2 c6,k h2 c7,k h2 c8,k h2 c9,k h3 d0,k h3 d1,k h3 d2⟩
theorem Mw{W:World}{a b:Nat}{C D:Array Value}{e f:TypeId}(h:W.heap[a]?=some (.cells C e (0,0)))(h':W.heap[b]?=some (.cells D f (0,0)))(hne:e≠f):a≠b:=λx=>by
 subst x;rw [h] at h';injection h' with h';injection h' with _ h' _;exact hne h'
theorem DocV.rez{w0 Z Y:World}{B:Nat}{p:Ps}{R:List Int}{E:Nat->List (List Int)}{vb vr vo vp:Value}{vs:Nat->Value}{F:Nat->List SI}{P:List SV}{m:Nat}{Q:List Value}{W:World}(h:DocV w0 Y B p R E vb vr vo vp vs F P m Q W)(hz:DocK Z Y):DocV w0 Z B p R E vb vr vo vp vs F P m Q W:={ h with fz:=λi c e f h0 hne=>h.fz i c e f (hz i c e f h0 hne) hne }
theorem DocV.put2{w0 Z:World}{B:Nat}{p:Ps}{R:List Int}{E:Nat->List (List Int)}{vb vr vo vp:Value}{vs:Nat->Value}{F:Nat->List SI}{P:List SV}{m:Nat}{Q:List Value}{W W2 W':World}(h:DocV w0 Z B p R E vb vr vo vp vs F P m Q W){p':Ps}{vb' vo':Value}{P':List SV}(hk0:Keeps (λ_=>False) W W2)(hk:Keeps (λi=>i=B\/vo.ownBlock=some i\/vp.ownBlock=some i) W2 W')
  (hb:W'.heap[B]?=some (.cells #[vb',.int .i64 p'.cr,.int .i64 p'.du,vr,vo',vs 0,vp,vs 1,vs 2] 115 (0,0)))
  (hvb:W'.ownsRow 0 2 1 vb' p'.bal.length (p'.bal.flatMap i64c)) (hvo:W'.ownsRow 0 58 9 vo' P'.length (P'.flatMap SV.cells))
  (hln:∀x∈P',W'.ownsRow 0 92 3 x.v x.s.lines.length (x.s.lines.flatMap Ln.cells)) (hvp:W'.ownsRow 0 97 2 vp m Q)
  (hdb:∀a,a<3->∀x∈F a,∀g,x.v.ownBlock=some g->vb'.ownBlock≠some g) (hwb:∀b,vb'.ownBlock=some b->w0.heap.size<=b) (hwo:∀b,vo'.ownBlock=some b->w0.heap.size<=b) (ql:∀x∈P',∀b,x.v.ownBlock=some b->w0.heap.size<=b):
  DocV w0 Z B p' R E vb' vr vo' vp vs F P' m Q W':=by
 have h2:=h.keep0 hk0
 exact { h2 with
  blk:=hb
  bal:=hvb
  rts:=h.rowk hk0 hk h2.rts j2 j2 j2
  out:=hvo
  ln:=hln
  pst:=hvp
  o:=λa ha=>h.rowk hk0 hk (h2.o a ha) j2 j2 j2
  i:=λa ha x hx=>h.rowk hk0 hk (h2.i a ha x hx) j2 j2 j2
  db:=λa ha x hx g hg=>⟨hdb a ha x hx g hg,(h.db a ha x hx g hg).2⟩
  wb:=hwb
  wo:=hwo
  wl:=ql
  kp:=h2.kp.trans (hk.mono λi _ e=> .inr (by
   rcases e with e|e|e
   ·rw [e];exact h.wB
   ·exact h.wo i e
   ·exact h.wp i e))
  fz:=h2.fz.step hk (λi e=>by
   rcases e with rfl|e|e
   ·exact⟨_,_,_,h2.blk,.inl rfl⟩
   ·obtain⟨c,fz,hc⟩:=Dm h2.out e;exact⟨c,_,fz,hc,.inr (.inr (.inr (.inl rfl)))⟩
   ·obtain⟨c,fz,hc⟩:=Dm h2.pst e;exact⟨c,_,fz,hc,.inr (.inr (.inr (.inr rfl)))⟩) }
def DocClosed(w0 Z:World)(B n:Nat)(E:Nat->List (List Int))(vr:Value)(vs:Nat->Value)(F:Nat->List SI)(m:Nat)(W:World)(C:Option St)(e:Ending)(W':World):Prop:=match C with
 |none=>e= .returned (.int .i64 5)/\Keeps (λ_=>False) W W'
 |some s'=>e= .returned (.int .i64 0)/\∃vb' vo' vp' v1 v2 P' m' Q',DocC w0 Z B s'.p s'.R E vb' vr vo' vp' vs F P' m' Q' n n v1 v2 W'/\P'.map SV.s=s'.out/\m'<=m+(n+2)
end Go.Proofs.YtgfkeeicjjbnpaaGreat
