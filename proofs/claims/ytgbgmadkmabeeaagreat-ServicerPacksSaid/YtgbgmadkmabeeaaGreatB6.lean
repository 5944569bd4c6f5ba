/- Part 6 of what the laws of this seat share: walks of functions, and plain laws. -/
import Derived.Test.YtgbgmadkmabeeaaGreatB5
set_option maxRecDepth 100000
set_option maxHeartbeats 6400000
namespace Go.Proofs.YtgbgmadkmabeeaaGreat
open Go.RowKit
theorem Yy(t:Tm)(v:Value)(cy fr te:Int)(L X R:List Int)(cr du:Int)(ad adX adR:Option Addr)(cap cX cR n:Nat)(g:Bool)(w:World)(hz:t.err=0)(hn:t.trs.length=n)(hr:Reads w 2 v n (t.trs.flatMap Tn.cells))
  (hcy:1<=cy/\cy<=300) (hsp: -135140<=fr/\fr<=te/\te<=2932896) (hL:Reads w 1 (.slice ad n cap) n (L.flatMap i64c)) (hLn:L.length=n) (hX:Reads w 1 (.slice adX n cX) n (X.flatMap i64c)) (hXn:X.length=n) (hR:Reads w 1 (.slice adR n cR) n (R.flatMap i64c)) (hRn:R.length=n)
  (hright:Ps.Bg ⟨L,cr,du⟩=true) (hXb:X.all Br=true) (hRb:∀x∈R,0<=x/\x<=10000000):
  Calls Tryz.prog 221 #[.agg #[.int .i64 t.limit,v,.int .i64 t.cyc,.int .i64 t.due,.int .i64 t.minFixed,.int .i64 t.minPart,.int .i64 t.start],.int .i64 cy,.agg #[.int .i64 fr,.int .i64 te],.agg #[.slice ad n cap,.int .i64 cr,.int .i64 du],.slice adR n cR,.slice adX n cX,.bool g] w (Ff (Ma t cy fr te ⟨L,cr,du⟩ R X g) w):=by
 obtain⟨i0,hi,hi0,hi1,hi2⟩:=info_parts Ub;have hnum:=Fg hz;rw [hn] at hnum;obtain⟨⟨l0,l1⟩,_,_,⟨d0,d1⟩,⟨f0,f1⟩,_⟩:=hnum;have htm:=λW (hW:Keeps (λ_=>False) w W)=>Jz t v W hz j1u j6;have hle:=λW (hW:Keeps (λ_=>False) w W) total h0 h1=>Aaq t v total W hz j1u h0 h1;have hbe:=λW (hW:Keeps (λ_=>False) w W)=>Xz L X cr du ad adX cap cX n n W (hL.keeps hW (by simp)) hLn j6 (hX.keeps hW (by simp)) hXn j6;have hber:=Qp hright (show X.length=(Ps.mk L cr du).bal.length by rw [hXn];exact hLn.symm) hXb;obtain⟨O,hO⟩:∃O,Ma t cy fr te ⟨L,cr,du⟩ R X g=O:=⟨_,rfl⟩;rw [hO];unfold Ma at hO;obtain⟨⟨q,z⟩,hq⟩:∃q,bearR ⟨L,cr,du⟩ X=q:=⟨_,rfl⟩;rw [hq] at hbe hber hO;simp only at hbe hber hO;obtain⟨li,cyc,due,mf,mp,st,TL⟩:=t;dsimp only at *;obtain⟨adT,cT,rfl⟩:∃a c,v= .slice a n c:=by obtain⟨a,c,h,_⟩:=hr;exact⟨a,c,h⟩
 have hst:=CB.start #[.int .i64 li,.slice adT n cT,.int .i64 cyc,.int .i64 due,.int .i64 mf,.int .i64 mp,.int .i64 st] #[.int .i64 fr,.int .i64 te] #[.slice ad n cap,.int .i64 cr,.int .i64 du] w;obtain⟨W0,hW0⟩:∃W0,W0=((((((w.alloc (.cells #[.int .i64 li,.slice adT n cT,.int .i64 cyc,.int .i64 due,.int .i64 mf,.int .i64 mp,.int .i64 st] 44)).alloc (.cells #[.int .i64 fr,.int .i64 te] 57)).alloc (.cells #[.slice ad n cap,.int .i64 cr,.int .i64 du] 52)).alloc (.cells #[.int .i64 0,.int .i64 0,.int .i64 0,.int .i64 0,.slice none 0 0,.int .i64 0,.int .i64 0,.int .i64 0,.bool false] 60)).alloc (.cells #[.slice none 0 0,.int .i64 0,.int .i64 0] 52)).alloc (.cells #[.int .i64 0,.int .i64 0,.int .i64 0,.int .i64 0,.slice none 0 0,.int .i64 0,.int .i64 0,.int .i64 0,.bool false] 60)):=⟨_,rfl⟩;have hpb:W0.heap[w.heap.size+1+1]?=some (.cells #[.slice ad n cap,.int .i64 cr,.int .i64 du] 52 (0,0)):=by rw [hW0];exact Ar (Ar (Ar (Av _ _ (by simp)) _) _) _
 have hob:W0.heap[w.heap.size+1+1+1+1+1]?=some (.cells #[.int .i64 0,.int .i64 0,.int .i64 0,.int .i64 0,.slice none 0 0,.int .i64 0,.int .i64 0,.int .i64 0,.bool false] 60 (0,0)):=by rw [hW0];exact Av _ _ (by simp)
 rw [<-hW0] at hst;obtain⟨c0,c1⟩:=hcy;obtain⟨s0,s1,s2⟩:=hsp;have hnn:((n:Int) !=(n:Int))=false:=by simp
 have c0I:decide (cy<1)=false:=by rw [decide_eq_false_iff_not];omega
 have c1I:decide (300<cy)=false:=by rw [decide_eq_false_iff_not];omega
 have s1I:decide (te<fr)=false:=by rw [decide_eq_false_iff_not];omega
 obtain⟨Hz,Hn,Hr,HL,HLn,HX,HXn,HR,HRn⟩:=hid9 hz hn hr hL hLn hX hXn hR hRn;clear hRn hR hXn hX hLn hL hr hn hz;obtain⟨Hright,HXb,HRb,Hi,Hi0,Hi1,Hi2,Htm,Hle⟩:=hid9 hright hXb hRb hi hi0 hi1 hi2 htm hle;clear hle htm hi2 hi1 hi0 hi hRb hXb hright;obtain⟨Hbe,Hber,HO,Hq,Hst,HW0,Hpb,Hob⟩:=hid8 hbe hber hO hq hst hW0 hpb hob;clear hob hpb hW0 hst hq hO hber hbe;go_enter Tryz.func221,Tryz.ntmps221;go_wp2_with fail;refine Ay 0 rfl ?_;go_wp2_with fail;rw [<-HW0.out];refine(Htm.out _ Hst.out.kp).mono ?_;rintro e w1 ⟨rfl,hk1⟩;have hcb1:=Hst.out.keep0 hk1;have hpb1:=Ad Hpb.out hk1 (by simp);have hob1:=Ad Hob.out hk1 (by simp);have t1:=Aa hcb1.t 1;have sp0:=Aa hcb1.s 0;have sp1:=Aa hcb1.s 1;have p0:=Aa hpb1 0;have p1:=Aa hpb1 1;have p2:=Aa hpb1 2;have tl:=lt_of_block hcb1.t;have spl:=lt_of_block hcb1.s;have pl:=lt_of_block hpb1;have hd1:=λW=>Xh fr W s0 j6;have hd2:=λW=>Xh te W j6 s2;obtain⟨Hk1,Hcb1,Hpb1,Hob1,Hd1,Hd2⟩:=hid6 hk1 hcb1 hpb1 hob1 hd1 hd2;clear hd2 hd1 hob1 hpb1 hcb1 hk1
 go_wp2_with (first|(go_at_call 255;(with_reducible refine(Hd1.out _).mono ?_);rintro e w2 ⟨rfl,rfl⟩)|(go_at_call 255;(with_reducible refine(Hd2.out _).mono ?_);rintro e w2 ⟨rfl,rfl⟩))
 go_loop [71] (λx=>∃k:Nat,x= .int .i64 (k:Nat)/\k<=n) (λx=>n-(intOf x).toNat)
 case atStart=>exact⟨0,rfl,Nat.zero_le _⟩
 case round=>
  obtain⟨k,rfl,hkn⟩:=hrel;by_cases hlt:k<n
  ·have hltI:(k:Int)<(n:Int):=j8;obtain⟨x,hx⟩:=Aq (L:=R) (k:=k) (by rw [HRn.out];exact hlt);obtain⟨gR,oR,he,hc⟩:=(HR.out.keeps Hcb1.out.kp (by simp)).int (k:= .i64) hx;subst he;have hgl:=Ah hc;obtain⟨x0,x1⟩:=HRb.out x (List.mem_of_getElem? hx);have x0I:decide (x<0)=false:=by rw [decide_eq_false_iff_not];omega
   have x1I:decide (10000000<x)=false:=by rw [decide_eq_false_iff_not];omega
   have Hx:=Lib.hid hx;clear hx;clear x0 x1;go_wp2
   go_round
   case rel=>exact⟨k+1,by go_num,by omega⟩
   case measure=>simp [intOf];omega
  ·obtain rfl:n=k:=by omega
   go_wp2_with fail;refine(Hbe.out _ Hcb1.out.kp).mono ?_;rintro e w2 ⟨v2,rfl,hrow2,hf2⟩;obtain⟨a2,m2,rfl⟩:∃a c,v2= .slice a q.bal.length c:=by obtain⟨a,c,h,_⟩:=Ae hrow2;exact⟨a,c,h⟩
   have hcb2:=Hcb1.out.keep0 hf2.1;have hpb2:=Ad Hpb1.out hf2.1 (by simp);have hob2:=Ad Hob1.out hf2.1 (by simp);obtain⟨hpb3,k3⟩:=Bt hpb2 (.slice a2 q.bal.length m2) (.int .i64 q.cr) (.int .i64 q.du);have hcb3:=hcb2.keep (k3.mono λi _ e=> .inl e);have hob3:=Ad hob2 k3 j6;have hrow3:=k3.row hrow2 (λi e h=>by have h':i=w.heap.size+1+1:=h;have:=hf2.2 i e;have:=lt_of_block Hpb1.out;omega);have g2:∀i,(Value.slice a2 q.bal.length m2).ownBlock=some i->w.heap.size+1+1+1+1+1<i:=λi e=>by have:=hf2.2 i e;have:=lt_of_block Hob1.out;omega
   clear t1 sp0 sp1 p0 p1 p2 tl spl pl;have p0:=Aa hpb2 0;have p1:=Aa hpb2 1;have p2:=Aa hpb2 2;have pf0:=Ab hpb2 0;have pf1:=Ab hpb2 1;have pf2:=Ab hpb2 2;have pl:=lt_of_block hpb2;rcases Hber.out with⟨hz0,hqr,hql⟩|⟨hz5,hq0⟩
   ·subst hz0;have hO5:=HO.out;rw [if_pos rfl] at hO5;subst hO5;clear HO;obtain⟨B,qc,qd⟩:=q;simp only at hql;obtain⟨hqb,⟨qc0,qc1⟩,_,_,_⟩:=Ey hqr;have hsum:=hqr;simp only [Ps.Bg,scanB,Bool.and_eq_true] at hsum;obtain⟨S0,S1⟩:=(Bi _).1 hsum.1.2;have hBn:B.length=n:=by rw [hql];exact HLn.out
    have hT:=λW (hW:Keeps (λ_=>False) w2 W)=>Jj ⟨B,qc,qd⟩ a2 m2 W ((Reads.Az hrow2).keeps hW (by simp)) (by show B.length<=1000;omega);simp only [Ps.val] at hT;rw [hqr] at hT;simp only [if_true] at hT;simp only at hqb qc0 qc1 S0 S1 hrow2 hrow3 hpb3 k3 hcb3 hob3 g2⊢;rw [hBn] at hT hrow2 hrow3 hpb3 k3 hcb3 hob3 g2⊢;obtain⟨S,hS⟩:∃S,sumI B=S:=⟨_,rfl⟩;rw [hS] at hT S0 S1;obtain⟨W3,hW3⟩:∃W3,W3=(((w2.setCell ⟨w.heap.size+1+1,0,none⟩ (.slice a2 n m2)).setCell ⟨w.heap.size+1+1,1,none⟩ (.int .i64 qc)).setCell ⟨w.heap.size+1+1,2,none⟩ (.int .i64 qd)):=⟨_,rfl⟩;rw [<-hW3] at hpb3 k3 hcb3 hob3 hrow3;have hTot:=λW (hW:Keeps (λ_=>False) W3 W)=>Jj ⟨B,qc,qd⟩ a2 m2 W (by show Reads W 1 (.slice a2 B.length m2) B.length _;rw [hBn];exact(Reads.Az hrow3).keeps hW (by simp)) (by show B.length<=1000;omega);simp only [Ps.val] at hTot;rw [hqr] at hTot;simp only [if_true] at hTot;rw [hBn,hS] at hTot;have hS13:c13S w.heap.size fr te due (.slice a2 n m2) qc qd W3.drew:=(show c13S w.heap.size fr te due (.slice a2 n m2) qc qd W3 from⟨Aa hcb3.s 0,Aa hcb3.s 1,Aa hcb3.t 3,Aa hpb3 0,Aa hpb3 1,Aa hpb3 2⟩).keep (S:=λ_=>False) (Keeps.drew _) (by simp);have hlet:=Hle.out;have te0:IntKind.i64.wrap (te+due)=te+due:=IntWalk.i64_in _ ⟨by omega,by omega⟩;clear hT;obtain⟨Hcb2,Hpb2,Hob2,Hpb3,K3,Hcb3,Hob3,Hrow2,Hf2⟩:=hid9 hcb2 hpb2 hob2 hpb3 k3 hcb3 hob3 hrow2 hf2;clear hf2 hrow2 hob3 hcb3 k3 hpb3 hob2 hpb2 hcb2;obtain⟨Hrow3,G2,Hqr,Hql,Hqb,Hsum,HBn,HTot,HS13⟩:=hid9 hrow3 g2 hqr hql hqb hsum hBn hTot hS13;clear hS13 hTot hBn hsum hqb hql hqr g2 hrow3;obtain⟨Hlet,HS⟩:=hid2 hlet hS;clear hS hlet;go_wp2_with fail;rw [<-hW3];clear p0 p1 p2 pf0 pf1 pf2 pl;refine Al (c13S w.heap.size fr te due (.slice a2 n m2) qc qd) (.take 0 (.take 1 (.take 2 (.take 3 (.take 4 (.take 5 (.take 6 (.take 7 (.take 9 (.take 10 (.take 11 (.move 8 (.take 12 (.move 13 .done)))))))))))))) j9 j9 ?_ ?_
    ·exact HS13.out
    intro w3 hs3 hk3;refine je ?_;intro K hK
    go_at_call 170
    ((with_reducible refine(HTot.out _ hk3).mono ?_);rintro e w4 ⟨rfl,hk4⟩;dsimp only)
    refine hK.out _ _ (by exact hs3.keep hk4 (by simp)) ?_;clear hK K;refine jh ?_;have hk34:=hk3.nt hk4;have hcb4:=Hcb3.out.keep0 hk34;have hpb4:=Ad Hpb3.out hk34 (by simp);have hob4:=Ad Hob3.out hk34 (by simp);have hrow4:=Hrow3.out.of_keeps hk34;obtain⟨hob5,k5⟩:=Kb hob4 (.int .i64 cy) (.int .i64 fr) (.int .i64 te) (.int .i64 (te+due)) (.slice none 0 0) (.int .i64 S) (.int .i64 qc) (.int .i64 0) (.bool g);have of0:=Ab hob4 0;have oc0:=Aa hob4 0;have of1:=Ab hob4 1;have oc1:=Aa hob4 1;have of2:=Ab hob4 2;have oc2:=Aa hob4 2;have of3:=Ab hob4 3;have oc3:=Aa hob4 3;have of4:=Ab hob4 4;have oc4:=Aa hob4 4;have of5:=Ab hob4 5;have oc5:=Aa hob4 5;have of6:=Ab hob4 6;have oc6:=Aa hob4 6;have of7:=Ab hob4 7;have oc7:=Aa hob4 7;have of8:=Ab hob4 8;have oc8:=Aa hob4 8;have ol:=lt_of_block hob4;have hs5:=(hs3.keep hk4 (by simp)).keep k5 (λi e=>by have e':i=w.heap.size+1+1+1+1+1:=e;omega);obtain⟨W5,hW5⟩:∃W5,W5=(((((((((w4.setCell ⟨w.heap.size+1+1+1+1+1,0,none⟩ (.int .i64 cy)).setCell ⟨w.heap.size+1+1+1+1+1,1,none⟩ (.int .i64 fr)).setCell ⟨w.heap.size+1+1+1+1+1,2,none⟩ (.int .i64 te)).setCell ⟨w.heap.size+1+1+1+1+1,3,none⟩ (.int .i64 (te+due))).setCell ⟨w.heap.size+1+1+1+1+1,4,none⟩ (.slice none 0 0)).setCell ⟨w.heap.size+1+1+1+1+1,5,none⟩ (.int .i64 S)).setCell ⟨w.heap.size+1+1+1+1+1,6,none⟩ (.int .i64 qc)).setCell ⟨w.heap.size+1+1+1+1+1,7,none⟩ (.int .i64 0)).setCell ⟨w.heap.size+1+1+1+1+1,8,none⟩ (.bool g)):=⟨_,rfl⟩;rw [<-hW5] at hob5 k5;have hcb5:=hcb4.keep (k5.mono λi _ e=> .inr j1w);have hpb5:=Ad hpb4 k5 j6;have hrow5:=k5.row hrow4 (λi hi e=>by have e':i=w.heap.size+1+1+1+1+1:=e;have:=G2.out i hi;omega);have hle5:=Hlet.out W5 hcb5.kp S S0 S1;obtain⟨M,hM⟩:∃M,Ll mf mp S=M:=⟨_,rfl⟩;have hMb:=Ww (mf:=mf) (mp:=mp) S0 f0;rw [hM] at hle5 hMb;obtain⟨M0,M1⟩:=hMb;have t0:=Aa hcb5.t 0;have t1:=Aa hcb5.t 1;have t2:=Aa hcb5.t 2;have t3:=Aa hcb5.t 3;have t4:=Aa hcb5.t 4;have t5:=Aa hcb5.t 5;have t6:=Aa hcb5.t 6;have tl:=lt_of_block hcb5.t;have o5:=Aa hob5 5;have ol5:=lt_of_block hob5;obtain⟨Hk3,Hk4,Hk34,Hcb4,Hpb4,Hob4,Hrow4,Hob5,K5⟩:=hid9 hk3 hk4 hk34 hcb4 hpb4 hob4 hrow4 hob5 k5;clear k5 hob5 hrow4 hob4 hpb4 hcb4 hk34 hk4 hk3;obtain⟨Hs5,Hcb5,Hpb5,Hrow5,Hle5,HM,Hs3⟩:=hid7 hs5 hcb5 hpb5 hrow5 hle5 hM hs3;clear hs3 hM hle5 hrow5 hpb5 hcb5 hs5;refine jc ?_;intro K hK;refine hK.out _ _ (by exact Hs5.out) ?_;clear hK K;refine jt ?_;rw [<-hW5];have HW5:=Lib.hid hW5;clear hW5 of0 of1 of2 of3 of4 of5 of6 of7 of8 oc0 oc1 oc2 oc3 oc4 oc5 oc6 oc7 oc8 ol;go_wp2_with fail;refine Hle5.out.mono ?_;rintro e w6 ⟨rfl,hk6⟩;clear t0 t1 t2 t3 t4 t5 t6 tl o5 ol5;have hcb6:=Hcb5.out.keep0 hk6;have hpb6:=Ad Hpb5.out hk6 (by simp);have hob6:=Ad Hob5.out hk6 (by simp);have hrow6:=Hrow5.out.of_keeps hk6;have o7:=Aa hob6 7;have of7:=Ab hob6 7;have ol:=lt_of_block hob6;have p0:=Aa hpb6 0;have p2:=Aa hpb6 2;have pf2:=Ab hpb6 2;have pl:=lt_of_block hpb6;have k7a:Keeps (λi=>i=w.heap.size+1+1+1+1+1) w6 (w6.setCell ⟨w.heap.size+1+1+1+1+1,7,none⟩ (.int .i64 M)):=Keeps.setCell _ _ _ rfl;have k7b:Keeps (λi=>i=w.heap.size+1+1) (w6.setCell ⟨w.heap.size+1+1+1+1+1,7,none⟩ (.int .i64 M)) ((w6.setCell ⟨w.heap.size+1+1+1+1+1,7,none⟩ (.int .i64 M)).setCell ⟨w.heap.size+1+1,2,none⟩ (.int .i64 M)):=Keeps.setCell _ _ _ rfl
    have hob7:=Ad ((heap_setCell_same _ _ 7 _ _ (.int .i64 M) hob6).trans rfl) k7b j6;have hpb7:=(heap_setCell_same _ _ 2 _ _ (.int .i64 M) (Ad hpb6 k7a j6)).trans rfl;have hcb7:=(hcb6.keep (k7a.mono λi _ e=> .inr j1w)).keep (k7b.mono λi _ e=> .inl e);have hrow7:=k7b.row (k7a.row hrow6 (λi hi e=>by have e':i=w.heap.size+1+1+1+1+1:=e;have:=G2.out i hi;omega)) (λi hi e=>by have e':i=w.heap.size+1+1:=e;have:=G2.out i hi;omega);obtain⟨W7,hW7⟩:∃W7,W7=((w6.setCell ⟨w.heap.size+1+1+1+1+1,7,none⟩ (.int .i64 M)).setCell ⟨w.heap.size+1+1,2,none⟩ (.int .i64 M)):=⟨_,rfl⟩;rw [<-hW7] at hob7 hpb7 hcb7 hrow7;obtain⟨Hk6,Hcb6,Hpb6,Hob6,Hrow6,K7a,K7b,Hob7,Hpb7⟩:=hid9 hk6 hcb6 hpb6 hob6 hrow6 k7a k7b hob7 hpb7;clear hpb7 hob7 k7b k7a hrow6 hob6 hpb6 hcb6 hk6;obtain⟨Hcb7,Hrow7⟩:=hid2 hcb7 hrow7;clear hrow7 hcb7;go_wp2;rw [<-hW7];have HW7:=Lib.hid hW7;clear hW7 o7 of7 ol p0 p2 pf2 pl;obtain⟨N,hNN⟩:∃N,lnL B X R=N:=⟨_,rfl⟩;have hNl:N.length=n:=by rw [<-hNN];exact Tv B X R HBn.out HXn.out HRn.out
    have hb7l:w.heap.size+1+1+1+1+1<W7.heap.size:=lt_of_block Hob7.out;obtain⟨HNN,HNl,Hb7l⟩:=hid3 hNN hNl hb7l;clear hb7l hNl hNN
    go_loopw [117] (λx wx=>∃(k:Nat) (vl:Value),x= .int .i64 (k:Nat)/\k<=n/\LnAt W7 (w.heap.size+1+1+1+1+1) cy fr te (te+due) S qc M g N k vl wx) (λx _=>n-(intOf x).toNat)
    case atStart=>exact⟨0,.slice none 0 0,rfl,Nat.zero_le _,⟨Hob7.out,by rw [List.take_zero];exact World.ownsRow_nil _ _ _ _,Keeps.refl _ _,by simp [Value.ownBlock]⟩⟩
    case round=>
     obtain⟨k,vl,rfl,hkn,hla⟩:=hrel;obtain⟨wq,hwq⟩:∃x,x=wr:=⟨_,rfl⟩;subst hwq;have hcb:=Hcb7.out.keep (hla.kp.mono λi _ e=> .inr j1w);have hpb:=Ad Hpb7.out hla.kp j6;obtain⟨av,cv,rfl,hcv,hnv⟩:=Ae hla.row;have hrowB:=hla.kp.row Hrow7.out (λi hi e=>by have e':i=w.heap.size+1+1+1+1+1:=e;have:=G2.out i hi;omega);by_cases hlt:k<n
     ·have hltI:(k:Int)<(n:Int):=j8;obtain⟨bk,hbk⟩:=Aq (L:=B) (k:=k) (by rw [HBn.out];exact hlt);obtain⟨xk,hxk⟩:=Aq (L:=X) (k:=k) (by rw [HXn.out];exact hlt);obtain⟨rk,hrk⟩:=Aq (L:=R) (k:=k) (by rw [HRn.out];exact hlt);have hlk:N[k]?=some ⟨bk,xk,rk⟩:=by rw [<-HNN.out];exact lnL_get hbk hxk hrk
      obtain⟨gB,oB,heB,cB⟩:=(Reads.Az hrowB).int (k:= .i64) hbk;obtain⟨gX,oX,heX,cX0⟩:=(HX.out.keeps hcb.kp (by simp)).int (k:= .i64) hxk;obtain⟨gR,oR,heR,cR0⟩:=(HR.out.keeps hcb.kp (by simp)).int (k:= .i64) hrk;obtain⟨gX1,oX1,heX1,cX1⟩:=HX.out.int (k:= .i64) hxk;obtain⟨gR1,oR1,heR1,cR1⟩:=HR.out.int (k:= .i64) hrk;rw [heX] at heX1;rw [heR] at heR1;simp only [Option.some.injEq,Addr.mk.injEq,and_true] at heX1 heR1;have lX:=Ah cX1;have lR:=Ah cR1;simp only at lX lR;rw [<-heX1.1] at lX;rw [<-heR1.1] at lR;clear cX1 cR1 heX1 heR1;subst heB heX heR;have lB:=Ah cB;have hS19:c19S (w.heap.size+1+1+1+1+1) gX (oX+k) gR (oR+k) (.slice av k cv) xk rk wq.drew:=(show c19S (w.heap.size+1+1+1+1+1) gX (oX+k) gR (oR+k) (.slice av k cv) xk rk wq from⟨Aa hla.blk 4,cX0,cR0⟩).keep (S:=λ_=>False) (Keeps.drew _) (by simp) (by simp) (by simp);have hown0:∀i,(Value.slice av k cv).ownBlock=some i->w.heap.size+1+1+1+1+1<i:=λi e=>by have:=hla.nw i e;have:=Hb7l.out;omega
      clear cX0 cR0;obtain⟨Hla,Hcb,Hpb,HrowB,Hbk,Hxk,Hrk,Hlk,HS19⟩:=hid9 hla hcb hpb hrowB hbk hxk hrk hlk hS19;clear hS19 hlk hrk hxk hbk hrowB hpb hcb hla;obtain⟨Hown0,Hcv,Hnv⟩:=hid3 hown0 hcv hnv;clear hnv hcv hown0;go_wp2_with fail;refine Ci (c19S (w.heap.size+1+1+1+1+1) gX (oX+k) gR (oR+k) (.slice av k cv) xk rk) 15 (.take 0 (.take 1 (.take 2 (.take 3 (.take 4 (.take 5 (.take 6 (.take 7 (.take 8 (.take 9 (.take 10 (.take 11 (.move 12 (.move 13 (.take 14 (.move 15 .done)))))))))))))))) j9 j9 ?_ ?_
      ·exact HS19.out
      intro w8 hs8 hk8;refine j1x ?_;refine Ag rfl (λK hK=> ?_);refine Bv rfl (.tmp 123) (.tmp 134) 58 rfl 0 160 i0 _ 3 24 Tryz.underlying58 Hi.out Hi0.out Hi1.out Hi2.out rfl j7 (.slice av k cv) k _ rfl ((Hla.out.row.of_keeps hk8).of_keeps (Keeps.alloc _ _)) _ 1 _ rfl (Reads.litAt _ _ _ 3 1 _ jq rfl) jg jd j6 (Nat.zero_le _) ?_;intro v9 w9 hown9 hk9 hf9;obtain⟨a9,c9,rfl,_,_⟩:=Ae hown9;have hk8a:=hk8.nt (Keeps.alloc w8 (.cells #[.int .i64 bk,.int .i64 xk,.int .i64 rk] 160));have happ:=Hla.out.app Hb7l.out Hlk.out rfl rfl hk8a hown9 hk9 hf9;have hb9:=Ad (Ad Hla.out.blk hk8a (by simp)) hk9 (λe=>by have:=Hown0.out _ e;omega);have o4:=Aa hb9 4;have of4:=Ab hb9 4;have ol:=lt_of_block hb9;refine hK.out _ _ (by exact(hs8.keep (S:=λ_=>False) (Keeps.alloc _ _) (by simp) (by simp) (by simp)).keep hk9 (λe=>by have:=Hown0.out _ e;omega) (λe=>by have:=Hown0.out _ e;omega) (λe=>by have:=Hown0.out _ e;omega)) ?_;clear hK K;refine ja ?_;obtain⟨Happ,Hb9,Hown9,Hk9,Hk8a,Hk8,Hs8⟩:=hid7 happ hb9 hown9 hk9 hk8a hk8 hs8;clear hs8 hk8 hk8a hk9 hown9 hb9 happ;refine jR ?_;refine jT ?_;clear o4 of4 ol;exact j37
     ·obtain rfl:n=k:=by omega
      have hln:=hla.row;rw [List.take_of_length_le (by rw [HNl.out];exact Nat.le_refl _)] at hln;obtain⟨Hla,Hcb,Hpb,HrowB,Hln,Hcv,Hnv⟩:=hid7 hla hcb hpb hrowB hln hcv hnv;clear hnv hcv hln hrowB hpb hcb hla;go_wp2_with fail;refine Al (c21S (w.heap.size+1+1+1+1+1) (w.heap.size+1+1) cy fr te (te+due) (.slice av n cv) S qc M g (.slice a2 n m2) qc M) (.take 0 (.take 1 (.move 2 (.move 3 (.take 4 .done))))) j9 j9 ?_ ?_
      ·exact c21S.of (Ad Hla.out.blk (Keeps.drew (S:=λ_=>False) _) (by simp)) (Ad Hpb.out (Keeps.drew (S:=λ_=>False) _) (by simp))
      intro w8 hs8 hk8;refine jR ?_;have hcb8:=Hcb.out.keep0 hk8;have hob8:=Ad Hla.out.blk hk8 (by simp);have hpb8:=Ad Hpb.out hk8 (by simp);have ra0:=Aa (hcb8).r1 0;have rb0:=Ab (hcb8).r1 0;have ra1:=Aa (hcb8).r1 1;have rb1:=Ab (hcb8).r1 1;have ra2:=Aa (hcb8).r1 2;have rb2:=Ab (hcb8).r1 2;have ra3:=Aa (hcb8).r1 3;have rb3:=Ab (hcb8).r1 3;have ra4:=Aa (hcb8).r1 4;have rb4:=Ab (hcb8).r1 4;have ra5:=Aa (hcb8).r1 5;have rb5:=Ab (hcb8).r1 5;have ra6:=Aa (hcb8).r1 6;have rb6:=Ab (hcb8).r1 6;have ra7:=Aa (hcb8).r1 7;have rb7:=Ab (hcb8).r1 7;have ra8:=Aa (hcb8).r1 8;have rb8:=Ab (hcb8).r1 8;have rc0:=Aa (hcb8).r2 0;have rd0:=Ab (hcb8).r2 0;have rc1:=Aa (hcb8).r2 1;have rd1:=Ab (hcb8).r2 1;have rc2:=Aa (hcb8).r2 2;have rd2:=Ab (hcb8).r2 2;have rl1:=lt_of_block (hcb8).r1;have rl2:=lt_of_block (hcb8).r2;obtain⟨hr9,k9⟩:=Kb hcb8.r1 (.int .i64 cy) (.int .i64 fr) (.int .i64 te) (.int .i64 (te+due)) (.slice av n cv) (.int .i64 S) (.int .i64 qc) (.int .i64 M) (.bool g);have hs9:=c21S.of (Ad hob8 k9 j6) (Ad hpb8 k9 j6);obtain⟨hr10,k10⟩:=Bt (Ad hcb8.r2 k9 j6) (.slice a2 n m2) (.int .i64 qc) (.int .i64 M);have hs10:=c21S.of (Ad (Ad hob8 k9 j6) k10 j6) (Ad (Ad hpb8 k9 j6) k10 j6);have hr9':=Ad hr9 k10 j6;have hkf:=(hcb8.kp.trans (k9.mono λi _ e=> .inr (by have e':i=w.heap.size+1+1+1:=e;omega))).trans (k10.mono λi _ e=> .inr (by have e':i=w.heap.size+1+1+1+1:=e;omega));have hln8:=k10.row (k9.row (Hln.out.of_keeps hk8) (λi hi e=>by have e':i=w.heap.size+1+1+1:=e;have:=Hla.out.nw i hi;have:=Hb7l.out;omega)) (λi hi e=>by have e':i=w.heap.size+1+1+1+1:=e;have:=Hla.out.nw i hi;have:=Hb7l.out;omega);have hrw8:=k10.row (k9.row (HrowB.out.of_keeps hk8) (λi hi e=>by have e':i=w.heap.size+1+1+1:=e;have:=G2.out i hi;omega)) (λi hi e=>by have e':i=w.heap.size+1+1+1+1:=e;have:=G2.out i hi;omega);refine j38 ?_;intro Sa0 Sa1 Sa2 Sa3 Sa4 Sa5 Sa6 Sa7 Sa8 Sb0 Sb1 Sb2;obtain⟨Hcb8,Hob8,Hpb8,Hr9,K9,Hs9,Hr10,K10,Hs10⟩:=hid9 hcb8 hob8 hpb8 hr9 k9 hs9 hr10 k10 hs10;clear hs10 k10 hr10 hs9 k9 hr9 hpb8 hob8 hcb8;obtain⟨Hr9',Hkf,Hln8,Hrw8,Hk8,Hs8⟩:=hid6 hr9' hkf hln8 hrw8 hk8 hs8;clear hs8 hk8 hrw8 hln8 hkf hr9';refine jc ?_;intro K hK;refine hK.out _ _ (by exact Hs9.out) ?_;clear hK K;refine jh ?_;refine jc ?_;intro K hK;refine hK.out _ _ (by exact Hs10.out) ?_;clear hK K;refine jj ?_;go_wp2;refine Bq ?_;have Sa0':=Sa0.out;have Sa1':=Sa1.out;have Sa2':=Sa2.out;have Sa3':=Sa3.out;have Sa4':=Sa4.out;have Sa5':=Sa5.out;have Sa6':=Sa6.out;have Sa7':=Sa7.out;have Sa8':=Sa8.out;have Sb0':=Sb0.out;have Sb1':=Sb1.out;have Sb2':=Sb2.out;clear ra0 ra1 ra2 ra3 ra4 ra5 ra6 ra7 ra8 rc0 rc1 rc2
      exact bodyPost_ret (v:= .tuple #[.agg #[.int .i64 cy,.int .i64 fr,.int .i64 te,.int .i64 (te+due),.slice av n cv,.int .i64 S,.int .i64 qc,.int .i64 M,.bool g],.agg #[.slice a2 n m2,.int .i64 qc,.int .i64 M],.int .i64 0]) j39 rfl
       ⟨.slice av n cv,.slice a2 n m2,by simp only [HS.out,HM.out],by simp only [HNN.out,HNl.out];exact Hln8.out,by simp only [HBn.out];exact Hrw8.out,Hkf.out,λi hi=>by have:=Hla.out.nw i hi;have:=Hb7l.out;omega,λi hi=>by have:=G2.out i hi;omega⟩
   ·subst hz5;subst hq0;have hO5:=HO.out;rw [if_neg j7] at hO5;subst hO5;simp only [ps0,List.length_nil] at *;have hst9:=Kb hcb3.r1 (.int .i64 0) (.int .i64 0) (.int .i64 0) (.int .i64 0) (.slice none 0 0) (.int .i64 0) (.int .i64 0) (.int .i64 0) (.bool false);obtain⟨hr9,k9⟩:=hst9;have hst3:=Bt (Ad hcb3.r2 k9 j6) (.slice none 0 0) (.int .i64 0) (.int .i64 0);obtain⟨hr10,k10⟩:=hst3;have hr9':=Ad hr9 k10 j6;have hkf:=(hcb3.kp.trans (k9.mono λi _ e=> .inr (by have e':i=w.heap.size+1+1+1:=e;omega))).trans (k10.mono λi _ e=> .inr (by have e':i=w.heap.size+1+1+1+1:=e;omega));have ra0:=Aa (hcb2).r1 0;have rb0:=Ab (hcb2).r1 0;have ra1:=Aa (hcb2).r1 1;have rb1:=Ab (hcb2).r1 1;have ra2:=Aa (hcb2).r1 2;have rb2:=Ab (hcb2).r1 2;have ra3:=Aa (hcb2).r1 3;have rb3:=Ab (hcb2).r1 3;have ra4:=Aa (hcb2).r1 4;have rb4:=Ab (hcb2).r1 4;have ra5:=Aa (hcb2).r1 5;have rb5:=Ab (hcb2).r1 5;have ra6:=Aa (hcb2).r1 6;have rb6:=Ab (hcb2).r1 6;have ra7:=Aa (hcb2).r1 7;have rb7:=Ab (hcb2).r1 7;have ra8:=Aa (hcb2).r1 8;have rb8:=Ab (hcb2).r1 8;have rc0:=Aa (hcb2).r2 0;have rd0:=Ab (hcb2).r2 0;have rc1:=Aa (hcb2).r2 1;have rd1:=Ab (hcb2).r2 1;have rc2:=Aa (hcb2).r2 2;have rd2:=Ab (hcb2).r2 2;have rl1:=lt_of_block (hcb2).r1;have rl2:=lt_of_block (hcb2).r2;refine j38 ?_;intro Sa0 Sa1 Sa2 Sa3 Sa4 Sa5 Sa6 Sa7 Sa8 Sb0 Sb1 Sb2;obtain⟨Hcb2,Hpb2,Hob2,Hpb3,K3,Hcb3,Hob3,Hrow2,Hf2⟩:=hid9 hcb2 hpb2 hob2 hpb3 k3 hcb3 hob3 hrow2 hf2;clear hf2 hrow2 hob3 hcb3 k3 hpb3 hob2 hpb2 hcb2;obtain⟨Hrow3,G2,Hr9,K9,Hr10,K10,Hr9',Hkf⟩:=hid8 hrow3 g2 hr9 k9 hr10 k10 hr9' hkf;clear hkf hr9' k10 hr10 k9 hr9 g2 hrow3;go_wp2;go_step3;go_wp2;refine Au ?_;go_wp2;rw [Exit.noGoto_ret];have Sa0':=Sa0.out;have Sa1':=Sa1.out;have Sa2':=Sa2.out;have Sa3':=Sa3.out;have Sa4':=Sa4.out;have Sa5':=Sa5.out;have Sa6':=Sa6.out;have Sa7':=Sa7.out;have Sa8':=Sa8.out;have Sb0':=Sb0.out;have Sb1':=Sb1.out;have Sb2':=Sb2.out;clear ra0 ra1 ra2 ra3 ra4 ra5 ra6 ra7 ra8 rc0 rc1 rc2;exact bodyPost_ret (v:= .tuple #[.agg #[.int .i64 0,.int .i64 0,.int .i64 0,.int .i64 0,.slice none 0 0,.int .i64 0,.int .i64 0,.int .i64 0,.bool false],.agg #[.slice none 0 0,.int .i64 0,.int .i64 0],.int .i64 5]) j39 rfl ⟨rfl,Hkf.out⟩
def rateB(v:Int):Bool:=outM 10000000 v
theorem Aa6(x:Int)(w:World):Calls Tryz.prog 271 #[.int .i64 x] w λe w'=>e= .returned (.bool (rateB x))/\w=w':=by
 by_cases h1:x<0
 ·have hf:rateB x=true:=by simp [rateB,outM];omega
  have h1I:decide (x<0)=true:=by simp [h1]
  exact j1y
 ·have h1I:decide (x<0)=false:=by simp [h1]
  have hf:rateB x=decide (10000000<x):=by simp [rateB,outM,h1I]
  rcases h2:decide (10000000<x) with _|_
  ·rw [h2] at hf;exact j1y
  ·rw [h2] at hf;exact j1y
theorem Vs(ad:Option Addr)(cap:Nat)(L:List Int)(w:World)(hr:Reads w 1 (.slice ad L.length cap) L.length (L.flatMap i64c))(hl:L.length<=1000):
  Calls Tryz.prog 287 #[.slice ad L.length cap,.func (.func 271) #[] #[]] w λe w'=>∃r:Int,e= .returned (.int .i64 r)/\decide (0<=r)=L.any rateB/\w=w':=by
 have Hr:=Lib.hid hr;clear hr;go_enter Tryz.func287,Tryz.ntmps287;go_wp2_with fail
 go_loop [8] (λc=>∃j:Nat,j<=L.length/\c= .int .i64 (j:Nat)/\(L.take j).any rateB=false) (λc=>L.length-(intOf c).toNat)
 case atStart=>exact⟨0,Nat.zero_le _,rfl,rfl⟩
 case round=>
  obtain⟨j,hj,rfl,hok⟩:=hrel;by_cases hjl:j<L.length
  ·obtain⟨x,hx⟩:=Aq hjl;obtain⟨g,o,rfl,x0⟩:=Hr.out.int hx;have hsn:=Gi (q:=rateB) hx;rw [hok] at hsn;have hcl:=λW=>Aa6 x W;rcases m1:rateB x with _|_
   ·have hok':(L.take (j+1)).any rateB=false:=by rw [hsn,m1];rfl
    rw [m1] at hcl;obtain⟨Hsn,Hx,Hok,Hok',Hcl⟩:=hid5 hsn hx hok hok' hcl;clear hcl hok' hok hx hsn
    go_wp2_with (go_at_call 271;((with_reducible refine(Hcl.out _).mono ?_);rintro e w1 ⟨rfl,rfl⟩))
    exact j0d
   ·have hf:=Kq (q:=rateB) hx m1;have hj0:decide ((0:Int)<=(j:Int))=true:=by simp
    rw [m1] at hcl;obtain⟨Hf,Hsn,Hx,Hj0,Hcl⟩:=hid5 hf hsn hx hj0 hcl;clear hcl hj0 hx hsn hf
    go_wp2_with (go_at_call 271;((with_reducible refine(Hcl.out _).mono ?_);rintro e w1 ⟨rfl,rfl⟩))
    exact j0y
  ·exact j0e
theorem Ql(ad:Option Addr)(cap:Nat)(L:List Int)(w:World)(hr:Reads w 1 (.slice ad L.length cap) L.length (L.flatMap i64c))(hl:L.length<=1000):
  Calls Tryz.prog 267 #[.slice ad L.length cap,.func (.func 271) #[] #[]] w λe w'=>e= .returned (.bool (L.any rateB))/\w=w':=by
 have Hr:=Lib.hid hr;clear hr;go_enter Tryz.func267,Tryz.ntmps267
 go_wp2_with (go_at_call 287;refine(Vs _ _ L _ Hr.out hl).mono ?_;rintro e w1 ⟨r,rfl,hd,rfl⟩;have Hd:=Lib.hid hd;clear hd)
 exact j0f
def mayA(p:Ps)(R:List Int)(e:Ev):Bool:=p.Bg&&(decide (R.length=p.bal.length)&&(!(R.any rateB)&&(!(decide (e.kind<1)||(decide (6<e.kind)||((e.kind !=2)&&(decide (e.tranche<1)||decide ((R.length:Int)<e.tranche)))))&&((e.kind !=6)||(decide (0<=e.amount)&&decide (e.amount<=10000000))))))
theorem Ac5(L R:List Int)(cr du ki da tr am re:Int)(ad adR:Option Addr)(cap cR n m:Nat)(w:World)(hr:Reads w 1 (.slice ad n cap) n (L.flatMap i64c))(hN:L.length=n)(hl:n<=1000)(hR:Reads w 1 (.slice adR m cR) m (R.flatMap i64c))(hRm:R.length=m)(hm:m<=1000):
  Calls Tryz.prog 249 #[.agg #[.slice ad n cap,.int .i64 cr,.int .i64 du],.slice adR m cR,.agg #[.int .i64 ki,.int .i64 da,.int .i64 tr,.int .i64 am,.int .i64 re]] w λe w'=>e= .returned (.bool (mayA ⟨L,cr,du⟩ R ⟨ki,da,tr,am,re⟩))/\Keeps (λ_=>False) w w':=by
 refine j0i ?_;intro hri;have hco:=λW (hW:Keeps (λ_=>False) w W)=>Ql adR cR R W (by rw [hRm];exact hR.keeps hW (by simp)) j6;rw [hRm] at hco;obtain⟨z,hz⟩:∃z,mayA ⟨L,cr,du⟩ R ⟨ki,da,tr,am,re⟩=z:=⟨_,rfl⟩;rw [hz]
 have hbx:∀W,Keeps (λ_=>False) ((w.alloc (.cells #[.slice ad n cap,.int .i64 cr,.int .i64 du] 52)).alloc (.cells #[.int .i64 ki,.int .i64 da,.int .i64 tr,.int .i64 am,.int .i64 re] 96)) W->
  W.cell? ⟨w.heap.size+1,0,none⟩=some (.int .i64 ki)/\W.cell? ⟨w.heap.size+1,2,none⟩=some (.int .i64 tr)/\W.cell? ⟨w.heap.size+1,3,none⟩=some (.int .i64 am)/\W.cell? ⟨w.heap.size,0,none⟩=some (.slice ad n cap)/\w.heap.size+1<W.heap.size/\w.heap.size<W.heap.size:=λW hW=>by
  have h1:=Ad (Ar (heap_alloc_new w (.cells #[.slice ad n cap,.int .i64 cr,.int .i64 du] 52)) (.cells #[.int .i64 ki,.int .i64 da,.int .i64 tr,.int .i64 am,.int .i64 re] 96)) hW (by simp);have h2:=Ad (Av (w.alloc (.cells #[.slice ad n cap,.int .i64 cr,.int .i64 du] 52)) (.cells #[.int .i64 ki,.int .i64 da,.int .i64 tr,.int .i64 am,.int .i64 re] 96) (i:=w.heap.size+1) (by simp)) hW (by simp);exact⟨Aa h2 0,Aa h2 2,Aa h2 3,Aa h1 0,lt_of_block h2,lt_of_block h1⟩
 rcases hbr:Ps.Bg ⟨L,cr,du⟩ with _|_
 ·rw [hbr] at hri;have hmn:True:=trivial;exact j1z
 rw [hbr] at hri;by_cases hmn':m=n
 ·obtain rfl:n=m:=hmn'.symm;have hmn:=hRm;have hnn:((n:Int) !=(n:Int))=false:=by simp
  clear hmn';rcases hany:R.any rateB with _|_
  ·rw [hany] at hco;obtain⟨Hr,HR,Hri,Hco,Hz,Hbx,Hbr,HN,HRm⟩:=hid9 hr hR hri hco hz hbx hbr hN hRm;clear hRm hN hbr hbx hz hco hri hR hr;have Hmn:=Lib.hid hmn;clear hmn;rcases b1:decide (ki<1) with _|_
   ·rcases b2:decide (6<ki) with _|_
    ·rcases b3:(ki !=2) with _|_
     ·exact j3a
     ·rcases b4:decide (tr<1) with _|_
      ·rcases b5:decide ((n:Int)<tr) with _|_
       ·exact j3a
       ·skip
        exact jP
      ·skip
       exact jP
    ·skip
     exact jP
   ·skip
    exact jP
  ·rw [hany] at hco;exact j1z
 ·have hmn:¬R.length=n:=by rw [hRm];exact hmn'
  have hnn:((m:Int) !=(n:Int))=true:=by simp;omega
  exact j1z
def Fw(p:Ps)(R:List Int)(e:Ev):Ps×Int:=if e.kind=1\/e.kind=5 then Ji p e.tranche e.amount else if e.kind=2 then payR p R e.amount else if e.kind=3\/e.kind=4 then giveR p R e.tranche e.amount else(p,0)
def Fv(R:List Int)(e:Ev):List Int:=if e.kind=6 then R.set (e.tranche-1).toNat e.amount else R
def Dt(p:Ps)(R:List Int)(e:Ev):Ps×List Int×Int:=if mayA p R e=true then(if(Fw p R e).2=0 then((Fw p R e).1,Fv R e,0) else(ps0, [],(Fw p R e).2)) else(ps0, [],1)
theorem rateB_iff(x:Int):rateB x=false↔0<=x/\x<=10000000:=by simp [rateB,outM]
theorem rates_ok{R:List Int}(h:R.any rateB=false):∀x∈R,0<=x/\x<=10000000:=λx hx=>by
 rw [<-rateB_iff];rcases hb:rateB x with _|_
 ·rfl
 ·rw [List.any_eq_true.2 ⟨x,hx,hb⟩] at h;cases h
structure MayOk(p:Ps)(R:List Int)(e:Ev):Prop where
 pr:p.Bg=true
 len:R.length=p.bal.length
 rt:∀x∈R,0<=x/\x<=10000000
 k1:1<=e.kind
 k6:e.kind<=6
 tr:e.kind≠2->1<=e.tranche/\e.tranche<=R.length
 am:e.kind=6->0<=e.amount/\e.amount<=10000000
theorem mayA_ok{p:Ps}{R:List Int}{e:Ev}(h:mayA p R e=true):MayOk p R e:=by
 unfold mayA at h;rw [Bool.and_eq_true,Bool.and_eq_true,Bool.and_eq_true,Bool.and_eq_true] at h;obtain⟨h1,h2,h3,h4,h5⟩:=h;have h3':R.any rateB=false:=by simpa using h3
 have h4':¬e.kind<1/\¬6<e.kind/\(e.kind≠2->¬e.tranche<1/\¬(R.length:Int)<e.tranche):=by
  rcases hk2:(e.kind !=2) with _|_
  ·rw [hk2] at h4;have hk2':e.kind=2:=by simpa using hk2
   refine⟨by omega,by omega,λh=>absurd hk2' h⟩
  ·rw [hk2] at h4;simp only [Bool.true_and,Bool.not_eq_true',Bool.or_eq_false_iff,decide_eq_false_iff_not] at h4;exact⟨h4.1,h4.2.1,λ_=>h4.2.2⟩
 have h5':e.kind=6->0<=e.amount/\e.amount<=10000000:=λhk=>by
  rw [show(e.kind !=6)=false by simp [hk],Bool.false_or,Bool.and_eq_true,decide_eq_true_eq,decide_eq_true_eq] at h5;exact h5
 exact⟨h1,by simpa using h2,rates_ok h3',by omega,by omega,λhk=>by have:=h4'.2.2 hk;omega,h5'⟩
structure AB(E:Array Value)(w W:World):Prop where
 e:W.heap[w.heap.size+1]?=some (.cells E 96 (0,0))
 r:W.heap[w.heap.size+1+1]?=some (.cells #[.slice none 0 0,.int .i64 0,.int .i64 0] 52 (0,0))
 kp:Keeps (λ_=>False) w W
theorem AB.keep{E:Array Value}{w W W':World}(h:AB E w W)(hk:Keeps (λi=>i=w.heap.size) W W'):AB E w W':=⟨Ad h.e hk (by omega),Ad h.r hk (by omega),h.kp.trans (hk.mono λi _ e=> .inr (by have e':i=w.heap.size:=e;omega))⟩
theorem AB.keep0{E:Array Value}{w W W':World}(h:AB E w W)(hk:Keeps (λ_=>False) W W'):AB E w W':=h.keep (hk.mono (by simp))
theorem AB.start(C E:Array Value)(w:World):AB E w (((w.alloc (.cells C 52)).alloc (.cells E 96)).alloc (.cells #[.slice none 0 0,.int .i64 0,.int .i64 0] 52)):=
 ⟨Ar (Av _ _ (by simp)) _,Av _ _ (by simp),((Keeps.alloc _ _).Af).Af⟩
def ApplyPost(r:Ps×List Int×Int)(w:World)(e:Ending)(w':World):Prop:=∃vb vr,e= .returned (.tuple #[.agg #[vb,.int .i64 r.1.cr,.int .i64 r.1.du],vr,.int .i64 r.2.2])/\w'.ownsRow 0 2 1 vb r.1.bal.length (r.1.bal.flatMap i64c)/\w'.ownsRow 0 2 1 vr r.2.1.length (r.2.1.flatMap i64c)/\Keeps (λ_=>False) w w'/\
 (∀i,vb.ownBlock=some i->w.heap.size<=i)/\(∀i,vr.ownBlock=some i->w.heap.size<=i)
theorem Xw(L R:List Int)(cr du ki da tr am re:Int)(ad adR:Option Addr)(cap cR n m:Nat)(w:World)(hr:Reads w 1 (.slice ad n cap) n (L.flatMap i64c))(hN:L.length=n)(hl:n<=1000)(hR:Reads w 1 (.slice adR m cR) m (R.flatMap i64c))(hRm:R.length=m)(hm:m<=1000):
  Calls Tryz.prog 218 #[.agg #[.slice ad n cap,.int .i64 cr,.int .i64 du],.slice adR m cR,.agg #[.int .i64 ki,.int .i64 da,.int .i64 tr,.int .i64 am,.int .i64 re]] w (ApplyPost (Dt ⟨L,cr,du⟩ R ⟨ki,da,tr,am,re⟩) w):=by
 have hmay:=λW (hW:Keeps (λ_=>False) w W)=>Ac5 L R cr du ki da tr am re ad adR cap cR n m W (hr.keeps hW (by simp)) hN hl (hR.keeps hW (by simp)) hRm hm;have hst:=AB.start #[.slice ad n cap,.int .i64 cr,.int .i64 du] #[.int .i64 ki,.int .i64 da,.int .i64 tr,.int .i64 am,.int .i64 re] w;have hpb:(((w.alloc (.cells #[.slice ad n cap,.int .i64 cr,.int .i64 du] 52)).alloc (.cells #[.int .i64 ki,.int .i64 da,.int .i64 tr,.int .i64 am,.int .i64 re] 96)).alloc (.cells #[.slice none 0 0,.int .i64 0,.int .i64 0] 52)).heap[w.heap.size]?=some (.cells #[.slice ad n cap,.int .i64 cr,.int .i64 du] 52 (0,0)):=Ar (Ar (heap_alloc_new w _) _) _;obtain⟨W0,hW0⟩:∃W0,W0=(((w.alloc (.cells #[.slice ad n cap,.int .i64 cr,.int .i64 du] 52)).alloc (.cells #[.int .i64 ki,.int .i64 da,.int .i64 tr,.int .i64 am,.int .i64 re] 96)).alloc (.cells #[.slice none 0 0,.int .i64 0,.int .i64 0] 52)):=⟨_,rfl⟩;rw [<-hW0] at hst hpb;obtain⟨A,hA⟩:∃A,Dt ⟨L,cr,du⟩ R ⟨ki,da,tr,am,re⟩=A:=⟨_,rfl⟩;rw [hA];unfold Dt at hA;rcases hmb:mayA ⟨L,cr,du⟩ R ⟨ki,da,tr,am,re⟩ with _|_
 ·rw [hmb] at hmay hA;rw [if_neg j7] at hA;subst hA;obtain⟨Hr,HN,HR,HRm,Hmay,Hst,Hpb,Hmb⟩:=hid8 hr hN hR hRm hmay hst hpb hmb;clear hmb hpb hst hmay hRm hR hN hr;go_enter Tryz.func218,Tryz.ntmps218;go_wp2_with fail;rw [<-hW0];refine(Hmay.out _ Hst.out.kp).mono ?_;rintro e w1 ⟨rfl,hk1⟩;have hab1:=Hst.out.keep0 hk1;have hrs:=hab1.r;have hS3:=j0k;obtain⟨hb9,k9⟩:=hS3;refine jX ?_;intro r0 r1 r2 rf0 rf1 rf2 rl;refine ju ?_;intro sr0 sr1 sr2;obtain⟨Hrs,Hb9,K9,Sr0,Sr1,Sr2⟩:=hid6 hrs hb9 k9 sr0 sr1 sr2;clear sr2 sr1 sr0 k9 hb9 hrs;obtain⟨Hk1,Hab1⟩:=hid2 hk1 hab1;clear hab1 hk1;go_wp2;refine jk ?_;intro R0' R1' R2';clear r0 r1 r2;exact bodyPost_ret (v:= .tuple #[.agg #[.slice none 0 0,.int .i64 0,.int .i64 0],.slice none 0 0,.int .i64 1]) j0K rfl ⟨_,_,rfl,World.ownsRow_nil _ _ _ _,World.ownsRow_nil _ _ _ _,Hab1.out.kp.trans (K9.out.mono λi _ e=> .inr j0n),by simp [Value.ownBlock],by simp [Value.ownBlock]⟩
 ·have hmo:=mayA_ok hmb;rw [hmb] at hmay hA;rw [if_pos rfl] at hA;obtain⟨hpr,hlen,hrt,hk1,hk6,htr,ham⟩:=hmo;simp only at hlen hk1 hk6 htr ham;obtain rfl:m=n:=by rw [<-hRm,hlen,hN]
  have hcl:=λW (hW:Keeps (λ_=>False) w W)=>Em W (.slice adR m cR) m (R.flatMap i64c) (hR.keeps hW (by simp)) (Js _) j6;have hcl2:=λW (hW:Keeps (λ_=>False) w W)=>Em W (.slice ad m cap) m (L.flatMap i64c) (hr.keeps hW (by simp)) (Js _) j6;obtain⟨hbal,hcr,hdu,hn1,hn8⟩:=Ey hpr;simp only at hbal hcr hdu hn1 hn8;rw [hN] at hn1 hn8;obtain⟨Hr,HN,HR,HRm,Hmay,Hst,Hpb,Hmb,Hpr⟩:=hid9 hr hN hR hRm hmay hst hpb hmb hpr;clear hpr hmb hpb hst hmay hRm hR hN hr;obtain⟨Hlen,Hrt,Hcl,Hcl2,Hbal,Hcr,Hdu,HA⟩:=hid8 hlen hrt hcl hcl2 hbal hcr hdu hA;clear hA hdu hcr hbal hcl2 hcl hrt hlen;go_enter Tryz.func218,Tryz.ntmps218;go_wp2_with fail;rw [<-hW0];refine(Hmay.out _ Hst.out.kp).mono ?_;rintro e w1 ⟨rfl,hk1⟩;have hab1:=Hst.out.keep0 hk1;have hpb1:=Ad Hpb.out hk1 (by simp);obtain⟨Hk1,Hab1,Hpb1⟩:=hid3 hk1 hab1 hpb1;clear hpb1 hab1 hk1;go_wp2_with fail;refine(Hcl.out _ Hab1.out.kp).mono ?_;rintro e w2 ⟨vr,rfl,hrr2,hk2,hg2⟩;obtain⟨gr,cr2,rfl⟩:=El hrr2 hn1;have hab2:=Hab1.out.keep0 hk2;have hpb2:=Ad Hpb1.out hk2 (by simp);have p0:=Aa hpb2 0;have pl:=lt_of_block hpb2;obtain⟨Hk2,Hab2,Hpb2,Hrr2,Hg2⟩:=hid5 hk2 hab2 hpb2 hrr2 hg2;clear hg2 hrr2 hpb2 hab2 hk2;go_wp2_with fail;refine(Hcl2.out _ Hab2.out.kp).mono ?_;rintro e w3 ⟨vb,rfl,hrb3,hk3,hg3⟩;obtain⟨gb,cb,rfl⟩:=El hrb3 hn1;clear p0 pl;have hab3:=Hab2.out.keep0 hk3;have hpb3:=Ad Hpb2.out hk3 (by simp);have hrr3:=Hrr2.out.of_keeps hk3;have p0:=Aa hpb3 0;have pf0:=Ab hpb3 0;have pl:=lt_of_block hpb3;have k4:Keeps (λi=>i=w.heap.size) w3 (w3.setCell ⟨w.heap.size,0,none⟩ (.slice (some ⟨gb,0,none⟩) m cb)):=Keeps.setCell _ _ _ rfl;have hpb4:=(heap_setCell_same _ _ 0 _ _ (.slice (some ⟨gb,0,none⟩) m cb) hpb3).trans rfl;have hab4:=hab3.keep k4;have hg2':∀i,(Value.slice (some ⟨gr,0,none⟩) m cr2).ownBlock=some i->w.heap.size+1+1<i:=λi e=>by have:=Hg2.out i e;have:=lt_of_block Hab1.out.r;omega
  have hg3':∀i,(Value.slice (some ⟨gb,0,none⟩) m cb).ownBlock=some i->w.heap.size+1+1<i:=λi e=>by have:=hg3 i e;have:=lt_of_block Hab2.out.r;omega
  have hrb4:=k4.row hrb3 (λi hi e=>by have e':i=w.heap.size:=e;have:=hg3' i hi;omega);have hrr4:=k4.row hrr3 (λi hi e=>by have e':i=w.heap.size:=e;have:=hg2' i hi;omega);have hg23:¬gb=gr:=λe=>by have h1:=hg3 gb rfl;have h2:=Cj Hrr2.out (show(Value.slice (some ⟨gr,0,none⟩) m cr2).ownBlock=some gr from rfl);omega
  obtain⟨W4,hW4⟩:∃W4,W4=(w3.setCell ⟨w.heap.size,0,none⟩ (.slice (some ⟨gb,0,none⟩) m cb)):=⟨_,rfl⟩;rw [<-hW4] at hpb4 hab4 hrb4 hrr4;have p1:=Aa hpb3 1;have p2:=Aa hpb3 2;have e0:=Aa (hab3).e 0;have e2:=Aa (hab3).e 2;have e3:=Aa (hab3).e 3;have el:=lt_of_block (hab3).e;clear Hg2;obtain⟨Hk3,Hab3,Hpb3,Hrr3,Hrb3,Hg3,K4,Hpb4,Hab4⟩:=hid9 hk3 hab3 hpb3 hrr3 hrb3 hg3 k4 hpb4 hab4;clear hab4 hpb4 k4 hg3 hrb3 hrr3 hpb3 hab3 hk3;obtain⟨Hrb4,Hrr4,Hg2',Hg3',Hg23⟩:=hid5 hrb4 hrr4 hg2' hg3' hg23;clear hg23 hg3' hg2' hrr4 hrb4;have Hg2:=Hg2';clear Hg2';have hkk:ki=1\/ki=2\/ki=3\/ki=4\/ki=5\/ki=6:=j8
  go_upto_region 5 with(fail)
  rw [<-hW4];have HW4:=Lib.hid hW4;clear hW4 p0 pf0 pl p1 p2 e0 e2 e3 el;rcases hkk with rfl|rfl|rfl|rfl|rfl|rfl
  ·exact j3b
  ·skip
   have hA:=HA.out;clear HA;simp [Fw,Fv] at hA;obtain⟨⟨q,z⟩,hq⟩:∃q,payR ⟨L,cr,du⟩ R am=q:=⟨_,rfl⟩;rw [hq] at hA;have hcall:=λW (hW:Keeps (λ_=>False) W4 W)=>Aa9 L R cr du am (some ⟨gb,0,none⟩) (some ⟨gr,0,none⟩) cb cr2 m W ((Reads.Az Hrb4.out).keeps hW (by simp)) HN.out hl ((Reads.Az Hrr4.out).keeps hW (by simp)) HRm.out;exact j1A
  ·exact j3c
  ·exact j3c
  ·exact j3b
  ·have hA:=HA.out;clear HA;simp [Fw,Fv] at hA;subst hA;obtain⟨t0,t1⟩:=htr j7;obtain⟨a0,a1⟩:=ham rfl;clear htr ham;rw [HRm.out] at t1;obtain⟨i,hi⟩:∃i:Nat,(i:Int)=tr-1:=⟨(tr-1).toNat,by omega⟩;have hin:i<m:=j8;have hit:(tr-1).toNat=i:=j8;have hit2:tr.toNat-1=i:=j8;have hrz:RowZ W4 2 gr m cr2 R:=⟨Hrr4.out,HRm.out⟩;obtain⟨x,hx⟩:=Aq (L:=R) (k:=i) (by rw [HRm.out];exact hin);have cx:=hrz.cell hx;have fx:=hrz.free i;have lx:=hrz.lt;have hnew:=hrz.set hin am;have k5:Keeps (λj=>j=gr) W4 (W4.setCell ⟨gr,i,none⟩ (.int .i64 am)):=Keeps.setCell _ _ _ rfl;have hgrb:¬w.heap.size=gr:=λe=>by have:=Hg2.out gr rfl;omega
   have hgre:¬w.heap.size+1=gr:=λe=>by have:=Hg2.out gr rfl;omega
   have hgrr:¬w.heap.size+1+1=gr:=λe=>by have:=Hg2.out gr rfl;omega
   have hab5:AB #[.int .i64 6,.int .i64 da,.int .i64 tr,.int .i64 am,.int .i64 re] w (W4.setCell ⟨gr,i,none⟩ (.int .i64 am)):=⟨Ad Hab4.out.e k5 hgre,Ad Hab4.out.r k5 hgrr,Hab4.out.kp.trans (k5.mono λj _ e=> .inr (by have e':j=gr:=e;have:=Hg2.out gr rfl;omega))⟩;have hpb5:=Ad Hpb4.out k5 hgrb;have hrb5:=k5.row Hrb4.out (λj hj e=>by have e':j=gr:=e;simp only [Value.ownBlock,Option.some.injEq] at hj;exact Hg23.out j6);have p0:=Aa Hpb4.out 0;have p1:=Aa Hpb4.out 1;have p2:=Aa Hpb4.out 2;have pl4:=lt_of_block Hpb4.out;have e0:=Aa Hab4.out.e 0;have e2:=Aa Hab4.out.e 2;have e3:=Aa Hab4.out.e 3;have el4:=lt_of_block Hab4.out.e;have r0:=Aa Hab4.out.r 0;have r1:=Aa Hab4.out.r 1;have r2:=Aa Hab4.out.r 2;have rf0:=Ab Hab4.out.r 0;have rf1:=Ab Hab4.out.r 1;have rf2:=Ab Hab4.out.r 2;have rl:=lt_of_block Hab4.out.r;have q1:(0:Int)<=tr-1:=j8;have q2:tr-1<(m:Int):=j8;have q4:IntKind.i64.wrap (tr-1)=tr-1:=IntWalk.i64_in _ ⟨by omega,by omega⟩;have hgbr:¬gr=w.heap.size:=λe=>hgrb e.symm;have hgrr2:¬gr=w.heap.size+1+1:=λe=>hgrr e.symm;have hS3:=Bt hab5.r (.slice (some ⟨gb,0,none⟩) m cb) (.int .i64 cr) (.int .i64 du);obtain⟨hb9,k9⟩:=hS3;have hkf:=hab5.kp.trans (k9.mono λi _ e=> .inr j0n);have hrow9:=k9.row hrb5 (λi hi e=>by have e':i=w.heap.size+1+1:=e;have:=Hg3'.out i hi;omega);have hrr9:=k9.row hnew.1 (λi hi e=>by have e':i=w.heap.size+1+1:=e;simp only [Value.ownBlock,Option.some.injEq] at hi;omega);refine ju ?_;intro sr0 sr1 sr2;have hlen9:=hnew.2;obtain⟨Hrz,Hx,Hnew,K5,Hab5,Hpb5,Hrb5,Hb9,K9⟩:=hid9 hrz hx hnew k5 hab5 hpb5 hrb5 hb9 k9;clear k9 hb9 hrb5 hpb5 hab5 k5 hnew hx hrz;obtain⟨Hkf,Hrow9,Hrr9,Sr0,Sr1,Sr2,Hlen9,Hi,Hit2⟩:=hid9 hkf hrow9 hrr9 sr0 sr1 sr2 hlen9 hi hit2;clear hit2 hi hlen9 sr2 sr1 sr0 hrr9 hrow9 hkf;go_wp2;refine jk ?_;intro R0' R1' R2';clear r0 r1 r2 p0 p1 p2;exact bodyPost_ret (v:= .tuple #[.agg #[.slice (some ⟨gb,0,none⟩) m cb,.int .i64 cr,.int .i64 du],.slice (some ⟨gr,0,none⟩) m cr2,.int .i64 0]) j0K rfl ⟨_,_,rfl,by rw [HN.out];exact Hrow9.out,by rw [Hit2.out,Hlen9.out];exact Hrr9.out,Hkf.out,λi hi=>by have:=Hg3'.out i hi;omega,λi hi=>by have:=Hg2.out i hi;omega⟩
def tbS(E:Nat)(t:Tm)(v:Value)(w:World):Prop:=
 w.cell? ⟨E,0,none⟩=some (.int .i64 t.limit)/\w.cell? ⟨E,1,none⟩=some v/\w.cell? ⟨E,2,none⟩=some (.int .i64 t.cyc)/\w.cell? ⟨E,3,none⟩=some (.int .i64 t.due)/\w.cell? ⟨E,4,none⟩=some (.int .i64 t.minFixed)/\w.cell? ⟨E,5,none⟩=some (.int .i64 t.minPart)/\w.cell? ⟨E,6,none⟩=some (.int .i64 t.start)
theorem tbS.of{E:Nat}{t:Tm}{v:Value}{w:World}(hb:w.heap[E]?=some (.cells #[.int .i64 t.limit,v,.int .i64 t.cyc,.int .i64 t.due,.int .i64 t.minFixed,.int .i64 t.minPart,.int .i64 t.start] 44 (0,0))):tbS E t v w:=
 ⟨Aa hb 0,Aa hb 1,Aa hb 2,Aa hb 3,Aa hb 4,Aa hb 5,Aa hb 6⟩
theorem tbS.keep{E:Nat}{t:Tm}{v:Value}{w w':World}(h:tbS E t v w)(hk:Keeps (λ_=>False) w w'):tbS E t v w':=by
 obtain⟨h0,h1,h2,h3,h4,h5,h6⟩:=h;exact⟨(hk.cell (Ah h0) (by simp)).trans h0,(hk.cell (Ah h1) (by simp)).trans h1,(hk.cell (Ah h2) (by simp)).trans h2,(hk.cell (Ah h3) (by simp)).trans h3,(hk.cell (Ah h4) (by simp)).trans h4,(hk.cell (Ah h5) (by simp)).trans h5,(hk.cell (Ah h6) (by simp)).trans h6⟩
def dy(X:List Ev)(t:Nat):Int:=match X[t]? with|some x=>x.day|none=>0
theorem En{X:List Ev}{t:Nat}{x:Ev}(h:X[t]?=some x):dy X t=x.day:=by unfold dy;rw [h]
theorem Cg{X Y:List Ev}{s t:Nat}(h:X[s]?=Y[t]?):dy X s=dy Y t:=by unfold dy;rw [h]
def Alike(X Y:List Ev):Prop:=∀k:Int,X.filter (λx=>decide (x.day=k))=Y.filter (λx=>decide (x.day=k))
theorem Alike.refl(X:List Ev):Alike X X:=λ_=>rfl
theorem Alike.symm{X Y:List Ev}(h:Alike X Y):Alike Y X:=λk=>(h k).symm
theorem Alike.trans{X Y Z:List Ev}(h:Alike X Y)(h':Alike Y Z):Alike X Z:=λk=>(h k).trans (h' k)
theorem Alike.app{X X' Y Y':List Ev}(h:Alike X X')(h':Alike Y Y'):Alike (X++Y) (X'++Y'):=λk=>by rw [List.filter_append,List.filter_append,h k,h' k]
theorem Alike.mem{X Y:List Ev}(h:Alike X Y){x:Ev}(hx:x∈X):x∈Y:=by
 have:x∈X.filter (λy=>decide (y.day=x.day)):=List.mem_filter.2 ⟨hx,by simp⟩;rw [h] at this;exact(List.mem_filter.1 this).1
theorem Alike.turn{U V:List Ev}(h:∀u∈U,∀v∈V,v.day<u.day):Alike (V++U) (U++V):=by
 intro k;rw [List.filter_append,List.filter_append];by_cases hU:∃u∈U,u.day=k
 ·obtain⟨u,hu,rfl⟩:=hU
  have:V.filter (λx=>decide (x.day=u.day))= []:=by
   rw [List.filter_eq_nil_iff];intro v hv;have:=h u hu v hv;simp;omega
  rw [this];simp
 ·have:U.filter (λx=>decide (x.day=k))= []:=by
   rw [List.filter_eq_nil_iff];intro u hu;simp only [decide_eq_true_eq];exact λe=>hU ⟨u,hu,e⟩
  rw [this];simp
theorem Alike.cancel{P X Y S:List Ev}(h:Alike (P++X++S) (P++Y++S)):Alike X Y:=by
 intro k;have:=h k;simp only [List.filter_append] at this;exact List.append_cancel_left (List.append_cancel_right this)
def Upto(X:List Ev)(a b:Nat):Prop:=∀s t,a<=s->s<t->t<b->dy X s<=dy X t
theorem Upto.le{X:List Ev}{a b:Nat}(h:Upto X a b){s t:Nat}(h1:a<=s)(h2:s<=t)(h3:t<b):dy X s<=dy X t:=by
 rcases Nat.lt_or_ge s t with h4|h4
 ·exact h s t h1 h4 h3
 ·obtain rfl:s=t:=by omega
  exact Int.le_refl _
theorem Upto.sub{X:List Ev}{a b a' b':Nat}(h:Upto X a b)(h1:a<=a')(h2:b'<=b):Upto X a' b':=λs t h3 h4 h5=>h s t (by omega) h4 (by omega)
theorem Upto.one{X:List Ev}{a b:Nat}(h:b<=a+1):Upto X a b:=λs t h1 h2 h3=>by omega
theorem Upto.eq{X Y:List Ev}{a b:Nat}(h:Upto X a b)(he:∀t,a<=t->t<b->Y[t]?=X[t]?):Upto Y a b:=λs t h1 h2 h3=>by
 rw [Cg (he s h1 j6),Cg (he t j6 h3)];exact h s t h1 h2 h3
structure Turned(X Y:List Ev)(a b:Nat):Prop where
 len:Y.length=X.length
 out:∀t,t<a\/b<=t->Y[t]?=X[t]?
 alike:Alike Y X
theorem Turned.refl(X:List Ev)(a b:Nat):Turned X X a b:=⟨rfl,λ_ _=>rfl,Alike.refl _⟩
theorem Turned.trans{X Y Z:List Ev}{a b:Nat}(h:Turned X Y a b)(h':Turned Y Z a b):Turned X Z a b:=
 ⟨h'.len.trans h.len,λt ht=>(h'.out t ht).trans (h.out t ht),h'.alike.trans h.alike⟩
theorem Turned.wide{X Y:List Ev}{a b a' b':Nat}(h:Turned X Y a b)(h1:a'<=a)(h2:b<=b'):Turned X Y a' b':=⟨h.len,λt ht=>h.out t (by omega),h.alike⟩
theorem Turned.parts{X Y:List Ev}{a b:Nat}(h:Turned X Y a b)(hab:a<=b)(hb:b<=X.length):
  ∃P U V S,X=P++U++S/\Y=P++V++S/\P.length=a/\U.length=b-a/\V.length=b-a:=by
 refine⟨X.take a,(X.take b).drop a,(Y.take b).drop a,X.drop b, ?_, ?_, ?_, ?_, ?_⟩
 ·have:X.take a=(X.take b).take a:=by rw [List.take_take,Nat.min_eq_left hab]
  rw [this,List.take_append_drop,List.take_append_drop]
 ·have h1:X.take a=(Y.take b).take a:=by
   rw [List.take_take,Nat.min_eq_left hab];refine List.ext_getElem? λt=> ?_;rw [List.getElem?_take,List.getElem?_take]
   split
   ·exact(h.out t (.inl j6)).symm
   ·rfl
  have h2:X.drop b=Y.drop b:=by
   refine List.ext_getElem? λt=> ?_;rw [List.getElem?_drop,List.getElem?_drop];exact(h.out _ (.inr j6)).symm
  rw [h1,h2,List.take_append_drop,List.take_append_drop]
 ·rw [List.length_take];omega
 ·rw [List.length_drop,List.length_take];omega
 ·rw [List.length_drop,List.length_take,h.len];omega
theorem Turned.from{X Y:List Ev}{a b:Nat}(h:Turned X Y a b)(hb:b<=X.length){t:Nat}(h1:a<=t)(h2:t<b):∃s,a<=s/\s<b/\Y[t]?=X[s]?:=by
 obtain⟨P,U,V,S,rfl,rfl,rfl,hU,hV⟩:=h.parts j6 hb;have hc:=h.alike.cancel;have ht:t-P.length<V.length:=j8;have hm:=hc.mem (List.getElem_mem ht);obtain⟨i,hi,he⟩:=List.getElem_of_mem hm;refine⟨P.length+i,by omega,by omega, ?_⟩;rw [List.append_assoc,List.append_assoc,List.getElem?_append_right j6,List.getElem?_append_left ht,List.getElem?_append_right j6,List.getElem?_append_left j6,Nat.add_sub_cancel_left,List.getElem?_eq_getElem ht,List.getElem?_eq_getElem hi,he]
theorem Turned.bound{X Y:List Ev}{a b:Nat}(h:Turned X Y a b)(hb:b<=X.length){q:Int->Prop}(hq:∀t,a<=t->t<b->q (dy X t)):∀t,a<=t->t<b->q (dy Y t):=λt h1 h2=>by
 obtain⟨s,h3,h4,h5⟩:=h.from hb h1 h2;rw [Cg h5];exact hq s h3 h4
def swp(X:List Ev)(i j:Nat):List Ev:=match X[i]?,X[j]? with|some x,some y=>(X.set i y).set j x|_,_=>X
theorem swp_of{X:List Ev}{i j:Nat}{x y:Ev}(h1:X[i]?=some x)(h2:X[j]?=some y):swp X i j=(X.set i y).set j x:=by unfold swp;rw [h1,h2]
theorem Ta(X:List Ev)(i j:Nat):(swp X i j).length=X.length:=by unfold swp;split<;>simp
theorem swp_get{X:List Ev}{i j:Nat}(hi:i<X.length)(hj:j<X.length)(t:Nat):(swp X i j)[t]?=if t=j then X[i]? else if t=i then X[j]? else X[t]?:=by
 rw [swp_of (List.getElem?_eq_getElem hi) (List.getElem?_eq_getElem hj),List.getElem?_set,List.getElem?_set];simp only [List.length_set];by_cases h1:t=j
 ·subst h1;simp [hj,hi]
 ·rw [if_neg (λe=>h1 e.symm),if_neg h1];by_cases h2:t=i
  ·subst h2;simp [hi,hj]
  ·rw [if_neg (λe=>h2 e.symm),if_neg h2]
theorem split_two{X:List Ev}{i:Nat}{x y:Ev}(h1:X[i]?=some x)(h2:X[i+1]?=some y):X=X.take i++ [x,y]++X.drop (i+2):=by
 obtain⟨hl,rfl⟩:=List.getElem?_eq_some_iff.1 h1;obtain⟨hl2,rfl⟩:=List.getElem?_eq_some_iff.1 h2;rw [List.append_assoc];show X=X.take i++(X[i]::X[i+1]::X.drop (i+1+1));rw [List.getElem_cons_drop,List.getElem_cons_drop,List.take_append_drop]
theorem Nn{X:List Ev}{i a b:Nat}(ha:a<=i)(hb:i+2<=b)(hl:i+1<X.length)(hd:dy X (i+1)<dy X i):Turned X (swp X i (i+1)) a b:=by
 refine⟨Ta _ _ _,λt ht=> ?_, ?_⟩
 ·rw [swp_get j6 hl,if_neg j6,if_neg j6]
 ·have h1:X[i]?=some X[i]:=List.getElem?_eq_getElem j6;have h2:X[i+1]?=some X[i+1]:=List.getElem?_eq_getElem hl;rw [En h1,En h2] at hd;have hs:=split_two h1 h2
  have e:swp X i (i+1)=X.take i++ [X[i+1],X[i]]++X.drop (i+2):=by
   refine List.ext_getElem? λt=> ?_;rw [swp_get j6 hl];have hlt:(X.take i).length=i:=by rw [List.length_take];omega
   rcases Nat.lt_trichotomy t i with h|h|h
   ·rw [if_neg j6,if_neg j6,List.append_assoc,List.getElem?_append_left j6,List.getElem?_take_of_lt h]
   ·subst h;rw [if_neg j6,if_pos rfl,List.append_assoc,List.getElem?_append_right j6,hlt,Nat.sub_self];exact h2
   ·rcases Nat.lt_or_ge (i+1) t with h'|h'
    ·rw [if_neg j6,if_neg j6,List.getElem?_append_right (by simp only [List.length_append,hlt,List.length_cons,List.length_nil];omega),List.getElem?_drop];simp only [List.length_append,hlt,List.length_cons,List.length_nil]
     congr 1;omega
    ·obtain rfl:t=i+1:=by omega
     rw [if_pos rfl,List.append_assoc,List.getElem?_append_right j6,hlt,Nat.add_sub_cancel_left];exact h1
  rw [e]
  conv=>rhs;rw [hs]
  refine Alike.app (Alike.app (Alike.refl _) ?_) (Alike.refl _);show Alike ([X[i+1]]++ [X[i]]) ([X[i]]++ [X[i+1]]);exact Alike.turn (by simpa using hd)
theorem Zq(X:List Ev)(i:Nat)(hl:i+1<X.length):swp X (i+1) i=swp X i (i+1):=by
 refine List.ext_getElem? λt=> ?_;rw [swp_get hl j6,swp_get j6 hl];by_cases h:t=i
 ·subst h;rw [if_pos rfl,if_neg j6,if_pos rfl]
 ·rw [if_neg h,if_neg h]
theorem Alike.one:∀{X Y:List Ev},Alike X Y->X.Pairwise (λx y=>x.day<=y.day)->Y.Pairwise (λx y=>x.day<=y.day)->X=Y
 | [],Y,h,_,_=>by
  cases Y with
  |nil=>rfl
  |cons y Y=>have:=h.symm.mem (x:=y) (by simp);simp at this
 |x::X,Y,h,hX,hY=>by
  cases Y with
  |nil=>have:=h.mem (x:=x) (by simp);simp at this
  |cons y Y=>
   have e1:y.day<=x.day:=by
    have:=h.mem (x:=x) (by simp);rcases List.mem_cons.1 this with rfl|hm
    ·exact Int.le_refl _
    ·exact(List.pairwise_cons.1 hY).1 x hm
   have e2:x.day<=y.day:=by
    have:=h.symm.mem (x:=y) (by simp);rcases List.mem_cons.1 this with rfl|hm
    ·exact Int.le_refl _
    ·exact(List.pairwise_cons.1 hX).1 y hm
   have e:x.day=y.day:=by omega
   have hk:=h x.day;rw [List.filter_cons,List.filter_cons,if_pos (by simp),if_pos (by simp [e])] at hk;obtain⟨rfl,_⟩:=List.cons.inj hk
   congr 1
   refine Alike.one (λk=> ?_) (List.pairwise_cons.1 hX).2 (List.pairwise_cons.1 hY).2;have:=h k;rw [List.filter_cons,List.filter_cons] at this
   split at this
   ·exact(List.cons.inj this).2
   ·exact this
theorem Upto.pair{X:List Ev}(h:Upto X 0 X.length):X.Pairwise (λx y=>x.day<=y.day):=by
 rw [List.pairwise_iff_getElem];intro i j hi hj hij;have:=h i j (Nat.zero_le _) hij hj
 rwa [En (List.getElem?_eq_getElem hi),En (List.getElem?_eq_getElem hj)] at this
structure Bs(p:Nat->Prop)(lo hi i j:Nat):Prop where
 le:i<=j
 lo':lo<=i
 hi':j<=hi
 below:∀t,lo<=t->t<i->¬p t
 above:∀t,j<=t->t<hi->p t
theorem Bs.start{p:Nat->Prop}{lo hi:Nat}(h:lo<=hi):Bs p lo hi lo hi:=⟨h,Nat.le_refl _,Nat.le_refl _,λt _ _=>by omega,λt _ _=>by omega⟩
theorem Bs.up{p:Nat->Prop}{lo hi i j h:Nat}(b:Bs p lo hi i j)(hm:∀s t,lo<=s->s<=t->t<hi->p s->p t)(h1:i<=h)(h2:h<j)(hp:¬p h):Bs p lo hi (h+1) j:=
 ⟨by omega,by have:=b.lo';omega,b.hi',λt h3 h4 hpt=>hp (hm t h h3 (by omega) (by have:=b.hi';omega) hpt),b.above⟩
theorem Bs.down{p:Nat->Prop}{lo hi i j h:Nat}(b:Bs p lo hi i j)(hm:∀s t,lo<=s->s<=t->t<hi->p s->p t)(h1:i<=h)(h2:h<j)(hp:p h):Bs p lo hi i h:=
 ⟨h1,b.lo',by have:=b.hi';omega,b.below,λt h3 h4=>hm h t (by have:=b.lo';omega) h3 h4 hp⟩
def placeOf(day:Int):List Ev->Nat->Nat
 |_,0=>0
 |L,n+1=>match L[n]? with|some e=>if day<e.day then placeOf day L n else n+1|none=>n+1
def putL(L:List Ev)(e:Ev):List Ev:=L.take (placeOf e.day L L.length)++ [e]++L.drop (placeOf e.day L L.length)
theorem Ki(day:Int)(L:List Ev):∀n,placeOf day L n<=n
 |0=>by cases L<;>exact Nat.le_refl _
 |n+1=>by
  unfold placeOf
  split
  ·split
   ·exact Nat.le_succ_of_le (Ki day L n)
   ·exact Nat.le_refl _
  ·exact Nat.le_refl _
theorem Li(L:List Ev)(e:Ev):(putL L e).length=L.length+1:=by
 have:=Ki e.day L L.length;simp only [putL,List.length_append,List.length_take,List.length_drop,List.length_cons,List.length_nil];omega
theorem Pg(day:Int)(L:List Ev):∀n,n<=L.length->(∀t,placeOf day L n<=t->t<n->day<dy L t)/\(∀p,placeOf day L n=p+1->dy L p<=day)
 |0,_=>⟨λt _ h=>by omega,λp h=>by simp [placeOf] at h⟩
 |n+1,hn=>by
  have ih:=Pg day L n (by omega);have hx:L[n]?=some L[n]:=List.getElem?_eq_getElem (by omega);unfold placeOf;rw [hx];simp only
  split
  ·rename_i h;refine⟨λt h1 h2=> ?_,ih.2⟩;by_cases he:t=n
   ·subst he;rw [En hx];exact h
   ·exact ih.1 t h1 (by omega)
  ·rename_i h;refine⟨λt h1 h2=>by omega,λp h1=> ?_⟩;obtain rfl:p=n:=by omega
   rw [En hx];omega
def Sorted(L:List Ev):Prop:=L.Pairwise (λx y=>x.day<=y.day)
theorem Sorted.upto{L:List Ev}(h:Sorted L):Upto L 0 L.length:=λs t _ h1 h2=>by
 rw [En (List.getElem?_eq_getElem (show s<L.length by omega)),En (List.getElem?_eq_getElem h2)];exact List.pairwise_iff_getElem.1 h s t j6 h2 h1
theorem Tg{L:List Ev}(hs:Sorted L)(e:Ev):(∀x∈L.take (placeOf e.day L L.length),x.day<=e.day)/\(∀x∈L.drop (placeOf e.day L L.length),e.day<x.day):=by
 obtain⟨h1,h2⟩:=Pg e.day L L.length (Nat.le_refl _);have hle:=Ki e.day L L.length;refine⟨λx hx=> ?_,λx hx=> ?_⟩
 ·obtain⟨i,hi,he⟩:=List.getElem_of_mem hx;rw [List.length_take] at hi;obtain⟨p,hp⟩:∃p,placeOf e.day L L.length=p+1:=⟨placeOf e.day L L.length-1,by omega⟩;have h3:=h2 p hp;have h4:=hs.upto.le (s:=i) (t:=p) (Nat.zero_le _) j6 j6;rw [List.getElem_take] at he;rw [En (List.getElem?_eq_getElem (show i<L.length by omega)),he] at h4;omega
 ·obtain⟨i,hi,he⟩:=List.getElem_of_mem hx;rw [List.length_drop] at hi;rw [List.getElem_drop] at he;have h3:=h1 (placeOf e.day L L.length+i) j6 j6
  rwa [En (List.getElem?_eq_getElem (show placeOf e.day L L.length+i<L.length by omega)),he] at h3
theorem Aa8{L:List Ev}(hs:Sorted L)(e:Ev):Sorted (putL L e):=by
 obtain⟨h1,h2⟩:=Tg hs e;unfold putL Sorted;rw [List.append_assoc,List.pairwise_append];refine⟨hs.sublist (List.take_sublist _ _), ?_,λx hx y hy=> ?_⟩
 ·show List.Pairwise _ (e::_);rw [List.pairwise_cons];exact⟨λx hx=>by have:=h2 x hx;omega,hs.sublist (List.drop_sublist _ _)⟩
 ·have:=h1 x hx;rcases List.mem_cons.1 (show y∈e::_ from hy) with rfl|hy
  ·exact this
  ·have:=h2 y hy;omega
theorem Ac6{L:List Ev}(hs:Sorted L)(e:Ev):Alike (putL L e) (L++ [e]):=by
 obtain⟨h1,h2⟩:=Tg hs e;have:L++ [e]=L.take (placeOf e.day L L.length)++(L.drop (placeOf e.day L L.length)++ [e]):=by rw [<-List.append_assoc,List.take_append_drop]
 rw [this];unfold putL;rw [List.append_assoc];exact Alike.app (Alike.refl _) (Alike.turn λu hu v hv=>by simp only [List.mem_singleton] at hv;subst hv;exact h2 u hu)
def sortL(L:List Ev):List Ev:=L.foldl putL []
theorem Td:∀(L A B:List Ev),Sorted A->Alike A B->Sorted (L.foldl putL A)/\Alike (L.foldl putL A) (B++L)
 | [],A,B,h1,h2=>by simpa using ⟨h1,h2⟩
 |e::L,A,B,h1,h2=>by
  have:=Td L (putL A e) (B++ [e]) (Aa8 h1 e) ((Ac6 h1 e).trans (h2.app (Alike.refl _)))
  simpa using this
theorem Nr(L:List Ev):Sorted (sortL L)/\Alike (sortL L) L:=by
 exact Td L [] [] List.Pairwise.nil (Alike.refl _)
theorem sortL_one{L X:List Ev}(h1:Sorted X)(h2:Alike X L):X=sortL L:=(h2.trans (Nr L).2.symm).one h1 (Nr L).1
theorem Kg(L:List Ev):(sortL L).length=L.length:=by
 have:∀(L A:List Ev),(L.foldl putL A).length=A.length+L.length:=by
  intro L
  induction L with
  |nil=>intro A;rfl
  |cons e L ih=>intro A;rw [List.foldl_cons,ih,Li,List.length_cons];omega
 have:=this L [];rw [List.length_nil,Nat.zero_add] at this;exact this
def Jl(t:Tm):List Ev->Int
 | []=>0
 |e::L=>if evErr t e=0 then Jl t L else evErr t e
theorem Xc{t:Tm}:∀{L:List Ev},Jl t L=0->∀x∈L,evErr t x=0
 | [],_,x,hx=>by simp at hx
 |e::L,h,x,hx=>by
  unfold Jl at h;by_cases h0:evErr t e=0
  ·rw [if_pos h0] at h;rcases List.mem_cons.1 hx with rfl|hx
   ·exact h0
   ·exact Xc h x hx
  ·rw [if_neg h0] at h;exact absurd h h0
theorem Xd{t:Tm}:∀{L:List Ev} {i:Nat} {x:Ev},(∀j y,j<i->L[j]?=some y->evErr t y=0)->L[i]?=some x->¬evErr t x=0->Jl t L=evErr t x
 | [],i,x,_,hx,_=>by simp at hx
 |e::L,0,x,_,hx,hn=>by simp at hx;subst hx;unfold Jl;rw [if_neg hn]
 |e::L,i+1,x,h,hx,hn=>by
  unfold Jl;rw [if_pos (h 0 e (Nat.succ_pos _) rfl)];exact Xd (λj y hj hy=>h (j+1) y (Nat.succ_lt_succ hj) (by simpa using hy)) (by simpa using hx) hn
theorem Acu{t:Tm}{L:List Ev}(h:∀x∈L,evErr t x=0):Jl t L=0:=by
 induction L with
 |nil=>rfl
 |cons e L ih=>unfold Jl;rw [if_pos (h e (List.mem_cons_self ..))];exact ih λx hx=>h x (List.mem_cons_of_mem _ hx)
theorem Lp(g:Nat):∀(vs:List Value) (o:Nat) (w:World),Keeps (λk=>k=g) w (w.setCells g o vs)
 | [],_,_=>Keeps.refl _ _
 |v::r,o,w=>(Keeps.setCell (S:=λk=>k=g) w ⟨g,o,none⟩ v rfl).trans ((Lp g r (o+1) _).mono λ_ _ h=> .inl h)
theorem Gj{α:Type}{f:α->List Value}{size:Nat}{hf:∀x,(f x).length=size}{w:World}{base:Nat}{e:TypeId}{g cap n:Nat}{L:List α}(h:w.ownsRow base e size (.slice (some ⟨g,0,none⟩) n cap) n (L.flatMap f))(hl:L.length=n){k:Nat}{x y:α}(hx:L[k]?=some x)(j:Nat)(hj:j<size)
  {u:Value} (hy:(f x).set j u=f y):(w.setCell ⟨g,k*size+j,none⟩ u).ownsRow base e size (.slice (some ⟨g,0,none⟩) n cap) n ((L.set k y).flatMap f):=by
 subst hl;exact Gx hf h hx j hj hy
theorem Pj{w:World}{g cap n k:Nat}{L:List Ev}(h:w.ownsRow 0 96 5 (.slice (some ⟨g,0,none⟩) n cap) n (L.flatMap Ev.cells))(hl:L.length=n)(hk:k<n)(a b c d e:Int):
  (((((w.setCell ⟨g,k*5,none⟩ (.int .i64 a)).setCell ⟨g,k*5+1,none⟩ (.int .i64 b)).setCell ⟨g,k*5+2,none⟩ (.int .i64 c)).setCell ⟨g,k*5+3,none⟩ (.int .i64 d)).setCell ⟨g,k*5+4,none⟩ (.int .i64 e)).ownsRow 0 96 5 (.slice (some ⟨g,0,none⟩) n cap) n ((L.set k ⟨a,b,c,d,e⟩).flatMap Ev.cells):=by
 obtain⟨⟨a0,b0,c0,d0,e0⟩,hx⟩:=Aq (L:=L) (k:=k) j6;have s1:=Gj (hf:=Ev.Aj) h hl hx (y:=⟨a,b0,c0,d0,e0⟩) 0 j7 (u:= .int .i64 a) rfl;have s2:=Gj (hf:=Ev.Aj) s1 (by simp [hl]) (x:=⟨a,b0,c0,d0,e0⟩) (k:=k) (by simp [hl,hk]) (y:=⟨a,b,c0,d0,e0⟩) 1 j7 (u:= .int .i64 b) rfl;have s3:=Gj (hf:=Ev.Aj) s2 (by simp [hl]) (x:=⟨a,b,c0,d0,e0⟩) (k:=k) (by simp [hl,hk]) (y:=⟨a,b,c,d0,e0⟩) 2 j7 (u:= .int .i64 c) rfl;have s4:=Gj (hf:=Ev.Aj) s3 (by simp [hl]) (x:=⟨a,b,c,d0,e0⟩) (k:=k) (by simp [hl,hk]) (y:=⟨a,b,c,d,e0⟩) 3 j7 (u:= .int .i64 d) rfl;have s5:=Gj (hf:=Ev.Aj) s4 (by simp [hl]) (x:=⟨a,b,c,d,e0⟩) (k:=k) (by simp [hl,hk]) (y:=⟨a,b,c,d,e⟩) 4 j7 (u:= .int .i64 e) rfl;simp only [List.set_set] at s5;exact s5
theorem Xr(w:World)(ty:TypeId)(g i n c cap:Nat)(xs:List Value)(h:w.ownsRow 0 96 5 (.slice (some ⟨g,0,none⟩) n cap) n xs)(hi:i<n):∃vs:List Value,
  (Builtin.clear_ #[82] ty #[.slice (some ⟨g,i*5,none⟩) (n-i) c]).run Tryz.prog w= .ok (.tuple #[]) (w.setCells g (i*5) vs):=by
 rcases h.2 with⟨h0,_⟩|⟨g1,cap1,cur,h0,_,hh,h1,_,h3,_⟩
 ·simp at h0
 simp only [Value.slice.injEq,Option.some.injEq,Addr.mk.injEq,and_true,true_and] at h0;obtain⟨rfl,rfl⟩:=h0;refine⟨(Builtin.zeroCells (Value.agg #[.int .i64 0,.int .i64 0,.int .i64 0,.int .i64 0,.int .i64 0]).cells (n-i)).toList, ?_⟩;have hlen:((Builtin.zeroCells (Value.agg #[.int .i64 0,.int .i64 0,.int .i64 0,.int .i64 0,.int .i64 0]).cells (n-i)).toList).length=(n-i)*5:=by simp [Value.cells,Builtin.zeroCells]
 have hst:=run_storeCells_cells (P:=Tryz.prog) g (i*5) (Builtin.zeroCells (Value.agg #[.int .i64 0,.int .i64 0,.int .i64 0,.int .i64 0,.int .i64 0]).cells (n-i)).toList 0 w
  (λj hj=>by
   rw [hlen] at hj
   rw [Aa hh,Array.getElem?_eq_getElem (by rw [h3];omega)];rfl)
  (λj hj=>Ab hh _)
  (λv hv=>by
   simp only [Builtin.zeroCells,Value.cells,Array.mem_toList_iff,Array.mem_map,Array.mem_range] at hv;obtain⟨j,_,rfl⟩:=hv;have h5:j % 5<5:=Nat.mod_lt _ j7
   rcases(show j % 5=0\/j % 5=1\/j % 5=2\/j % 5=3\/j % 5=4 by omega) with h|h|h|h|h<;>simp [h]<;>rfl)
 simp only [Nat.add_zero] at hst;obtain⟨m,hm⟩:∃m,n-i=m+1:=⟨n-i-1,by omega⟩;have hv:(zeroValue 96).run Tryz.prog w= .ok (.agg #[.int .i64 0,.int .i64 0,.int .i64 0,.int .i64 0,.int .i64 0]) w:=by go_simp
 rw [hm] at hst⊢;simp [Builtin.clear_,run_underlying Tryz.underlying82,hv,hst]
theorem find_none{q:Ev->Bool}{L:List Ev}(h:L.findIdx? q=none):L.filter (λx=> !q x)=L:=by
 rw [List.filter_eq_self];intro x hx;have:=List.findIdx?_eq_none_iff.1 h x hx;simp [this]
def retI(o:Option Nat):Int:=match o with|some k=>(k:Int)|none=> -1
theorem Wy{q:Ev->Bool}{L:List Ev}{j:Nat}{x:Ev}(hx:L[j]?=some x)(h:∀i y,i<j->L[i]?=some y->q y=false)(hq:q x=true):L.findIdx? q=some j:=by
 rw [List.findIdx?_eq_some_iff_getElem];obtain⟨hl,he⟩:=List.getElem?_eq_some_iff.1 hx;refine⟨hl,by rw [he];exact hq,λi hi=> ?_⟩;have:=h i _ hi (List.getElem?_eq_getElem j6);simp [this]
theorem find_no{q:Ev->Bool}{L:List Ev}(h:∀i y,i<L.length->L[i]?=some y->q y=false):L.findIdx? q=none:=by
 rw [List.findIdx?_eq_none_iff];intro x hx;obtain⟨i,hi,he⟩:=List.mem_iff_getElem.1 hx;exact h i x hi (by rw [List.getElem?_eq_getElem hi,he])
structure Es(y m d n:Int):Prop where
 y0:1600<=y
 m0:1<=m
 m1:m<=12
 d0:1<=d
 d1:d<=mlen y m
 eq:n=nY y+cumT y m+d-1
theorem Xg{y:Int}{a:Int}(h0:1<=a):∀k:Nat,a+k<=13->cumT y a<=cumT y (a+k)
 |0,_=>by simp
 |k+1,h=>by
  have h1:=Xg (y:=y) h0 k (by omega);have h2:=Du (y:=y) (m:=a+k) (by omega) (by omega);rw [show a+((k+1:Nat):Int)=a+k+1 by omega];omega
theorem Sq{y a b:Int}(h0:1<=a)(h1:a<=b)(h2:b<=13):cumT y a<=cumT y b:=by
 have:=Xg (y:=y) h0 (b-a).toNat j6
 rwa [show a+((b-a).toNat:Int)=b by omega] at this
theorem Es.year{y m d n:Int}(h:Es y m d n):nY y<=n/\n<nY (y+1):=by
 have h1:=Du (y:=y) (m:=m) h.m0 h.m1;have h2:=Sq (y:=y) (a:=m+1) (b:=13) (by have:=h.m0;omega) (by have:=h.m1;omega) j6;have h3:=Sq (y:=y) (a:=1) (b:=m) j6 h.m0 (by have:=h.m1;omega);rw [Ui] at h2;rw [Pt] at h3;have h4:=Mm h.y0;have:=h.d0;have:=h.d1;have:=h.eq;omega
theorem MoAt.walk{y r m:Int}(hr:r<ylen y)(h0:1<=m)(h1:m<=12)(hq:cumT y m<=r):∀k:Nat,(k:Int)<m->MoAt y r (k+1) (r-cumT y ((k:Int)+1))
 |0,_=>by
  have:cumT y 1<=cumT y m:=Sq (by omega) h0 (by omega);rw [Pt] at this;have:=MoAt.start (y:=y) (r:=r) (by omega)
  simpa [Pt] using this
 |k+1,hk=>by
  have ih:=MoAt.walk hr h0 h1 hq k (by omega);have hs:=Du (y:=y) (m:=(k:Int)+1) (by omega) (by omega);have hle:=Sq (y:=y) (a:=(k:Int)+1+1) (b:=m) (by omega) (by omega) (by omega);have hkk:((k+1:Nat):Int)=(k:Int)+1:=by omega
  have:=ih.next hr (by rw [hkk];omega);rw [hkk] at this⊢
  rwa [show r-cumT y ((k:Int)+1)-mlen y ((k:Int)+1)=r-cumT y ((k:Int)+1+1) by omega] at this
theorem Es.found{y m d n:Int}(h:Es y m d n)(hn:n<=2932896):dY n=y/\dM n=m/\dD n=d:=by
 obtain⟨h1,h2⟩:=h.year;obtain⟨hy,_⟩:=Zm h.y0 h1 h2 hn;have hs:=Mm h.y0;have hd0:=h.d0;have hd1:=h.d1;have heq:=h.eq;have hm0:=h.m0;have hm1:=h.m1;have hw:=MoAt.walk (y:=y) (r:=n-nY y) (m:=m) j6 hm0 hm1 j6 (m-1).toNat j6;rw [show(((m-1).toNat:Nat):Int)+1=m by omega,show(m-1).toNat+1=m.toNat by omega] at hw;have hc:((m.toNat:Nat):Int)=m:=j8;have hdone:=hw.done (by rw [hc];omega);rw [hc] at hdone;refine⟨hy, ?_, ?_⟩
 ·unfold dM;rw [hy,hdone]
 ·unfold dD;rw [hy,hdone];show n-nY y-cumT y m+1=d;omega
theorem Xf{y m d n:Int}(h:Es y m d n):(d<mlen y m/\Es y m (d+1) (n+1))\/(d=mlen y m/\m<12/\Es y (m+1) 1 (n+1))\/(d=mlen y m/\m=12/\Es (y+1) 1 1 (n+1)):=by
 obtain⟨y0,m0,m1,d0,d1,eq⟩:=h;have hc:=Du (y:=y) (m:=m) m0 m1;by_cases hd:d<mlen y m
 ·exact .inl ⟨hd,y0,m0,m1,by omega,by omega,by omega⟩
 ·by_cases hm:m<12
  ·have hc2:=Du (y:=y) (m:=m+1) j6 j6;exact .inr (.inl ⟨by omega,hm,y0,by omega,by omega,by omega,by omega,by omega⟩)
  ·obtain rfl:m=12:=by omega
   have hc2:=Du (y:=y+1) (m:=1) j6 j6;have he:=Ui y;have hy:=Mm y0;rw [show(12:Int)+1=13 by rfl,he] at hc;exact .inr (.inr ⟨by omega,rfl,by omega,by omega,by omega,by omega,by omega,by rw [Pt];omega⟩)
theorem date_ex:∀k:Nat,∃y m d,Es y m d (-135140+k)
 |0=>⟨1600,1,1,by decide,by decide,by decide,by decide,by decide,by decide⟩
 |k+1=>by
  obtain⟨y,m,d,h⟩:=date_ex k;rw [show(-135140:Int)+((k+1:Nat):Int)= -135140+k+1 by omega];rcases Xf h with⟨_,h⟩|⟨_,_,h⟩|⟨_,_,h⟩
  ·exact⟨_,_,_,h⟩
  ·exact⟨_,_,_,h⟩
  ·exact⟨_,_,_,h⟩
theorem date_is{n:Int}(h0: -135140<=n)(h1:n<=2932896):Es (dY n) (dM n) (dD n) n:=by
 obtain⟨y,m,d,h⟩:=date_ex (n+135140).toNat;rw [show(-135140:Int)+((n+135140).toNat:Int)=n by omega] at h;obtain⟨e1,e2,e3⟩:=h.found h1;rw [e1,e2,e3];exact h
theorem Es.same{y m d n:Int}(h:Es y m d n)(k:Int)(h0:1<=d+k)(h1:d+k<=mlen y m):Es y m (d+k) (n+k):=⟨h.y0,h.m0,h.m1,h0,h1,by have:=h.eq;omega⟩
theorem Es.over{y m d n:Int}(h:Es y m d n)(k:Int)(h0:1<=k)(h1:k<=28):∃y' m',Es y' m' k (n-d+mlen y m+k):=by
 have hl:=h.same (mlen y m-d) (by have:=h.d0;have:=h.d1;omega) j6;rw [show d+(mlen y m-d)=mlen y m by omega] at hl;rcases Xf hl with⟨hh,_⟩|⟨_,hm,hn⟩|⟨_,hm,hn⟩
 ·omega
 ·have:=Du (y:=y) (m:=m+1) (by have:=h.m0;omega) j6;exact j3d
 ·have:=Du (y:=y+1) (m:=1) j6 j6;exact j3d
def lastF(fr cd:Int):Int:=if fr-dD fr+cd-1<fr then fr-dD fr+cd-1+mlen (dY fr) (dM fr) else fr-dD fr+cd-1
def lastE(fr cd:Int):Int:=if cd<1\/28<cd then 1 else if¬(-135140<=fr/\fr<=2932896) then 10 else if 2932896<lastF fr cd then 10 else 0
theorem Aat{fr cd:Int}(h0: -135140<=fr)(h1:fr<=2932896)(c0:1<=cd)(c1:cd<=28):fr<=lastF fr cd/\lastF fr cd<=fr+31:=by
 have h:=date_is h0 h1;have hm:=(Du (y:=dY fr) (m:=dM fr) h.m0 h.m1).2;have:=h.d0;have:=h.d1;unfold lastF
 split<;>omega
def lastV(fr cd:Int):Int:=if lastE fr cd=0 then lastF fr cd else 0
theorem Rl(fr cd:Int)(w:World)(hf: -1000000000000<=fr/\fr<=1000000000000):Calls Tryz.prog 166 #[.int .i64 fr,.int .i64 cd] w λe w'=>e= .returned (.tuple #[.int .i64 (lastV fr cd),.int .i64 (lastE fr cd)])/\Keeps (λ_=>False) w w':=by
 obtain⟨hf0,hf1⟩:=hf;by_cases hc:cd<1\/28<cd
 ·have he:lastE fr cd=1:=by unfold lastE;rw [if_pos hc]
  have hv:lastV fr cd=0:=by unfold lastV;rw [if_neg (by rw [he];decide)]
  rw [he,hv];obtain⟨He,Hv⟩:=hid2 he hv;clear hv he;go_enter Tryz.func166,Tryz.ntmps166;rcases hc with hc|hc
  ·exact j3e
  ·have hc2:¬cd<1:=j8;exact j3e
 ·have c1:¬cd<1:=j8;have c2:¬28<cd:=j8;have hdt:=Abe fr w j6;by_cases hin: -135140<=fr/\fr<=2932896
  ·have hd:dayIn fr=true:=by simp [dayIn,hin]
   rw [if_pos hd,if_pos hd] at hdt;have h:=date_is hin.1 hin.2;have hm:=(Du (y:=dY fr) (m:=dM fr) h.m0 h.m1).2;have y0:=h.y0;have m0:=h.m0;have m1:=h.m1;have d0:=h.d0;have d1:=h.d1;have hlen:=λW=>Nk (dY fr) (dM fr) j6 m0 m1 W;have hlf:lastF fr cd=if fr-dD fr+cd-1<fr then fr-dD fr+cd-1+mlen (dY fr) (dM fr) else fr-dD fr+cd-1:=rfl;have hle:lastE fr cd=if 2932896<lastF fr cd then 10 else 0:=by unfold lastE;rw [if_neg hc,if_neg j6]
   have hlv:lastV fr cd=if lastE fr cd=0 then lastF fr cd else 0:=rfl;obtain⟨F,hF⟩:∃F,lastF fr cd=F:=⟨_,rfl⟩;obtain⟨E,hE⟩:∃E,lastE fr cd=E:=⟨_,rfl⟩;obtain⟨V,hV⟩:∃V,lastV fr cd=V:=⟨_,rfl⟩;obtain⟨Y,hY⟩:∃Y,dY fr=Y:=⟨_,rfl⟩;obtain⟨M,hM⟩:∃M,dM fr=M:=⟨_,rfl⟩;obtain⟨D,hD⟩:∃D,dD fr=D:=⟨_,rfl⟩;obtain⟨l,hl⟩:∃l,mlen Y M=l:=⟨_,rfl⟩;rw [hF] at hlf hle hlv;rw [hE] at hle hlv;rw [hV] at hlv;rw [hE,hV];rw [hY,hM] at hlf hm hlen hdt d1;rw [hD] at hdt hlf d0 d1;rw [hl] at hlf hm hlen d1;obtain⟨hin0,hin1⟩:=hin;clear h y0 m0 m1 hc;by_cases ha:fr-D+cd-1<fr
   ·rw [if_pos ha] at hlf;subst hlf;by_cases hb:2932896<fr-D+cd-1+l
    ·rw [if_pos hb] at hle;subst hle;rw [if_neg j7] at hlv;subst hlv;obtain⟨Hd,Hdt,Hlen,HF,HE,HV,HY,HM,HD⟩:=hid9 hd hdt hlen hF hE hV hY hM hD;clear hD hM hY hV hE hF hlen hdt hd;have Hl:=Lib.hid hl;clear hl;go_enter Tryz.func166,Tryz.ntmps166;go_wp2_with fail;refine Hdt.out.mono ?_;rintro e w1 ⟨rfl,hk1⟩;have Hk1:=Lib.hid hk1;clear hk1;go_wp2_with fail;refine(Hlen.out _).mono ?_;rintro e w2 ⟨rfl,rfl⟩;go_wp2_with fail;exact j1B
    ·rw [if_neg hb] at hle;subst hle;rw [if_pos rfl] at hlv;subst hlv;obtain⟨Hd,Hdt,Hlen,HF,HE,HV,HY,HM,HD⟩:=hid9 hd hdt hlen hF hE hV hY hM hD;clear hD hM hY hV hE hF hlen hdt hd;have Hl:=Lib.hid hl;clear hl;go_enter Tryz.func166,Tryz.ntmps166;go_wp2_with fail;refine Hdt.out.mono ?_;rintro e w1 ⟨rfl,hk1⟩;have Hk1:=Lib.hid hk1;clear hk1;go_wp2_with fail;refine(Hlen.out _).mono ?_;rintro e w2 ⟨rfl,rfl⟩;go_wp2_with fail;exact bodyPost_ret (v:= .tuple #[.int .i64 (fr-D+cd-1+l),.int .i64 0]) j0L rfl ⟨rfl,Hk1.out.nt jf⟩
   ·rw [if_neg ha] at hlf;subst hlf;by_cases hb:2932896<fr-D+cd-1
    ·rw [if_pos hb] at hle;subst hle;rw [if_neg j7] at hlv;subst hlv;obtain⟨Hd,Hdt,Hlen,HF,HE,HV,HY,HM,HD⟩:=hid9 hd hdt hlen hF hE hV hY hM hD;clear hD hM hY hV hE hF hlen hdt hd;have Hl:=Lib.hid hl;clear hl;go_enter Tryz.func166,Tryz.ntmps166;go_wp2_with fail;refine Hdt.out.mono ?_;rintro e w1 ⟨rfl,hk1⟩;have Hk1:=Lib.hid hk1;clear hk1;go_wp2_with fail;exact j1B
    ·rw [if_neg hb] at hle;subst hle;rw [if_pos rfl] at hlv;subst hlv;obtain⟨Hd,Hdt,Hlen,HF,HE,HV,HY,HM,HD⟩:=hid9 hd hdt hlen hF hE hV hY hM hD;clear hD hM hY hV hE hF hlen hdt hd;have Hl:=Lib.hid hl;clear hl;go_enter Tryz.func166,Tryz.ntmps166;go_wp2_with fail;refine Hdt.out.mono ?_;rintro e w1 ⟨rfl,hk1⟩;have Hk1:=Lib.hid hk1;clear hk1;go_wp2_with fail;exact bodyPost_ret (v:= .tuple #[.int .i64 (fr-D+cd-1),.int .i64 0]) j0L rfl ⟨rfl,Hk1.out.nt jf⟩
  ·have hd:dayIn fr=false:=by simp [dayIn];omega
   have hdd:¬dayIn fr=true:=by rw [hd];decide
   rw [if_neg hdd,if_neg hdd] at hdt;have he:lastE fr cd=10:=by unfold lastE;rw [if_neg hc,if_pos hin]
   have hv:lastV fr cd=0:=by unfold lastV;rw [if_neg (by rw [he];decide)]
   rw [he,hv];clear hin hc;obtain⟨He,Hv,Hd,Hdd,Hdt⟩:=hid5 he hv hd hdd hdt;clear hdt hdd hd hv he;go_enter Tryz.func166,Tryz.ntmps166;go_wp2_with fail;refine Hdt.out.mono ?_;rintro e w1 ⟨rfl,hk1⟩;have Hk1:=Lib.hid hk1;clear hk1;go_wp2;exact j1B
def spc(p:Int×Int):List Value:= [.int .i64 p.1,.int .i64 p.2]
theorem Acn:(Tryz.prog.info? 57).map (λi=>(i.zero,i.size,i.bytes))=some (some (.agg #[.int .i64 0,.int .i64 0]),2,16):=by kernel_rfl
def findW(cd day:Int):Nat->Int->List (Int×Int)×Bool
 |0,_=>([],false)
 |f+1,fr=>if lastE fr cd=0 then(if lastF fr cd<day/\f≠0 then((fr,lastF fr cd)::(findW cd day f (lastF fr cd+1)).1,(findW cd day f (lastF fr cd+1)).2) else([(fr,lastF fr cd)],decide (fr<=day)&&decide (day<=lastF fr cd))) else([],false)
structure Jc(S:Nat->Prop)(w0:World)(bl bd bi:Nat)(day:Int)(v:Value)(L:List (Int×Int))(b:Bool)(W:World):Prop where
 l:W.heap[bl]?=some (.cells #[v] 227 (0,0))
 d:W.heap[bd]?=some (.cells #[.int .i64 day] 3 (0,0))
 i:W.heap[bi]?=some (.cells #[.bool b] 4 (0,0))
 row:W.ownsRow 0 57 2 v L.length (L.flatMap spc)
 fr:∀g,v.ownBlock=some g->w0.heap.size<=g
 kp:Keeps S w0 W
theorem Jc.keep{S:Nat->Prop}{w0 W W':World}{bl bd bi:Nat}{day:Int}{v:Value}{L:List (Int×Int)}{b:Bool}(h:Jc S w0 bl bd bi day v L b W)(hk:Keeps (λ_=>False) W W'):Jc S w0 bl bd bi day v L b W':=
 ⟨Ad h.l hk (by simp),Ad h.d hk (by simp),Ad h.i hk (by simp),h.row.of_keeps hk,h.fr,h.kp.trans (hk.mono (by simp))⟩
theorem Pq(S:Nat->Prop)(w0:World)(bl bd bi:Nat)(day:Int)(v:Value)(L:List (Int×Int))(b:Bool)(n fr te:Int)(W:World)(h:Jc S w0 bl bd bi day v L b W)(hSl:S bl)(hSi:S bi)(hL:L.length<=1000000):
  Calls Tryz.prog 201 #[.int .i64 n,.agg #[.int .i64 fr,.int .i64 te],(.pointer (some ⟨bl,0,none⟩)),(.pointer (some ⟨bd,0,none⟩)),(.pointer (some ⟨bi,0,none⟩))] W λe w'=>e= .returned (.bool (decide (te<day)&&decide (n<300)))/\Keeps (λi=>i=bl\/i=bi\/v.ownBlock=some i) W w'/\∃v',Jc S w0 bl bd bi day v' (L++ [(fr,te)]) (decide (fr<=day)&&decide (day<=te)) w':=by
 obtain⟨i0,hi,hi0,hi1,hi2⟩:=info_parts Acn;obtain⟨hl,hd,hib,hrow,hfr,hkp⟩:=h;have hlv:=Ai hrow hl j7;have hdv:=Ai hrow hd j7;have hiv:=Ai hrow hib j7;have nld:bl≠bd:=λe=>by subst e;rw [hl] at hd;simp at hd
 have nli:bl≠bi:=λe=>by subst e;rw [hl] at hib;simp at hib
 have ndi:bd≠bi:=λe=>by subst e;rw [hd] at hib;simp at hib
 obtain⟨ad,cap,hv,_,_⟩:=Ae hrow;obtain⟨q,hq⟩:∃q,L.length=q:=⟨_,rfl⟩;rw [hq] at hrow hv hL;subst hv;have cl:=Aa hl 0;have bll:=lt_of_block hl;have fl:=Ab hl 0;obtain⟨r,hr⟩:∃r,(decide (fr<=day)&&decide (day<=te))=r:=⟨_,rfl⟩;obtain⟨r2,hr2⟩:∃r,(decide (te<day)&&decide (n<300))=r:=⟨_,rfl⟩;rw [hr,hr2]
 have hW1:∀v' w',Keeps (λi=>(Value.slice ad q cap).ownBlock=some i) W w'->w'.ownsRow 0 57 2 v' (q+1) ((L++ [(fr,te)]).flatMap spc)->(v'.ownBlock=(Value.slice ad q cap).ownBlock\/∃g,v'.ownBlock=some g/\W.heap.size<=g)->
  Keeps (λi=>i=bl\/i=bi\/(Value.slice ad q cap).ownBlock=some i) W ((w'.setCell ⟨bl,0,none⟩ v').setCell ⟨bi,0,none⟩ (.bool r))/\Jc S w0 bl bd bi day v' (L++ [(fr,te)]) r ((w'.setCell ⟨bl,0,none⟩ v').setCell ⟨bi,0,none⟩ (.bool r)):=by
  intro v' w' hk ho hf;have h1:=Ad hl hk hlv;have h2:=Ad hd hk hdv;have h3:=Ad hib hk hiv;have hs:=hkp.size;have hks:=hk.size
  have nv:∀g,v'.ownBlock=some g->g≠bl/\g≠bi:=by
   intro g hg;rcases hf with e|⟨g',e,h'⟩
   ·exact⟨λe2=>by subst e2;exact hlv (e▸hg),λe2=>by subst e2;exact hiv (e▸hg)⟩
   ·rw [e] at hg;simp only [Option.some.injEq] at hg;have:=lt_of_block hib;exact⟨by omega,by omega⟩
  have k1:Keeps (λi=>i=bl) w' (w'.setCell ⟨bl,0,none⟩ v'):=Keeps.setCell _ _ _ rfl;have k2:Keeps (λi=>i=bi) (w'.setCell ⟨bl,0,none⟩ v') ((w'.setCell ⟨bl,0,none⟩ v').setCell ⟨bi,0,none⟩ (.bool r)):=Keeps.setCell _ _ _ rfl
  have kk:Keeps (λi=>i=bl\/i=bi\/(Value.slice ad q cap).ownBlock=some i) W ((w'.setCell ⟨bl,0,none⟩ v').setCell ⟨bi,0,none⟩ (.bool r)):=
   ((hk.mono λi _ e=> .inr (.inr e)).trans (k1.mono λi _ e=> .inl (.inl e))).trans (k2.mono λi _ e=> .inl (.inr (.inl e)))
  refine⟨kk, ?_, ?_, ?_, ?_, ?_, ?_⟩
  ·exact Ad ((heap_setCell_same _ _ 0 _ _ _ h1).trans rfl) k2 (λe=>nli e)
  ·exact Ad (Ad h2 k1 (λe=>nld e.symm)) k2 (λe=>ndi e)
  ·exact(heap_setCell_same _ _ 0 _ _ _ (Ad h3 k1 (λe=>nli e.symm))).trans rfl
  ·rw [List.length_append,hq];exact k2.row (k1.row ho (λg hg e=>(nv g hg).1 e)) (λg hg e=>(nv g hg).2 e)
  ·intro g hg;rcases hf with e|⟨g',e,h'⟩
   ·exact hfr g (by rw [<-e];exact hg)
   ·exact j1c
  ·exact hkp.trans (kk.mono λi _ e=>by
    rcases e with rfl|rfl|e
    ·exact .inl hSl
    ·exact .inl hSi
    ·exact .inr (hfr i e))
 obtain⟨Hl,Hd,Hib,Hrow,Hfr,Hkp,Hq,Hi,Hi0⟩:=hid9 hl hd hib hrow hfr hkp hq hi hi0;clear hi0 hi hq hkp hfr hrow hib hd hl;obtain⟨Hi1,Hi2,HW1,Hlv,Hdv,Hiv,Hr,Hr2⟩:=hid8 hi1 hi2 hW1 hlv hdv hiv hr hr2;clear hr2 hr hiv hdv hlv hW1 hi2 hi1;go_enter Tryz.func201,Tryz.ntmps201
 go_wp2_with (at_builtin;refine Ao rfl (.tmp 8) (.tmp 10) 227 rfl 0 57 i0 _ 2 16 Tryz.underlying227 Hi.out Hi0.out Hi1.out Hi2.out rfl j7 _ q _ rfl ((Hrow.out.alloc _).alloc _) _ 1 _ rfl (Reads.litAt _ _ _ 2 1 _ jq rfl) jg jd j6 (Nat.zero_le _) ?_;intro v4 w4 hown4 hk4 hf4;refine haltD ?_)
 refine Lib.hid ?_;have hnB:¬(Value.slice ad q cap).ownBlock=some W.heap.size:=λe=>by have:=Cj Hrow.out e;omega
 have hkW:Keeps (λi=>(Value.slice ad q cap).ownBlock=some i) W w4:=((Keeps.alloc W (.cells #[.int .i64 fr,.int .i64 te] 57)).trans (Keeps.alloc _ _)).trans (hk4.mono λi _ e=> .inl e);have hb4:=Ad (Ar (heap_alloc_new W (.cells #[.int .i64 fr,.int .i64 te] 57)) _) hk4 hnB;have s0:=Aa hb4 0;have s1:=Aa hb4 1;have sl:=lt_of_block hb4;have l4:=Ad Hl.out hkW Hlv.out;have d4:=Ad Hd.out hkW Hdv.out;have i4:=Ad Hib.out hkW Hiv.out;have lc:=Aa l4 0;have lf:=Ab l4 0;have ll:=lt_of_block l4;have dc:=Aa d4 0;have dl:=lt_of_block d4;have ic:=Aa i4 0;have if0:=Ab i4 0;have il:=lt_of_block i4;have hpost:=HW1.out v4 w4 hkW (by rw [List.flatMap_append];exact hown4) (hf4.imp id fun⟨g,h1,h2⟩=>⟨g,h1,by simp at h2;omega⟩);have hbS:W.heap.size≠bl:=j8;have hbS2:W.heap.size≠bi:=by have:=lt_of_block Hib.out;omega
 obtain⟨ad4,c4,rfl,_,_⟩:=Ae hown4;obtain⟨Hpost,HkW,Hb4,L4,D4,I4⟩:=hid6 hpost hkW hb4 l4 d4 i4;clear i4 d4 l4 hb4 hkW hpost;clear hown4 hk4 hf4 hnB;by_cases b1:fr<=day
 ·by_cases b2:day<=te
  ·have b3:¬te<day:=j8;exact j01
  ·have b3:te<day:=j8;by_cases b4:n<300
   ·skip
    exact j01
   ·skip
    exact j01
 ·by_cases b3:te<day
  ·by_cases b4:n<300
   ·skip
    exact j01
   ·skip
    exact j01
  ·skip
   exact j01
theorem Jc.set{S:Nat->Prop}{w0 W:World}{bl bd bi:Nat}{day:Int}{v:Value}{L:List (Int×Int)}{b:Bool}(h:Jc S w0 bl bd bi day v L b W){B:Nat}(hS:S B)(h1:bl≠B)(h2:bd≠B)(h3:bi≠B)(h4:B<w0.heap.size)(j:Nat)(u:Value):Jc S w0 bl bd bi day v L b (W.setCell ⟨B,j,none⟩ u):=by
 have k:Keeps (λi=>i=B) W (W.setCell ⟨B,j,none⟩ u):=Keeps.setCell _ _ _ rfl;exact⟨Ad h.l k h1,Ad h.d k h2,Ad h.i k h3,k.row h.row (λg hg e=>by have:=h.fr g hg;omega),h.fr,h.kp.trans (k.mono λi _ e=> .inl (e▸hS))⟩
def spFr(cd:Int)(clo:Value)(n:Nat)(B:Nat)(u:Nat->Value):Act:={ tmps:= #[u 0,.int .i64 cd,clo,u 3,u 4,u 5,u 6,.int .i64 ((n:Nat):Int),(.pointer (some ⟨B,0,none⟩)),u 9,u 10,u 11,u 12,u 13,u 14,u 15,u 16,u 17,u 18,u 19,u 20,u 21,u 22,u 23,u 24,u 25,u 26,u 27,u 28,u 29,u 30,u 31,u 32,u 33],defers:= [] }
def Zt(i:Nat)(a':Act):Nat:=match a'.tmps.getD i undef with| .int _ n=>n.toNat|_=>0
def spW(w:World)(st:Int):World:=w.alloc (.cells #[.int .i64 st,.int .i64 0] 57)
structure SpAt(w:World)(bl bd bi:Nat)(st cd day:Int)(k:Nat)(fr te:Int)(L:List (Int×Int))(v:Value)(W:World):Prop where
 k3:k<300
 box:W.heap[w.heap.size]?=some (.cells #[.int .i64 fr,.int .i64 te] 57 (0,0))
 fa:Jc (λi=>i=bl\/i=bi\/i=w.heap.size) (spW w st) bl bd bi day v L false W
 f0: -1000000000000<=fr
 f1:fr<=1000000000000
 len:L.length=k
 eq:findW cd day 300 st=(L++(findW cd day (300-k) fr).1,(findW cd day (300-k) fr).2)
def spJ(w:World)(bl bd bi:Nat)(st cd day:Int)(clo:Value)(a':Act)(W:World):Prop:=∃(k:Nat) (fr te:Int) (L:List (Int×Int)) (v:Value) (u:Nat->Value),a'=spFr cd clo (k+1) w.heap.size u/\SpAt w bl bd bi st cd day k fr te L v W
theorem spJ.mk{w:World}{bl bd bi:Nat}{st cd day:Int}{clo:Value}{a':Act}{W:World}(k:Nat)(fr te:Int)(L:List (Int×Int))(v:Value)(h:a'=spFr cd clo (k+1) w.heap.size (λi=>a'.tmps.getD i undef))(hs:SpAt w bl bd bi st cd day k fr te L v W):spJ w bl bd bi st cd day clo a' W:=⟨k,fr,te,L,v,_,h,hs⟩
theorem findW_bad{cd day fr:Int}{f:Nat}(h:¬lastE fr cd=0):findW cd day f fr=([],false):=by
 cases f with
 |zero=>rfl
 |succ f=>unfold findW;rw [if_neg h]
theorem Acs{cd day fr:Int}{f:Nat}(h:lastE fr cd=0)(h2:¬(lastF fr cd<day/\f≠0)):findW cd day (f+1) fr=([(fr,lastF fr cd)],decide (fr<=day)&&decide (day<=lastF fr cd)):=by
 conv=>lhs;unfold findW
 rw [if_pos h,if_neg h2]
theorem findW_go{cd day fr:Int}{f:Nat}(h:lastE fr cd=0)(h2:lastF fr cd<day/\f≠0):findW cd day (f+1) fr=((fr,lastF fr cd)::(findW cd day f (lastF fr cd+1)).1,(findW cd day f (lastF fr cd+1)).2):=by
 conv=>lhs;unfold findW
 rw [if_pos h,if_pos h2]
theorem lastE_ok{fr cd:Int}(h:lastE fr cd=0):1<=cd/\cd<=28/\ -135140<=fr/\fr<=2932896/\lastF fr cd<=2932896/\fr<=lastF fr cd:=by
 unfold lastE at h
 split at h
 ·cases h
 ·split at h
  ·cases h
  ·split at h
   ·cases h
   ·have:=Aat (fr:=fr) (cd:=cd) j6 j6 j6 j6;omega
def Uw(bl bi:Nat)(st cd day:Int)(w:World)(e:Ending)(w':World):Prop:=∃z v,e= .returned (.int .i64 z)/\w'.heap[bl]?=some (.cells #[v] 227 (0,0))/\w'.heap[bi]?=some (.cells #[.bool (findW cd day 300 st).2] 4 (0,0))/\w'.ownsRow 0 57 2 v (findW cd day 300 st).1.length ((findW cd day 300 st).1.flatMap spc)/\(∀g,v.ownBlock=some g->w.heap.size<=g)/\Keeps (λi=>i=bl\/i=bi) w w'
theorem Uw.of{w W:World}{bl bd bi:Nat}{st cd day:Int}{L:List (Int×Int)}{v:Value}{b:Bool}(h:Jc (λi=>i=bl\/i=bi\/i=w.heap.size) (spW w st) bl bd bi day v L b W)(he:findW cd day 300 st=(L,b))(z:Int):Uw bl bi st cd day w (.returned (.int .i64 z)) W:=by
 refine⟨z,v,rfl,h.l,by rw [he];exact h.i,by rw [he];exact h.row,λg hg=>by have:=h.fr g hg;simp [spW] at this;omega,(Keeps.alloc w _).trans (h.kp.mono λi _ e=> ?_)⟩;rcases e with e|e|e
 ·exact .inl (.inl e)
 ·exact .inl (.inr e)
 ·exact .inr j6
theorem Yr(st cd day:Int)(bl bd bi:Nat)(w:World)(hl:w.heap[bl]?=some (.cells #[.slice none 0 0] 227 (0,0)))(hd:w.heap[bd]?=some (.cells #[.int .i64 day] 3 (0,0)))(hi:w.heap[bi]?=some (.cells #[.bool false] 4 (0,0)))(hst: -1000000000000<=st/\st<=1000000000000):
  Calls Tryz.prog 200 #[.int .i64 st,.int .i64 cd,.func (.func 201) #[] #[(.pointer (some ⟨bl,0,none⟩)),(.pointer (some ⟨bd,0,none⟩)),(.pointer (some ⟨bi,0,none⟩))]] w (Uw bl bi st cd day w):=by
 obtain⟨st0,st1⟩:=hst;have ll:=lt_of_block hl;have dl:=lt_of_block hd;have il:=lt_of_block hi
 have hstart:SpAt w bl bd bi st cd day 0 st 0 [] (.slice none 0 0) (spW w st):=
  ⟨by omega,heap_alloc_new w _,⟨Ar hl _,Ar hd _,Ar hi _,World.ownsRow_nil _ _ _ _,by simp [Value.ownBlock],Keeps.refl _ _⟩,st0,st1,rfl,by simp⟩
 unfold spW at hstart;obtain⟨Hl,Hd,Hi,Hstart⟩:=hid4 hl hd hi hstart;clear hstart hi hd hl;go_enter Tryz.func200,Tryz.ntmps200;go_wp2_with fail;refine De 0 (spJ w bl bd bi st cd day (.func (.func 201) #[] #[(.pointer (some ⟨bl,0,none⟩)),(.pointer (some ⟨bd,0,none⟩)),(.pointer (some ⟨bi,0,none⟩))])) (λa' _=>400-Zt 7 a') rfl ?_ ?_
 ·rintro a' W ⟨k,fr,te,L,v,u,rfl,hs⟩;unfold spFr;have hk3:=hs.k3;have hla:=Rl fr cd W ⟨hs.f0,hs.f1⟩;obtain⟨F,hF⟩:∃F,lastF fr cd=F:=⟨_,rfl⟩;obtain⟨f,hf⟩:∃f,300-k=f+1:=⟨300-k-1,by omega⟩;have hbig:L.length<=1000000:=by rw [hs.len];omega
  have heq:=hs.eq;have b0:=Aa hs.box 0;have b1:=Aa hs.box 1;have bl0:=lt_of_block hs.box;have hset:=fun(W':World) (hW:Keeps (λ_=>False) W W') (j:Nat) (x:Value)=>(hs.fa.keep hW).set (B:=w.heap.size) (.inr (.inr rfl)) j6 j6 j6 (by simp [spW]) j x;have hbx:=fun(W':World) (hW:Keeps (λ_=>False) W W')=>Ad hs.box hW (by simp);by_cases he:lastE fr cd=0
  ·obtain⟨o1,o2,o3,o4,o5,o6⟩:=lastE_ok he;have hv:lastV fr cd=F:=by unfold lastV;rw [if_pos he,hF]
   rw [hv,he] at hla;rw [hF] at o5 o6;rw [hf] at heq;by_cases hgo:F<day/\f≠0
   ·rw [findW_go he (by rw [hF];exact hgo),hF] at heq;have hc1:decide (F<day)=true:=by simp [hgo.1]
    have hc2:decide (((k+1:Nat):Int)<300)=true:=by rw [decide_eq_true_iff];omega
    have hnb:(decide (F<day)&&decide (((k+1:Nat):Int)<300))=true:=by rw [hc1,hc2];rfl
    have hisb:(decide (fr<=day)&&decide (day<=F))=false:=by rw [show decide (day<=F)=false by simp;omega];simp
    have hf0:=hgo.2;clear hc1 hc2 hgo;obtain⟨Hs,Hla,HF,Hf,Heq,He,Hset,Hbx,Hnb⟩:=hid9 hs hla hF hf heq he hset hbx hnb;clear hnb hbx hset he heq hf hF hla hs;obtain⟨Hisb,Hv⟩:=hid2 hisb hv;clear hv hisb;go_wp2_with fail;refine Hla.out.mono ?_;rintro e w1 ⟨rfl,hk1⟩;have hfa:=Hset.out w1 hk1 1 (.int .i64 F);have hb:=(heap_setCell_same _ _ 1 _ _ (Value.int .i64 F) (Hbx.out w1 hk1)).trans rfl;refine j1C ?_;intro b0' b1' bf bll;have hcl:=j3f;rw [Hnb.out,Hisb.out] at hcl;obtain⟨Hfa,Hb,Hcl,Hk1⟩:=hid4 hfa hb hcl hk1;clear hk1 hcl hb hfa;go_wp2_with fail;refine Hcl.out.mono ?_;rintro e w2 ⟨rfl,hk2,v2,hfa2⟩
    have hne:¬(w.heap.size=bl\/w.heap.size=bi\/v.ownBlock=some w.heap.size):=by
     rintro(e|e|e)
     ·omega
     ·omega
     ·have:=Hs.out.fa.fr _ e;simp [spW] at this;omega
    have hb2:=Ad Hb.out hk2 hne;have e0:=Aa hb2 0;have e1:=Aa hb2 1;have ef:=Ab hb2 0;have el:=lt_of_block hb2;have hfa3:=hfa2.set (B:=w.heap.size) (.inr (.inr rfl)) j6 j6 j6 (by simp [spW]) 0 (.int .i64 (F+1));have hb3:=(heap_setCell_same _ _ 0 _ _ (Value.int .i64 (F+1)) hb2).trans rfl;obtain⟨Hfa2,Hb2,Hfa3,Hb3,Hk2⟩:=hid5 hfa2 hb2 hfa3 hb3 hk2;clear hk2 hb3 hfa3 hb2 hfa2;clear b0' b1' bf bll b0 b1;go_wp2_with fail;go_step3;go_wp2;refine Au ⟨spJ.mk (k+1) (F+1) F (L++ [(fr,F)]) v2 rfl ⟨by have:=Hf.out;omega,Hb3.out,Hfa3.out,by omega,by omega,by rw [List.length_append,Hs.out.len];rfl, ?_⟩,by simp [Zt];omega⟩;rw [Heq.out,show 300-(k+1)=f by have:=Hf.out;omega,List.append_assoc];rfl
   ·rw [Acs he (by rw [hF];exact hgo),hF] at heq
    have hnb:(decide (F<day)&&decide (((k+1:Nat):Int)<300))=false:=by
     by_cases h1:F<day
     ·have:f=0:=by
       rcases Nat.eq_zero_or_pos f with h|h
       ·exact h
       ·exact absurd ⟨h1,by omega⟩ hgo
      rw [show decide (((k+1:Nat):Int)<300)=false by rw [decide_eq_false_iff_not];omega];simp
     ·rw [show decide (F<day)=false by simp [h1]];rfl
    obtain⟨r,hr⟩:∃r,(decide (fr<=day)&&decide (day<=F))=r:=⟨_,rfl⟩;rw [hr] at heq;clear hgo;obtain⟨Hs,Hla,HF,Hf,Heq,He,Hset,Hbx,Hnb⟩:=hid9 hs hla hF hf heq he hset hbx hnb;clear hnb hbx hset he heq hf hF hla hs;obtain⟨Hr,Hv⟩:=hid2 hr hv;clear hv hr;go_wp2_with fail;refine Hla.out.mono ?_;rintro e w1 ⟨rfl,hk1⟩;have hfa:=Hset.out w1 hk1 1 (.int .i64 F);refine j1C ?_;intro b0' b1' bf bll;have hcl:=j3f;rw [Hnb.out,Hr.out] at hcl;obtain⟨Hfa,Hcl,Hk1⟩:=hid3 hfa hcl hk1;clear hk1 hcl hfa;go_wp2_with fail;refine Hcl.out.mono ?_;rintro e w2 ⟨rfl,hk2,v2,hfa2⟩;have hpost:=Uw.of (st:=st) (cd:=cd) hfa2 Heq.out 0;have Hpost:=Lib.hid hpost;clear hpost;clear hk2 hfa2;go_wp2;refine Bq ?_;go_ret;exact Hpost.out
  ·have hv:lastV fr cd=0:=by unfold lastV;rw [if_neg he]
   rw [findW_bad he,List.append_nil] at heq;obtain⟨z,hz⟩:∃z,lastE fr cd=z:=⟨_,rfl⟩;rw [hv,hz] at hla;rw [hz] at he;have hzI:(z !=0)=true:=by simp [he]
   obtain⟨Hs,Hla,HF,Hf,Heq,Hset,Hbx,Hv,Hz⟩:=hid9 hs hla hF hf heq hset hbx hv hz;clear hz hv hbx hset heq hf hF hla hs;go_wp2_with fail;refine Hla.out.mono ?_;rintro e w1 ⟨rfl,hk1⟩;have hfa:=Hset.out w1 hk1 1 (.int .i64 0);refine j1C ?_;intro b0' b1' bf bll;have hpost:=Uw.of (st:=st) (cd:=cd) hfa Heq.out z;obtain⟨Hpost,Hfa,Hk1⟩:=hid3 hpost hfa hk1;clear hk1 hfa hpost;go_wp2;refine Bq ?_;go_ret;exact Hpost.out
 ·refine jy ?_;intro Hfirst;go_wp2;go_step3;rename_i hK;refine jz ?_;exact spJ.mk 0 st 0 [] (.slice none 0 0) rfl Hstart.out
def Pz(st cd day:Int)(w:World)(e:Ending)(w':World):Prop:=∃v,e= .returned (.tuple #[v,.bool (findW cd day 300 st).2])/\w'.ownsRow 0 57 2 v (findW cd day 300 st).1.length ((findW cd day 300 st).1.flatMap spc)/\Fresh w w' v
theorem Rm(st cd day:Int)(w:World)(hst: -1000000000000<=st/\st<=1000000000000):Calls Tryz.prog 167 #[.int .i64 st,.int .i64 cd,.int .i64 day] w (Pz st cd day w):=by
 have hsp:=Yr st cd day (w.heap.size+1) w.heap.size (w.heap.size+1+1) (((w.alloc (.cells #[.int .i64 day] 3)).alloc (.cells #[.slice none 0 0] 227)).alloc (.cells #[.bool false] 4)) (Ar (Av _ _ (by simp)) _) (Ar (Ar (heap_alloc_new w _) _) _) (Av _ _ (by simp)) hst;have Hsp:=Lib.hid hsp;clear hsp;go_enter Tryz.func167,Tryz.ntmps167;go_wp2_with fail;refine Hsp.out.mono ?_;rintro e w1 ⟨z,v,rfl,hl,hi,hrow,hfr,hk⟩;have hkw:Keeps (λ_=>False) w w1:=(((Keeps.alloc w _).nt (Keeps.alloc _ _)).nt (Keeps.alloc _ _)).trans (hk.mono λi _ e=> .inr (by rcases e with e|e<;>omega))
 obtain⟨r,hr⟩:∃r,(findW cd day 300 st).2=r:=⟨_,rfl⟩;rw [hr] at hi;have hpost:Pz st cd day w (.returned (.tuple #[v,.bool r])) w1.drew:=⟨v,by rw [hr],hrow.of_keeps (Keeps.drew _),hkw.nt (Keeps.drew _),λg hg=>by have:=hfr g hg;simp at this;omega⟩;have c0:=Aa hl 0;have c1:=Aa hi 0;have cl:=lt_of_block hl;have ci:=lt_of_block hi;obtain⟨ad,cap,rfl,_,_⟩:=Ae hrow;obtain⟨q,hq⟩:∃q,(findW cd day 300 st).1.length=q:=⟨_,rfl⟩;rw [hq] at hpost c0;obtain⟨Hl,Hi,Hrow,Hfr,Hk,Hkw,Hpost,Hr,Hq⟩:=hid9 hl hi hrow hfr hk hkw hpost hr hq;clear hq hr hpost hkw hk hfr hrow hi hl;go_wp2_with fail
 go_region
 go_wp2;exact bodyPost_ret (v:= .tuple #[.slice ad q cap,.bool r]) (by simp [results,Tryz.results167,go_sem]) rfl Hpost.out
def ofE(st cd day:Int):Int:=if lastE st cd=0 then(if(findW cd day 300 st).2=true then 0 else 10) else lastE st cd
def ofV(st cd day:Int):Int:=if ofE st cd day=0 then((findW cd day 300 st).1.length:Int) else 0
def allL(st cd day:Int):List (Int×Int):=if(findW cd day 300 st).2=true then(findW cd day 300 st).1 else []
theorem Qk(st cd day:Int)(w:World)(hst: -1000000000000<=st/\st<=1000000000000):Calls Tryz.prog 131 #[.int .i64 st,.int .i64 cd,.int .i64 day] w λe w'=>e= .returned (.tuple #[.int .i64 (ofV st cd day),.int .i64 (ofE st cd day)])/\Keeps (λ_=>False) w w':=by
 have hla:=Rl st cd w hst;have hfi:=λW=>Rm st cd day W hst;obtain⟨z,hz⟩:∃z,lastE st cd=z:=⟨_,rfl⟩;obtain⟨x,hx⟩:∃x,lastV st cd=x:=⟨_,rfl⟩;obtain⟨E,hE⟩:∃z,ofE st cd day=z:=⟨_,rfl⟩;obtain⟨V,hV⟩:∃z,ofV st cd day=z:=⟨_,rfl⟩;have hE':=hE;have hV':=hV;unfold ofE at hE';unfold ofV at hV';rw [hz] at hE';rw [hE] at hV';rw [hz,hx] at hla;rw [hE,hV];unfold Pz at hfi;by_cases h0:z=0
 ·subst h0;rw [if_pos rfl] at hE';rcases hb:(findW cd day 300 st).2 with _|_
  ·rw [hb,if_neg j7] at hE';subst hE';rw [if_neg j7] at hV';subst hV';rw [hb] at hfi;obtain⟨Hla,Hfi,Hz,Hx,HE,HV,Hb⟩:=hid7 hla hfi hz hx hE hV hb;clear hb hV hE hx hz hfi hla;go_enter Tryz.func131,Tryz.ntmps131;go_wp2_with fail;refine Hla.out.mono ?_;rintro e w1 ⟨rfl,hk1⟩;have Hk1:=Lib.hid hk1;clear hk1;go_wp2_with fail;refine(Hfi.out _).mono ?_;rintro e w2 ⟨v,rfl,hr,hf⟩;have Hk2:=Lib.hid (Hk1.out.nt hf.1);obtain⟨ad,cap,rfl,_,_⟩:=Ae hr;clear hr hf;go_wp2;exact bodyPost_ret (v:= .tuple #[.int .i64 0,.int .i64 10]) j1D rfl ⟨rfl,Hk2.out⟩
  ·rw [hb,if_pos rfl] at hE';subst hE';rw [if_pos rfl] at hV';obtain⟨m,hm⟩:∃m,(findW cd day 300 st).1.length=m:=⟨_,rfl⟩;rw [hm] at hV' hfi;subst hV';rw [hb] at hfi;obtain⟨Hla,Hfi,Hz,Hx,HE,HV,Hb,Hm⟩:=hid8 hla hfi hz hx hE hV hb hm;clear hm hb hV hE hx hz hfi hla;go_enter Tryz.func131,Tryz.ntmps131;go_wp2_with fail;refine Hla.out.mono ?_;rintro e w1 ⟨rfl,hk1⟩;have Hk1:=Lib.hid hk1;clear hk1;go_wp2_with fail;refine(Hfi.out _).mono ?_;rintro e w2 ⟨v,rfl,hr,hf⟩;have Hk2:=Lib.hid (Hk1.out.nt hf.1);obtain⟨ad,cap,rfl,_,_⟩:=Ae hr;clear hr hf;go_wp2;exact bodyPost_ret (v:= .tuple #[.int .i64 (m:Int),.int .i64 0]) j1D rfl ⟨rfl,Hk2.out⟩
 ·rw [if_neg h0] at hE';subst hE';rw [if_neg h0] at hV';subst hV';have hzI:(z !=0)=true:=by simp [h0]
  obtain⟨Hla,Hfi,Hz,Hx,HE,HV⟩:=hid6 hla hfi hz hx hE hV;clear hV hE hx hz hfi hla;go_enter Tryz.func131,Tryz.ntmps131;go_wp2_with fail;refine Hla.out.mono ?_;rintro e w1 ⟨rfl,hk1⟩;have Hk1:=Lib.hid hk1;clear hk1;go_wp2;exact bodyPost_ret (v:= .tuple #[.int .i64 0,.int .i64 z]) j1D rfl ⟨rfl,Hk1.out⟩
theorem Ad8(st cd day:Int)(w:World)(hst: -1000000000000<=st/\st<=1000000000000):Calls Tryz.prog 180 #[.int .i64 st,.int .i64 cd,.int .i64 day] w λe w'=>∃v,e= .returned v/\w'.ownsRow 0 57 2 v (allL st cd day).length ((allL st cd day).flatMap spc)/\Fresh w w' v:=by
 have hfi:=Rm st cd day w hst;unfold Pz at hfi;obtain⟨A,hA⟩:∃A,allL st cd day=A:=⟨_,rfl⟩;have hA':=hA;unfold allL at hA';rw [hA];rcases hb:(findW cd day 300 st).2 with _|_
 ·rw [hb,if_neg j7] at hA';subst hA';rw [hb] at hfi;obtain⟨Hfi,HA,Hb⟩:=hid3 hfi hA hb;clear hb hA hfi;go_enter Tryz.func180,Tryz.ntmps180;go_wp2_with fail;refine Hfi.out.mono ?_;rintro e w2 ⟨v,rfl,hr,hf⟩;have Hk2:=Lib.hid hf.1;obtain⟨ad,cap,rfl,_,_⟩:=Ae hr;clear hr hf;go_wp2;go_ret;exact⟨_,rfl,World.ownsRow_nil _ _ _ _,Hk2.out,by simp [Value.ownBlock]⟩
 ·rw [hb,if_pos rfl] at hA';rw [hA',hb] at hfi;obtain⟨Hfi,HA,Hb,HA'⟩:=hid4 hfi hA hb hA';clear hA' hb hA hfi;go_enter Tryz.func180,Tryz.ntmps180;go_wp2_with fail;refine Hfi.out.mono ?_;rintro e w2 ⟨v,rfl,hr,hf⟩;have Hr2:=Lib.hid hr;have Hf2:=Lib.hid hf;obtain⟨ad,cap,rfl,_,_⟩:=Ae hr;clear hr hf;go_wp2;go_ret;exact⟨_,rfl,Hr2.out,Hf2.out⟩
def lateQ(td:Int)(x:Ev):Bool:=decide (td<x.day)
theorem Vm(td:Int)(B:Nat)(x:Ev)(w:World)(hB:w.cell? ⟨B,0,none⟩=some (.int .i64 td)):Calls Tryz.prog 217 #[x.agg,(.pointer (some ⟨B,0,none⟩))] w λe w'=>e= .returned (.bool (lateQ td x))/\Keeps (λ_=>False) w w':=by
 obtain⟨ki,da,tr,am,re⟩:=x;simp only [Ev.agg];have hk:=Keeps.alloc (S:=λ_=>False) w (.cells #[.int .i64 ki,.int .i64 da,.int .i64 tr,.int .i64 am,.int .i64 re] 96);have hl:=Ah hB;obtain⟨z,hz⟩:∃z,lateQ td ⟨ki,da,tr,am,re⟩=z:=⟨_,rfl⟩;rw [hz];have hz':decide (td<da)=z:=hz;obtain⟨Hk,Hz⟩:=hid2 hk hz;clear hz hk;go_enter Tryz.func217,Tryz.ntmps217;go_wp2;go_ret;exact⟨rfl,Hk.out⟩
end Go.Proofs.YtgbgmadkmabeeaaGreat
