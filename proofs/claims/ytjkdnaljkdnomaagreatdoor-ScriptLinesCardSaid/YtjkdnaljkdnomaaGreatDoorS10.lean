/- Part 10 of what the laws of this seat share: walks of functions, and plain laws. -/
import Derived.Deep.DeepCutAuto
import Derived.Test.YtjkdnaljkdnomaaGreatDoorS8
import Derived.Test.YtjkdnaljkdnomaaGreatDoorS9
set_option maxRecDepth 100000
set_option maxHeartbeats 3200000
namespace Go.Proofs.YtjkdnaljkdnomaaGreatDoor
open Go.RowKit
theorem Qc(B O:List Int)(r:List Int×Int)(a:Int)(adB:Option Addr)(v:Value)(cB n:Nat)(w:World)(hB:Reads w 1 (.slice adB n cB) n (B.flatMap i64c))(hN:B.length=n)(hO:w.ownsRow 0 3 1 v n (O.flatMap i64c))(hM:O.length=n)(hm:∀x∈B,0<=x/\x<=1000000000000000)(ha:0<=a/\a<=1000000000000000)
  (hok:∀k∈O,1<=k/\k<=n) (hl:n<=1000) (hr:intoL B O a=r):Calls Tryz.prog 181 #[.slice adB n cB,v,.int .i64 a] w λe w'=>∃g,e= .returned (.tuple #[.slice (some ⟨g,0,none⟩) n n,.int .i64 r.2])/\RowZ w' 2 g n n r.1/\K0 w w'/\w.heap.size<=g:=by
 obtain⟨ad,c,rfl,_,_⟩:=Ae hO;have hr2:=Reads.Bg hO;have h:=Nt B O a adB ad cB c w (by rw [hN];exact hB) (by rw [hM];exact hr2) hm ha (by rw [hN];exact hok) j6 j6;have hrl:=Dn B O a;unfold Qj at h;rw [hr] at h hrl;rw [hN,hM] at h;rw [hrl,hN] at h;exact h
theorem p1bd{B P:List Int}(hP:∀j x,P[j]?=some x->0<=x/\x<=B.getD j 0)(hB:∀x∈B,0<=x/\x<=1000000000000000){j:Nat}{x:Int}(hx:P[j]?=some x):0<=x/\x<=1000000000000000:=by
 have h:=hP j x hx;rw [List.getD_eq_getElem?_getD] at h;rcases hb:B[j]? with _|b
 ·rw [hb] at h;simp only [Option.getD_none] at h;omega
 ·rw [hb] at h;have:=hB b (List.mem_of_getElem? hb);simp only [Option.getD_some] at h;omega
theorem Abq(B R:List Int)(cr du a:Int)(adB adR:Option Addr)(cB cR n:Nat)(w:World)(hB:Reads w 1 (.slice adB n cB) n (B.flatMap i64c))(hN:B.length=n)(hR:Reads w 1 (.slice adR n cR) n (R.flatMap i64c))(hRn:R.length=n)
  (hm:B.all Bv=true) (hcr:Bv cr=true) (hdu:Bv du=true) (ha:Bv a=true) (hn1:1<=n) (hl:n<=8):
  Calls Tryz.prog 168 #[.agg #[.slice adB n cB,.int .i64 cr,.int .i64 du],.slice adR n cR,.int .i64 a] w λe w'=>∃g,e= .returned (.tuple #[.slice (some ⟨g,0,none⟩) n n,.int .i64 (payL B R du a).2.1,.int .i64 (payL B R du a).2.2,.int .i64 0])/\RowZ w' 2 g n n (payL B R du a).1/\K0 w w'/\w.heap.size<=g:=by
 have hBb:∀x∈B,0<=x/\x<=1000000000000000:=λx hx=>(Bi x).1 (List.all_eq_true.1 hm x hx);obtain⟨a0,a1⟩:=(Bi a).1 ha;obtain⟨du0,du1⟩:=(Bi du).1 hdu;obtain⟨m,hmin⟩:=eX (minI a du);have hm2:0<=m/\m<=a/\m<=du:=by rw [<-hmin];unfold minI;split<;>omega
 obtain⟨m0,m1,m2⟩:=hm2;refine j33 ?_;intro p1 r1 hp q1 r2 hq hpay;have hokL:∀k∈rankL false R,1<=k/\k<=n:=λk hk=>by have:=Ew hk;omega
 have hokH:∀k∈rankL true R,1<=k/\k<=n:=λk hk=>by have:=Ew hk;omega
 have hpb:=Mf (B:=B) (O:=rankL false R) (a:=m) (λx hx=>(hBb x hx).1) m0 (by rw [hN];exact hokL);have hpl:=Dn B (rankL false R) m;rw [hp] at hpb hpl;simp only at hpb hpl;obtain⟨r10,r11,hpe⟩:=hpb;have hB2:=Tj hpe hBb;have hB2l:(List.zipWith (λx y:Int=>x-y) B p1).length=n:=by rw [List.length_zipWith];omega
 refine j34 ?_;intro hqb hql;rw [hq] at hqb hql;simp only at hqb hql;obtain⟨r20,r21,hqe⟩:=hqb;rw [hN] at hpl;rw [hB2l] at hql;have hmb:=λW (hW:K0 w W)=>Kv hm hN j6 adB cB W (hB.keeps hW (by simp));have hma:=λW g (hT:Reads W 1 (.slice (some ⟨g,0,none⟩) 3 3) 3 ([cr,du,a].flatMap i64c))=>Kv (L:= [cr,du,a]) (b:=true) (by simp [hcr,hdu,ha]) rfl (by simp) (some ⟨g,0,none⟩) 3 W hT;have hlow:=λW (hW:K0 w W)=>Aaz R adR cR W j1A j6;have hhigh:=λW (hW:K0 w W)=>Po R adR cR W j1A j6;rw [hRn] at hlow hhigh;have hin1:=λW v (hW:K0 w W) (hO:W.ownsRow 0 3 1 v n ((rankL false R).flatMap i64c))=>Qc B (rankL false R) (p1,r1) m adB v cB n W (hB.keeps hW (by simp)) hN hO (by rw [Kn,hRn]) hBb ⟨m0,by omega⟩ hokL j6 hp;have hbx:∀W,K0 (w.alloc (.cells #[.slice adB n cB,.int .i64 cr,.int .i64 du] 51)) W->W.heap[w.heap.size]?=some (.cells #[.slice adB n cB,.int .i64 cr,.int .i64 du] 51 (0,0)):=λW hW=>Ad (heap_alloc_new w _) hW (by simp);simp only at hin1;obtain⟨HB,HR⟩:=hid2 hB hR;clear hR hB hm hcr hdu ha;obtain⟨HBb,Hmin⟩:=hid2 hBb hmin;clear hmin hBb hp;have Hq:=Lib.hid hq;clear hq hpay;obtain⟨HokL,HokH,Hpe,HB2,HB2l,Hqe,Hpl,Hql,Hmb⟩:=hid9 hokL hokH hpe hB2 hB2l hqe hpl hql hmb;clear hmb hql hpl hqe hB2l hB2 hpe hokH hokL;obtain⟨Hma,Hlow,Hhigh,Hin1,Hbx,HN,HRn⟩:=hid7 hma hlow hhigh hin1 hbx hN hRn;clear hRn hN hbx hin1 hhigh hlow hma;go_enter Tryz.func168,Tryz.ntmps168;go_wp2_with fail;refine(Hmb.o _ jg).mono ?_;rintro e w1 ⟨rfl,rfl⟩;go_wp2_with fail;refine(Hma.o _ _ (Reads.litAt _ #[.int .i64 cr,.int .i64 du,.int .i64 a] 2 1 3 _ jr rfl)).mono ?_;rintro e w2 ⟨rfl,rfl⟩;obtain⟨W0,hW0⟩:=eY ((w.alloc (.cells #[.slice adB n cB,.int .i64 cr,.int .i64 du] 51)).alloc (.cells #[.int .i64 cr,.int .i64 du,.int .i64 a] 2));rw [<-hW0];have hb0:=Hbx.o W0 (by rw [hW0];exact Keeps.alloc _ _);have hk0:K0 w W0:=by rw [hW0];(repeat (first|exact Keeps.refl _ _|exact Keeps.alloc _ _|exact Keeps.drew _|exact Keeps.drewN _ _|refine Keeps.Ao ?_|refine Keeps.Al ?_|refine Keeps.Af ?_))
 have b2:=Aa hb0 2;obtain⟨Hb0,Hk0,HW0⟩:=hid3 hb0 hk0 hW0;clear hW0 hk0 hb0
 go_upto_region 3 with fail
 go_cut [10] (λx wx=>x= .int .i64 m/\W0=wx)
 case first=>
  have hmn:=Hmin.o;unfold minI at hmn;by_cases hle:a<=du
  ·rw [if_pos hle] at hmn;exact j35
  ·rw [if_neg hle] at hmn;exact j35
 obtain⟨rfl,rfl⟩:=hcut;go_wp2_with fail;refine Ak (λw'=>w'.cell? ⟨w.heap.size,0,none⟩=some (.slice adB n cB)) (.take 0 (.take 1 (.take 2 (.take 4 (.move 3 (.move 5 (.take 6 (.take 7 (.take 8 (.take 9 (.take 10 .done))))))))))) j9 j9 ?_ ?_
 ·exact Aa (Ad (S:=λ_=>False) Hb0.o (Keeps.drew _) (by simp)) 0
 intro w3 hs3 hk3;have hk3w:K0 w w3:=Hk0.o.nt hk3;have hlt3:=Ai hs3;obtain⟨Hs3,Hk3,Hk3w,Hlt3⟩:=hid4 hs3 hk3 hk3w hlt3;clear hlt3 hk3w hk3 hs3;refine je ?_;intro K hK
 go_at_call 182
 ((with_reducible refine(Hlow.o _ Hk3w.o).mono ?_);rintro e w4 ⟨v4,rfl,hrow4,hf4⟩;dsimp only)
 refine hK.out _ _ (by exact(hf4.1.cell (p:=⟨w.heap.size,0,none⟩) Hlt3.o (by simp)).trans Hs3.o) ?_;clear hK K;refine jc ?_;have hk4w:K0 w w4:=Hk3w.o.nt hf4.1;have hs4:=(hf4.1.cell (p:=⟨w.heap.size,0,none⟩) Hlt3.o (by simp)).trans Hs3.o;have hb4:=Ad (Ad Hb0.o Hk3.o (by simp)) hf4.1 (by simp);have hlt4:=Ai hs4;have Hrow4:=Lib.hid hrow4;clear hrow4 hf4;obtain⟨Hk4w,Hs4,Hlt4,Hb4⟩:=hid4 hk4w hs4 hlt4 hb4;clear hb4 hlt4 hs4 hk4w;refine je ?_;intro K hK
 go_at_call 181
 ((with_reducible refine(Hin1.o _ _ Hk4w.o Hrow4.o).mono ?_);rintro e w5 ⟨g1,rfl,hrow5,hk5,hg5⟩;dsimp only)
 refine hK.out _ _ (by exact(hk5.cell (p:=⟨w.heap.size,0,none⟩) Hlt4.o (by simp)).trans Hs4.o) ?_;clear hK K;refine jc ?_;have hk5w:K0 w w5:=Hk4w.o.nt hk5;have hb5:=Ad Hb4.o hk5 (by simp);have hg5w:w.heap.size<=g1:=by have:=Hk4w.o.size;omega
 have Hrow5:=Lib.hid hrow5;clear hrow5 hk5;obtain⟨Hg5,Hk5w,Hb5,Hg5w⟩:=hid4 hg5 hk5w hb5 hg5w;clear hg5w hb5 hk5w hg5;refine jm ?_;have b50:=Aa Hb5.o 0;have b5l:=lt_of_block Hb5.o;clear b2;go_wp2_with fail;refine(Fa _ _ n _ (HB.o.keeps Hk5w.o (by simp)) (Jz _) j6).mono ?_;rintro e w6 ⟨v6,rfl,hrow6,hk6,hnew6⟩;obtain⟨g2,c2,rfl⟩:=Ez hrow6 hn1;have hg2:w5.heap.size<=g2:=hnew6 g2 rfl;have hlt1:=Hrow5.o.lt;have hg12:¬g1=g2:=j8;have hg2w:w.heap.size<=g2:=by have:=Hk5w.o.size;omega
 have hr1:=Hrow5.o.keep hk6;have hr2:RowZ w6 2 g2 n c2 B:=⟨hrow6,HN.o⟩;have hk6w:K0 w w6:=Hk5w.o.nt hk6;clear b50 b5l hlt1;have Hrow6:=Lib.hid hrow6;clear hrow6 hk6;have Hnew6:=Lib.hid hnew6;clear hnew6 hg2;obtain⟨Hr1,Hr2,Hk6w,Hg12,Hg2w⟩:=hid5 hr1 hr2 hk6w hg12 hg2w;clear hg2w hg12 hk6w hr2 hr1;go_wp2
 go_loopw [59] (λx wx=>∃i:Nat,x= .int .i64 (i:Nat)/\i<=n/\RowZ wx 2 g2 n c2 (stepL (λx y=>x-y) B p1 i)/\Keeps (λk=>k=g2) w6 wx) (λx _=>n-(intOf x).toNat)
 case atStart=>exact⟨0,rfl,Nat.zero_le _,by rw [Kk];exact Hr2.o,Keeps.refl _ _⟩
 case round=>
  obtain⟨i,rfl,hin,hrow,hk⟩:=hrel;obtain⟨wq,hwq⟩:=eY wr;subst hwq;have hrp:RowZ wq 2 g1 n n p1:=⟨hk.row Hr1.o.1 (λg' hg e=>by simp only [Value.ownBlock,Option.some.injEq] at hg;subst hg;exact Hg12.o e),Hr1.o.2⟩;by_cases hlt:i<n
  ·have hltI:(i:Int)<(n:Int):=j8;obtain⟨x,hx⟩:=Ar (L:=B) (k:=i) j0v;obtain⟨y,hy⟩:=Ar (L:=p1) (k:=i) (by rw [Hpl.o];exact hlt);obtain⟨x0,x1⟩:=HBb.o x (List.mem_of_getElem? hx);have hxy:=Hpe.o i y hy;rw [List.getD_eq_getElem?_getD,hx] at hxy;obtain⟨y0,y1⟩:=hxy;simp only [Option.getD_some] at y1;have ex:=Mv (f:=λx y=>x-y) (P:=p1) j08 hx;have cx:=hrow.cell ex;have fx:=hrow.free i;have cy:=hrp.cell hy;have hst:=Mt (f:=λx y=>x-y) (P:=p1) j08 hx hy;have hnew:=hrow.set hlt (x-y);rw [hst] at hnew;have hkn:Keeps (λk=>k=g2) w6 (wq.setCell ⟨g2,i,none⟩ (.int .i64 (x-y))):=hk.trans (Keeps.setCell _ _ _ (.inl rfl));have Hrow:=Lib.hid hrow;clear hrow hk;have Hrp:=Lib.hid hrp;clear hrp hx hy ex hst;obtain⟨Hnew,Hkn⟩:=hid2 hnew hkn;clear hkn hnew;exact j36
  ·obtain rfl:i=n:=by omega
   rw [Kl j08 HN.o] at hrow;have hkw:K0 w wq:=Hk6w.o.trans (hk.mono λk _ e=> .inr (by subst e;exact Hg2w.o));have Hrow:=Lib.hid hrow;clear hrow hk;obtain⟨Hrp,Hkw⟩:=hid2 hrp hkw;clear hkw hrp;go_wp2_with fail;refine(Hhigh.o _ Hkw.o).mono ?_;rintro e w7 ⟨v7,rfl,hrow7,hf7⟩;have hk7w:=Hkw.o.nt hf7.1;have hrB7:=Hrow.o.keep hf7.1;have hrp7:=Hrp.o.keep hf7.1;have Hrow7:=Lib.hid hrow7;clear hrow7 hf7;obtain⟨Hk7w,HrB7,Hrp7⟩:=hid3 hk7w hrB7 hrp7;clear hrp7 hrB7 hk7w;go_wp2_with fail;refine(Qc _ (rankL true R) (q1,r2) (a-m+r1) (some ⟨g2,0,none⟩) v7 c2 i w7 HrB7.o.reads HrB7.o.2 Hrow7.o (by rw [Kn,HRn.o]) HB2.o ⟨by omega,by omega⟩ HokH.o j6 Hq.o).mono ?_;rintro e w8 ⟨g3,rfl,hrow8,hk8,hg3⟩;have hlt1:=Hrp7.o.lt;have hg13:¬g1=g3:=j8;have hk8w:=Hk7w.o.nt hk8;have hrp8:=Hrp7.o.keep hk8;simp only at hrow8;clear hlt1;have Hrow8:=Lib.hid hrow8;clear hrow8 hk8 hg3;obtain⟨Hg13,Hk8w,Hrp8⟩:=hid3 hg13 hk8w hrp8;clear hrp8 hk8w hg13;go_wp2
   go_loopw [86] (λx wx=>∃j:Nat,x= .int .i64 (j:Nat)/\j<=i/\RowZ wx 2 g1 i i (stepL (λx y=>x+y) p1 q1 j)/\Keeps (λk=>k=g1) w8 wx) (λx _=>i-(intOf x).toNat)
   case atStart=>exact⟨0,rfl,Nat.zero_le _,by rw [Kk];exact Hrp8.o,Keeps.refl _ _⟩
   case round=>
    obtain⟨j,rfl,hjn,hrowj,hkj⟩:=hrel;obtain⟨wz,hwz⟩:=eY wr;subst hwz;have hrq:RowZ wz 2 g3 i i q1:=⟨hkj.row Hrow8.o.1 (λg' hg e=>by simp only [Value.ownBlock,Option.some.injEq] at hg;subst hg;exact Hg13.o e.symm),Hrow8.o.2⟩;by_cases hltj:j<i
    ·have hltI:(j:Int)<(i:Int):=j8;obtain⟨x,hx⟩:=Ar (L:=p1) (k:=j) (by rw [Hpl.o];exact hltj);obtain⟨y,hy⟩:=Ar (L:=q1) (k:=j) (by rw [Hql.o];exact hltj);obtain⟨x0,x1⟩:=p1bd Hpe.o HBb.o hx;obtain⟨y0,y1⟩:=p1bd Hqe.o HB2.o hy;have ex:=Mv (f:=λx y=>x+y) (P:=q1) (by rw [Hpl.o,Hql.o]) hx;have cx:=hrowj.cell ex;have fx:=hrowj.free j;have cy:=hrq.cell hy;have hst:=Mt (f:=λx y=>x+y) (P:=q1) (by rw [Hpl.o,Hql.o]) hx hy;have hnew:=hrowj.set hltj (x+y);rw [hst] at hnew;have hkn:Keeps (λk=>k=g1) w8 (wz.setCell ⟨g1,j,none⟩ (.int .i64 (x+y))):=hkj.trans (Keeps.setCell _ _ _ (.inl rfl));have Hrowj:=Lib.hid hrowj;clear hrowj hkj hrq hx hy ex hst;obtain⟨Hnew,Hkn⟩:=hid2 hnew hkn;clear hkn hnew;exact j37
    ·obtain rfl:j=i:=by omega
     rw [Kl (by rw [Hpl.o,Hql.o]) Hpl.o] at hrowj;have hkz:K0 w wz:=Hk8w.o.trans (hkj.mono λk _ e=> .inr (by subst e;exact Hg5w.o));have Hrowj:=Lib.hid hrowj;clear hrowj hkj hrq;have Hkz:=Lib.hid hkz;clear hkz;go_wp2;exact bodyPost_ret (v:= .tuple #[.slice (some ⟨g1,0,none⟩) j j,.int .i64 m,.int .i64 r2,.int .i64 0]) (by simp [results,Tryz.results168,go_sem]) rfl ⟨g1,rfl,Hrowj.o,Hkz.o,Hg5w.o⟩
def payP(p:Ps)(R:List Int)(a:Int):Ps:=⟨List.zipWith (λx y=>x-y) p.bal (payL p.bal R p.du a).1,p.cr+(payL p.bal R p.du a).2.2,p.du-(payL p.bal R p.du a).2.1⟩
def payR(p:Ps)(R:List Int)(a:Int):Ps×Int:=if askE p [] a=0 then(if(payP p R a).Bh=true then(payP p R a,0) else(ps0,5)) else(ps0,askE p [] a)
theorem payL_bd{B R:List Int}{du a:Int}(hB:∀x∈B,0<=x/\x<=1000000000000000)(hdu:0<=du/\du<=1000000000000000)(ha:0<=a/\a<=1000000000000000)(hR:R.length=B.length):
  (∀(j:Nat) (x:Int),(payL B R du a).1[j]?=some x->0<=x/\x<=2000000000000000)/\(0<=(payL B R du a).2.1/\(payL B R du a).2.1<=du)/\(0<=(payL B R du a).2.2/\(payL B R du a).2.2<=1000000000000000)/\(payL B R du a).1.length=B.length:=by
 obtain⟨m,hmin⟩:=eX (minI a du);have hm2:0<=m/\m<=a/\m<=du:=by rw [<-hmin];unfold minI;split<;>omega
 refine j33 ?_;intro p1 r1 hp q1 r2 hq hpay;have hokL:∀k∈rankL false R,1<=k/\k<=B.length:=λk hk=>by have:=Ew hk;omega
 have hokH:∀k∈rankL true R,1<=k/\k<=B.length:=λk hk=>by have:=Ew hk;omega
 have hpb:=Mf (B:=B) (O:=rankL false R) (a:=m) (λx hx=>(hB x hx).1) j6 hokL;have hpl:=Dn B (rankL false R) m;rw [hp] at hpb hpl;simp only at hpb hpl;obtain⟨r10,r11,hpe⟩:=hpb;have hB2:=Tj hpe hB;have hB2l:(List.zipWith (λx y:Int=>x-y) B p1).length=B.length:=by rw [List.length_zipWith];omega
 refine j34 ?_;intro hqb hql;rw [hq] at hqb hql;simp only at hqb hql;obtain⟨r20,r21,hqe⟩:=hqb;refine⟨λj x hx=> ?_,⟨by show 0<=m;omega,by show m<=du;omega⟩,⟨by show 0<=r2;omega,by show r2<=1000000000000000;omega⟩,by rw [List.length_zipWith];omega⟩;simp only [List.getElem?_zipWith] at hx;rcases h1:p1[j]? with _|x1
 ·rw [h1] at hx;simp at hx
 ·rcases h2:q1[j]? with _|x2
  ·rw [h1,h2] at hx;simp at hx
  ·rw [h1,h2] at hx;simp only [Option.some.injEq] at hx;have b1:=p1bd hpe hB h1;have b2:=p1bd hqe hB2 h2;omega
theorem Ab1(L R:List Int)(cr du a:Int)(ad adR:Option Addr)(cap cR n:Nat)(w:World)(hr:Reads w 1 (.slice ad n cap) n (L.flatMap i64c))(hN:L.length=n)(hl:n<=1000)(hR:Reads w 1 (.slice adR n cR) n (R.flatMap i64c))(hRn:R.length=n):
  Calls Tryz.prog 149 #[.agg #[.slice ad n cap,.int .i64 cr,.int .i64 du],.slice adR n cR,.int .i64 a] w (Aa3 (payR ⟨L,cr,du⟩ R a).1 (payR ⟨L,cr,du⟩ R a).2 w):=by
 obtain⟨z,hz⟩:=eX (askE ⟨L,cr,du⟩ [] a);have hask:=fun(W:World) (hW:K0 w W)=>Jp L cr du a [] ad none cap 0 n 0 W (hr.keeps hW (by simp)) hN hl (Reads.nil W 1) rfl j7;rw [hz] at hask;unfold payR;rw [hz];by_cases h0:z=0
 ·subst h0;rw [if_pos rfl];obtain⟨hright,_,hmon⟩:=Rh hz;obtain⟨hbal,hcr,hdu,hn1,hn8⟩:=Eo hright;simp only at hbal hcr hdu hn1 hn8;rw [hN] at hn1 hn8;have ham:=(Bi a).1 hmon;have hall:L.all Bv=true:=List.all_eq_true.2 λx hx=>(Bi x).2 (hbal x hx);have hpay:=λW (hW:K0 w W)=>Abq L R cr du a ad adR cap cR n W (hr.keeps hW (by simp)) hN (hR.keeps hW (by simp)) hRn hall ((Bi cr).2 hcr) ((Bi du).2 hdu) hmon hn1 hn8;have hpb:=payL_bd (R:=R) hbal hdu ham j6;obtain⟨q,hq⟩:=eX (payP ⟨L,cr,du⟩ R a);rw [hq];unfold payP at hq;simp only at hq;obtain⟨⟨p,m,rest⟩,hp⟩:=eX (payL L R du a);rw [hp] at hpay hpb hq;simp only at hpay hpb hq;obtain⟨hpe,⟨m0,m1⟩,⟨t0,t1⟩,hpl⟩:=hpb;rw [hN] at hpl;obtain⟨cr0,cr1⟩:=hcr;obtain⟨du0,du1⟩:=hdu;refine j0Q ?_;intro hown;obtain⟨G,hG⟩:∃G:Ps×Int,(if q.Bh=true then(q,0) else(ps0,5))=G:=⟨_,rfl⟩;rw [hG];refine j0r ?_;intro hbx;clear hr hR;obtain⟨Hask,Hown⟩:=hid2 hask hown;clear hown hask hz hright hmon;have Hbal:=Lib.hid hbal;clear hbal ham hall;obtain⟨Hpay,Hq⟩:=hid2 hpay hq;clear hq hpay hp;obtain⟨Hpe,Hpl,HG,Hbx,HN⟩:=hid5 hpe hpl hG hbx hN;clear hN hbx hG hpl hpe hRn;go_enter Tryz.func149,Tryz.ntmps149;go_wp2_with fail;refine(Hask.o _ jg).mono ?_;rintro e w1 ⟨rfl,hk1⟩;refine j1B ?_;intro hkw hb1 hrs b0 b1 b2;clear hk1;obtain⟨Hkw,Hb1,Hrs⟩:=hid3 hkw hb1 hrs;clear hrs hb1 hkw;go_wp2_with fail;refine(Hpay.o _ Hkw.o).mono ?_;rintro e w2 ⟨g1,rfl,hrow2,hk2,hg1⟩;clear b0 b1 b2;have hk2w:=Hkw.o.nt hk2;have hb2:=Ad Hb1.o hk2 (by simp);have hrs2:=Ad Hrs.o hk2 (by simp);have b0:=Aa hb2 0;have b1:=Aa hb2 1;have b2:=Aa hb2 2;have Hrow2:=Lib.hid hrow2;clear hrow2 hk2;obtain⟨Hg1,Hk2w,Hb2,Hrs2⟩:=hid4 hg1 hk2w hb2 hrs2;clear hrs2 hb2 hk2w hg1;go_wp2_with fail;refine(Hown.o _ Hk2w.o).mono ?_;rintro e w3 ⟨v3,rfl,hrow3,hk3,hnew3⟩;obtain⟨g,c,rfl⟩:=Ez hrow3 hn1;have hgn:w2.heap.size<=g:=hnew3 g rfl;clear b0 b1 b2;have hb3:=Ad Hb2.o hk3 (by simp);have hrs3:=Ad Hrs2.o hk3 (by simp);have hgB:g≠w.heap.size:=by have:=lt_of_block Hb2.o;omega
  have hgR:g≠w.heap.size+1:=by have:=lt_of_block Hrs2.o;omega
  have hg1g:¬g1=g:=by have:=Hrow2.o.lt;omega
  have hg1B:¬g1=w.heap.size:=by have:=lt_of_block Hb1.o;have:=Hg1.o;omega
  refine j38 ?_;intro hb4 k4 W4 hW4;rw [<-hW4] at hb4 k4;have hrow4:RowZ W4 2 g n c L:=⟨k4.row hrow3 (λg' hg e=>by simp only [Value.ownBlock,Option.some.injEq] at hg;subst hg;exact hgB e),HN.o⟩;have hrp4:RowZ W4 2 g1 n n p:=⟨k4.row (Hrow2.o.keep hk3).1 (λg' hg e=>by simp only [Value.ownBlock,Option.some.injEq] at hg;subst hg;exact hg1B e),Hrow2.o.2⟩;have hrs4:=Ad hrs3 k4 (by simp);have hkk4:K0 w W4:=(Hk2w.o.nt hk3).trans (k4.mono λi _ e=> .inr j09);have c0:=Aa hb3 0;have c1:=Aa hb3 1;have c2:=Aa hb3 2;have f0:=Ab hb3 0;have f1:=Ab hb3 1;have f2:=Ab hb3 2;have hgw:w.heap.size<=g:=by have:=Hk2w.o.size;omega
  clear hrow3 hk3 hnew3 hgn hb3 hrs3;obtain⟨HgB,HgR,Hg1g⟩:=hid3 hgB hgR hg1g;clear hg1g hgR hgB hg1B;have Hb4:=Lib.hid hb4;clear hb4 k4;obtain⟨Hrow4,Hrp4,Hrs4,Hkk4,Hgw⟩:=hid5 hrow4 hrp4 hrs4 hkk4 hgw;clear hgw hkk4 hrs4 hrp4 hrow4;go_wp2;rw [<-hW4];clear hW4 c0 c1 c2 f0 f1 f2
  go_loopw [39] (λx wx=>∃i:Nat,x= .int .i64 (i:Nat)/\i<=n/\RowZ wx 2 g n c (stepL (λx y=>x-y) L p i)/\Keeps (λk=>k=g) W4 wx) (λx _=>n-(intOf x).toNat)
  case atStart=>exact⟨0,rfl,Nat.zero_le _,by rw [Kk];exact Hrow4.o,Keeps.refl _ _⟩
  case round=>
   obtain⟨i,rfl,hin,hrow,hk⟩:=hrel;obtain⟨wq,hwq⟩:=eY wr;subst hwq;have hrp:RowZ wq 2 g1 n n p:=⟨hk.row Hrp4.o.1 (λg' hg e=>by simp only [Value.ownBlock,Option.some.injEq] at hg;subst hg;exact Hg1g.o e),Hrp4.o.2⟩;have hbq:=Ad Hb4.o hk (λe=>HgB.o e.symm);have b0:=Aa hbq 0;have b1:=Aa hbq 1;have b2:=Aa hbq 2;have f1:=Ab hbq 1;have f2:=Ab hbq 2;by_cases hlt:i<n
   ·have hltI:(i:Int)<(n:Int):=j8;obtain⟨x,hx⟩:=Ar (L:=L) (k:=i) j0v;obtain⟨y,hy⟩:=Ar (L:=p) (k:=i) (by rw [Hpl.o];exact hlt);obtain⟨x0,x1⟩:=Hbal.o x (List.mem_of_getElem? hx);obtain⟨y0,y1⟩:=Hpe.o i y hy;have ex:=Mv (f:=λx y=>x-y) (P:=p) j08 hx;have cx:=hrow.cell ex;have fx:=hrow.free i;have cy:=hrp.cell hy;have hst:=Mt (f:=λx y=>x-y) (P:=p) j08 hx hy;have hnew:=hrow.set hlt (x-y);rw [hst] at hnew;have hkn:Keeps (λk=>k=g) W4 (wq.setCell ⟨g,i,none⟩ (.int .i64 (x-y))):=hk.trans (Keeps.setCell _ _ _ (.inl rfl));clear hrow hk hrp hx hy ex hst;obtain⟨Hnew,Hkn⟩:=hid2 hnew hkn;clear hkn hnew hbq;exact j36
   ·obtain rfl:i=n:=by omega
    rw [Kl j08 HN.o] at hrow;have hrs5:=Ad Hrs4.o hk (λe=>HgR.o e.symm);have hkk5:K0 w wq:=Hkk4.o.trans (hk.mono λk _ e=> .inr (by subst e;exact Hgw.o));obtain⟨L2,hL2⟩:∃x,List.zipWith (λx y=>x-y) L p=x:=⟨_,rfl⟩;have hq:=Hq.o;clear Hq;rw [hL2] at hq hrow;subst hq;have k6:Keeps (λi=>i=w.heap.size) wq ((wq.setCell ⟨w.heap.size,2,none⟩ (.int .i64 (du-m))).setCell ⟨w.heap.size,1,none⟩ (.int .i64 (cr+rest))):=(Keeps.setCell (S:=λi=>i=w.heap.size) _ _ _ rfl).trans (Keeps.setCell _ _ _ (.inl rfl));have hrow6:RowZ ((wq.setCell ⟨w.heap.size,2,none⟩ (.int .i64 (du-m))).setCell ⟨w.heap.size,1,none⟩ (.int .i64 (cr+rest))) 2 g i c L2:=⟨k6.row hrow.1 (λg' hg e=>by simp only [Value.ownBlock,Option.some.injEq] at hg;subst hg;exact HgB.o e),hrow.2⟩;have hrs6:=Ad hrs5 k6 (by simp);have hkk6:=hkk5.trans (k6.mono λk _ e=> .inr (by have e':k=w.heap.size:=e;omega));have hjud:=Gb L2 (cr+rest) (du-m) (some ⟨g,0,none⟩) c i _ hrow6.reads hrow6.2 hl;rcases hrt:Ps.Bh ⟨L2,cr+rest,du-m⟩ with _|_
    ·skip
     rw [hrt,if_neg j7,if_neg j7] at hjud;have hG:=HG.o;clear HG;rw [hrt,if_neg j7] at hG;subst hG;clear hL2 hrow hk hrp k6;have Hrow6:=Lib.hid hrow6;clear hrow6 hrs5;have Hrs6:=Lib.hid hrs6;clear hrs6 hkk5;obtain⟨Hkk6,Hjud⟩:=hid2 hkk6 hjud;clear hjud hkk6 hrt hbq;go_wp2_with fail;refine Hjud.o.mono ?_;rintro e w8 ⟨rfl,hk8⟩;clear b0 b1 b2 f1 f2;have hrs8:=Ad Hrs6.o hk8 (by simp);have hS3:=Cb hrs8 (.slice none 0 0) (.int .i64 (0)) (.int .i64 (0));obtain⟨hb9,k9⟩:=hS3;refine j0T ?_;intro r0 r1 r2 rf0 rf1 rf2 sr0 sr1 sr2;clear hrs8 hb9;obtain⟨K9,Sr0,Sr1,Sr2⟩:=hid4 k9 sr0 sr1 sr2;clear sr2 sr1 sr0 k9;have Hk8:=Lib.hid hk8;clear hk8;go_wp2;refine jj ?_;intro R0' R1' R2';clear r0 r1 r2;exact bodyPost_ret (v:= .tuple #[.agg #[.slice none 0 0,.int .i64 (0),.int .i64 (0)],.int .i64 5]) j1C rfl ⟨_,rfl,⟨by simp [ps0],.inl ⟨rfl,rfl⟩⟩,(Hkk6.o.nt Hk8.o).trans (K9.o.mono λi _ e=> .inr jo),λg hg=>by simp [Value.ownBlock] at hg⟩
    ·skip
     rw [hrt,if_pos rfl,if_pos rfl] at hjud;have hG:=HG.o;clear HG;rw [hrt,if_pos rfl] at hG;subst hG;clear hL2 hrow hk hrp k6;have Hrow6:=Lib.hid hrow6;clear hrow6 hrs5;have Hrs6:=Lib.hid hrs6;clear hrs6 hkk5;obtain⟨Hkk6,Hjud⟩:=hid2 hkk6 hjud;clear hjud hkk6 hrt hbq;go_wp2_with fail;refine Hjud.o.mono ?_;rintro e w8 ⟨rfl,hk8⟩;clear b0 b1 b2 f1 f2;have hrs8:=Ad Hrs6.o hk8 (by simp);have hS3:=Cb hrs8 (.slice (some ⟨g,0,none⟩) i c) (.int .i64 (cr+rest)) (.int .i64 (du-m));obtain⟨hb9,k9⟩:=hS3;refine j0T ?_;intro r0 r1 r2 rf0 rf1 rf2 sr0 sr1 sr2;clear hrs8 hb9;obtain⟨K9,Sr0,Sr1,Sr2⟩:=hid4 k9 sr0 sr1 sr2;clear sr2 sr1 sr0 k9;have Hk8:=Lib.hid hk8;clear hk8;go_wp2;refine jj ?_;intro R0' R1' R2';clear r0 r1 r2;have hrow7:=K9.o.row (Hrow6.o.1.of_keeps Hk8.o) (λg' hg e=>by simp only [Value.ownBlock,Option.some.injEq] at hg;subst hg;exact HgR.o e);have hlen2:=Hrow6.o.2;exact bodyPost_ret (v:= .tuple #[.agg #[.slice (some ⟨g,0,none⟩) i c,.int .i64 (cr+rest),.int .i64 (du-m)],.int .i64 0]) j1C rfl ⟨_,rfl,(by rw [hlen2];exact hrow7),(Hkk6.o.nt Hk8.o).trans (K9.o.mono λi _ e=> .inr jo),λg' hg=>by simp only [Value.ownBlock,Option.some.injEq] at hg;subst hg;exact Hgw.o⟩
 ·rw [if_neg h0];clear hr;have Hask:=Lib.hid hask;clear hask hz;go_enter Tryz.func149,Tryz.ntmps149;go_wp2_with fail;refine(Hask.o _ jg).mono ?_;rintro e w1 ⟨rfl,hk1⟩;refine j39 ?_;intro hkw;refine j0O ?_;intro hrs;refine j1D ?_;intro hb9 k9 r0 r1 r2 rf0 rf1 rf2 sr0 sr1 sr2;have Hrs:=Lib.hid hrs;clear hrs hb9;obtain⟨K9,Sr0,Sr1,Sr2⟩:=hid4 k9 sr0 sr1 sr2;clear sr2 sr1 sr0 k9;clear hk1;have Hkw:=Lib.hid hkw;clear hkw;go_wp2;refine jj ?_;intro R0' R1' R2';clear r0 r1 r2;exact bodyPost_ret (v:= .tuple #[.agg #[.slice none 0 0,.int .i64 0,.int .i64 0],.int .i64 z]) j1C rfl ⟨_,rfl,⟨by simp [ps0],.inl ⟨rfl,rfl⟩⟩,Hkw.o.trans (K9.o.mono λi _ e=> .inr jo),λg hg=>by simp [Value.ownBlock] at hg⟩
theorem Vy(v:Int)(w:World):Calls Tryz.prog 174 #[.int .i64 v] w λe w'=>e= .returned (.bool (badM v))/\w=w':=by
 rcases m3:Bv v with _|_
 ·have hf:badM v=true:=by simp [badM,m3]
  exact j3a
 ·have hf:badM v=false:=by simp [badM,m3]
  exact j3a
theorem indexBear(ad:Option Addr)(cap:Nat)(L:List Int)(w:World)(hr:Reads w 1 (.slice ad L.length cap) L.length (L.flatMap i64c))(hl:L.length<=1000):
  Calls Tryz.prog 179 #[.slice ad L.length cap,.func (.func 174) #[] #[]] w λe w'=>∃r:Int,e= .returned (.int .i64 r)/\decide (0<=r)=L.any badM/\w=w':=by
 have Hr:=Lib.hid hr;clear hr;go_enter Tryz.func179,Tryz.ntmps179;go_wp2_with fail
 go_loop [8] (λc=>∃j:Nat,j<=L.length/\c= .int .i64 (j:Nat)/\(L.take j).any badM=false) (λc=>L.length-(intOf c).toNat)
 case atStart=>exact⟨0,Nat.zero_le _,rfl,rfl⟩
 case round=>
  obtain⟨j,hj,rfl,hok⟩:=hrel;by_cases hjl:j<L.length
  ·obtain⟨x,hx⟩:=Ar hjl;obtain⟨g,o,rfl,x0⟩:=Hr.o.int hx;have hsn:=Gs (q:=badM) hx;rw [hok] at hsn;have hcl:=λW=>Vy x W;rcases m1:badM x with _|_
   ·have hok':(L.take (j+1)).any badM=false:=by rw [hsn,m1];rfl
    rw [m1] at hcl;clear hsn hx;obtain⟨Hok,Hok',Hcl⟩:=hid3 hok hok' hcl;clear hcl hok' hok
    go_wp2_with (go_at_call 174;((with_reducible refine(Hcl.o _).mono ?_);rintro e w1 ⟨rfl,rfl⟩))
    exact j0m
   ·have hf:=Kw (q:=badM) hx m1;have hj0:decide ((0:Int)<=(j:Int))=true:=by simp
    rw [m1] at hcl;have Hf:=Lib.hid hf;clear hf hsn hx;obtain⟨Hj0,Hcl⟩:=hid2 hj0 hcl;clear hcl hj0
    go_wp2_with (go_at_call 174;((with_reducible refine(Hcl.o _).mono ?_);rintro e w1 ⟨rfl,rfl⟩))
    exact j0N
  ·exact j0n
theorem Zm(ad:Option Addr)(cap:Nat)(L:List Int)(w:World)(hr:Reads w 1 (.slice ad L.length cap) L.length (L.flatMap i64c))(hl:L.length<=1000):
  Calls Tryz.prog 162 #[.slice ad L.length cap,.func (.func 174) #[] #[]] w λe w'=>e= .returned (.bool (L.any badM))/\w=w':=by
 have Hr:=Lib.hid hr;clear hr;go_enter Tryz.func162,Tryz.ntmps162
 go_wp2_with (go_at_call 179;refine(indexBear _ _ L _ Hr.o hl).mono ?_;rintro e w1 ⟨r,rfl,hd,rfl⟩;have Hd:=Lib.hid hd;clear hd)
 exact j0o
theorem Sz{L:List Int}{b:Bool}{n:Nat}(hb:L.any badM=b)(hN:L.length=n)(hl:n<=1000)(ad:Option Addr)(cap:Nat)(w:World)(hr:Reads w 1 (.slice ad n cap) n (L.flatMap i64c)):
  Calls Tryz.prog 162 #[.slice ad n cap,.func (.func 174) #[] #[]] w λe w'=>e= .returned (.bool b)/\w=w':=by
 subst hN;subst hb;exact Zm ad cap L w hr hl
def bearS(X:List Int)(p:Ps):Nat->Ps
 |0=>p
 |i+1=>Gr (bearS X p i) ((i:Int)+1) (X.getD i 0)
theorem Aca(X:List Int)(p:Ps):∀i,(bearS X p i).du=p.du
 |0=>rfl
 |i+1=>Aca X p i
theorem Xx(X:List Int)(p:Ps):∀i,(bearS X p i).bal.length=p.bal.length
 |0=>rfl
 |i+1=>by unfold bearS Gr;simp only [List.length_set];exact Xx X p i
theorem Xy(X:List Int)(p:Ps):∀i j,i<=j->(bearS X p i).bal[j]?=p.bal[j]?
 |0,_,_=>rfl
 |i+1,j,h=>by
  unfold bearS Gr;simp only;rw [List.getElem?_set_ne (by omega)];exact Xy X p i j (by omega)
theorem Acb{X:List Int}{p:Ps}(hX:∀x∈X,0<=x/\x<=1000000000000000)(hc:0<=p.cr/\p.cr<=1000000000000000):∀i,0<=(bearS X p i).cr/\(bearS X p i).cr<=1000000000000000
 |0=>hc
 |i+1=>by
  have ih:=Acb hX hc i;unfold bearS Gr;simp only
  have hx:0<=X.getD i 0:=by
   rw [List.getD_eq_getElem?_getD];rcases h:X[i]? with _|x
   ·simp
   ·exact(hX x (List.mem_of_getElem? h)).1
  unfold minI
  split<;>omega
def bearR(p:Ps)(X:List Int):Ps×Int:=if p.Bh=true/\X.length=p.bal.length/\X.all Bv=true then(if(bearS X p X.length).Bh=true then(bearS X p X.length,0) else(ps0,5)) else(ps0,1)
theorem Yp(L X:List Int)(cr du:Int)(ad adX:Option Addr)(cap cX n m:Nat)(w:World)(hr:Reads w 1 (.slice ad n cap) n (L.flatMap i64c))(hN:L.length=n)(hl:n<=1000)(hX:Reads w 1 (.slice adX m cX) m (X.flatMap i64c))(hM:X.length=m)(hm:m<=1000):
  Calls Tryz.prog 154 #[.agg #[.slice ad n cap,.int .i64 cr,.int .i64 du],.slice adX m cX] w (Aa3 (bearR ⟨L,cr,du⟩ X).1 (bearR ⟨L,cr,du⟩ X).2 w):=by
 refine j0t ?_;intro hri;refine j0r ?_;intro hbx;have hco:=λW (hW:K0 w W)=>Sz (L:=X) (b:=X.any badM) rfl hM hm adX cX W (hX.keeps hW (by simp));have he:X.any badM= !(X.all Bv):=by rw [List.all_eq_not_any_not];simp only [Bool.not_not];rfl
 rw [he] at hco;unfold bearR;rcases hb:Ps.Bh ⟨L,cr,du⟩ with _|_
 ·rw [hb] at hri;rw [if_neg (by simp)];exact j3b
 ·rw [hb] at hri;by_cases hlen:m=n
  ·obtain rfl:n=m:=hlen.symm;rcases hal:X.all Bv with _|_
   ·rw [hal] at hco;rw [if_neg (by simp)];simp only [Bool.not_false] at hco;clear hr;obtain⟨HX,Hri,Hco⟩:=hid3 hX hri hco;clear hco hri hX hb;have Hbx:=Lib.hid hbx;clear hbx he;obtain⟨HN,HM⟩:=hid2 hN hM;clear hM hN hal;exact j3c
   ·rw [hal] at hco;simp only [Bool.not_true] at hco;rw [if_pos ⟨rfl,by rw [hM,hN],rfl⟩];obtain⟨q,hq⟩:=eX (bearS X ⟨L,cr,du⟩ X.length);rw [hq];rw [hM] at hq;obtain⟨G,hG⟩:∃G:Ps×Int,(if q.Bh=true then(q,0) else(ps0,5))=G:=⟨_,rfl⟩;rw [hG];obtain⟨hbal,hcr,hdu,hn1,hn8⟩:=Eo hb;simp only at hbal hcr hdu hn1 hn8;rw [hN] at hn1 hn8;have hXb:∀x∈X,0<=x/\x<=1000000000000000:=λx hx=>(Bi x).1 (List.all_eq_true.1 hal x hx);refine j0Q ?_;intro hown;clear hr;obtain⟨HX,Hri,Hco⟩:=hid3 hX hri hco;clear hco hri hX hb;have Hbx:=Lib.hid hbx;clear hbx he;obtain⟨HN,HM⟩:=hid2 hN hM;clear hM hN hal;obtain⟨Hq,HG,Hbal,Hcr⟩:=hid4 hq hG hbal hcr;clear hcr hbal hG hq hdu;obtain⟨HXb,Hown⟩:=hid2 hXb hown;clear hown hXb;go_enter Tryz.func154,Tryz.ntmps154;go_wp2_with fail;refine(Hri.o _ jg).mono ?_;rintro e w1 ⟨rfl,hk1⟩;refine j1B ?_;intro hkw hb1 hrs b0 b1 b2;clear hk1;obtain⟨Hkw,Hb1,Hrs⟩:=hid3 hkw hb1 hrs;clear hrs hb1 hkw
    go_wp2_with (go_at_call 162;(with_reducible refine(Hco.o _ Hkw.o).mono ?_);rintro e w2 ⟨rfl,rfl⟩)
    refine(Hown.o _ Hkw.o).mono ?_;rintro e w3 ⟨v3,rfl,hrow3,hk3,hnew3⟩;obtain⟨g,c,rfl⟩:=Ez hrow3 hn1;have hgn:w1.heap.size<=g:=hnew3 g rfl;clear b0 b1 b2;have hb3:=Ad Hb1.o hk3 (by simp);have hrs3:=Ad Hrs.o hk3 (by simp);have hgB:g≠w.heap.size:=by have:=lt_of_block Hb1.o;omega
    have hgR:g≠w.heap.size+1:=by have:=lt_of_block Hrs.o;omega
    refine j38 ?_;intro hb4 k4 W4 hW4;rw [<-hW4] at hb4 k4;have hrow4:RowZ W4 2 g n c L:=⟨k4.row hrow3 (λg' hg e=>by simp only [Value.ownBlock,Option.some.injEq] at hg;subst hg;exact hgB e),HN.o⟩;have hrs4:=Ad hrs3 k4 (by simp);have hkk4:K0 w W4:=(Hkw.o.nt hk3).trans (k4.mono λi _ e=> .inr j09);have c0:=Aa hb3 0;have c1:=Aa hb3 1;have c2:=Aa hb3 2;have f0:=Ab hb3 0;have f1:=Ab hb3 1;have f2:=Ab hb3 2;have hgw:w.heap.size<=g:=by have:=Hkw.o.size;omega
    clear hrow3 hk3 hnew3 hgn hb3 hrs3 hgB;obtain⟨HgR,Hb4⟩:=hid2 hgR hb4;clear hb4 hgR k4;obtain⟨Hrow4,Hrs4,Hkk4,Hgw⟩:=hid4 hrow4 hrs4 hkk4 hgw;clear hgw hkk4 hrs4 hrow4;go_wp2;rw [<-hW4];clear hW4 c0 c1 c2 f0 f1 f2
    go_loopw [28] (λx wx=>∃i:Nat,x= .int .i64 (i:Nat)/\i<=n/\wx.heap[w.heap.size]?=some (.cells #[.slice (some ⟨g,0,none⟩) n c,.int .i64 (bearS X ⟨L,cr,du⟩ i).cr,.int .i64 du] 51 (0,0))/\RowZ wx 2 g n c (bearS X ⟨L,cr,du⟩ i).bal/\Keeps (λk=>k=w.heap.size\/k=g) W4 wx) (λx _=>n-(intOf x).toNat)
    case atStart=>exact⟨0,rfl,Nat.zero_le _,Hb4.o,Hrow4.o,Keeps.refl _ _⟩
    case round=>
     obtain⟨i,rfl,hin,hbq,hrow,hk⟩:=hrel;obtain⟨wq,hwq⟩:=eY wr;subst hwq;have hkq:K0 w wq:=Hkk4.o.trans (hk.mono λk _ e=> .inr (by have:=Hgw.o;rcases e with e|e<;>omega))
     by_cases hlt:i<n
     ·have hltI:(i:Int)<(n:Int):=j8;obtain⟨x,hx⟩:=Ar (L:=X) (k:=i) (by rw [HM.o];exact hlt);obtain⟨x0,x1⟩:=HXb.o x (List.mem_of_getElem? hx);have hxD:X.getD i 0=x:=by rw [List.getD_eq_getElem?_getD,hx];rfl
      obtain⟨gx,ox,he,cx⟩:=(HX.o.keeps hkq (by simp)).int (k:= .i64) hx;subst he;have hst:bearS X ⟨L,cr,du⟩ (i+1)=Gr (bearS X ⟨L,cr,du⟩ i) ((i:Int)+1) x:=by rw [<-hxD];rfl
      have hc0:=Li w.heap.size g c (bearS X ⟨L,cr,du⟩ i).bal (bearS X ⟨L,cr,du⟩ i).cr du ((i:Int)+1) x n wq hbq hrow (λy hy=>by
       rw [show((i:Int)+1-1).toNat=i by omega,Xy X ⟨L,cr,du⟩ i i (Nat.le_refl _)] at hy
       exact Hbal.o y (List.mem_of_getElem? hy)) (Acb HXb.o Hcr.o i) ⟨x0,x1⟩ ⟨by omega,by omega⟩ hl
      clear hbq;obtain⟨Hrow,Hk,Hkq⟩:=hid3 hrow hk hkq;clear hkq hk hrow hx hxD;obtain⟨Hst,Hc0⟩:=hid2 hst hc0;clear hc0 hst
      go_wp2_with (go_at_call 166;(with_reducible refine Hc0.o.mono ?_);rintro e w5 ⟨rfl,hb5,hrow5,hk5⟩;have Hb5:=Lib.hid hb5;have Hrow5:=Lib.hid hrow5;have Hk5:=Lib.hid hk5;clear hb5 hrow5 hk5)
      go_roundw
      case rel=>exact⟨i+1,by go_num,by omega,by rw [Hst.o];exact Hb5.o,by rw [Hst.o];exact Hrow5.o,Hk.o.te Hk5.o (λ_ e=>e)⟩
      case measure=>simp [intOf];omega
     ·obtain rfl:i=n:=by omega
      have hdu2:=Aca X ⟨L,cr,du⟩ i;rw [Hq.o] at hrow hbq hdu2;obtain⟨L2,c2,d2⟩:=q;simp only at hrow hbq hdu2;have hdu3:=hdu2.symm;clear hdu2;subst hdu3;have hrs5:=Ad Hrs4.o hk (by have:=HgR.o;simp;omega);have hjud:=Gb L2 c2 du (some ⟨g,0,none⟩) c i wq hrow.reads hrow.2 hl;have b0:=Aa hbq 0;have b1:=Aa hbq 1;have b2:=Aa hbq 2;rcases hrt:Ps.Bh ⟨L2,c2,du⟩ with _|_
      ·skip
       rw [hrt,if_neg j7,if_neg j7] at hjud;have hG:=HG.o;clear HG;rw [hrt,if_neg j7] at hG;subst hG;obtain⟨Hrow,Hk,Hkq,Hjud⟩:=hid4 hrow hk hkq hjud;clear hjud hkq hk hrow hrt hbq;have Hrs5:=Lib.hid hrs5;clear hrs5;go_wp2_with fail;refine Hjud.o.mono ?_;rintro e w8 ⟨rfl,hk8⟩;clear b0 b1 b2;have hrs8:=Ad Hrs5.o hk8 (by simp);have hS3:=Cb hrs8 (.slice none 0 0) (.int .i64 (0)) (.int .i64 (0));obtain⟨hb9,k9⟩:=hS3;refine j0T ?_;intro r0 r1 r2 rf0 rf1 rf2 sr0 sr1 sr2;clear hrs8 hb9;obtain⟨K9,Sr0,Sr1,Sr2⟩:=hid4 k9 sr0 sr1 sr2;clear sr2 sr1 sr0 k9;have Hk8:=Lib.hid hk8;clear hk8;go_wp2;refine jj ?_;intro R0' R1' R2';clear r0 r1 r2;exact bodyPost_ret (v:= .tuple #[.agg #[.slice none 0 0,.int .i64 (0),.int .i64 (0)],.int .i64 5]) j1E rfl ⟨_,rfl,⟨by simp [ps0],.inl ⟨rfl,rfl⟩⟩,(Hkq.o.nt Hk8.o).trans (K9.o.mono λi _ e=> .inr jo),λg hg=>by simp [Value.ownBlock] at hg⟩
      ·skip
       rw [hrt,if_pos rfl,if_pos rfl] at hjud;have hG:=HG.o;clear HG;rw [hrt,if_pos rfl] at hG;subst hG;obtain⟨Hrow,Hk,Hkq,Hjud⟩:=hid4 hrow hk hkq hjud;clear hjud hkq hk hrow hrt hbq;have Hrs5:=Lib.hid hrs5;clear hrs5;go_wp2_with fail;refine Hjud.o.mono ?_;rintro e w8 ⟨rfl,hk8⟩;clear b0 b1 b2;have hrs8:=Ad Hrs5.o hk8 (by simp);have hS3:=Cb hrs8 (.slice (some ⟨g,0,none⟩) i c) (.int .i64 (c2)) (.int .i64 (du));obtain⟨hb9,k9⟩:=hS3;refine j0T ?_;intro r0 r1 r2 rf0 rf1 rf2 sr0 sr1 sr2;clear hrs8 hb9;obtain⟨K9,Sr0,Sr1,Sr2⟩:=hid4 k9 sr0 sr1 sr2;clear sr2 sr1 sr0 k9;have Hk8:=Lib.hid hk8;clear hk8;go_wp2;refine jj ?_;intro R0' R1' R2';clear r0 r1 r2;have hrow7:=K9.o.row (Hrow.o.1.of_keeps Hk8.o) (λg' hg e=>by simp only [Value.ownBlock,Option.some.injEq] at hg;subst hg;exact HgR.o e);have hlen2:=Hrow.o.2;exact bodyPost_ret (v:= .tuple #[.agg #[.slice (some ⟨g,0,none⟩) i c,.int .i64 (c2),.int .i64 (du)],.int .i64 0]) j1E rfl ⟨_,rfl,(by rw [hlen2];exact hrow7),(Hkq.o.nt Hk8.o).trans (K9.o.mono λi _ e=> .inr jo),λg' hg=>by simp only [Value.ownBlock,Option.some.injEq] at hg;subst hg;exact Hgw.o⟩
  ·rw [if_neg (by simp only [hN,hM];simp [hlen])];exact j3b
def giveO(k:Int)(O:List Int):List Int:=k::O.filter (λx=>decide (x≠k))
theorem Ade{k x:Int}{O:List Int}{i:Nat}(h:O[i]?=some x):giveO k (O.take (i+1))=if x=k then giveO k (O.take i) else giveO k (O.take i)++ [x]:=by
 unfold giveO;rw [take_snoc' h,List.filter_append];by_cases e:x=k
 ·rw [if_pos e];simp [e]
 ·rw [if_neg e];simp [e]
theorem giveO_ok{n:Nat}{k:Int}{O:List Int}(h:OrdOk n O)(hk:1<=k/\k<=n):OrdOk n (giveO k O):=by
 refine⟨λx hx=> ?_, ?_⟩
 ·rcases List.mem_cons.1 hx with rfl|hx
  ·exact hk
  ·exact h.ok x (List.mem_filter.1 hx).1
 ·unfold giveO;rw [List.nodup_cons];exact⟨λhx=>by simpa using (List.mem_filter.1 hx).2,h.nd.filter _⟩
theorem rank_ok(hi:Bool){R:List Int}{n:Nat}(h:R.length=n):OrdOk n (rankL hi R):=by
 subst h;exact⟨λk hk=>Ew hk,Ro hi R _⟩
def giveP(p:Ps)(R:List Int)(k a:Int):Ps:=⟨List.zipWith (λx y=>x-y) p.bal (intoL p.bal (giveO k (rankL true R)) a).1,p.cr+(intoL p.bal (giveO k (rankL true R)) a).2,p.du⟩
def giveR(p:Ps)(R:List Int)(k a:Int):Ps×Int:=if askE p [k] a=0 then(if(giveP p R k a).Bh=true then(giveP p R k a,0) else(ps0,5)) else(ps0,askE p [k] a)
theorem haltG{p:Prop}(h:Hid p):p:=h.out
theorem owns_lit1(W:World)(x:Int):(W.alloc (.cells #[.int .i64 x] 3)).ownsRow 0 3 1 (.slice (some ⟨W.heap.size,0,none⟩) 1 1) 1 ([x].flatMap i64c):=
 ⟨rfl,.inr ⟨_,1,_,rfl,Nat.zero_le _,heap_alloc_new W _,Nat.le_refl _,by unfold maxLen;omega,rfl,rfl⟩⟩
theorem Pp(L R:List Int)(cr du k a:Int)(ad adR:Option Addr)(cap cR n:Nat)(w:World)(hr:Reads w 1 (.slice ad n cap) n (L.flatMap i64c))(hN:L.length=n)(hl:n<=1000)(hR:Reads w 1 (.slice adR n cR) n (R.flatMap i64c))(hRn:R.length=n):
  Calls Tryz.prog 150 #[.agg #[.slice ad n cap,.int .i64 cr,.int .i64 du],.slice adR n cR,.int .i64 k,.int .i64 a] w (Aa3 (giveR ⟨L,cr,du⟩ R k a).1 (giveR ⟨L,cr,du⟩ R k a).2 w):=by
 obtain⟨i0,hi,hi0,hi1,hi2⟩:=info_parts Qw;refine j2S ?_;intro z hz hask;rw [hz] at hask;unfold giveR;rw [hz];by_cases h0:z=0
 ·subst h0;rw [if_pos rfl];obtain⟨hright,htr,hmon⟩:=Rh hz;obtain⟨hbal,hcr,hdu,hn1,hn8⟩:=Eo hright;simp only at hbal hcr hdu hn1 hn8;rw [hN] at hn1 hn8;have hkk:1<=k/\k<=n:=by simpa [trB,hN] using htr
  have hall:L.all Bv=true:=List.all_eq_true.2 λx hx=>(Bi x).2 (hbal x hx);have hord:=giveO_ok (rank_ok true hRn) hkk;obtain⟨q,hq⟩:=eX (giveP ⟨L,cr,du⟩ R k a);rw [hq];obtain⟨G,hG⟩:∃G:Ps×Int,(if q.Bh=true then(q,0) else(ps0,5))=G:=⟨_,rfl⟩;rw [hG];have hhigh:=λW (hW:K0 w W)=>Po R adR cR W j1A j6;rw [hRn] at hhigh;refine j0Q ?_;intro hown;have hcr0:=hcr;obtain⟨Hr,HR,Hask⟩:=hid3 hr hR hask;clear hask hR hr hz;obtain⟨Hi,Hi0,Hi1,Hi2⟩:=hid4 hi hi0 hi1 hi2;clear hi2 hi1 hi0 hi hright htr;obtain⟨Hmon,Hbal⟩:=hid2 hmon hbal;clear hbal hmon hcr hdu;obtain⟨Hkk,Hall,Hord,Hq,HG,Hhigh,Hown,HN,HRn⟩:=hid9 hkk hall hord hq hG hhigh hown hN hRn;clear hRn hN hown hhigh hG hq hord hall hkk;go_enter Tryz.func150,Tryz.ntmps150;go_wp2_with fail
  all_goals
   refine(Hask.o _ _ jg (Reads.litAt _ _ _ 1 1 _ (by simp) rfl)).mono ?_;rintro e w1 ⟨rfl,hk1⟩;have hkw:K0 w w1:=(by(repeat (first|exact Keeps.refl _ _|exact Keeps.alloc _ _|exact Keeps.drew _|exact Keeps.drewN _ _|refine Keeps.Ao ?_|refine Keeps.Al ?_|refine Keeps.Af ?_)):K0 w (((w.alloc (.cells #[.slice ad n cap,.int .i64 cr,.int .i64 du] 51)).alloc (.cells #[.slice none 0 0,.int .i64 0,.int .i64 0] 51)).alloc (.cells #[.int .i64 k] 3))).nt hk1;have hbx:w1.heap[w.heap.size]?=some (.cells #[.slice ad n cap,.int .i64 cr,.int .i64 du] 51 (0,0)):=Ad (Ap (Ap (heap_alloc_new w _) _) _) hk1 (by simp);have hrs:w1.heap[w.heap.size+1]?=some (.cells #[.slice none 0 0,.int .i64 0,.int .i64 0] 51 (0,0)):=Ad (Ap (Aw _ _ (by simp)) _) hk1 (by simp);have b0:=Aa hbx 0;have b1:=Aa hbx 1;have b2:=Aa hbx 2;obtain⟨Hk1,Hkw,Hbx,Hrs⟩:=hid4 hk1 hkw hbx hrs;clear hrs hbx hkw hk1;go_wp2_with fail;refine(Hown.o _ Hkw.o).mono ?_;rintro e w2 ⟨v1,rfl,hrow,hk2,hnew⟩;obtain⟨g,c,rfl⟩:=Ez hrow hn1;have hgn:w1.heap.size<=g:=hnew g rfl;clear b0 b1 b2;have hb3:=Ad Hbx.o hk2 (by simp);have hrs3:=Ad Hrs.o hk2 (by simp);have hgB:g≠w.heap.size:=by have:=lt_of_block Hbx.o;omega
   have hgR:g≠w.heap.size+1:=by have:=lt_of_block Hrs.o;omega
   obtain⟨hb4,k4⟩:=Cb hb3 (.slice (some ⟨g,0,none⟩) n c) (.int .i64 cr) (.int .i64 du);have hS:∃W4,W4=(((w2.setCell ⟨w.heap.size,0,none⟩ (.slice (some ⟨g,0,none⟩) n c)).setCell ⟨w.heap.size,1,none⟩ (.int .i64 cr)).setCell ⟨w.heap.size,2,none⟩ (.int .i64 du)):=⟨_,rfl⟩;obtain⟨W4,hW4⟩:=hS;rw [<-hW4] at hb4 k4;have hrow4:RowZ W4 2 g n c L:=⟨k4.row hrow (λg' hg e=>by simp only [Value.ownBlock,Option.some.injEq] at hg;subst hg;exact hgB e),HN.o⟩;have hrs4:=Ad hrs3 k4 (by simp);have hkk4:K0 w W4:=(Hkw.o.nt hk2).trans (k4.mono λi _ e=> .inr j09);have hgw:w.heap.size<=g:=by have:=Hkw.o.size;omega
   have c0:=Aa hb3 0;have c1:=Aa hb3 1;have c2:=Aa hb3 2;have f0:=Ab hb3 0;have f1:=Ab hb3 1;have f2:=Ab hb3 2;have Hrow:=Lib.hid hrow;clear hrow hk2;obtain⟨Hnew,Hgn,Hb3⟩:=hid3 hnew hgn hb3;clear hb3 hgn hnew hrs3;obtain⟨HgB,HgR,Hb4⟩:=hid3 hgB hgR hb4;clear hb4 hgR hgB k4;obtain⟨Hrow4,Hrs4,Hkk4,Hgw⟩:=hid4 hrow4 hrs4 hkk4 hgw;clear hgw hkk4 hrs4 hrow4;go_wp2_with fail;rw [<-hW4];have HW4:=Lib.hid hW4;clear hW4 c0 c1 c2 f0 f1 f2;refine(Hhigh.o _ (Hkk4.o.trans (Keeps.alloc _ _))).mono ?_;rintro e w5 ⟨v5,rfl,hrow5,hf5⟩;obtain⟨ad5,c5,rfl⟩:=Ez hrow5 hn1;have hlit:=(owns_lit1 W4 k).of_keeps hf5.1;have hne5:¬ad5=W4.heap.size:=by have:=hf5.2 ad5 rfl;simp at this;omega
   have hfr5:Fresh W4 w5 (.slice (some ⟨W4.heap.size,0,none⟩) 1 1):=⟨(Keeps.alloc _ _).nt hf5.1,λg' hg=>by simp only [Value.ownBlock,Option.some.injEq] at hg;omega⟩;have hs4:W4.heap.size=w2.heap.size:=by rw [HW4.o];simp
   rw [hs4] at hlit hfr5 hne5;obtain⟨H,hH⟩:=eX (rankL true R);have hHl:H.length=n:=by rw [<-hH,Kn,HRn.o]
   have hord:=Hord.o;rw [hH] at hrow5 hord;obtain⟨Hrow5,Hf5,Hlit,Hne5,Hfr5,HH,HHl,Hord⟩:=hid8 hrow5 hf5 hlit hne5 hfr5 hH hHl hord;clear hord hHl hH hfr5 hne5 hlit hf5 hrow5;go_wp2
   go_loopw [11,42] (λx y wx=>∃i:Nat,y= .int .i64 (i:Nat)/\i<=n/\wx.ownsRow 0 3 1 x (giveO k (H.take i)).length ((giveO k (H.take i)).flatMap i64c)/\Fresh W4 wx x/\(∀b,x.ownBlock=some b->¬ad5=b)/\wx.ownsRow 0 3 1 (.slice (some ⟨ad5,0,none⟩) n c5) n (H.flatMap i64c)) (λ_ y _=>n-(intOf y).toNat)
   case atStart=>exact⟨0,rfl,Nat.zero_le _,Hlit.o,Hfr5.o,λb hb=>by simp only [Value.ownBlock,Option.some.injEq] at hb;subst hb;exact Hne5.o,Hrow5.o⟩
   case round=>
    obtain⟨i,rfl,hin,hrowx,hfrx,hnx,hrowH⟩:=hrel;obtain⟨wq,hwq⟩:=eY wr;subst hwq;by_cases hlt:i<n
    ·have hltI:(i:Int)<(n:Int):=j8;obtain⟨y,hy⟩:=Ar (L:=H) (k:=i) (by rw [HHl.o];exact hlt);have hsn:=Ade (k:=k) hy;obtain⟨g5,o5,he,cy⟩:=(Reads.Bg hrowH).int (k:= .i64) hy;simp only [Option.some.injEq,Addr.mk.injEq,and_true] at he;obtain⟨rfl,rfl⟩:=he;rw [Nat.zero_add] at cy;by_cases hyk:y=k
     ·subst hyk;rw [if_pos rfl] at hsn;obtain⟨Hrowx,Hfrx,Hnx,HrowH⟩:=hid4 hrowx hfrx hnx hrowH;clear hrowH hnx hfrx hrowx hy;have Hsn:=Lib.hid hsn;clear hsn;go_wp2;go_roundw
      case rel=>exact⟨i+1,by go_num,by omega,by rw [Hsn.o];exact Hrowx.o,Hfrx.o,Hnx.o,HrowH.o⟩
      case measure=>simp [intOf];omega
     ·rw [if_neg hyk] at hsn;obtain⟨M,hM⟩:=eX ((giveO k (H.take i)).length)
      have hM1:M<=1000:=by
       rw [<-hM];have h1:=List.length_filter_le (λx=>decide (x≠k)) (H.take i);rw [List.length_take] at h1;simp only [giveO,List.length_cons];omega
      rw [hM] at hrowx;obtain⟨Hrowx,Hfrx,Hnx,HrowH⟩:=hid4 hrowx hfrx hnx hrowH;clear hrowH hnx hfrx hrowx hy;obtain⟨Hsn,HM⟩:=hid2 hsn hM;clear hM hsn
      go_wp2_with (at_builtin;refine Am rfl (.tmp 49) (.tmp 51) 276 rfl 0 3 i0 _ 1 8 Tryz.underlying276 Hi.o Hi0.o Hi1.o Hi2.o rfl j7 _ M _ rfl (Hrowx.o.alloc _) _ 1 _ rfl (Reads.litAt _ _ _ 1 1 _ jr rfl) jf jd j6 (Nat.zero_le _) ?_;intro v4 w4 hown4 hk4 hf4;refine haltG ?_)
      refine Lib.hid ?_;have hfr4:=(Hfrx.o.keep (Keeps.alloc _ _)).app hk4 hf4;have hH4:=hk4.row (HrowH.o.alloc (.cells #[.int .i64 y] 3)) (λb hb e=>by simp only [Value.ownBlock,Option.some.injEq] at hb;exact Hnx.o b e hb);have hl5:ad5<(wq.alloc (.cells #[.int .i64 y] 3)).heap.size:=Ch (HrowH.o.alloc (.cells #[.int .i64 y] 3)) rfl
      have hnx4:∀b,v4.ownBlock=some b->¬ad5=b:=λb hb=>by
       rcases hf4 with h|⟨g6,h,hg6⟩
       ·exact Hnx.o b (h▸hb)
       ·rw [h] at hb;simp only [Option.some.injEq] at hb;omega
      have hown6:w4.ownsRow 0 3 1 v4 (giveO k (H.take (i+1))).length ((giveO k (H.take (i+1))).flatMap i64c):=by
       rw [Hsn.o,List.length_append,HM.o,List.flatMap_append];exact hown4
      clear hown4 hk4 hf4;obtain⟨Hfr4,HH4,Hnx4,Hown6⟩:=hid4 hfr4 hH4 hnx4 hown6;clear hown6 hnx4 hH4 hfr4;go_wp2;go_roundw
      case rel=>exact⟨i+1,by go_num,by omega,Hown6.o,Hfr4.o,Hnx4.o,HH4.o⟩
      case measure=>simp [intOf];omega
    ·obtain rfl:i=n:=by omega
     rw [List.take_of_length_le (by rw [HHl.o];exact Nat.le_refl _)] at hrowx;obtain⟨M,hM⟩:=eX ((giveO k H).length)
     have hM1:M<=1000:=by
      rw [<-hM];have h1:=List.length_filter_le (λx=>decide (x≠k)) H;have h2:=HHl.o;simp only [giveO,List.length_cons];omega
     rw [hM] at hrowx;obtain⟨ado,co,rfl,hco,hnone⟩:=Ae hrowx;have hbq:=Ad Hb4.o hfrx.1 (by simp);have hrowq:=Hrow4.o.keep hfrx.1;have hrs5:=Ad Hrs4.o hfrx.1 (by simp);have hkk5:=Hkk4.o.nt hfrx.1;have hpay:=Zc L (giveO k H) a (some ⟨g,0,none⟩) ado c co i M wq hrowq.reads HN.o (Reads.Bg hrowx) hM Hall.o Hmon.o Hord.o hl hM1;have ham:=(Bi a).1 Hmon.o;have hib:=Mf (B:=L) (O:=giveO k H) (a:=a) (λx hx=>(Hbal.o x hx).1) ham.1 (λx hx=>by have:=Hord.o.ok x hx;rw [HN.o];exact this);have hpl:=Dn L (giveO k H) a;have hq:=Hq.o;clear Hq;unfold giveP at hq;simp only at hq;rw [HH.o] at hq;obtain⟨⟨p,rest⟩,hp⟩:=eX (intoL L (giveO k H) a);rw [hp] at hpay hib hpl hq;simp only at hpay hib hpl hq;obtain⟨t0,t1,hpe⟩:=hib;have hpb:∀(j:Nat) (x:Int),p[j]?=some x->0<=x/\x<=1000000000000000:=λj x hx=>p1bd hpe Hbal.o hx;have t2:rest<=1000000000000000:=j8;have b0:=Aa hbq 0;obtain⟨cr0,cr1⟩:=hcr0;obtain⟨Hrowx,Hfrx,Hnx,HrowH,HM,Hbq,Hrowq,Hrs5,Hkk5⟩:=hid9 hrowx hfrx hnx hrowH hM hbq hrowq hrs5 hkk5;clear hkk5 hrs5 hrowq hbq hM hrowH hnx hfrx hrowx;have Hpay:=Lib.hid hpay;clear hpay ham;obtain⟨Hpl,Hq⟩:=hid2 hpl hq;clear hq hpl hp hpe;have Hpb:=Lib.hid hpb;clear hpb hco hnone;go_wp2_with fail;refine Hpay.o.mono ?_;rintro e w6 ⟨g1,rfl,hrp6,hk6,hg1⟩;clear b0;have hg1g:¬g1=g:=by have:=Hrowq.o.lt;omega
     have hb6:=Ad Hbq.o hk6 (by simp);have hrow6:=Hrowq.o.keep hk6;have hrs6:=Ad Hrs5.o hk6 (by simp);have hkk6:=Hkk5.o.nt hk6;have Hrp6:=Lib.hid hrp6;clear hrp6 hk6 hg1;obtain⟨Hg1g,Hb6,Hrow6,Hrs6,Hkk6⟩:=hid5 hg1g hb6 hrow6 hrs6 hkk6;clear hkk6 hrs6 hrow6 hb6 hg1g;go_wp2
     go_loopw [69] (λx wx=>∃j:Nat,x= .int .i64 (j:Nat)/\j<=i/\RowZ wx 2 g i c (stepL (λx y=>x-y) L p j)/\Keeps (λk=>k=g) w6 wx) (λx _=>i-(intOf x).toNat)
     case atStart=>exact⟨0,rfl,Nat.zero_le _,by rw [Kk];exact Hrow6.o,Keeps.refl _ _⟩
     case round=>
      obtain⟨j,rfl,hjn,hrow,hk⟩:=hrel;obtain⟨wz,hwz⟩:=eY wr;subst hwz;have hrp:RowZ wz 2 g1 i i p:=⟨hk.row Hrp6.o.1 (λg' hg e=>by simp only [Value.ownBlock,Option.some.injEq] at hg;subst hg;exact Hg1g.o e),Hrp6.o.2⟩;have hbz:=Ad Hb6.o hk (λe=>HgB.o e.symm);have b0:=Aa hbz 0;have b1:=Aa hbz 1;have b2:=Aa hbz 2;have f1:=Ab hbz 1;by_cases hlt2:j<i
      ·have hltI2:(j:Int)<(i:Int):=j8;obtain⟨x,hx⟩:=Ar (L:=L) (k:=j) (by rw [HN.o];exact hlt2);obtain⟨y,hy⟩:=Ar (L:=p) (k:=j) (by rw [Hpl.o,HN.o];exact hlt2);obtain⟨x0,x1⟩:=Hbal.o x (List.mem_of_getElem? hx);obtain⟨y0,y1⟩:=Hpb.o j y hy;have ex:=Mv (f:=λx y=>x-y) (P:=p) Hpl.o hx;have cx:=hrow.cell ex;have fx:=hrow.free j;have cy:=hrp.cell hy;have hst:=Mt (f:=λx y=>x-y) (P:=p) Hpl.o hx hy;have hnew:=hrow.set hlt2 (x-y);rw [hst] at hnew;have hkn:Keeps (λk=>k=g) w6 (wz.setCell ⟨g,j,none⟩ (.int .i64 (x-y))):=hk.trans (Keeps.setCell _ _ _ (.inl rfl));have Hrow:=Lib.hid hrow;clear hrow hk hrp hx hy ex hst;obtain⟨Hnew,Hkn⟩:=hid2 hnew hkn;clear hkn hnew hbz;exact j37
      ·obtain rfl:j=i:=by omega
       rw [Kl Hpl.o HN.o] at hrow;have hrs7:=Ad Hrs6.o hk (λe=>HgR.o e.symm);have hkk7:K0 w wz:=Hkk6.o.trans (hk.mono λk _ e=> .inr (by subst e;exact Hgw.o));obtain⟨L2,hL2⟩:∃x,List.zipWith (λx y=>x-y) L p=x:=⟨_,rfl⟩;have hq:=Hq.o;clear Hq;rw [hL2] at hq hrow;subst hq;have k8:Keeps (λi=>i=w.heap.size) wz (wz.setCell ⟨w.heap.size,1,none⟩ (.int .i64 (cr+rest))):=Keeps.setCell (S:=λi=>i=w.heap.size) _ _ _ rfl;have hrow8:RowZ (wz.setCell ⟨w.heap.size,1,none⟩ (.int .i64 (cr+rest))) 2 g j c L2:=⟨k8.row hrow.1 (λg' hg e=>by simp only [Value.ownBlock,Option.some.injEq] at hg;subst hg;exact HgB.o e),hrow.2⟩;have hrs8:=Ad hrs7 k8 (by simp);have hkk8:=hkk7.trans (k8.mono λk _ e=> .inr (by have e':k=w.heap.size:=e;omega));have hjud:=Gb L2 (cr+rest) du (some ⟨g,0,none⟩) c j _ hrow8.reads hrow8.2 hl;rcases hrt:Ps.Bh ⟨L2,cr+rest,du⟩ with _|_
       ·skip
        rw [hrt,if_neg j7,if_neg j7] at hjud;have hG:=HG.o;clear HG;rw [hrt,if_neg j7] at hG;subst hG;clear hL2;have Hrow:=Lib.hid hrow;clear hrow hk hrp k8;have Hrow8:=Lib.hid hrow8;clear hrow8 hrs7;have Hrs8:=Lib.hid hrs8;clear hrs8 hkk7;obtain⟨Hkk8,Hjud⟩:=hid2 hkk8 hjud;clear hjud hkk8 hrt hbz;go_wp2_with fail;refine Hjud.o.mono ?_;rintro e w9 ⟨rfl,hk9⟩;clear b0 b1 b2 f1;have hrs9:=Ad Hrs8.o hk9 (by simp);have hS3:=Cb hrs9 (.slice none 0 0) (.int .i64 (0)) (.int .i64 (0));obtain⟨hb9,k9⟩:=hS3;have r0:=Aa hrs9 0;have r1:=Aa hrs9 1;have r2:=Aa hrs9 2;have rf0:=Ab hrs9 0;have rf1:=Ab hrs9 1;have rf2:=Ab hrs9 2;refine jT ?_;intro sr0 sr1 sr2;clear hrs9 hb9;obtain⟨K9,Sr0,Sr1,Sr2⟩:=hid4 k9 sr0 sr1 sr2;clear sr2 sr1 sr0 k9;have Hk9:=Lib.hid hk9;clear hk9;go_wp2;refine jj ?_;intro R0' R1' R2';clear r0 r1 r2;exact bodyPost_ret (v:= .tuple #[.agg #[.slice none 0 0,.int .i64 (0),.int .i64 (0)],.int .i64 5]) j1F rfl ⟨_,rfl,⟨by simp [ps0],.inl ⟨rfl,rfl⟩⟩,(Hkk8.o.nt Hk9.o).trans (K9.o.mono λi _ e=> .inr jo),λg hg=>by simp [Value.ownBlock] at hg⟩
       ·skip
        rw [hrt,if_pos rfl,if_pos rfl] at hjud;have hG:=HG.o;clear HG;rw [hrt,if_pos rfl] at hG;subst hG;clear hL2;have Hrow:=Lib.hid hrow;clear hrow hk hrp k8;have Hrow8:=Lib.hid hrow8;clear hrow8 hrs7;have Hrs8:=Lib.hid hrs8;clear hrs8 hkk7;obtain⟨Hkk8,Hjud⟩:=hid2 hkk8 hjud;clear hjud hkk8 hrt hbz;go_wp2_with fail;refine Hjud.o.mono ?_;rintro e w9 ⟨rfl,hk9⟩;clear b0 b1 b2 f1;have hrs9:=Ad Hrs8.o hk9 (by simp);have hS3:=Cb hrs9 (.slice (some ⟨g,0,none⟩) j c) (.int .i64 (cr+rest)) (.int .i64 du);obtain⟨hb9,k9⟩:=hS3;have r0:=Aa hrs9 0;have r1:=Aa hrs9 1;have r2:=Aa hrs9 2;have rf0:=Ab hrs9 0;have rf1:=Ab hrs9 1;have rf2:=Ab hrs9 2;refine jT ?_;intro sr0 sr1 sr2;clear hrs9 hb9;obtain⟨K9,Sr0,Sr1,Sr2⟩:=hid4 k9 sr0 sr1 sr2;clear sr2 sr1 sr0 k9;have Hk9:=Lib.hid hk9;clear hk9;go_wp2;refine jj ?_;intro R0' R1' R2';clear r0 r1 r2;have hrow7:=K9.o.row (Hrow8.o.1.of_keeps Hk9.o) (λg' hg e=>by simp only [Value.ownBlock,Option.some.injEq] at hg;subst hg;exact HgR.o e);have hlen2:=Hrow8.o.2;exact bodyPost_ret (v:= .tuple #[.agg #[.slice (some ⟨g,0,none⟩) j c,.int .i64 (cr+rest),.int .i64 du],.int .i64 0]) j1F rfl ⟨_,rfl,(by rw [hlen2];exact hrow7),(Hkk8.o.nt Hk9.o).trans (K9.o.mono λi _ e=> .inr jo),λg' hg=>by simp only [Value.ownBlock,Option.some.injEq] at hg;subst hg;exact Hgw.o⟩
 ·rw [if_neg h0];obtain⟨Hr,Hask⟩:=hid2 hr hask;clear hask hr hz;obtain⟨Hi,Hi0,Hi1,Hi2⟩:=hid4 hi hi0 hi1 hi2;clear hi2 hi1 hi0 hi;go_enter Tryz.func150,Tryz.ntmps150;go_wp2_with fail
  all_goals
   refine(Hask.o _ _ jg (Reads.litAt _ _ _ 1 1 _ (by simp) rfl)).mono ?_;rintro e w1 ⟨rfl,hk1⟩;have hkw:K0 w w1:=(by(repeat (first|exact Keeps.refl _ _|exact Keeps.alloc _ _|exact Keeps.drew _|exact Keeps.drewN _ _|refine Keeps.Ao ?_|refine Keeps.Al ?_|refine Keeps.Af ?_)):K0 w (((w.alloc (.cells #[.slice ad n cap,.int .i64 cr,.int .i64 du] 51)).alloc (.cells #[.slice none 0 0,.int .i64 0,.int .i64 0] 51)).alloc (.cells #[.int .i64 k] 3))).nt hk1;have hrs:w1.heap[w.heap.size+1]?=some (.cells #[.slice none 0 0,.int .i64 0,.int .i64 0] 51 (0,0)):=Ad (Ap (Aw _ _ (by simp)) _) hk1 (by simp);have hS3:=j1u;obtain⟨hb9,k9⟩:=hS3;have r0:=Aa hrs 0;have r1:=Aa hrs 1;have r2:=Aa hrs 2;have rf0:=Ab hrs 0;have rf1:=Ab hrs 1;have rf2:=Ab hrs 2;have sr0:=Aa hb9 0;have sr1:=Aa hb9 1;have sr2:=Aa hb9 2;have Hrs:=Lib.hid hrs;clear hrs hb9;obtain⟨K9,Sr0,Sr1,Sr2⟩:=hid4 k9 sr0 sr1 sr2;clear sr2 sr1 sr0 k9;obtain⟨Hk1,Hkw⟩:=hid2 hk1 hkw;clear hkw hk1;go_wp2;have R0':=Sr0.o;have R1':=Sr1.o;have R2':=Sr2.o;clear r0 r1 r2;exact bodyPost_ret (v:= .tuple #[.agg #[.slice none 0 0,.int .i64 0,.int .i64 0],.int .i64 z]) j1F rfl ⟨_,rfl,⟨by simp [ps0],.inl ⟨rfl,rfl⟩⟩,Hkw.o.trans (K9.o.mono λi _ e=> .inr jo),λg hg=>by simp [Value.ownBlock] at hg⟩
def intrO(g:Bool):List Tn->List (List Int)->List (List Int)->Option (List Int)
 |x::T,b::B,r::R=>if(g&&x.grace)=true then(intrO g T B R).map (λl=>0::l) else if(ofR b r).2=0 then(intrO g T B R).map (λl=>(ofR b r).1::l) else none
 |_,_,_=>some []
def IntrPost(o:Option (List Int))(n:Nat)(w:World)(e:Ending)(w':World):Prop:=match o with
 |none=>e= .returned (.tuple #[.slice none 0 0,.int .i64 5])/\K0 w w'
 |some V=>∃g,e= .returned (.tuple #[.slice (some ⟨g,0,none⟩) n n,.int .i64 0])/\RowZ w' 2 g n n V/\K0 w w'/\w.heap.size<=g
def ciS(g1 o1 g2 o2:Nat)(v1 v2:Value)(W:World):Prop:=W.cell? ⟨g1,o1,none⟩=some v1/\W.cell? ⟨g2,o2,none⟩=some v2
theorem ciS.keep{g1 o1 g2 o2:Nat}{v1 v2:Value}{W W':World}(h:ciS g1 o1 g2 o2 v1 v2 W)(hk:K0 W W'):ciS g1 o1 g2 o2 v1 v2 W':=
 ⟨(hk.cell (Ai h.1) (by simp)).trans h.1,(hk.cell (Ai h.2) (by simp)).trans h.2⟩
theorem Xg(X Y:List Int):((ofR X Y).2=0)\/((ofR X Y).2=5/\(ofR X Y).1=0):=by unfold ofR;split<;>simp
theorem some_eta{α:Type}(o:Option (List α)):o.map (λl=> []++l)=o:=by cases o<;>simp
def zeros(n k:Nat)(P:List Int):List Int:=P++List.replicate (n-k) 0
theorem Wo{n k:Nat}{P:List Int}(hP:P.length=k)(hk:k<n)(v:Int):(zeros n k P).set k v=zeros n (k+1) (P++ [v]):=by
 unfold zeros;obtain⟨m,hm⟩:∃m,n-k=m+1:=⟨n-k-1,by omega⟩;have hm2:n-(k+1)=m:=j8;rw [hm,hm2,List.set_append_right _ _ j6,hP,Nat.sub_self,List.replicate_succ];simp
theorem Acj{n k:Nat}{P:List Int}(hk:k<n):zeros n k P=zeros n (k+1) (P++ [0]):=by
 unfold zeros;obtain⟨m,hm⟩:∃m,n-k=m+1:=⟨n-k-1,by omega⟩;have hm2:n-(k+1)=m:=j8;rw [hm,hm2,List.replicate_succ];simp
theorem Ta(t:Tm)(v:Value)(SB SR:List SI)(adB adR:Option Addr)(cB cR n:Nat)(g:Bool)(w:World)(hz:t.err=0)(hn:t.trs.length=n)(hr:Reads w 2 v n (t.trs.flatMap Tn.cells))
  (hB:Reads w 1 (.slice adB n cB) n (SB.flatMap SI.cells)) (hBl:SB.length=n) (hBs:SIs w SB) (hR:Reads w 1 (.slice adR n cR) n (SR.flatMap SI.cells)) (hRl:SR.length=n) (hRs:SIs w SR)
  (hm:∀(k:Nat) (x y:SI),SB[k]?=some x->SR[k]?=some y->x.L.length=y.L.length/\x.L.length<=40000) (hBb:∀x∈SB,∀y∈x.L,0<=y/\y<=1000000000000000) (hRb:∀x∈SR,∀y∈x.L,0<=y/\y<=10000000):
  Calls Tryz.prog 131 #[.agg #[.int .i64 t.limit,v,.int .i64 t.cyc,.int .i64 t.due,.int .i64 t.minFixed,.int .i64 t.minPart,.int .i64 t.start],.slice adB n cB,.slice adR n cR,.bool g] w (IntrPost (intrO g t.trs (SB.map SI.L) (SR.map SI.L)) n w):=by
 obtain⟨i0,hi,hi0,hi1,hi2⟩:=info_parts Gw;have hnum:=Fz hz;rw [hn] at hnum;obtain⟨⟨l0,l1⟩,_⟩:=hnum;have htm:=λW (hW:K0 w W)=>Ki t v W hz j1G j6;obtain⟨li,cy,du,mf,mp,st,L⟩:=t;dsimp only at hn hr htm⊢;obtain⟨adT,cT,rfl⟩:∃a c,v= .slice a n c:=by obtain⟨a,c,h,_⟩:=hr;exact⟨a,c,h⟩
 have hbx:∀W,K0 (w.alloc (.cells #[.int .i64 li,.slice adT n cT,.int .i64 cy,.int .i64 du,.int .i64 mf,.int .i64 mp,.int .i64 st] 26)) W->W.heap[w.heap.size]?=some (.cells #[.int .i64 li,.slice adT n cT,.int .i64 cy,.int .i64 du,.int .i64 mf,.int .i64 mp,.int .i64 st] 26 (0,0)):=λW hW=>Ad (heap_alloc_new w _) hW (by simp);obtain⟨O,hO⟩:=eX (intrO g L (SB.map SI.L) (SR.map SI.L));rw [hO];refine j1q ?_;intro hmk;simp only [Int.toNat_natCast,hi1,Nat.mul_one] at hmk;obtain⟨Z,hZ⟩:=eY (madeCells (Value.int .i64 0).cells n);rw [<-hZ] at hmk;have hstart:(intrO g (L.drop 0) ((SB.map SI.L).drop 0) ((SR.map SI.L).drop 0)).map (λl=> []++l)=O:=by rw [List.drop_zero,List.drop_zero,List.drop_zero,some_eta];exact hO
 clear hz;obtain⟨Hn,Hr,HB,HBl,HBs,HR,HRl,HRs,Hm⟩:=hid9 hn hr hB hBl hBs hR hRl hRs hm;clear hm hRs hRl hR hBs hBl hB hr hn;obtain⟨HBb,HRb,Htm,Hbx,HO,HZ⟩:=hid6 hBb hRb htm hbx hO hZ;clear hZ hO hbx htm hRb hBb hi hi0 hi1 hi2;have Hstart:=Lib.hid hstart;clear hstart;go_enter Tryz.func131,Tryz.ntmps131;go_wp2_with fail;refine(Htm.o _ (Keeps.alloc _ _)).mono ?_;rintro e w1 ⟨rfl,hk1⟩;have hb1:=Hbx.o _ hk1;have hkw1:=(Keeps.alloc w _).nt hk1;have b1:=Aa hb1 1;have bl:=lt_of_block hb1;have Hk1:=Lib.hid hk1;clear hk1 hb1;have Hkw1:=Lib.hid hkw1;clear hkw1;go_wp2;obtain⟨g0,hg0⟩:=eY w1.heap.size;obtain⟨W2,hW2⟩:=eY (w1.alloc (.cells Z 2))
 have hrow2:RowZ W2 2 g0 n n (zeros n 0 []):=by
  rw [hW2,HZ.o,hg0];have:=RowZ.made w1 2 n jd
  simpa [zeros] using this
 have hk2:K0 w1 W2:=by rw [hW2];exact Keeps.alloc _ _
 have hkw2:=Hkw1.o.nt hk2;have hbk2:=Hk1.o.nt hk2;have hgw:(w.alloc (.cells #[.int .i64 li,.slice adT n cT,.int .i64 cy,.int .i64 du,.int .i64 mf,.int .i64 mp,.int .i64 st] 26)).heap.size<=g0:=by rw [hg0];exact Hk1.o.size
 have hgw1:w.heap.size<=g0:=by have:=hgw;simp at this;omega
 rw [<-hg0]
 try rw [<-hW2]
 clear hg0 hW2;have Hrow2:=Lib.hid hrow2;clear hrow2 hk2;obtain⟨Hkw2,Hbk2,Hgw,Hgw1⟩:=hid4 hkw2 hbk2 hgw hgw1;clear hgw1 hgw hbk2 hkw2;clear b1 bl
 go_loopw [42] (λx wx=>∃(k:Nat) (P:List Int),x= .int .i64 (k:Nat)/\k<=n/\P.length=k/\(intrO g (L.drop k) ((SB.map SI.L).drop k) ((SR.map SI.L).drop k)).map (λl=>P++l)=O/\RowZ wx 2 g0 n n (zeros n k P)/\Keeps (λi=>i=g0) W2 wx) (λx _=>n-(intOf x).toNat)
 case atStart=>exact⟨0, [],rfl,Nat.zero_le _,rfl,Hstart.o,Hrow2.o,Keeps.refl _ _⟩
 case round=>
  obtain⟨k,P,rfl,hkn,hPl,hO2,hrow,hk⟩:=hrel;obtain⟨wq,hwq⟩:=eY wr;subst hwq;have hkw:K0 w wq:=Hkw2.o.trans (hk.mono λi _ e=> .inr (by subst e;exact Hgw1.o));have hkb:=Hbk2.o.trans (hk.mono λi _ e=> .inr (by subst e;exact Hgw.o));have hb:=Hbx.o wq hkb;have b1:=Aa hb 1;have bl:=lt_of_block hb;by_cases hlt:k<n
  ·have hltI:(k:Int)<(n:Int):=j8;obtain⟨⟨ra,gr⟩,hx⟩:=Ar (L:=L) (k:=k) j06;obtain⟨gT,oT,c,he,hc⟩:=(Hr.o.keeps hkw (by simp)).elem Tn.Aj hx j7;simp only [Value.slice.injEq,true_and] at he;obtain⟨rfl,rfl⟩:=he;have x0:wq.cell? ⟨gT,oT+k*2,none⟩=some (.int .i64 ra):=hc 0 j7;have x1:wq.cell? ⟨gT,oT+k*2+1,none⟩=some (.bool gr):=hc 1 j7;clear hc;obtain⟨⟨adb,cb,Lb⟩,hsb⟩:=Ar (L:=SB) (k:=k) (by rw [HBl.o];exact hlt);obtain⟨⟨adr,cr,Lr⟩,hsr⟩:=Ar (L:=SR) (k:=k) (by rw [HRl.o];exact hlt);obtain⟨g1,o1,c1,he1,hc1⟩:=(HB.o.keeps hkw (by simp)).elem SI.Aj hsb j7;obtain⟨g2,o2,c2,he2,hc2⟩:=(HR.o.keeps hkw (by simp)).elem SI.Aj hsr j7;simp only [Value.slice.injEq,true_and] at he1 he2;obtain⟨rfl,rfl⟩:=he1;obtain⟨rfl,rfl⟩:=he2;obtain⟨hm1,hm2⟩:=Hm.o k _ _ hsb hsr;simp only at hm1 hm2;have y1:wq.cell? ⟨g1,o1+k,none⟩=some (.slice adb Lb.length cb):=by simpa [SI.cells,SI.v] using hc1 0 j7
   have y2:wq.cell? ⟨g2,o2+k,none⟩=some (.slice adr Lr.length cr):=by simpa [SI.cells,SI.v] using hc2 0 j7
   clear hc1 hc2;have hrb:=(HBs.o _ (List.mem_of_getElem? hsb)).1;have hrr:=(HRs.o _ (List.mem_of_getElem? hsr)).1;simp only [SI.v] at hrb hrr
   have hdr:intrO g (L.drop k) ((SB.map SI.L).drop k) ((SR.map SI.L).drop k)=if(g&&gr)=true then(intrO g (L.drop (k+1)) ((SB.map SI.L).drop (k+1)) ((SR.map SI.L).drop (k+1))).map (λl=>0::l) else if(ofR Lb Lr).2=0 then(intrO g (L.drop (k+1)) ((SB.map SI.L).drop (k+1)) ((SR.map SI.L).drop (k+1))).map (λl=>(ofR Lb Lr).1::l) else none:=by
    rw [Dy hx,Dy (show(SB.map SI.L)[k]?=some Lb by rw [List.getElem?_map,hsb];rfl),Dy (show(SR.map SI.L)[k]?=some Lr by rw [List.getElem?_map,hsr];rfl)];rfl
   obtain⟨m,hmm⟩:=eX Lr.length;rw [hm1] at hrb y1 hm2;rw [hmm] at hrb hrr y1 y2 hm2;have hof:=λW (hW:K0 w W)=>intOf_any Lb Lr adb adr cb cr m W (hrb.keeps hW (by simp)) (by rw [hm1,hmm]) (hrr.keeps hW (by simp)) hmm hm2 (HBb.o _ (List.mem_of_getElem? hsb)) (HRb.o _ (List.mem_of_getElem? hsr));have hkx:=hkw.trans j1H;have hkg:=hk.trans j1H;have hrowx:=hrow.keep j1H;have hS:ciS g1 (o1+k) g2 (o2+k) (.slice adb m cb) (.slice adr m cr) ((wq.alloc (.cells #[.int .i64 ra,.bool gr] 39)).drew):=ciS.keep ⟨y1,y2⟩ ((Keeps.alloc _ _).trans (Keeps.drew _));clear y1 y2;by_cases hsk:(g&&gr)=true
   ·rw [if_pos hsk] at hdr
    have hO3:(intrO g (L.drop (k+1)) ((SB.map SI.L).drop (k+1)) ((SR.map SI.L).drop (k+1))).map (λl=>(P++ [0])++l)=O:=by
     rw [<-hO2,hdr,Option.map_map]
     congr 1
     funext l
     simp
    rw [Acj hlt] at hrowx;obtain⟨rfl,rfl⟩:g=true/\gr=true:=by simpa using hsk
    obtain⟨HO2,Hdr,HO3⟩:=hid3 hO2 hdr hO3;clear hO3 hdr hO2 hrow;have Hrowx:=Lib.hid hrowx;clear hrowx hk;have Hkw:=Lib.hid hkw;clear hkw hkb hb hx hsb hsr hrb hrr;obtain⟨Hof,Hkx,Hkg,HS⟩:=hid4 hof hkx hkg hS;clear hS hkg hkx hof hm1 hmm;have HPl:=Lib.hid hPl;clear hPl hsk;go_wp2;go_roundw
    case rel=>exact⟨k+1,P++ [0],by go_num,by omega,by rw [List.length_append,HPl.o];rfl,HO3.o,Hrowx.o,Hkg.o⟩
    case measure=>simp [intOf];omega
   ·rw [if_neg hsk] at hdr;rcases g with _|_
    ·obtain⟨HO2,Hdr⟩:=hid2 hO2 hdr;clear hdr hO2 hrow;have Hrowx:=Lib.hid hrowx;clear hrowx hk;have Hkw:=Lib.hid hkw;clear hkw hkb hb hx hsb hsr hrb hrr;obtain⟨Hof,Hkx,Hkg,HS⟩:=hid4 hof hkx hkg hS;clear hS hkg hkx hof hm1 hmm;have HPl:=Lib.hid hPl;clear hPl hsk;go_wp2_with fail;refine Ak (ciS g1 (o1+k) g2 (o2+k) (.slice adb m cb) (.slice adr m cr)) (.take 0 (.take 1 (.take 2 (.take 3 (.take 4 (.take 5 (.take 6 (.take 7 (.move 8 (.take 9 (.take 10 (.take 11 (.take 12 (.take 13 .done)))))))))))))) j9 j9 ?_ ?_
     ·exact HS.o
     intro w3 hs3 hk3;refine je ?_;intro K hK
     go_at_call 152
     ((with_reducible refine(Hof.o _ (Hkx.o.nt hk3)).mono ?_);rintro e w4 ⟨rfl,hk4⟩;dsimp only)
     refine j0a ?_;clear hK K;refine jk ?_;have hkx4:=(Hkx.o.nt hk3).nt hk4;have hkg4:=(Hkg.o.trans (hk3.mono (by simp))).trans (hk4.mono (by simp));have hrow4:=(Hrowx.o.keep hk3).keep hk4;rcases Xg Lb Lr with h5|⟨h5,h51⟩
     ·have hdr2:=Hdr.o;rw [if_pos h5] at hdr2;obtain⟨z,hzv⟩:=eX ((ofR Lb Lr).1);rw [hzv] at hdr2⊢;rw [h5]
      have hO3:(intrO false (L.drop (k+1)) ((SB.map SI.L).drop (k+1)) ((SR.map SI.L).drop (k+1))).map (λl=>(P++ [z])++l)=O:=by
       rw [<-HO2.o,hdr2,Option.map_map]
       congr 1
       funext l
       simp
      exact j3d
     ·exact j3e
    ·obtain rfl:gr=false:=by simpa using hsk
     obtain⟨HO2,Hdr⟩:=hid2 hO2 hdr;clear hdr hO2 hrow;have Hrowx:=Lib.hid hrowx;clear hrowx hk;have Hkw:=Lib.hid hkw;clear hkw hkb hb hx hsb hsr hrb hrr;obtain⟨Hof,Hkx,Hkg,HS⟩:=hid4 hof hkx hkg hS;clear hS hkg hkx hof hm1 hmm;have HPl:=Lib.hid hPl;clear hPl hsk;go_wp2_with fail;refine Ak (ciS g1 (o1+k) g2 (o2+k) (.slice adb m cb) (.slice adr m cr)) (.take 0 (.take 1 (.take 2 (.take 3 (.take 4 (.take 5 (.take 6 (.take 7 (.move 8 (.take 9 (.take 10 (.take 11 (.take 12 (.take 13 .done)))))))))))))) j9 j9 ?_ ?_
     ·exact HS.o
     intro w3 hs3 hk3;refine je ?_;intro K hK
     go_at_call 152
     ((with_reducible refine(Hof.o _ (Hkx.o.nt hk3)).mono ?_);rintro e w4 ⟨rfl,hk4⟩;dsimp only)
     refine j0a ?_;clear hK K;refine jk ?_;have hkx4:=(Hkx.o.nt hk3).nt hk4;have hkg4:=(Hkg.o.trans (hk3.mono (by simp))).trans (hk4.mono (by simp));have hrow4:=(Hrowx.o.keep hk3).keep hk4;rcases Xg Lb Lr with h5|⟨h5,h51⟩
     ·have hdr2:=Hdr.o;rw [if_pos h5] at hdr2;obtain⟨z,hzv⟩:=eX ((ofR Lb Lr).1);rw [hzv] at hdr2⊢;rw [h5]
      have hO3:(intrO true (L.drop (k+1)) ((SB.map SI.L).drop (k+1)) ((SR.map SI.L).drop (k+1))).map (λl=>(P++ [z])++l)=O:=by
       rw [<-HO2.o,hdr2,Option.map_map]
       congr 1
       funext l
       simp
      exact j3d
     ·exact j3e
  ·obtain rfl:k=n:=by omega
   rw [List.drop_eq_nil_of_le j1j] at hO2;simp only [intrO,Option.map_some,List.append_nil] at hO2;subst hO2;have hrow':RowZ wq 2 g0 k k P:=by simpa [zeros] using hrow
   have Hrow':=Lib.hid hrow';clear hrow' hrow hk;have Hkw:=Lib.hid hkw;clear hkw hkb hb;go_wp2;exact bodyPost_ret (v:= .tuple #[.slice (some ⟨g0,0,none⟩) k k,.int .i64 0]) (by simp [results,Tryz.results131,go_sem]) rfl ⟨g0,rfl,Hrow'.o,Hkw.o,Hgw1.o⟩
def lnL:List Int->List Int->List Int->List Ln
 |b::B,x::X,r::R=>⟨b,x,r⟩::lnL B X R
 |_,_,_=> []
theorem lnL_get:∀{B X R:List Int} {k:Nat} {b x r:Int},B[k]?=some b->X[k]?=some x->R[k]?=some r->(lnL B X R)[k]?=some ⟨b,x,r⟩:=by
 intro B
 induction B with
 |nil=>intro X R k b x r h;simp at h
 |cons a B ih=>
  intro X R k b x r h1 h2 h3;rcases X with _|⟨y,X⟩
  ·simp at h2
  rcases R with _|⟨z,R⟩
  ·simp at h3
  cases k with
  |zero=>
   simp only [List.getElem?_cons_zero,Option.some.injEq] at h1 h2 h3;subst h1 h2 h3;rfl
  |succ k=>
   simp only [List.getElem?_cons_succ] at h1 h2 h3
   simpa [lnL] using ih h1 h2 h3
theorem Uf:∀(B X R:List Int) {n:Nat},B.length=n->X.length=n->R.length=n->(lnL B X R).length=n:=by
 intro B
 induction B with
 |nil=>intro X R n h1 _ _;simp only [List.length_nil] at h1;subst h1;rfl
 |cons a B ih=>
  intro X R n h1 h2 h3;rcases X with _|⟨y,X⟩
  ·simp only [List.length_nil] at h2;simp only [List.length_cons] at h1;omega
  rcases R with _|⟨z,R⟩
  ·simp only [List.length_nil] at h3;simp only [List.length_cons] at h1;omega
  simp only [List.length_cons,lnL] at h1 h2 h3⊢;rw [ih X R (n:=n-1) j6 j6 j6];omega
def Mi(t:Tm)(cy fr te:Int)(p:Ps)(R X:List Int)(g:Bool):Option (Stm×Ps):=
 if(bearR p X).2=0 then some (⟨cy,fr,te,te+t.due,sumI (bearR p X).1.bal,(bearR p X).1.cr,Ma t.minFixed t.minPart (sumI (bearR p X).1.bal),g,lnL (bearR p X).1.bal X R⟩,⟨(bearR p X).1.bal,(bearR p X).1.cr,Ma t.minFixed t.minPart (sumI (bearR p X).1.bal)⟩) else none
def Fy(o:Option (Stm×Ps))(w:World)(e:Ending)(w':World):Prop:=match o with
 |none=>e= .returned (.tuple #[.agg #[.int .i64 0,.int .i64 0,.int .i64 0,.int .i64 0,.slice none 0 0,.int .i64 0,.int .i64 0,.int .i64 0,.bool false],.agg #[.slice none 0 0,.int .i64 0,.int .i64 0],.int .i64 5])/\K0 w w'
 |some (s,q)=>∃vl vb,e= .returned (.tuple #[.agg #[.int .i64 s.cycle,.int .i64 s.fr,.int .i64 s.te,.int .i64 s.due,vl,.int .i64 s.total,.int .i64 s.credit,.int .i64 s.min,.bool s.grace],.agg #[vb,.int .i64 q.cr,.int .i64 q.du],.int .i64 0])/\
  w'.ownsRow 0 212 3 vl s.lines.length (s.lines.flatMap Ln.cells)/\w'.ownsRow 0 2 1 vb q.bal.length (q.bal.flatMap i64c)/\K0 w w'/\(∀g,vl.ownBlock=some g->w.heap.size<=g)/\(∀g,vb.ownBlock=some g->w.heap.size<=g)
theorem Rf{p:Ps}{X:List Int}(hp:p.Bh=true)(hl:X.length=p.bal.length)(hX:X.all Bv=true):((bearR p X).2=0/\(bearR p X).1.Bh=true/\(bearR p X).1.bal.length=p.bal.length)\/((bearR p X).2=5/\(bearR p X).1=ps0):=by
 unfold bearR;rw [if_pos ⟨hp,hl,hX⟩]
 split
 ·rename_i h;exact .inl ⟨rfl,h,Xx X p _⟩
 ·exact .inr ⟨rfl,rfl⟩
theorem minI_bd{a b:Int}(ha:0<=a)(hb:0<=b):0<=minI a b/\minI a b<=a:=by unfold minI;split<;>omega
theorem Xj{mf mp total:Int}(h0:0<=total)(hf:0<=mf):0<=Ma mf mp total/\Ma mf mp total<=total:=by
 unfold Ma;refine minI_bd h0 ?_;unfold maxI
 split<;>omega
theorem Xw(n:Int)(w:World)(h0: -135140<=n)(h1:n<=2932896):Calls Tryz.prog 153 #[.int .i64 n] w λe w'=>e= .returned (.bool true)/\w=w':=by
 go_enter Tryz.func153,Tryz.ntmps153;exact jn
theorem Kj{W:World}{R:Nat}{t:TypeId}{a0 a1 a2 a3 a4 a5 a6 a7 a8:Value}(h:W.heap[R]?=some (.cells #[a0,a1,a2,a3,a4,a5,a6,a7,a8] t (0,0)))(v0 v1 v2 v3 v4 v5 v6 v7 v8:Value):
  (((((((((W.setCell ⟨R,0,none⟩ v0).setCell ⟨R,1,none⟩ v1).setCell ⟨R,2,none⟩ v2).setCell ⟨R,3,none⟩ v3).setCell ⟨R,4,none⟩ v4).setCell ⟨R,5,none⟩ v5).setCell ⟨R,6,none⟩ v6).setCell ⟨R,7,none⟩ v7).setCell ⟨R,8,none⟩ v8).heap[R]?=some (.cells #[v0,v1,v2,v3,v4,v5,v6,v7,v8] t (0,0))/\Keeps (λi=>i=R) W (((((((((W.setCell ⟨R,0,none⟩ v0).setCell ⟨R,1,none⟩ v1).setCell ⟨R,2,none⟩ v2).setCell ⟨R,3,none⟩ v3).setCell ⟨R,4,none⟩ v4).setCell ⟨R,5,none⟩ v5).setCell ⟨R,6,none⟩ v6).setCell ⟨R,7,none⟩ v7).setCell ⟨R,8,none⟩ v8):=by
 have h0:(W.setCell ⟨R,0,none⟩ v0).heap[R]?=some (.cells #[v0,a1,a2,a3,a4,a5,a6,a7,a8] t (0,0)):=(heap_setCell_same _ _ 0 _ _ _ h).trans rfl;have h1:((W.setCell ⟨R,0,none⟩ v0).setCell ⟨R,1,none⟩ v1).heap[R]?=some (.cells #[v0,v1,a2,a3,a4,a5,a6,a7,a8] t (0,0)):=(heap_setCell_same _ _ 1 _ _ _ h0).trans rfl;have h2:(((W.setCell ⟨R,0,none⟩ v0).setCell ⟨R,1,none⟩ v1).setCell ⟨R,2,none⟩ v2).heap[R]?=some (.cells #[v0,v1,v2,a3,a4,a5,a6,a7,a8] t (0,0)):=(heap_setCell_same _ _ 2 _ _ _ h1).trans rfl;have h3:((((W.setCell ⟨R,0,none⟩ v0).setCell ⟨R,1,none⟩ v1).setCell ⟨R,2,none⟩ v2).setCell ⟨R,3,none⟩ v3).heap[R]?=some (.cells #[v0,v1,v2,v3,a4,a5,a6,a7,a8] t (0,0)):=(heap_setCell_same _ _ 3 _ _ _ h2).trans rfl;have h4:(((((W.setCell ⟨R,0,none⟩ v0).setCell ⟨R,1,none⟩ v1).setCell ⟨R,2,none⟩ v2).setCell ⟨R,3,none⟩ v3).setCell ⟨R,4,none⟩ v4).heap[R]?=some (.cells #[v0,v1,v2,v3,v4,a5,a6,a7,a8] t (0,0)):=(heap_setCell_same _ _ 4 _ _ _ h3).trans rfl;have h5:((((((W.setCell ⟨R,0,none⟩ v0).setCell ⟨R,1,none⟩ v1).setCell ⟨R,2,none⟩ v2).setCell ⟨R,3,none⟩ v3).setCell ⟨R,4,none⟩ v4).setCell ⟨R,5,none⟩ v5).heap[R]?=some (.cells #[v0,v1,v2,v3,v4,v5,a6,a7,a8] t (0,0)):=(heap_setCell_same _ _ 5 _ _ _ h4).trans rfl;have h6:(((((((W.setCell ⟨R,0,none⟩ v0).setCell ⟨R,1,none⟩ v1).setCell ⟨R,2,none⟩ v2).setCell ⟨R,3,none⟩ v3).setCell ⟨R,4,none⟩ v4).setCell ⟨R,5,none⟩ v5).setCell ⟨R,6,none⟩ v6).heap[R]?=some (.cells #[v0,v1,v2,v3,v4,v5,v6,a7,a8] t (0,0)):=(heap_setCell_same _ _ 6 _ _ _ h5).trans rfl;have h7:((((((((W.setCell ⟨R,0,none⟩ v0).setCell ⟨R,1,none⟩ v1).setCell ⟨R,2,none⟩ v2).setCell ⟨R,3,none⟩ v3).setCell ⟨R,4,none⟩ v4).setCell ⟨R,5,none⟩ v5).setCell ⟨R,6,none⟩ v6).setCell ⟨R,7,none⟩ v7).heap[R]?=some (.cells #[v0,v1,v2,v3,v4,v5,v6,v7,a8] t (0,0)):=(heap_setCell_same _ _ 7 _ _ _ h6).trans rfl;have h8:(((((((((W.setCell ⟨R,0,none⟩ v0).setCell ⟨R,1,none⟩ v1).setCell ⟨R,2,none⟩ v2).setCell ⟨R,3,none⟩ v3).setCell ⟨R,4,none⟩ v4).setCell ⟨R,5,none⟩ v5).setCell ⟨R,6,none⟩ v6).setCell ⟨R,7,none⟩ v7).setCell ⟨R,8,none⟩ v8).heap[R]?=some (.cells #[v0,v1,v2,v3,v4,v5,v6,v7,v8] t (0,0)):=(heap_setCell_same _ _ 8 _ _ _ h7).trans rfl;have k0:Keeps (λi=>i=R) W (W.setCell ⟨R,0,none⟩ v0):=Keeps.setCell _ _ _ rfl;have k1:=k0.trans (Keeps.setCell (S:=λj=>j=R\/W.heap.size<=j) (W.setCell ⟨R,0,none⟩ v0) ⟨R,1,none⟩ v1 (.inl rfl));have k2:=k1.trans (Keeps.setCell (S:=λj=>j=R\/W.heap.size<=j) ((W.setCell ⟨R,0,none⟩ v0).setCell ⟨R,1,none⟩ v1) ⟨R,2,none⟩ v2 (.inl rfl));have k3:=k2.trans (Keeps.setCell (S:=λj=>j=R\/W.heap.size<=j) (((W.setCell ⟨R,0,none⟩ v0).setCell ⟨R,1,none⟩ v1).setCell ⟨R,2,none⟩ v2) ⟨R,3,none⟩ v3 (.inl rfl));have k4:=k3.trans (Keeps.setCell (S:=λj=>j=R\/W.heap.size<=j) ((((W.setCell ⟨R,0,none⟩ v0).setCell ⟨R,1,none⟩ v1).setCell ⟨R,2,none⟩ v2).setCell ⟨R,3,none⟩ v3) ⟨R,4,none⟩ v4 (.inl rfl));have k5:=k4.trans (Keeps.setCell (S:=λj=>j=R\/W.heap.size<=j) (((((W.setCell ⟨R,0,none⟩ v0).setCell ⟨R,1,none⟩ v1).setCell ⟨R,2,none⟩ v2).setCell ⟨R,3,none⟩ v3).setCell ⟨R,4,none⟩ v4) ⟨R,5,none⟩ v5 (.inl rfl))
 have k6:=k5.trans (Keeps.setCell (S:=λj=>j=R\/W.heap.size<=j) ((((((W.setCell ⟨R,0,none⟩ v0).setCell ⟨R,1,none⟩ v1).setCell ⟨R,2,none⟩ v2).setCell ⟨R,3,none⟩ v3).setCell ⟨R,4,none⟩ v4).setCell ⟨R,5,none⟩ v5) ⟨R,6,none⟩ v6 (.inl rfl));have k7:=k6.trans (Keeps.setCell (S:=λj=>j=R\/W.heap.size<=j) (((((((W.setCell ⟨R,0,none⟩ v0).setCell ⟨R,1,none⟩ v1).setCell ⟨R,2,none⟩ v2).setCell ⟨R,3,none⟩ v3).setCell ⟨R,4,none⟩ v4).setCell ⟨R,5,none⟩ v5).setCell ⟨R,6,none⟩ v6) ⟨R,7,none⟩ v7 (.inl rfl));have k8:=k7.trans (Keeps.setCell (S:=λj=>j=R\/W.heap.size<=j) ((((((((W.setCell ⟨R,0,none⟩ v0).setCell ⟨R,1,none⟩ v1).setCell ⟨R,2,none⟩ v2).setCell ⟨R,3,none⟩ v3).setCell ⟨R,4,none⟩ v4).setCell ⟨R,5,none⟩ v5).setCell ⟨R,6,none⟩ v6).setCell ⟨R,7,none⟩ v7) ⟨R,8,none⟩ v8 (.inl rfl));exact⟨h8,k8⟩
structure CB(T S:Array Value)(w W:World):Prop where
 t:W.heap[w.heap.size]?=some (.cells T 26 (0,0))
 s:W.heap[w.heap.size+1]?=some (.cells S 56 (0,0))
 r1:W.heap[w.heap.size+1+1+1]?=some (.cells #[.int .i64 0,.int .i64 0,.int .i64 0,.int .i64 0,.slice none 0 0,.int .i64 0,.int .i64 0,.int .i64 0,.bool false] 59 (0,0))
 r2:W.heap[w.heap.size+1+1+1+1]?=some (.cells #[.slice none 0 0,.int .i64 0,.int .i64 0] 51 (0,0))
 kp:K0 w W
theorem CB.keep{T S:Array Value}{w W W':World}(h:CB T S w W)(hk:Keeps (λi=>i=w.heap.size+1+1\/w.heap.size+1+1+1+1+1<=i) W W'):CB T S w W':=
 ⟨Ad h.t hk (by omega),Ad h.s hk (by omega),Ad h.r1 hk (by omega),Ad h.r2 hk (by omega),h.kp.trans (hk.mono λi _ e=> .inr (by omega))⟩
theorem CB.keep0{T S:Array Value}{w W W':World}(h:CB T S w W)(hk:K0 W W'):CB T S w W':=h.keep (hk.mono (by simp))
theorem CB.start(T S C:Array Value)(w:World):CB T S w ((((((w.alloc (.cells T 26)).alloc (.cells S 56)).alloc (.cells C 51)).alloc (.cells #[.int .i64 0,.int .i64 0,.int .i64 0,.int .i64 0,.slice none 0 0,.int .i64 0,.int .i64 0,.int .i64 0,.bool false] 59)).alloc (.cells #[.slice none 0 0,.int .i64 0,.int .i64 0] 51)).alloc (.cells #[.int .i64 0,.int .i64 0,.int .i64 0,.int .i64 0,.slice none 0 0,.int .i64 0,.int .i64 0,.int .i64 0,.bool false] 59)):=
 ⟨Ap (Ap (Ap (Ap (Ap (heap_alloc_new w _) _) _) _) _) _,Ap (Ap (Ap (Ap (Aw _ _ (by simp)) _) _) _) _,Ap (Ap (Aw _ _ (by simp)) _) _,Ap (Aw _ _ (by simp)) _,
  (((((Keeps.alloc _ _).Af).Af).Af).Af).Af⟩
def c13S(b:Nat)(fr te due:Int)(pv:Value)(pc pd:Int)(W:World):Prop:=W.cell? ⟨b+1,0,none⟩=some (.int .i64 fr)/\W.cell? ⟨b+1,1,none⟩=some (.int .i64 te)/\W.cell? ⟨b,3,none⟩=some (.int .i64 due)/\W.cell? ⟨b+1+1,0,none⟩=some pv/\W.cell? ⟨b+1+1,1,none⟩=some (.int .i64 pc)/\W.cell? ⟨b+1+1,2,none⟩=some (.int .i64 pd)
theorem c13S.keep{b:Nat}{fr te due:Int}{pv:Value}{pc pd:Int}{W W':World}{S:Nat->Prop}(h:c13S b fr te due pv pc pd W)(hk:Keeps S W W')(hS:∀i,S i->b+1+1<i):c13S b fr te due pv pc pd W':=by
 obtain⟨h1,h2,h3,h4,h5,h6⟩:=h;refine⟨(hk.cell (Ai h1) ?_).trans h1,(hk.cell (Ai h2) ?_).trans h2,(hk.cell (Ai h3) ?_).trans h3,(hk.cell (Ai h4) ?_).trans h4,(hk.cell (Ai h5) ?_).trans h5,(hk.cell (Ai h6) ?_).trans h6⟩
 all_goals (intro e;have:=hS _ e;simp only at this;omega)
def c19S(b gX oX gR oR:Nat)(vl:Value)(x r:Int)(W:World):Prop:=W.cell? ⟨b,4,none⟩=some vl/\W.cell? ⟨gX,oX,none⟩=some (.int .i64 x)/\W.cell? ⟨gR,oR,none⟩=some (.int .i64 r)
theorem c19S.keep{b gX oX gR oR:Nat}{vl:Value}{x r:Int}{W W':World}{S:Nat->Prop}(h:c19S b gX oX gR oR vl x r W)(hk:Keeps S W W')(h1:¬S b)(h2:¬S gX)(h3:¬S gR):c19S b gX oX gR oR vl x r W':=
 ⟨(hk.cell (Ai h.1) h1).trans h.1,(hk.cell (Ai h.2.1) h2).trans h.2.1,(hk.cell (Ai h.2.2) h3).trans h.2.2⟩
structure LnAt(W6:World)(b:Nat)(cy fr te du S qc M:Int)(g:Bool)(N:List Ln)(k:Nat)(vl:Value)(wx:World):Prop where
 blk:wx.heap[b]?=some (.cells #[.int .i64 cy,.int .i64 fr,.int .i64 te,.int .i64 du,vl,.int .i64 S,.int .i64 qc,.int .i64 M,.bool g] 59 (0,0))
 row:wx.ownsRow 0 212 3 vl k ((N.take k).flatMap Ln.cells)
 kp:Keeps (λi=>i=b) W6 wx
 nw:∀i,vl.ownBlock=some i->W6.heap.size<=i
theorem LnAt.app{W6:World}{b:Nat}{cy fr te du S qc M:Int}{g:Bool}{N:List Ln}{k m:Nat}{vl vl':Value}{wx w4 w5:World}{x:Ln}{xs:List Value}(h:LnAt W6 b cy fr te du S qc M g N k vl wx)(hb6:b<W6.heap.size)(hx:N[k]?=some x)(hm:m=k+1)(hxs:xs=(N.take k).flatMap Ln.cells++x.cells)
  (hk4:K0 wx w4) (ho:w5.ownsRow 0 212 3 vl' m xs) (hk:Keeps (λi=>vl.ownBlock=some i) w4 w5) (hf:vl'.ownBlock=vl.ownBlock\/∃g,vl'.ownBlock=some g/\w4.heap.size<=g):LnAt W6 b cy fr te du S qc M g N (k+1) vl' (w5.setCell ⟨b,4,none⟩ vl'):=by
 subst hm hxs;have hb5:w5.heap[b]?=some (.cells #[.int .i64 cy,.int .i64 fr,.int .i64 te,.int .i64 du,vl,.int .i64 S,.int .i64 qc,.int .i64 M,.bool g] 59 (0,0)):=Ad (Ad h.blk hk4 (by simp)) hk (λe=>by have:=h.nw _ e;omega);have hs1:=h.kp.size;have hs2:=hk4.size
 have hnw:∀i,vl'.ownBlock=some i->W6.heap.size<=i:=λi e=>by
  rcases hf with hf|⟨g',hg,hh⟩
  ·exact h.nw i (by rw [<-hf];exact e)
  ·rw [hg] at e;simp only [Option.some.injEq] at e;omega
 have hset:Keeps (λi=>i=b) w5 (w5.setCell ⟨b,4,none⟩ vl'):=Keeps.setCell _ _ _ rfl;refine⟨(heap_setCell_same _ _ 4 _ _ _ hb5).trans rfl,hset.row (by rw [take_snoc' hx,List.flatMap_append];simpa using ho) (λi hi e=>by have:=hnw i hi;omega), ?_,hnw⟩;exact((h.kp.trans (hk4.mono (by simp))).trans (hk.mono λi _ e=> .inr (h.nw i e))).trans (hset.mono λi _ e=> .inl e)
def c21S(o p:Nat)(cy fr te du:Int)(vl:Value)(S qc M:Int)(g:Bool)(pv:Value)(pc pd:Int)(W:World):Prop:=W.cell? ⟨o,0,none⟩=some (.int .i64 cy)/\W.cell? ⟨o,1,none⟩=some (.int .i64 fr)/\W.cell? ⟨o,2,none⟩=some (.int .i64 te)/\W.cell? ⟨o,3,none⟩=some (.int .i64 du)/\W.cell? ⟨o,4,none⟩=some (vl)/\W.cell? ⟨o,5,none⟩=some (.int .i64 S)/\W.cell? ⟨o,6,none⟩=some (.int .i64 qc)/\W.cell? ⟨o,7,none⟩=some (.int .i64 M)/\W.cell? ⟨o,8,none⟩=some (.bool g)/\W.cell? ⟨p,0,none⟩=some pv/\W.cell? ⟨p,1,none⟩=some (.int .i64 pc)/\W.cell? ⟨p,2,none⟩=some (.int .i64 pd)
theorem c21S.of{o p:Nat}{cy fr te du:Int}{vl:Value}{S qc M:Int}{g:Bool}{pv:Value}{pc pd:Int}{W:World}(h:W.heap[o]?=some (.cells #[.int .i64 cy,.int .i64 fr,.int .i64 te,.int .i64 du,vl,.int .i64 S,.int .i64 qc,.int .i64 M,.bool g] 59 (0,0)))(h':W.heap[p]?=some (.cells #[pv,.int .i64 pc,.int .i64 pd] 51 (0,0))):c21S o p cy fr te du vl S qc M g pv pc pd W:=
 ⟨Aa h 0,Aa h 1,Aa h 2,Aa h 3,Aa h 4,Aa h 5,Aa h 6,Aa h 7,Aa h 8,Aa h' 0,Aa h' 1,Aa h' 2⟩
theorem Zq(t:Tm)(v:Value)(cy fr te:Int)(L X R:List Int)(cr du:Int)(ad adX adR:Option Addr)(cap cX cR n:Nat)(g:Bool)(w:World)(hz:t.err=0)(hn:t.trs.length=n)(hr:Reads w 2 v n (t.trs.flatMap Tn.cells))
  (hcy:1<=cy/\cy<=300) (hsp: -135140<=fr/\fr<=te/\te<=2932896) (hL:Reads w 1 (.slice ad n cap) n (L.flatMap i64c)) (hLn:L.length=n) (hX:Reads w 1 (.slice adX n cX) n (X.flatMap i64c)) (hXn:X.length=n) (hR:Reads w 1 (.slice adR n cR) n (R.flatMap i64c)) (hRn:R.length=n)
  (hright:Ps.Bh ⟨L,cr,du⟩=true) (hXb:X.all Bv=true) (hRb:∀x∈R,0<=x/\x<=10000000):
  Calls Tryz.prog 132 #[.agg #[.int .i64 t.limit,v,.int .i64 t.cyc,.int .i64 t.due,.int .i64 t.minFixed,.int .i64 t.minPart,.int .i64 t.start],.int .i64 cy,.agg #[.int .i64 fr,.int .i64 te],.agg #[.slice ad n cap,.int .i64 cr,.int .i64 du],.slice adR n cR,.slice adX n cX,.bool g] w (Fy (Mi t cy fr te ⟨L,cr,du⟩ R X g) w):=by
 obtain⟨i0,hi,hi0,hi1,hi2⟩:=info_parts Ul;have hnum:=Fz hz;rw [hn] at hnum;obtain⟨⟨l0,l1⟩,_,_,⟨d0,d1⟩,⟨f0,f1⟩,_⟩:=hnum;have htm:=λW (hW:K0 w W)=>Ki t v W hz j1G j6;have hle:=λW (hW:K0 w W) total h0 h1=>Abd t v total W hz j1G h0 h1;have hbe:=λW (hW:K0 w W)=>Yp L X cr du ad adX cap cX n n W (hL.keeps hW (by simp)) hLn j6 (hX.keeps hW (by simp)) hXn j6;have hber:=Rf hright (show X.length=(Ps.mk L cr du).bal.length by rw [hXn];exact hLn.symm) hXb;obtain⟨O,hO⟩:=eX (Mi t cy fr te ⟨L,cr,du⟩ R X g);rw [hO];unfold Mi at hO;obtain⟨⟨q,z⟩,hq⟩:=eX (bearR ⟨L,cr,du⟩ X);rw [hq] at hbe hber hO;simp only at hbe hber hO;obtain⟨li,cyc,due,mf,mp,st,TL⟩:=t;dsimp only at *;obtain⟨adT,cT,rfl⟩:∃a c,v= .slice a n c:=by obtain⟨a,c,h,_⟩:=hr;exact⟨a,c,h⟩
 have hst:=CB.start #[.int .i64 li,.slice adT n cT,.int .i64 cyc,.int .i64 due,.int .i64 mf,.int .i64 mp,.int .i64 st] #[.int .i64 fr,.int .i64 te] #[.slice ad n cap,.int .i64 cr,.int .i64 du] w;obtain⟨W0,hW0⟩:=eY ((((((w.alloc (.cells #[.int .i64 li,.slice adT n cT,.int .i64 cyc,.int .i64 due,.int .i64 mf,.int .i64 mp,.int .i64 st] 26)).alloc (.cells #[.int .i64 fr,.int .i64 te] 56)).alloc (.cells #[.slice ad n cap,.int .i64 cr,.int .i64 du] 51)).alloc (.cells #[.int .i64 0,.int .i64 0,.int .i64 0,.int .i64 0,.slice none 0 0,.int .i64 0,.int .i64 0,.int .i64 0,.bool false] 59)).alloc (.cells #[.slice none 0 0,.int .i64 0,.int .i64 0] 51)).alloc (.cells #[.int .i64 0,.int .i64 0,.int .i64 0,.int .i64 0,.slice none 0 0,.int .i64 0,.int .i64 0,.int .i64 0,.bool false] 59));have hpb:W0.heap[w.heap.size+1+1]?=some (.cells #[.slice ad n cap,.int .i64 cr,.int .i64 du] 51 (0,0)):=by rw [hW0];exact Ap (Ap (Ap (Aw _ _ (by simp)) _) _) _
 have hob:W0.heap[w.heap.size+1+1+1+1+1]?=some (.cells #[.int .i64 0,.int .i64 0,.int .i64 0,.int .i64 0,.slice none 0 0,.int .i64 0,.int .i64 0,.int .i64 0,.bool false] 59 (0,0)):=by rw [hW0];exact Aw _ _ (by simp)
 rw [<-hW0] at hst;obtain⟨c0,c1⟩:=hcy;obtain⟨s0,s1,s2⟩:=hsp;have hnn:((n:Int) !=(n:Int))=false:=by simp
 have c0I:decide (cy<1)=false:=by rw [decide_eq_false_iff_not];omega
 have c1I:decide (300<cy)=false:=by rw [decide_eq_false_iff_not];omega
 have s1I:decide (te<fr)=false:=by rw [decide_eq_false_iff_not];omega
 obtain⟨Hz,Hn,Hr,HL,HLn,HX,HXn,HR,HRn⟩:=hid9 hz hn hr hL hLn hX hXn hR hRn;clear hRn hR hXn hX hLn hL hr hn hz;obtain⟨Hright,HXb,HRb,Hi,Hi0,Hi1,Hi2,Htm,Hle⟩:=hid9 hright hXb hRb hi hi0 hi1 hi2 htm hle;clear hle htm hi2 hi1 hi0 hi hRb hXb hright;obtain⟨Hbe,Hber,HO,Hq,Hst,HW0,Hpb,Hob⟩:=hid8 hbe hber hO hq hst hW0 hpb hob;clear hob hpb hW0 hst hq hO hber hbe;go_enter Tryz.func132,Tryz.ntmps132;go_wp2_with fail;refine Ay 0 rfl ?_;go_wp2_with fail;rw [<-HW0.o];refine(Htm.o _ Hst.o.kp).mono ?_;rintro e w1 ⟨rfl,hk1⟩;have hcb1:=Hst.o.keep0 hk1;have hpb1:=Ad Hpb.o hk1 (by simp);have hob1:=Ad Hob.o hk1 (by simp);have t1:=Aa hcb1.t 1;have sp0:=Aa hcb1.s 0;have sp1:=Aa hcb1.s 1;have p0:=Aa hpb1 0;have p1:=Aa hpb1 1;have p2:=Aa hpb1 2;have tl:=lt_of_block hcb1.t;have spl:=lt_of_block hcb1.s;have pl:=lt_of_block hpb1;have hd1:=λW=>Xw fr W s0 j6;have hd2:=λW=>Xw te W j6 s2;obtain⟨Hk1,Hcb1,Hpb1,Hob1,Hd1,Hd2⟩:=hid6 hk1 hcb1 hpb1 hob1 hd1 hd2;clear hd2 hd1 hob1 hpb1 hcb1 hk1
 go_wp2_with (first|(go_at_call 153;(with_reducible refine(Hd1.o _).mono ?_);rintro e w2 ⟨rfl,rfl⟩)|(go_at_call 153;(with_reducible refine(Hd2.o _).mono ?_);rintro e w2 ⟨rfl,rfl⟩))
 go_loop [71] (λx=>∃k:Nat,x= .int .i64 (k:Nat)/\k<=n) (λx=>n-(intOf x).toNat)
 case atStart=>exact⟨0,rfl,Nat.zero_le _⟩
 case round=>
  obtain⟨k,rfl,hkn⟩:=hrel;by_cases hlt:k<n
  ·have hltI:(k:Int)<(n:Int):=j8;obtain⟨x,hx⟩:=Ar (L:=R) (k:=k) (by rw [HRn.o];exact hlt);obtain⟨gR,oR,he,hc⟩:=(HR.o.keeps Hcb1.o.kp (by simp)).int (k:= .i64) hx;subst he;have hgl:=Ai hc;obtain⟨x0,x1⟩:=HRb.o x (List.mem_of_getElem? hx);have x0I:decide (x<0)=false:=by rw [decide_eq_false_iff_not];omega
   have x1I:decide (10000000<x)=false:=by rw [decide_eq_false_iff_not];omega
   have Hx:=Lib.hid hx;clear hx;clear x0 x1;go_wp2
   go_round
   case rel=>exact⟨k+1,by go_num,by omega⟩
   case measure=>simp [intOf];omega
  ·obtain rfl:n=k:=by omega
   go_wp2_with fail;refine(Hbe.o _ Hcb1.o.kp).mono ?_;rintro e w2 ⟨v2,rfl,hrow2,hf2⟩;obtain⟨a2,m2,rfl⟩:∃a c,v2= .slice a q.bal.length c:=by obtain⟨a,c,h,_⟩:=Ae hrow2;exact⟨a,c,h⟩
   have hcb2:=Hcb1.o.keep0 hf2.1;have hpb2:=Ad Hpb1.o hf2.1 (by simp);have hob2:=Ad Hob1.o hf2.1 (by simp);obtain⟨hpb3,k3⟩:=Cb hpb2 (.slice a2 q.bal.length m2) (.int .i64 q.cr) (.int .i64 q.du);have hcb3:=hcb2.keep (k3.mono λi _ e=> .inl e);have hob3:=Ad hob2 k3 j6;have hrow3:=k3.row hrow2 (λi e h=>by have h':i=w.heap.size+1+1:=h;have:=hf2.2 i e;have:=lt_of_block Hpb1.o;omega);have g2:∀i,(Value.slice a2 q.bal.length m2).ownBlock=some i->w.heap.size+1+1+1+1+1<i:=λi e=>by have:=hf2.2 i e;have:=lt_of_block Hob1.o;omega
   clear t1 sp0 sp1 p0 p1 p2 tl spl pl;have p0:=Aa hpb2 0;have p1:=Aa hpb2 1;have p2:=Aa hpb2 2;have pf0:=Ab hpb2 0;have pf1:=Ab hpb2 1;have pf2:=Ab hpb2 2;have pl:=lt_of_block hpb2;rcases Hber.o with⟨hz0,hqr,hql⟩|⟨hz5,hq0⟩
   ·subst hz0;have hO5:=HO.o;rw [if_pos rfl] at hO5;subst hO5;clear HO;obtain⟨B,qc,qd⟩:=q;simp only at hql;obtain⟨hqb,⟨qc0,qc1⟩,_,_,_⟩:=Eo hqr;have hsum:=hqr;simp only [Ps.Bh,scanB,Bool.and_eq_true] at hsum;obtain⟨S0,S1⟩:=(Bi _).1 hsum.1.2;have hBn:B.length=n:=by rw [hql];exact HLn.o
    have hT:=λW (hW:K0 w2 W)=>Gp ⟨B,qc,qd⟩ a2 m2 W ((Reads.Bg hrow2).keeps hW (by simp)) (by show B.length<=1000;omega);simp only [Ps.val] at hT;rw [hqr] at hT;simp only [if_true] at hT;simp only at hqb qc0 qc1 S0 S1 hrow2 hrow3 hpb3 k3 hcb3 hob3 g2⊢;rw [hBn] at hT hrow2 hrow3 hpb3 k3 hcb3 hob3 g2⊢;obtain⟨S,hS⟩:=eX (sumI B);rw [hS] at hT S0 S1;obtain⟨W3,hW3⟩:=eY (((w2.setCell ⟨w.heap.size+1+1,0,none⟩ (.slice a2 n m2)).setCell ⟨w.heap.size+1+1,1,none⟩ (.int .i64 qc)).setCell ⟨w.heap.size+1+1,2,none⟩ (.int .i64 qd));rw [<-hW3] at hpb3 k3 hcb3 hob3 hrow3;have hTot:=λW (hW:K0 W3 W)=>Gp ⟨B,qc,qd⟩ a2 m2 W (by show Reads W 1 (.slice a2 B.length m2) B.length _;rw [hBn];exact(Reads.Bg hrow3).keeps hW (by simp)) (by show B.length<=1000;omega);simp only [Ps.val] at hTot;rw [hqr] at hTot;simp only [if_true] at hTot;rw [hBn,hS] at hTot;have hS13:c13S w.heap.size fr te due (.slice a2 n m2) qc qd W3.drew:=(show c13S w.heap.size fr te due (.slice a2 n m2) qc qd W3 from⟨Aa hcb3.s 0,Aa hcb3.s 1,Aa hcb3.t 3,Aa hpb3 0,Aa hpb3 1,Aa hpb3 2⟩).keep (S:=λ_=>False) (Keeps.drew _) (by simp);have hlet:=Hle.o;have te0:IntKind.i64.wrap (te+due)=te+due:=IntWalk.i64_in _ ⟨by omega,by omega⟩;clear hT;obtain⟨Hcb2,Hpb2,Hob2,Hpb3,K3,Hcb3,Hob3,Hrow2,Hf2⟩:=hid9 hcb2 hpb2 hob2 hpb3 k3 hcb3 hob3 hrow2 hf2;clear hf2 hrow2 hob3 hcb3 k3 hpb3 hob2 hpb2 hcb2;obtain⟨Hrow3,G2,Hqr,Hql,Hqb,Hsum,HBn,HTot,HS13⟩:=hid9 hrow3 g2 hqr hql hqb hsum hBn hTot hS13;clear hS13 hTot hBn hsum hqb hql hqr g2 hrow3;obtain⟨Hlet,HS⟩:=hid2 hlet hS;clear hS hlet;go_wp2_with fail;rw [<-hW3];clear p0 p1 p2 pf0 pf1 pf2 pl;refine Ak (c13S w.heap.size fr te due (.slice a2 n m2) qc qd) (.take 0 (.take 1 (.take 2 (.take 3 (.take 4 (.take 5 (.take 6 (.take 7 (.take 9 (.take 10 (.take 11 (.move 8 (.take 12 (.move 13 .done)))))))))))))) j9 j9 ?_ ?_
    ·exact HS13.o
    intro w3 hs3 hk3;refine je ?_;intro K hK
    go_at_call 14
    ((with_reducible refine(HTot.o _ hk3).mono ?_);rintro e w4 ⟨rfl,hk4⟩;dsimp only)
    refine hK.out _ _ (by exact hs3.keep hk4 (by simp)) ?_;clear hK K;refine jh ?_;have hk34:=hk3.nt hk4;have hcb4:=Hcb3.o.keep0 hk34;have hpb4:=Ad Hpb3.o hk34 (by simp);have hob4:=Ad Hob3.o hk34 (by simp);have hrow4:=Hrow3.o.of_keeps hk34;obtain⟨hob5,k5⟩:=Kj hob4 (.int .i64 cy) (.int .i64 fr) (.int .i64 te) (.int .i64 (te+due)) (.slice none 0 0) (.int .i64 S) (.int .i64 qc) (.int .i64 0) (.bool g);have of0:=Ab hob4 0;have oc0:=Aa hob4 0;have of1:=Ab hob4 1;have oc1:=Aa hob4 1;have of2:=Ab hob4 2;have oc2:=Aa hob4 2;have of3:=Ab hob4 3;have oc3:=Aa hob4 3;have of4:=Ab hob4 4;have oc4:=Aa hob4 4;have of5:=Ab hob4 5;have oc5:=Aa hob4 5;have of6:=Ab hob4 6;have oc6:=Aa hob4 6;have of7:=Ab hob4 7;have oc7:=Aa hob4 7;have of8:=Ab hob4 8;have oc8:=Aa hob4 8;have ol:=lt_of_block hob4;have hs5:=(hs3.keep hk4 (by simp)).keep k5 (λi e=>by have e':i=w.heap.size+1+1+1+1+1:=e;omega);obtain⟨W5,hW5⟩:=eY (((((((((w4.setCell ⟨w.heap.size+1+1+1+1+1,0,none⟩ (.int .i64 cy)).setCell ⟨w.heap.size+1+1+1+1+1,1,none⟩ (.int .i64 fr)).setCell ⟨w.heap.size+1+1+1+1+1,2,none⟩ (.int .i64 te)).setCell ⟨w.heap.size+1+1+1+1+1,3,none⟩ (.int .i64 (te+due))).setCell ⟨w.heap.size+1+1+1+1+1,4,none⟩ (.slice none 0 0)).setCell ⟨w.heap.size+1+1+1+1+1,5,none⟩ (.int .i64 S)).setCell ⟨w.heap.size+1+1+1+1+1,6,none⟩ (.int .i64 qc)).setCell ⟨w.heap.size+1+1+1+1+1,7,none⟩ (.int .i64 0)).setCell ⟨w.heap.size+1+1+1+1+1,8,none⟩ (.bool g));rw [<-hW5] at hob5 k5;have hcb5:=hcb4.keep (k5.mono λi _ e=> .inr j1I);have hpb5:=Ad hpb4 k5 j6;have hrow5:=k5.row hrow4 (λi hi e=>by have e':i=w.heap.size+1+1+1+1+1:=e;have:=G2.o i hi;omega);have hle5:=Hlet.o W5 hcb5.kp S S0 S1;obtain⟨M,hM⟩:=eX (Ma mf mp S);have hMb:=Xj (mf:=mf) (mp:=mp) S0 f0;rw [hM] at hle5 hMb;obtain⟨M0,M1⟩:=hMb;have t0:=Aa hcb5.t 0;have t1:=Aa hcb5.t 1;have t2:=Aa hcb5.t 2;have t3:=Aa hcb5.t 3;have t4:=Aa hcb5.t 4;have t5:=Aa hcb5.t 5;have t6:=Aa hcb5.t 6;have tl:=lt_of_block hcb5.t;have o5:=Aa hob5 5;have ol5:=lt_of_block hob5;obtain⟨Hk3,Hk4,Hk34,Hcb4,Hpb4,Hob4,Hrow4,Hob5,K5⟩:=hid9 hk3 hk4 hk34 hcb4 hpb4 hob4 hrow4 hob5 k5;clear k5 hob5 hrow4 hob4 hpb4 hcb4 hk34 hk4 hk3;obtain⟨Hs5,Hcb5,Hpb5,Hrow5,Hle5,HM,Hs3⟩:=hid7 hs5 hcb5 hpb5 hrow5 hle5 hM hs3;clear hs3 hM hle5 hrow5 hpb5 hcb5 hs5;refine ja ?_;intro K hK;refine hK.out _ _ (by exact Hs5.o) ?_;clear hK K;refine jq ?_;rw [<-hW5];have HW5:=Lib.hid hW5;clear hW5 of0 of1 of2 of3 of4 of5 of6 of7 of8 oc0 oc1 oc2 oc3 oc4 oc5 oc6 oc7 oc8 ol;go_wp2_with fail;refine Hle5.o.mono ?_;rintro e w6 ⟨rfl,hk6⟩;clear t0 t1 t2 t3 t4 t5 t6 tl o5 ol5;have hcb6:=Hcb5.o.keep0 hk6;have hpb6:=Ad Hpb5.o hk6 (by simp);have hob6:=Ad Hob5.o hk6 (by simp);have hrow6:=Hrow5.o.of_keeps hk6;have o7:=Aa hob6 7;have of7:=Ab hob6 7;have ol:=lt_of_block hob6;have p0:=Aa hpb6 0;have p2:=Aa hpb6 2;have pf2:=Ab hpb6 2;have pl:=lt_of_block hpb6;have k7a:Keeps (λi=>i=w.heap.size+1+1+1+1+1) w6 (w6.setCell ⟨w.heap.size+1+1+1+1+1,7,none⟩ (.int .i64 M)):=Keeps.setCell _ _ _ rfl;have k7b:Keeps (λi=>i=w.heap.size+1+1) (w6.setCell ⟨w.heap.size+1+1+1+1+1,7,none⟩ (.int .i64 M)) ((w6.setCell ⟨w.heap.size+1+1+1+1+1,7,none⟩ (.int .i64 M)).setCell ⟨w.heap.size+1+1,2,none⟩ (.int .i64 M)):=Keeps.setCell _ _ _ rfl
    have hob7:=Ad ((heap_setCell_same _ _ 7 _ _ (.int .i64 M) hob6).trans rfl) k7b j6;have hpb7:=(heap_setCell_same _ _ 2 _ _ (.int .i64 M) (Ad hpb6 k7a j6)).trans rfl;have hcb7:=(hcb6.keep (k7a.mono λi _ e=> .inr j1I)).keep (k7b.mono λi _ e=> .inl e);have hrow7:=k7b.row (k7a.row hrow6 (λi hi e=>by have e':i=w.heap.size+1+1+1+1+1:=e;have:=G2.o i hi;omega)) (λi hi e=>by have e':i=w.heap.size+1+1:=e;have:=G2.o i hi;omega);obtain⟨W7,hW7⟩:=eY ((w6.setCell ⟨w.heap.size+1+1+1+1+1,7,none⟩ (.int .i64 M)).setCell ⟨w.heap.size+1+1,2,none⟩ (.int .i64 M));rw [<-hW7] at hob7 hpb7 hcb7 hrow7;obtain⟨Hk6,Hcb6,Hpb6,Hob6,Hrow6,K7a,K7b,Hob7,Hpb7⟩:=hid9 hk6 hcb6 hpb6 hob6 hrow6 k7a k7b hob7 hpb7;clear hpb7 hob7 k7b k7a hrow6 hob6 hpb6 hcb6 hk6;obtain⟨Hcb7,Hrow7⟩:=hid2 hcb7 hrow7;clear hrow7 hcb7;go_wp2;rw [<-hW7];have HW7:=Lib.hid hW7;clear hW7 o7 of7 ol p0 p2 pf2 pl;obtain⟨N,hNN⟩:=eX (lnL B X R);have hNl:N.length=n:=by rw [<-hNN];exact Uf B X R HBn.o HXn.o HRn.o
    have hb7l:w.heap.size+1+1+1+1+1<W7.heap.size:=lt_of_block Hob7.o;obtain⟨HNN,HNl,Hb7l⟩:=hid3 hNN hNl hb7l;clear hb7l hNl hNN
    go_loopw [117] (λx wx=>∃(k:Nat) (vl:Value),x= .int .i64 (k:Nat)/\k<=n/\LnAt W7 (w.heap.size+1+1+1+1+1) cy fr te (te+due) S qc M g N k vl wx) (λx _=>n-(intOf x).toNat)
    case atStart=>exact⟨0,.slice none 0 0,rfl,Nat.zero_le _,⟨Hob7.o,by rw [List.take_zero];exact World.ownsRow_nil _ _ _ _,Keeps.refl _ _,by simp [Value.ownBlock]⟩⟩
    case round=>
     obtain⟨k,vl,rfl,hkn,hla⟩:=hrel;obtain⟨wq,hwq⟩:=eY wr;subst hwq;have hcb:=Hcb7.o.keep (hla.kp.mono λi _ e=> .inr j1I);have hpb:=Ad Hpb7.o hla.kp j6;obtain⟨av,cv,rfl,hcv,hnv⟩:=Ae hla.row;have hrowB:=hla.kp.row Hrow7.o (λi hi e=>by have e':i=w.heap.size+1+1+1+1+1:=e;have:=G2.o i hi;omega);by_cases hlt:k<n
     ·have hltI:(k:Int)<(n:Int):=j8;obtain⟨bk,hbk⟩:=Ar (L:=B) (k:=k) (by rw [HBn.o];exact hlt);obtain⟨xk,hxk⟩:=Ar (L:=X) (k:=k) (by rw [HXn.o];exact hlt);obtain⟨rk,hrk⟩:=Ar (L:=R) (k:=k) (by rw [HRn.o];exact hlt);have hlk:N[k]?=some ⟨bk,xk,rk⟩:=by rw [<-HNN.o];exact lnL_get hbk hxk hrk
      obtain⟨gB,oB,heB,cB⟩:=(Reads.Bg hrowB).int (k:= .i64) hbk;obtain⟨gX,oX,heX,cX0⟩:=(HX.o.keeps hcb.kp (by simp)).int (k:= .i64) hxk;obtain⟨gR,oR,heR,cR0⟩:=(HR.o.keeps hcb.kp (by simp)).int (k:= .i64) hrk;obtain⟨gX1,oX1,heX1,cX1⟩:=HX.o.int (k:= .i64) hxk;obtain⟨gR1,oR1,heR1,cR1⟩:=HR.o.int (k:= .i64) hrk;rw [heX] at heX1;rw [heR] at heR1;simp only [Option.some.injEq,Addr.mk.injEq,and_true] at heX1 heR1;have lX:=Ai cX1;have lR:=Ai cR1;simp only at lX lR;rw [<-heX1.1] at lX;rw [<-heR1.1] at lR;clear cX1 cR1 heX1 heR1;subst heB heX heR;have lB:=Ai cB;have hS19:c19S (w.heap.size+1+1+1+1+1) gX (oX+k) gR (oR+k) (.slice av k cv) xk rk wq.drew:=(show c19S (w.heap.size+1+1+1+1+1) gX (oX+k) gR (oR+k) (.slice av k cv) xk rk wq from⟨Aa hla.blk 4,cX0,cR0⟩).keep (S:=λ_=>False) (Keeps.drew _) (by simp) (by simp) (by simp);have hown0:∀i,(Value.slice av k cv).ownBlock=some i->w.heap.size+1+1+1+1+1<i:=λi e=>by have:=hla.nw i e;have:=Hb7l.o;omega
      clear cX0 cR0;obtain⟨Hla,Hcb,Hpb,HrowB,Hbk,Hxk,Hrk,Hlk,HS19⟩:=hid9 hla hcb hpb hrowB hbk hxk hrk hlk hS19;clear hS19 hlk hrk hxk hbk hrowB hpb hcb hla;obtain⟨Hown0,Hcv,Hnv⟩:=hid3 hown0 hcv hnv;clear hnv hcv hown0;go_wp2_with fail;refine Cm (c19S (w.heap.size+1+1+1+1+1) gX (oX+k) gR (oR+k) (.slice av k cv) xk rk) 15 (.take 0 (.take 1 (.take 2 (.take 3 (.take 4 (.take 5 (.take 6 (.take 7 (.take 8 (.take 9 (.take 10 (.take 11 (.move 12 (.move 13 (.take 14 (.move 15 .done)))))))))))))))) j9 j9 ?_ ?_
      ·exact HS19.o
      intro w8 hs8 hk8;refine j1J ?_;refine Ag rfl (λK hK=> ?_);refine Cc rfl (.tmp 123) (.tmp 134) 57 rfl 0 212 i0 _ 3 24 Tryz.underlying57 Hi.o Hi0.o Hi1.o Hi2.o rfl j7 (.slice av k cv) k _ rfl ((Hla.o.row.of_keeps hk8).of_keeps (Keeps.alloc _ _)) _ 1 _ rfl (Reads.litAt _ _ _ 3 1 _ jr rfl) jf jd j6 (Nat.zero_le _) ?_;intro v9 w9 hown9 hk9 hf9;obtain⟨a9,c9,rfl,_,_⟩:=Ae hown9;have hk8a:=hk8.nt (Keeps.alloc w8 (.cells #[.int .i64 bk,.int .i64 xk,.int .i64 rk] 212));have happ:=Hla.o.app Hb7l.o Hlk.o rfl rfl hk8a hown9 hk9 hf9;have hb9:=Ad (Ad Hla.o.blk hk8a (by simp)) hk9 (λe=>by have:=Hown0.o _ e;omega);have o4:=Aa hb9 4;have of4:=Ab hb9 4;have ol:=lt_of_block hb9;refine hK.out _ _ (by exact(hs8.keep (S:=λ_=>False) (Keeps.alloc _ _) (by simp) (by simp) (by simp)).keep hk9 (λe=>by have:=Hown0.o _ e;omega) (λe=>by have:=Hown0.o _ e;omega) (λe=>by have:=Hown0.o _ e;omega)) ?_;clear hK K;refine jc ?_;obtain⟨Happ,Hb9,Hown9,Hk9,Hk8a,Hk8,Hs8⟩:=hid7 happ hb9 hown9 hk9 hk8a hk8 hs8;clear hs8 hk8 hk8a hk9 hown9 hb9 happ;refine jR ?_;refine j07 ?_;clear o4 of4 ol;exact j3f
     ·obtain rfl:n=k:=by omega
      have hln:=hla.row;rw [List.take_of_length_le (by rw [HNl.o];exact Nat.le_refl _)] at hln;obtain⟨Hla,Hcb,Hpb,HrowB,Hln,Hcv,Hnv⟩:=hid7 hla hcb hpb hrowB hln hcv hnv;clear hnv hcv hln hrowB hpb hcb hla;go_wp2_with fail;refine Ak (c21S (w.heap.size+1+1+1+1+1) (w.heap.size+1+1) cy fr te (te+due) (.slice av n cv) S qc M g (.slice a2 n m2) qc M) (.take 0 (.take 1 (.move 2 (.move 3 (.take 4 .done))))) j9 j9 ?_ ?_
      ·exact c21S.of (Ad Hla.o.blk (Keeps.drew (S:=λ_=>False) _) (by simp)) (Ad Hpb.o (Keeps.drew (S:=λ_=>False) _) (by simp))
      intro w8 hs8 hk8;refine jR ?_;have hcb8:=Hcb.o.keep0 hk8;have hob8:=Ad Hla.o.blk hk8 (by simp);have hpb8:=Ad Hpb.o hk8 (by simp);have ra0:=Aa (hcb8).r1 0;have rb0:=Ab (hcb8).r1 0;have ra1:=Aa (hcb8).r1 1;have rb1:=Ab (hcb8).r1 1;have ra2:=Aa (hcb8).r1 2;have rb2:=Ab (hcb8).r1 2;have ra3:=Aa (hcb8).r1 3;have rb3:=Ab (hcb8).r1 3;have ra4:=Aa (hcb8).r1 4;have rb4:=Ab (hcb8).r1 4;have ra5:=Aa (hcb8).r1 5;have rb5:=Ab (hcb8).r1 5;have ra6:=Aa (hcb8).r1 6;have rb6:=Ab (hcb8).r1 6;have ra7:=Aa (hcb8).r1 7;have rb7:=Ab (hcb8).r1 7;have ra8:=Aa (hcb8).r1 8;have rb8:=Ab (hcb8).r1 8;have rc0:=Aa (hcb8).r2 0;have rd0:=Ab (hcb8).r2 0;have rc1:=Aa (hcb8).r2 1;have rd1:=Ab (hcb8).r2 1;have rc2:=Aa (hcb8).r2 2;have rd2:=Ab (hcb8).r2 2;have rl1:=lt_of_block (hcb8).r1;have rl2:=lt_of_block (hcb8).r2;obtain⟨hr9,k9⟩:=Kj hcb8.r1 (.int .i64 cy) (.int .i64 fr) (.int .i64 te) (.int .i64 (te+due)) (.slice av n cv) (.int .i64 S) (.int .i64 qc) (.int .i64 M) (.bool g);have hs9:=c21S.of (Ad hob8 k9 j6) (Ad hpb8 k9 j6);obtain⟨hr10,k10⟩:=Cb (Ad hcb8.r2 k9 j6) (.slice a2 n m2) (.int .i64 qc) (.int .i64 M);have hs10:=c21S.of (Ad (Ad hob8 k9 j6) k10 j6) (Ad (Ad hpb8 k9 j6) k10 j6);have hr9':=Ad hr9 k10 j6;have hkf:=(hcb8.kp.trans (k9.mono λi _ e=> .inr (by have e':i=w.heap.size+1+1+1:=e;omega))).trans (k10.mono λi _ e=> .inr (by have e':i=w.heap.size+1+1+1+1:=e;omega));have hln8:=k10.row (k9.row (Hln.o.of_keeps hk8) (λi hi e=>by have e':i=w.heap.size+1+1+1:=e;have:=Hla.o.nw i hi;have:=Hb7l.o;omega)) (λi hi e=>by have e':i=w.heap.size+1+1+1+1:=e;have:=Hla.o.nw i hi;have:=Hb7l.o;omega);have hrw8:=k10.row (k9.row (HrowB.o.of_keeps hk8) (λi hi e=>by have e':i=w.heap.size+1+1+1:=e;have:=G2.o i hi;omega)) (λi hi e=>by have e':i=w.heap.size+1+1+1+1:=e;have:=G2.o i hi;omega);refine j3g ?_;intro Sa0 Sa1 Sa2 Sa3 Sa4 Sa5 Sa6 Sa7 Sa8 Sb0 Sb1 Sb2;obtain⟨Hcb8,Hob8,Hpb8,Hr9,K9,Hs9,Hr10,K10,Hs10⟩:=hid9 hcb8 hob8 hpb8 hr9 k9 hs9 hr10 k10 hs10;clear hs10 k10 hr10 hs9 k9 hr9 hpb8 hob8 hcb8;obtain⟨Hr9',Hkf,Hln8,Hrw8,Hk8,Hs8⟩:=hid6 hr9' hkf hln8 hrw8 hk8 hs8;clear hs8 hk8 hrw8 hln8 hkf hr9';refine ja ?_;intro K hK;refine hK.out _ _ (by exact Hs9.o) ?_;clear hK K;refine jh ?_;refine ja ?_;intro K hK;refine hK.out _ _ (by exact Hs10.o) ?_;clear hK K;refine jk ?_;go_wp2;refine Bo ?_;have Sa0':=Sa0.o;have Sa1':=Sa1.o;have Sa2':=Sa2.o;have Sa3':=Sa3.o;have Sa4':=Sa4.o;have Sa5':=Sa5.o;have Sa6':=Sa6.o;have Sa7':=Sa7.o;have Sa8':=Sa8.o;have Sb0':=Sb0.o;have Sb1':=Sb1.o;have Sb2':=Sb2.o;clear ra0 ra1 ra2 ra3 ra4 ra5 ra6 ra7 ra8 rc0 rc1 rc2
      exact bodyPost_ret (v:= .tuple #[.agg #[.int .i64 cy,.int .i64 fr,.int .i64 te,.int .i64 (te+due),.slice av n cv,.int .i64 S,.int .i64 qc,.int .i64 M,.bool g],.agg #[.slice a2 n m2,.int .i64 qc,.int .i64 M],.int .i64 0]) j3h rfl
       ⟨.slice av n cv,.slice a2 n m2,by simp only [HS.o,HM.o],by simp only [HNN.o,HNl.o];exact Hln8.o,by simp only [HBn.o];exact Hrw8.o,Hkf.o,λi hi=>by have:=Hla.o.nw i hi;have:=Hb7l.o;omega,λi hi=>by have:=G2.o i hi;omega⟩
   ·subst hz5;subst hq0;have hO5:=HO.o;rw [if_neg j7] at hO5;subst hO5;simp only [ps0,List.length_nil] at *;have hst9:=Kj hcb3.r1 (.int .i64 0) (.int .i64 0) (.int .i64 0) (.int .i64 0) (.slice none 0 0) (.int .i64 0) (.int .i64 0) (.int .i64 0) (.bool false);obtain⟨hr9,k9⟩:=hst9;have hst3:=Cb (Ad hcb3.r2 k9 j6) (.slice none 0 0) (.int .i64 0) (.int .i64 0);obtain⟨hr10,k10⟩:=hst3;have hr9':=Ad hr9 k10 j6;have hkf:=(hcb3.kp.trans (k9.mono λi _ e=> .inr (by have e':i=w.heap.size+1+1+1:=e;omega))).trans (k10.mono λi _ e=> .inr (by have e':i=w.heap.size+1+1+1+1:=e;omega));have ra0:=Aa (hcb2).r1 0;have rb0:=Ab (hcb2).r1 0;have ra1:=Aa (hcb2).r1 1;have rb1:=Ab (hcb2).r1 1;have ra2:=Aa (hcb2).r1 2;have rb2:=Ab (hcb2).r1 2;have ra3:=Aa (hcb2).r1 3;have rb3:=Ab (hcb2).r1 3;have ra4:=Aa (hcb2).r1 4;have rb4:=Ab (hcb2).r1 4;have ra5:=Aa (hcb2).r1 5;have rb5:=Ab (hcb2).r1 5;have ra6:=Aa (hcb2).r1 6;have rb6:=Ab (hcb2).r1 6;have ra7:=Aa (hcb2).r1 7;have rb7:=Ab (hcb2).r1 7;have ra8:=Aa (hcb2).r1 8;have rb8:=Ab (hcb2).r1 8;have rc0:=Aa (hcb2).r2 0;have rd0:=Ab (hcb2).r2 0;have rc1:=Aa (hcb2).r2 1;have rd1:=Ab (hcb2).r2 1;have rc2:=Aa (hcb2).r2 2;have rd2:=Ab (hcb2).r2 2;have rl1:=lt_of_block (hcb2).r1;have rl2:=lt_of_block (hcb2).r2;refine j3g ?_;intro Sa0 Sa1 Sa2 Sa3 Sa4 Sa5 Sa6 Sa7 Sa8 Sb0 Sb1 Sb2;obtain⟨Hcb2,Hpb2,Hob2,Hpb3,K3,Hcb3,Hob3,Hrow2,Hf2⟩:=hid9 hcb2 hpb2 hob2 hpb3 k3 hcb3 hob3 hrow2 hf2;clear hf2 hrow2 hob3 hcb3 k3 hpb3 hob2 hpb2 hcb2;obtain⟨Hrow3,G2,Hr9,K9,Hr10,K10,Hr9',Hkf⟩:=hid8 hrow3 g2 hr9 k9 hr10 k10 hr9' hkf;clear hkf hr9' k10 hr10 k9 hr9 g2 hrow3;go_wp2;go_step3;go_wp2;refine Av ?_;go_wp2;rw [Exit.noGoto_ret];have Sa0':=Sa0.o;have Sa1':=Sa1.o;have Sa2':=Sa2.o;have Sa3':=Sa3.o;have Sa4':=Sa4.o;have Sa5':=Sa5.o;have Sa6':=Sa6.o;have Sa7':=Sa7.o;have Sa8':=Sa8.o;have Sb0':=Sb0.o;have Sb1':=Sb1.o;have Sb2':=Sb2.o;clear ra0 ra1 ra2 ra3 ra4 ra5 ra6 ra7 ra8 rc0 rc1 rc2;exact bodyPost_ret (v:= .tuple #[.agg #[.int .i64 0,.int .i64 0,.int .i64 0,.int .i64 0,.slice none 0 0,.int .i64 0,.int .i64 0,.int .i64 0,.bool false],.agg #[.slice none 0 0,.int .i64 0,.int .i64 0],.int .i64 5]) j3h rfl ⟨rfl,Hkf.o⟩
end Go.Proofs.YtjkdnaljkdnomaaGreatDoor
