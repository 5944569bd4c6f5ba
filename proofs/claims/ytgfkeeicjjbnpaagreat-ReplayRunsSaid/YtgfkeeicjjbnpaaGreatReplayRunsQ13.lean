/- Part 13 of the proof of ReplayRuns: walks and plain laws. -/
import Derived.Test.YtgfkeeicjjbnpaaGreatReplayRunsQ12
set_option maxRecDepth 100000
set_option maxHeartbeats 6400000
namespace Go.Proofs.YtgfkeeicjjbnpaaGreat
open Go.RowKit
theorem Tq(L R:List Int)(cr du ki da tr am re:Int)(ad adR:Option Addr)(cap cR n m:Nat)(w:World)(hr:Reads w 1 (.slice ad n cap) n (L.flatMap i64c))(hN:L.length=n)(hl:n<=1000)(hR:Reads w 1 (.slice adR m cR) m (R.flatMap i64c))(hRm:R.length=m)(hm:m<=1000):
  Calls Tryz.prog 113 #[.agg #[.slice ad n cap,.int .i64 cr,.int .i64 du],.slice adR m cR,.agg #[.int .i64 ki,.int .i64 da,.int .i64 tr,.int .i64 am,.int .i64 re]] w (Sl (Ch ⟨L,cr,du⟩ R ⟨ki,da,tr,am,re⟩) w):=by
 obtain⟨i0,hi,hi0,hi1,hi2⟩:=info_parts Ca;refine j4t ?_;intro hst hpb W0 hW0;rw [<-hW0] at hst hpb;obtain⟨A,hA⟩:∃A,Ch ⟨L,cr,du⟩ R ⟨ki,da,tr,am,re⟩=A:=⟨_,rfl⟩;rw [hA];obtain⟨z1,hz1⟩:∃z,ok1 ⟨L,cr,du⟩ R ki=z:=⟨_,rfl⟩;have hri:=λW (hW:Keeps (λ_=>False) w W) b (hb:Ps.Ar ⟨L,cr,du⟩=b)=>Ct L cr du ad cap n W (hr.keeps hW (by simp)) hN hl b hb;have p0:=Aa hpb 0;have p1:=Aa hpb 1;have p2:=Aa hpb 2;have pl:=lt_of_block hpb;obtain⟨Hr,HN,HR,HRm,Hst,Hpb,HA,Hz1,Hri⟩:=hid9 hr hN hR hRm hst hpb hA hz1 hri;clear hri hz1 hA hpb hst hRm hR hN hr;obtain⟨Hi,Hi0,Hi1,Hi2⟩:=hid4 hi hi0 hi1 hi2;clear hi2 hi1 hi0 hi;go_enter Tryz.func113,Tryz.ntmps113
 go_upto_region 1 with fail
 rw [<-hW0];clear hW0
 go_cut [9] (λy wx=>y= .bool z1/\Keeps (λ_=>False) W0 wx)
 case first=>
  have h:=Hz1.out;unfold ok1 at h;simp only at h;rw [HN.out,HRm.out] at h;rcases hb:Ps.Ar ⟨L,cr,du⟩ with _|_
  ·rw [hb,Bool.false_and] at h;have Hzz:=Lib.hid h;clear h;have Hb:=Lib.hid hb;clear hb;go_wp2_with fail;refine(Hri.out _ Hst.out.kp _ Hb.out).mono ?_;rintro e w1 ⟨rfl,hk1⟩;clear p0 p1 p2 pl;have Hk1:=Lib.hid hk1;clear hk1;exact j5Z
  ·by_cases hmn:m=n
   ·by_cases k1:1<=ki
    ·by_cases k6:ki<=6
     ·have hzt:true=z1:=by rw [<-h,hb];simp [hmn,k1,k6]
      exact j2N
     ·have hzt:false=z1:=by rw [<-h,hb];simp [k6]
      exact j2N
    ·have hzt:false=z1:=by rw [<-h,hb];simp [k1]
     exact j2N
   ·have hzt:false=z1:=by rw [<-h,hb];simp [hmn]
    have Hzz:=Lib.hid hzt;have hmnI:¬(m:Int)=(n:Int):=j3;clear h hzt;exact j60
 obtain⟨rfl,hkc⟩:=hcut;have Hkc:=Lib.hid hkc;clear hkc p0 p1 p2 pl;go_wp2
 go_loopw [9,10] (λb x wx=>∃i:Nat,b= .bool (z1&&(R.take i).all okr)/\x= .int .i64 (i:Nat)/\i<=m/\wc=wx) (λ_ x _=>m-(intOf x).toNat)
 case atStart=>exact⟨0,by simp,rfl,Nat.zero_le _,rfl⟩
 case round=>
  obtain⟨i,rfl,rfl,him,hwr⟩:=hrel;subst hwr;obtain⟨z,hz⟩:∃z,(z1&&(R.take i).all okr)=z:=⟨_,rfl⟩;rw [hz];by_cases hlt:i<m
  ·have hltI:(i:Int)<(m:Int):=j3;obtain⟨x,hx⟩:=Aj (L:=R) (k:=i) (by rw [HRm.out];exact hlt);have hnx:(z1&&(R.take (i+1)).all okr)=(z&&okr x):=by rw [take_snoc' hx,List.all_append,<-hz,Bool.and_assoc];simp
   rcases z with _|_
   ·rw [Bool.false_and] at hnx;obtain⟨Hz,Hx,Hnx⟩:=hid3 hz hx hnx;clear hnx hx hz;exact j61
   ·rw [Bool.true_and] at hnx;obtain⟨g,o,he,c0⟩:=(HR.out.keeps (Hst.out.kp.nt Hkc.out) (by simp)).int (k:= .i64) hx;subst he;have cl:=Ai c0;by_cases x0:0<=x
    ·by_cases x1:x<=10000000
     ·have ho:okr x=true:=by simp [okr,x0,x1]
      exact j2O
     ·have ho:okr x=false:=by simp [okr,x1]
      exact j2O
    ·have ho:okr x=false:=by simp [okr,x0]
     exact j2O
  ·obtain rfl:i=m:=by omega
   rw [List.take_of_length_le (by rw [HRm.out];exact Nat.le_refl _)] at hz
   have hz3:ok3 ⟨L,cr,du⟩ R ki tr=(z&&(decide (ki=2)||(decide (1<=tr)&&decide (tr<=(n:Int))))):=by
    unfold ok3;rw [Hz1.out,hz];simp only;rw [HN.out]
   have hab1:=Hst.out.keep0 Hkc.out;have hpb1:=Ac Hpb.out Hkc.out (by simp);have p0:=Aa hpb1 0;have pl:=lt_of_block hpb1;have e0:=Aa hab1.e 0;have e2:=Aa hab1.e 2;have el:=lt_of_block hab1.e;obtain⟨z3,hz3'⟩:∃z,ok3 ⟨L,cr,du⟩ R ki tr=z:=⟨_,rfl⟩;rw [hz3'] at hz3;obtain⟨Hz,Hz3',Hab1,Hpb1⟩:=hid4 hz hz3' hab1 hpb1;clear hpb1 hab1 hz3' hz;obtain⟨W1,hW1⟩:∃x,x=wc:=⟨_,rfl⟩;subst hW1
   go_upto_region 6 with fail
   go_cut [9] (λy wx=>y= .bool z3/\W1=wx)
   case first=>
    rcases z with _|_
    ·rw [Bool.false_and] at hz3;subst hz3;exact j2P
    ·rw [Bool.true_and] at hz3;by_cases k2:ki=2
     ·have hzt:z3=true:=by rw [hz3];simp [k2]
      subst hzt;subst k2;clear hz3;exact j2P
     ·have k2b:(ki==2)=false:=beq_eq_false_iff_ne.2 k2;by_cases t1:1<=tr
      ·by_cases t2:tr<=(n:Int)
       ·have hzt:z3=true:=by rw [hz3];simp [t1,t2]
        subst hzt;clear hz3;exact j2P
       ·have hzt:z3=false:=by rw [hz3];simp [k2,t2]
        exact j62
      ·have hzt:z3=false:=by rw [hz3];simp [k2,t1]
       exact j62
   obtain⟨rfl,rfl⟩:=hcut;have hmay:=mayA_ok3 ⟨L,cr,du⟩ R ⟨ki,da,tr,am,re⟩;simp only at hmay;rw [Hz3'.out] at hmay;clear hz3;have e3:=Aa Hab1.out.e 3;rcases z3 with _|_
   ·rw [Bool.false_and] at hmay;exact j2Q
   ·rw [Bool.true_and] at hmay;by_cases k6:ki=6
    ·by_cases a0:am<0
     ·have hmf:mayA ⟨L,cr,du⟩ R ⟨ki,da,tr,am,re⟩=false:=by rw [hmay];simp [k6,a0]
      subst k6;replace hmay:=hmf;clear hmf;exact j2Q
     ·by_cases a1:10000000<am
      ·have hmf:mayA ⟨L,cr,du⟩ R ⟨ki,da,tr,am,re⟩=false:=by rw [hmay];simp [k6,a1]
       subst k6;replace hmay:=hmf;clear hmf;exact j2Q
      ·have hmt:mayA ⟨L,cr,du⟩ R ⟨ki,da,tr,am,re⟩=true:=by rw [hmay];simp [a0,a1]
       subst k6;replace hmay:=hmt;clear hmt;have hA:=HA.out;unfold Ch at hA;rw [hmay,if_pos rfl] at hA;obtain⟨hpr,hlen,hrt,hk1,hk6,htr,ham⟩:=Pi hmay;simp only at hlen hk1 hk6 htr ham;obtain rfl:i=n:=by rw [<-HRm.out,hlen,HN.out]
       obtain⟨hbal,hcr,hdu,hn1,hn8⟩:=Cc hpr;simp only at hbal hcr hdu hn1 hn8;rw [HN.out] at hn1 hn8;have hcp:=j63;clear p0 pl e0 e2 e3 el HA;obtain⟨Hmay,Hpr,Hlen,Hrt,Hbal,Hcr,Hdu,Hcp,HA⟩:=hid9 hmay hpr hlen hrt hbal hcr hdu hcp hA;clear hA hcp hdu hcr hbal hrt hlen hpr hmay;obtain⟨Htr,Ham⟩:=hid2 htr ham;clear ham htr;have e0:=Aa Hab1.out.e 0;have e3:=Aa Hab1.out.e 3;have el:=lt_of_block Hab1.out.e
       go_wp2_with (at_builtin;refine Ba rfl (.const (.slice none 0 0)) (.tmp 91) 33 rfl 0 2 i0 _ 1 8 Tryz.underlying33 Hi.out Hi0.out Hi1.out Hi2.out rfl j2 _ 0 [] rfl (World.ownsRow_nil _ _ _ _) _ i (R.flatMap i64c) rfl (HR.out.keeps Hab1.out.kp (by simp)) (Bo _) j6 j1 j1 ?_;intro v2 w2 hown2 hk2 hf2;refine haltD ?_)
       refine Lib.hid ?_;have hrr2:w2.ownsRow 0 2 1 v2 i (R.flatMap i64c):=by simpa using hown2
       have hf2w:Fresh W1 w2 v2:=(Fresh.nil W1).app hk2 hf2;obtain⟨gr,cr2,rfl⟩:=Co hrr2 hn1;have hab2:=Hab1.out.keep0 hf2w.1;have hpb2:=Ac Hpb1.out hf2w.1 (by simp);have hg2':∀j,(Value.slice (some ⟨gr,0,none⟩) i cr2).ownBlock=some j->w.heap.size+1+1<j:=λj e=>by have:=hf2w.2 j e;have:=lt_of_block Hab1.out.r;omega
       clear hown2 hk2 hf2 e0 e3 el;have p0:=Aa hpb2 0;have p1:=Aa hpb2 1;have p2:=Aa hpb2 2;have pl:=lt_of_block hpb2;obtain⟨Hrr2,Hf2w,Hab2,Hpb2,Hg2'⟩:=hid5 hrr2 hf2w hab2 hpb2 hg2';clear hg2' hpb2 hab2 hf2w hrr2;go_wp2_with fail;refine(Hcp.out _ Hab2.out.kp).mono ?_;rintro e w3 ⟨v3,rfl,hrb3,hf3⟩;obtain⟨gb,cb,rfl⟩:=Co hrb3 hn1;clear p0 p1 p2 pl;have hab3:=Hab2.out.keep0 hf3.1;have hpb3:=Ac Hpb2.out hf3.1 (by simp);have hrr3:=Hrr2.out.of_keeps hf3.1;obtain⟨Hab3,Hpb3,Hrr3,Hrb3,Hf3⟩:=hid5 hab3 hpb3 hrr3 hrb3 hf3;clear hf3 hrb3 hrr3 hpb3 hab3
       go_upto_region 12 with fail
       refine j64 ?_;intro W4 hW4 B hB;have hk4:Keeps (λ_=>False) w3 W4:=by rw [hW4];exact Keeps.alloc _ _
       have hcb4:W4.heap[B]?=some (.cells #[.slice (some ⟨gb,0,none⟩) i cb,.int .i64 cr,.int .i64 du] 35 (0,0)):=by rw [hW4,hB];exact heap_alloc_new _ _
       have hab4:=Hab3.out.keep0 hk4;have hpb4:=Ac Hpb3.out hk4 (by simp);have hrr4:=Hrr3.out.of_keeps hk4;have hrb4:=Hrb3.out.of_keeps hk4;have hBl:w.heap.size+1+1<B:=by have:=lt_of_block Hab3.out.r;omega
       have hgB:∀j,(Value.slice (some ⟨gr,0,none⟩) i cr2).ownBlock=some j->j<B:=λj e=>by have:=Bh Hrr3.out e;omega
       clear hW4 hB;obtain⟨Hk4,Hcb4,Hab4,Hpb4,Hrr4,Hrb4,HBl,HgB⟩:=hid8 hk4 hcb4 hab4 hpb4 hrr4 hrb4 hBl hgB;clear hgB hBl hrb4 hrr4 hpb4 hab4 hcb4 hk4;have hA:=HA.out;clear HA;simp [Cx,Cv] at hA;subst hA;obtain⟨t0,t1⟩:=Htr.out j2;rw [HRm.out] at t1;obtain⟨h,hh⟩:∃h:Nat,(h:Int)=tr-1:=⟨(tr-1).toNat,by omega⟩;have hin:h<i:=j3;have hit:(tr-1).toNat=h:=j3;have hit2:tr.toNat-1=h:=j3;have hrz:RowZ W4 2 gr i cr2 R:=⟨Hrr4.out,HRm.out⟩;obtain⟨x,hx⟩:=Aj (L:=R) (k:=h) (by rw [HRm.out];exact hin);have cx:=hrz.cell hx;have fx:=hrz.free h;have lx:=hrz.lt;have hnew:=hrz.set hin am;have hgl:w.heap.size+1+1<gr:=Hg2'.out gr rfl;have hgB:gr<B:=HgB.out gr rfl;have hg23:¬gb=gr:=λe=>by have h1:=Hf3.out.2 gb rfl;have h2:=Bh Hrr2.out (show(Value.slice (some ⟨gr,0,none⟩) i cr2).ownBlock=some gr from rfl);omega
       have hgbl:w.heap.size+1+1<gb:=by have h1:=Hf3.out.2 gb rfl;have h2:=lt_of_block Hab2.out.r;omega
       have k5:Keeps (λj=>j=gr) W4 (W4.setCell ⟨gr,h,none⟩ (.int .i64 am)):=Keeps.setCell _ _ _ rfl;have hab5:AB #[.int .i64 6,.int .i64 da,.int .i64 tr,.int .i64 am,.int .i64 re] w (W4.setCell ⟨gr,h,none⟩ (.int .i64 am)):=Hab4.out.keepB k5 hgl;have hrb5:=k5.row Hrb4.out (λj hj e=>by have e':j=gr:=e;simp only [Value.ownBlock,Option.some.injEq] at hj;exact hg23 j1);have p0:=Aa Hcb4.out 0;have p1:=Aa Hcb4.out 1;have p2:=Aa Hcb4.out 2;have pl4:=lt_of_block Hcb4.out;have e0:=Aa Hab4.out.e 0;have e2:=Aa Hab4.out.e 2;have e3:=Aa Hab4.out.e 3;have el4:=lt_of_block Hab4.out.e;have r0:=Aa Hab4.out.r 0;have r1:=Aa Hab4.out.r 1;have r2:=Aa Hab4.out.r 2;have rf0:=Ab Hab4.out.r 0;have rf1:=Ab Hab4.out.r 1;have rf2:=Ab Hab4.out.r 2;have rl:=lt_of_block Hab4.out.r;have hgrB:¬B=gr:=j3;have hgBr:¬gr=B:=j3;have hgre:¬w.heap.size+1=gr:=j3;have hger:¬gr=w.heap.size+1:=j3;have hgrr:¬w.heap.size+1+1=gr:=j3;have hgrr2:¬gr=w.heap.size+1+1:=j3;have q1:(0:Int)<=tr-1:=j3;have q2:tr-1<(i:Int):=j3;have q4:IntKind.i64.wrap (tr-1)=tr-1:=IntWalk.i64_in _ ⟨by omega,by omega⟩;have hS3:=Bb hab5.r (.slice (some ⟨gb,0,none⟩) i cb) (.int .i64 cr) (.int .i64 du);obtain⟨hb9,k9⟩:=hS3;have hkf:=hab5.kp.trans (k9.mono λj _ e=> .inr j2R);have hrow9:=k9.row hrb5 (λj hj e=>by have e':j=w.heap.size+1+1:=e;simp only [Value.ownBlock,Option.some.injEq] at hj;omega);have hrr9:=k9.row hnew.1 (λj hj e=>by have e':j=w.heap.size+1+1:=e;simp only [Value.ownBlock,Option.some.injEq] at hj;omega);refine jo ?_;intro sr0 sr1 sr2;have hlen9:=hnew.2;obtain⟨Hrz,Hx,Hnew,K5,Hab5,Hrb5,Hb9,K9,Hkf⟩:=hid9 hrz hx hnew k5 hab5 hrb5 hb9 k9 hkf;clear hkf k9 hb9 hrb5 hab5 k5 hnew hx hrz;obtain⟨Hrow9,Hrr9,Sr0,Sr1,Sr2,Hlen9,Hh,Hit2⟩:=hid8 hrow9 hrr9 sr0 sr1 sr2 hlen9 hh hit2;clear hit2 hh hlen9 sr2 sr1 sr0 hrr9 hrow9;go_wp2;refine ja ?_;intro R0' R1' R2';clear r0 r1 r2 p0 p1 p2;exact bodyPost_ret (v:= .tuple #[.agg #[.slice (some ⟨gb,0,none⟩) i cb,.int .i64 cr,.int .i64 du],.slice (some ⟨gr,0,none⟩) i cr2,.int .i64 0]) j1w rfl ⟨_,_,rfl,by rw [HN.out];exact Hrow9.out,by rw [Hit2.out,Hlen9.out];exact Hrr9.out,Hkf.out,λj hj=>by simp only [Value.ownBlock,Option.some.injEq] at hj;omega,λj hj=>by simp only [Value.ownBlock,Option.some.injEq] at hj;omega⟩
    ·have hmt:mayA ⟨L,cr,du⟩ R ⟨ki,da,tr,am,re⟩=true:=by rw [hmay];simp [k6]
     have k6b:(ki==6)=false:=beq_eq_false_iff_ne.2 k6;replace hmay:=hmt;clear hmt;have hA:=HA.out;unfold Ch at hA;rw [hmay,if_pos rfl] at hA;obtain⟨hpr,hlen,hrt,hk1,hk6,htr,ham⟩:=Pi hmay;simp only at hlen hk1 hk6 htr ham;obtain rfl:i=n:=by rw [<-HRm.out,hlen,HN.out]
     obtain⟨hbal,hcr,hdu,hn1,hn8⟩:=Cc hpr;simp only at hbal hcr hdu hn1 hn8;rw [HN.out] at hn1 hn8;have hcp:=j63;clear p0 pl e0 e2 e3 el HA;obtain⟨Hmay,Hpr,Hlen,Hrt,Hbal,Hcr,Hdu,Hcp,HA⟩:=hid9 hmay hpr hlen hrt hbal hcr hdu hcp hA;clear hA hcp hdu hcr hbal hrt hlen hpr hmay;obtain⟨Htr,Ham⟩:=hid2 htr ham;clear ham htr;have e0:=Aa Hab1.out.e 0;have e3:=Aa Hab1.out.e 3;have el:=lt_of_block Hab1.out.e
     go_wp2_with (at_builtin;refine Ba rfl (.const (.slice none 0 0)) (.tmp 91) 33 rfl 0 2 i0 _ 1 8 Tryz.underlying33 Hi.out Hi0.out Hi1.out Hi2.out rfl j2 _ 0 [] rfl (World.ownsRow_nil _ _ _ _) _ i (R.flatMap i64c) rfl (HR.out.keeps Hab1.out.kp (by simp)) (Bo _) j6 j1 j1 ?_;intro v2 w2 hown2 hk2 hf2;refine haltD ?_)
     refine Lib.hid ?_;have hrr2:w2.ownsRow 0 2 1 v2 i (R.flatMap i64c):=by simpa using hown2
     have hf2w:Fresh W1 w2 v2:=(Fresh.nil W1).app hk2 hf2;obtain⟨gr,cr2,rfl⟩:=Co hrr2 hn1;have hab2:=Hab1.out.keep0 hf2w.1;have hpb2:=Ac Hpb1.out hf2w.1 (by simp);have hg2':∀j,(Value.slice (some ⟨gr,0,none⟩) i cr2).ownBlock=some j->w.heap.size+1+1<j:=λj e=>by have:=hf2w.2 j e;have:=lt_of_block Hab1.out.r;omega
     clear hown2 hk2 hf2 e0 e3 el;have p0:=Aa hpb2 0;have p1:=Aa hpb2 1;have p2:=Aa hpb2 2;have pl:=lt_of_block hpb2;obtain⟨Hrr2,Hf2w,Hab2,Hpb2,Hg2'⟩:=hid5 hrr2 hf2w hab2 hpb2 hg2';clear hg2' hpb2 hab2 hf2w hrr2;go_wp2_with fail;refine(Hcp.out _ Hab2.out.kp).mono ?_;rintro e w3 ⟨v3,rfl,hrb3,hf3⟩;obtain⟨gb,cb,rfl⟩:=Co hrb3 hn1;clear p0 p1 p2 pl;have hab3:=Hab2.out.keep0 hf3.1;have hpb3:=Ac Hpb2.out hf3.1 (by simp);have hrr3:=Hrr2.out.of_keeps hf3.1;obtain⟨Hab3,Hpb3,Hrr3,Hrb3,Hf3⟩:=hid5 hab3 hpb3 hrr3 hrb3 hf3;clear hf3 hrb3 hrr3 hpb3 hab3
     go_upto_region 12 with fail
     refine j64 ?_;intro W4 hW4 B hB;have hk4:Keeps (λ_=>False) w3 W4:=by rw [hW4];exact Keeps.alloc _ _
     have hcb4:W4.heap[B]?=some (.cells #[.slice (some ⟨gb,0,none⟩) i cb,.int .i64 cr,.int .i64 du] 35 (0,0)):=by rw [hW4,hB];exact heap_alloc_new _ _
     have hab4:=Hab3.out.keep0 hk4;have hpb4:=Ac Hpb3.out hk4 (by simp);have hrr4:=Hrr3.out.of_keeps hk4;have hrb4:=Hrb3.out.of_keeps hk4;have hBl:w.heap.size+1+1<B:=by have:=lt_of_block Hab3.out.r;omega
     have hgB:∀j,(Value.slice (some ⟨gr,0,none⟩) i cr2).ownBlock=some j->j<B:=λj e=>by have:=Bh Hrr3.out e;omega
     clear hW4 hB;obtain⟨Hk4,Hcb4,Hab4,Hpb4,Hrr4,Hrb4,HBl,HgB⟩:=hid8 hk4 hcb4 hab4 hpb4 hrr4 hrb4 hBl hgB;clear hgB hBl hrb4 hrr4 hpb4 hab4 hcb4 hk4;have hkk:ki=1\/ki=2\/ki=3\/ki=4\/ki=5:=by have:=k6;omega
     rcases hkk with rfl|rfl|rfl|rfl|rfl
     ·exact j65
     ·skip
      have hA:=HA.out;clear HA;simp [Cx,Cv] at hA;obtain⟨⟨q,z⟩,hq⟩:∃q,payR ⟨L,cr,du⟩ R am=q:=⟨_,rfl⟩;rw [hq] at hA;have hcall:=λW (hW:Keeps (λ_=>False) W4 W)=>Xu L R cr du am ad (some ⟨gr,0,none⟩) cap cr2 i W (Hr.out.keeps (Hab4.out.kp.nt hW) (by simp)) HN.out hl ((Reads.Ay Hrr4.out).keeps hW (by simp)) HRm.out;exact j2S
     ·exact j66
     ·exact j66
     ·exact j65
theorem Jk(li cy du mf mp st ki da tr am re:Int)(L:List Tn)(n:Nat)(ad:Option Addr)(cap:Nat)(w:World)(hr:Reads w 2 (.slice ad n cap) n (L.flatMap Tn.cells))(hl:n<=1000000)(hn:L.length=n):
  Calls Tryz.prog 52 #[.agg #[.int .i64 li,.slice ad n cap,.int .i64 cy,.int .i64 du,.int .i64 mf,.int .i64 mp,.int .i64 st],.agg #[.int .i64 ki,.int .i64 da,.int .i64 tr,.int .i64 am,.int .i64 re]] w λe w'=>e= .returned (.int .i64 (evErr ⟨li,cy,du,mf,mp,st,L⟩ ⟨ki,da,tr,am,re⟩))/\Keeps (λ_=>False) w w':=by
 refine j3R ?_;intro hc z hz y hy hy2;rw [hy] at hy2;unfold evErr at hz;rw [hy,hn] at hz;dsimp only at hz;obtain⟨Hr,Hn,Hc,Hz,Hy⟩:=hid5 hr hn hc hz hy;clear hy hz hc hn hr;go_enter Tryz.func52,Tryz.ntmps52
 go_wp2_with (go_at_call 51;((with_reducible refine(Fy ⟨li,cy,du,mf,mp,st,L⟩ (.slice ad n cap) _ Hy.out j3S jG).mono ?_);rintro e w1 ⟨rfl,hk1⟩;obtain⟨c1,c6,d0,d1,d2,d3,d4⟩:=Hc.out _ hk1;have Hk1:=Lib.hid hk1;clear hk1;refine haltE ?_))
 refine Lib.hid ?_;rcases hy2 with rfl|rfl
 ·have hz:=Hz.out;clear Hz;rw [if_neg j2] at hz
  go_upto_region 3 with fail
  go_cut [18] from 11 to 18 (λs18 wx=>s18= .bool (decide (ki<1\/6<ki))/\w1=wx)
  case first=>
   exact j3T
  case rest=>
   obtain⟨rfl,rfl⟩:=hcut;by_cases c3:ki<1\/6<ki
   ·rw [if_pos c3] at hz;rw [decide_eq_true c3];clear c3;exact jK
   rw [if_neg c3] at hz;rw [decide_eq_false c3];clear c3
   go_upto_region 5 with fail
   go_cut [44] from 19 to 44 (λs44 wx=>s44= .bool (decide ((ki=2/\¬tr=0)\/(¬ki=2/\(tr<1\/(n:Int)<tr))))/\w1=wx)
   case first=>
    exact j3U
   case rest=>
    obtain⟨rfl,rfl⟩:=hcut;by_cases c5:(ki=2/\¬tr=0)\/(¬ki=2/\(tr<1\/(n:Int)<tr))
    ·rw [if_pos c5] at hz;rw [decide_eq_true c5];clear c5;exact jK
    rw [if_neg c5] at hz;rw [decide_eq_false c5];clear c5
    go_upto_if 47 with fail
    go_cut [5,6] from 45 to 47 (λs5 s6 wx=>∃lo hi,s5= .int .i64 lo/\s6= .int .i64 hi/\Hid ((ki=6/\lo=0/\hi=10000000)\/(¬ki=6/\lo=1/\hi=1000000000000000))/\w1=wx)
    case first=>
     have Hz:=Lib.hid hz;clear hz;by_cases q:ki=6
     ·have p:(ki==6)=true:=by simp [q]
      have Q:=Lib.hid q;clear q;go_wp2_with fail;go_meet;exact⟨_,_,rfl,rfl,Lib.hid (.inl ⟨Q.out,rfl,rfl⟩),rfl⟩
     ·have p:(ki==6)=false:=by simp [q]
      have Q:=Lib.hid q;clear q;go_wp2_with fail;go_meet;exact⟨_,_,rfl,rfl,Lib.hid (.inr ⟨Q.out,rfl,rfl⟩),rfl⟩
    case rest=>
     obtain⟨lo,hi,rfl,rfl,Hlh,rfl⟩:=hcut
     go_upto_region 10 with fail
     go_cut [57] from 48 to 57 (λs57 wx=>s57= .bool (decide (am<lo\/hi<am))/\w1=wx)
     case first=>
      have Hz:=Lib.hid hz;clear hz;by_cases q12:am<lo
      ·exact jA
      ·skip
       by_cases q14:hi<am
       ·exact jA
       ·exact j0h
     case rest=>
      obtain⟨rfl,rfl⟩:=hcut;by_cases c10:am<lo\/hi<am
      ·rw [if_pos (show(ki=6/\(am<0\/10000000<am))\/(¬ki=6/\(am<1\/1000000000000000<am)) by rcases Hlh.out with⟨h1,h2,h3⟩|⟨h1,h2,h3⟩<;>omega)] at hz
       rw [decide_eq_true c10];clear c10;exact jK
      rw [if_neg (show¬((ki=6/\(am<0\/10000000<am))\/(¬ki=6/\(am<1\/1000000000000000<am))) by rcases Hlh.out with⟨h1,h2,h3⟩|⟨h1,h2,h3⟩<;>omega)] at hz
      rw [decide_eq_false c10];clear c10
      go_upto_region 12 with fail
      go_cut [67] from 58 to 67 (λs67 wx=>s67= .bool (decide (da<st\/2932896<da))/\w1=wx)
      case first=>
       have Hz:=Lib.hid hz;clear hz;by_cases q14:da<st
       ·exact jA
       ·skip
        by_cases q16:2932896<da
        ·exact jA
        ·exact j0h
      case rest=>
       obtain⟨rfl,rfl⟩:=hcut;by_cases c12:da<st\/2932896<da
       ·rw [if_pos c12] at hz;rw [decide_eq_true c12];clear c12;exact jK
       rw [if_neg c12] at hz;rw [decide_eq_false c12];clear c12
       go_upto_region 14 with fail
       go_cut [7] from 68 to 75 (λs7 wx=>s7= .bool (decide (ki=4\/ki=5))/\w1=wx)
       case first=>
        have Hz:=Lib.hid hz;clear hz;by_cases q16:ki=4
        ·skip
         have p16:(ki==4)=true:=jI;have p16':(ki !=4)=false:=jI;have Q16:=Lib.hid q16;clear q16;go_wp2_with fail;go_meet;have q16:=Q16.out;exact jx
        ·skip
         have p16:(ki==4)=false:=jI;have p16':(ki !=4)=true:=jI;have Q16:=Lib.hid q16;clear q16;by_cases q18:ki=5
         ·skip
          have p18:(ki==5)=true:=jJ;have p18':(ki !=5)=false:=jJ;have Q18:=Lib.hid q18;clear q18;go_wp2_with fail;go_meet;have q16:=Q16.out;have q18:=Q18.out;exact jx
         ·skip
          have p18:(ki==5)=false:=jJ;have p18':(ki !=5)=true:=jJ;have Q18:=Lib.hid q18;clear q18;go_wp2_with fail;go_meet;have q16:=Q16.out;have q18:=Q18.out;exact jz
       case rest=>
        obtain⟨rfl,rfl⟩:=hcut;obtain⟨d,hd⟩:∃d,decide (ki=4\/ki=5)=d:=⟨_,rfl⟩;rw [hd];have Hd:=Lib.hid hd;clear hd
        have hf:(((ki=4\/ki=5)/\(re<1\/2000<re))\/(¬(ki=4\/ki=5)/\¬re=0))=((d=true/\(re<1\/2000<re))\/(d=false/\¬re=0)):=by
         cases d
         ·have:=of_decide_eq_false Hd.out;simp [this]
         ·have:=of_decide_eq_true Hd.out;simp [this]
        rw [ite_congr hf (λ_=>rfl) (λ_=>rfl)] at hz;clear hf
        cases d
        ·skip
         have hf:((false=true/\(re<1\/2000<re))\/(false=false/\¬re=0))=(¬re=0):=by simp
         rw [ite_congr hf (λ_=>rfl) (λ_=>rfl)] at hz;clear hf
         go_upto_region 15 with fail
         go_cut [95] from 76 to 95 (λs95 wx=>s95= .bool (decide (¬re=0))/\w1=wx)
         case first=>
          have Hz:=Lib.hid hz;clear hz;by_cases q20:re=0
          ·skip
           have p20:(re==0)=true:=by simp [q20]
           have p20':(re !=0)=false:=by simp [q20]
           have Q20:=Lib.hid q20;clear q20;go_wp2_with fail;go_meet;have q20:=Q20.out;exact jz
          ·skip
           have p20:(re==0)=false:=by simp [q20]
           have p20':(re !=0)=true:=by simp [q20]
           have Q20:=Lib.hid q20;clear q20;go_wp2_with fail;go_meet;have q20:=Q20.out;exact jx
         case rest=>
          obtain⟨rfl,rfl⟩:=hcut;by_cases c15:¬re=0
          ·exact j67
          rw [if_neg c15] at hz;rw [decide_eq_false c15];clear c15;exact jK
        ·skip
         have hf:((true=true/\(re<1\/2000<re))\/(true=false/\¬re=0))=(re<1\/2000<re):=by simp
         rw [ite_congr hf (λ_=>rfl) (λ_=>rfl)] at hz;clear hf
         go_upto_region 15 with fail
         go_cut [95] from 76 to 95 (λs95 wx=>s95= .bool (decide (re<1\/2000<re))/\w1=wx)
         case first=>
          have Hz:=Lib.hid hz;clear hz;by_cases q20:re<1
          ·exact jA
          ·skip
           by_cases q22:2000<re
           ·exact jA
           ·exact j0h
         case rest=>
          obtain⟨rfl,rfl⟩:=hcut;by_cases c15:re<1\/2000<re
          ·exact j67
          rw [if_neg c15] at hz;rw [decide_eq_false c15];clear c15;exact jK
 ·have hz:=Hz.out;rw [if_pos j2] at hz;exact jK
theorem Te(t:Tm)(ev:Ev)(ad:Option Addr)(cap:Nat)(w:World)(hr:Reads w 2 (.slice ad t.trs.length cap) t.trs.length (t.trs.flatMap Tn.cells))(hl:t.trs.length<=1000000):
  Calls Tryz.prog 52 #[t.val (.slice ad t.trs.length cap),ev.agg] w λe w'=>e= .returned (.int .i64 (evErr t ev))/\Keeps (λ_=>False) w w':=Jk _ _ _ _ _ _ _ _ _ _ _ _ _ ad cap w hr hl rfl
def rrS(E:Nat)(t:Tm)(v:Value)(g o:Nat)(x:Ev)(w:World):Prop:=tbS E t v w/\w.cell? ⟨g,o,none⟩=some (.int .i64 x.kind)/\w.cell? ⟨g,o+1,none⟩=some (.int .i64 x.day)/\w.cell? ⟨g,o+2,none⟩=some (.int .i64 x.tranche)/\w.cell? ⟨g,o+3,none⟩=some (.int .i64 x.amount)/\w.cell? ⟨g,o+4,none⟩=some (.int .i64 x.ref)
theorem rrS.keep{E:Nat}{t:Tm}{v:Value}{g o:Nat}{x:Ev}{w w':World}(h:rrS E t v g o x w)(hk:Keeps (λ_=>False) w w'):rrS E t v g o x w':=by
 obtain⟨h0,e0,e1,e2,e3,e4⟩:=h;exact⟨h0.keep hk,(hk.cell (Ai e0) (by simp)).trans e0,(hk.cell (Ai e1) (by simp)).trans e1,(hk.cell (Ai e2) (by simp)).trans e2,(hk.cell (Ai e3) (by simp)).trans e3,(hk.cell (Ai e4) (by simp)).trans e4⟩
theorem Pv(t:Tm)(adt:Option Addr)(ct:Nat)(L:List Ev)(ad:Option Addr)(cap:Nat)(w:World)(htr:Reads w 2 (.slice adt t.trs.length ct) t.trs.length (t.trs.flatMap Tn.cells))(hr:Reads w 5 (.slice ad L.length cap) L.length (L.flatMap Ev.cells))(hl:L.length<=1000000)(htl:t.trs.length<=1000000):
  Calls Tryz.prog 159 #[t.val (.slice adt t.trs.length ct),.slice ad L.length cap] w λe w'=>e= .returned (.int .i64 (Fj t L))/\Keeps (λ_=>False) w w':=by
 have htm:=λW (hW:Keeps (λ_=>False) w W)=>Ld t adt ct W (htr.keeps hW (by simp)) htl;have hev:=λx W (hW:Keeps (λ_=>False) w W)=>Te t x adt ct W (htr.keeps hW (by simp)) htl;have hbx:∀W,Keeps (λ_=>False) (w.alloc (.cells #[.int .i64 t.limit,.slice adt t.trs.length ct,.int .i64 t.cyc,.int .i64 t.due,.int .i64 t.minFixed,.int .i64 t.minPart,.int .i64 t.start] 24)) W->W.heap[w.heap.size]?=some (.cells #[.int .i64 t.limit,.slice adt t.trs.length ct,.int .i64 t.cyc,.int .i64 t.due,.int .i64 t.minFixed,.int .i64 t.minPart,.int .i64 t.start] 24 (0,0)):=λW hW=>Ac (heap_alloc_new w _) hW (by simp);obtain⟨z,hz⟩:∃z,Fj t L=z:=⟨_,rfl⟩;have hz':=hz;unfold Fj at hz';obtain⟨y,hy⟩:∃y,t.err=y:=⟨_,rfl⟩;obtain⟨nt,hnt⟩:∃n,t.trs.length=n:=⟨_,rfl⟩;obtain⟨n,hn⟩:∃n,L.length=n:=⟨_,rfl⟩;rw [hz];rw [hnt] at htm hev hbx htl htr⊢;rw [hn] at hr hl⊢;rw [hy] at htm hz';simp only [Tm.val] at htm hev⊢;by_cases hy0:y=0
 ·subst hy0;rw [if_pos rfl] at hz';obtain⟨Htm,Hev,Hbx,Htr,Hr,Hz,Hz',Hy,Hnt⟩:=hid9 htm hev hbx htr hr hz hz' hy hnt;clear hnt hy hz' hz hr htr hbx hev htm;have Hn:=Lib.hid hn;clear hn;go_enter Tryz.func159,Tryz.ntmps159
  go_wp2_with (go_at_call 51;(refine(Htm.out _ (Keeps.alloc _ _)).mono ?_);rintro e w1 ⟨rfl,hk1⟩;have Hk1:=Lib.hid hk1;clear hk1;refine haltR ?_)
  refine Lib.hid ?_;go_wp2
  go_loopw [5] (λx wx=>∃i:Nat,x= .int .i64 (i:Nat)/\i<=n/\(∀j y,j<i->L[j]?=some y->evErr t y=0)/\Keeps (λ_=>False) w1 wx) (λx _=>n-(intOf x).toNat)
  case atStart=>exact⟨0,rfl,Nat.zero_le _,λj y h=>absurd h (Nat.not_lt_zero _),Keeps.refl _ _⟩
  case round=>
   obtain⟨i,rfl,hin,hall,hk⟩:=hrel;refine jc ?_;intro wq hwq;subst hwq;have hkw:=(Keeps.alloc (S:=λ_=>False) w (.cells #[.int .i64 t.limit,.slice adt nt ct,.int .i64 t.cyc,.int .i64 t.due,.int .i64 t.minFixed,.int .i64 t.minPart,.int .i64 t.start] 24)).nt (Hk1.out.nt hk);by_cases hlt:i<n
   ·have hltI:(i:Int)<(n:Int):=j3;obtain⟨x,hx⟩:=Aj (L:=L) (k:=i) jy
    obtain⟨g,o,hcl⟩:∃g o,ad=some ⟨g,o,none⟩/\rrS w.heap.size t (.slice adt nt ct) g (o+i*5) x wq.drew:=by
     obtain⟨g,o,c',he,hc⟩:=(Hr.out.keeps (hkw.nt (Keeps.drew wq)) (by simp)).elem Ev.Aq hx j2;simp only [Value.slice.injEq,true_and] at he;obtain⟨rfl,rfl⟩:=he;exact⟨g,o,rfl,tbS.of (Hbx.out _ ((Hk1.out.nt hk).nt (Keeps.drew wq))),hc 0 j2,hc 1 j2,hc 2 j2,hc 3 j2,hc 4 j2⟩
    obtain⟨rfl,hcl⟩:=hcl;obtain⟨q,hq⟩:∃q,evErr t x=q:=⟨_,rfl⟩;have hcall:=Hev.out x;rw [hq] at hcall;obtain⟨xk,xd,xt,xa,xf⟩:=x;simp only [Ev.agg] at hcall;obtain⟨Hall,Hk,Hkw,Hx,Hq,Hcall,Hcl⟩:=hid7 hall hk hkw hx hq hcall hcl;clear hcl hcall hq hx hkw hk hall;go_wp2_with fail;refine Ak (rrS w.heap.size t (.slice adt nt ct) g (o+i*5) ⟨xk,xd,xt,xa,xf⟩) (.take 0 (.take 1 (.take 2 (.take 3 (.take 4 (.move 5 (.take 6 .done))))))) j4 j4 ?_ ?_
    ·exact Hcl.out
    intro w2 hs2 hk2;refine j68 ?_;refine j7 ?_;intro K hK
    go_at_call 52
    ((with_reducible refine(Hcall.out w2 (Hkw.out.nt hk2)).mono ?_);rintro e w3 ⟨rfl,hk3⟩;dsimp only)
    refine hK.out _ _ (by exact hs2.keep hk3) ?_;clear hK K;refine j5 ?_;refine j68 ?_;refine Ao ?_;have Hk3:=Lib.hid (Hk.out.nt (hk2.nt hk3));clear hs2 hk2 hk3;by_cases hq0:q=0
    ·subst hq0
     have hall2:∀j y,j<i+1->L[j]?=some y->evErr t y=0:=λj y hj hy=>by
      rcases Nat.lt_or_ge j i with h|h
      ·exact Hall.out j y h hy
      ·obtain rfl:j=i:=by omega
       rw [Hx.out] at hy;cases hy;exact Hq.out
     have Hall2:=Lib.hid hall2;clear hall2;go_wp2_with fail;go_roundw
     case rel=>exact⟨i+1,by go_num,by omega,Hall2.out,Hk3.out⟩
     case measure=>simp [intOf];omega
    ·have he:=Mr Hall.out Hx.out (by rw [Hq.out];exact hq0);have hqI:(q !=0)=true:=by simp [hq0]
     rw [Hq.out] at he;have hkw3:=(Keeps.alloc (S:=λ_=>False) w (.cells #[.int .i64 t.limit,.slice adt nt ct,.int .i64 t.cyc,.int .i64 t.due,.int .i64 t.minFixed,.int .i64 t.minPart,.int .i64 t.start] 24)).nt (Hk1.out.nt Hk3.out);obtain⟨He,Hkw3⟩:=hid2 he hkw3;clear hkw3 he;go_wp2;go_ret;exact⟨by have h:=Hz'.out;rw [He.out] at h;subst h;rfl,Hkw3.out⟩
   ·obtain rfl:i=n:=by omega
    have he:=Qp (t:=t) (L:=L) λx hx=>by
     exact j4z
    have h:=Hz'.out;rw [he] at h;exact j0Y
 ·rw [if_neg hy0] at hz';have hy6:=Tm.Qr t;rw [hy] at hy6;obtain rfl:y=6:=hy6.resolve_left hy0;subst hz';obtain⟨Htm,Hev,Hbx,Htr,Hr,Hz,Hy,Hnt,Hn⟩:=hid9 htm hev hbx htr hr hz hy hnt hn;clear hn hnt hy hz hr htr hbx hev htm;go_enter Tryz.func159,Tryz.ntmps159
  go_wp2_with (go_at_call 51;(refine(Htm.out _ (Keeps.alloc _ _)).mono ?_);rintro e w1 ⟨rfl,hk1⟩;have Hk1:=Lib.hid hk1;clear hk1)
  go_ret;exact⟨rfl,(Keeps.alloc w _).nt Hk1.out⟩
theorem Lg(fr cd:Int)(w:World):Calls Tryz.prog 143 #[.int .i64 fr,.int .i64 cd] w λe w'=>e= .returned (.tuple #[.int .i64 (lastV fr cd),.int .i64 (lastE fr cd)])/\Keeps (λ_=>False) w w':=by
 obtain⟨F,hF⟩:∃F,lastF fr cd=F:=⟨_,rfl⟩;obtain⟨E,hE⟩:∃E,lastE fr cd=E:=⟨_,rfl⟩;obtain⟨V,hV⟩:∃V,lastV fr cd=V:=⟨_,rfl⟩;have hE':=hE;have hV':=hV;unfold lastE at hE';unfold lastV at hV';rw [hF] at hE' hV';rw [hE] at hV';rw [hE,hV];by_cases hc:cd<1\/28<cd
 ·rw [if_pos hc] at hE';subst hE';rw [if_neg j2] at hV';subst hV';obtain⟨HF,HE,HV⟩:=hid3 hF hE hV;clear hV hE hF;go_enter Tryz.func143,Tryz.ntmps143;rcases hc with hc|hc
  ·exact j69
  ·have hc2:¬cd<1:=j3;exact j69
 ·rw [if_neg hc] at hE';have c1:¬cd<1:=j3;have c2:¬28<cd:=j3;by_cases hin: -135140<=fr/\fr<=2932896
  ·rw [if_neg j1] at hE';obtain⟨hf0,hf1⟩:=hin;have hge:=Qi hf0 hf1 (by omega:1<=cd) (by omega:cd<=28);have hno:=λn=>lastF_no (fr:=fr) (cd:=cd) (n:=n) hf0 hf1 j1 j1;have hyes:=lastF_yes (fr:=fr) (cd:=cd) hf0 hf1 j1 j1;have hend:=lastF_end (fr:=fr) (cd:=cd) hf0 hf1 j1 j1;rw [hF] at hge hno hyes hend;clear hc;obtain⟨HF,HE,HV,HE',HV',Hno,Hyes,Hend⟩:=hid8 hF hE hV hE' hV' hno hyes hend;clear hend hyes hno hV' hE' hV hE hF;go_enter Tryz.func143,Tryz.ntmps143;go_wp2
   go_loopw [6] (λx wx=>∃n:Int,x= .int .i64 n/\fr<=n/\n<=F/\n<=2932897/\Keeps (λ_=>False) w wx) (λx _=>(2932900-intOf x).toNat)
   case atStart=>exact⟨fr,rfl,by omega,by omega,by omega,Keeps.refl _ _⟩
   case round=>
    obtain⟨n,rfl,hn0,hnF,hnL,hk⟩:=hrel;by_cases hn9:n<=2932896
    ·skip
     refine jc ?_;intro wq hwq;subst hwq;have hdt:=Ti (n+1) wq j1;obtain⟨D,hD⟩:∃D,(if n+1<=2932896 then dD (n+1) else 1)=D:=⟨_,rfl⟩
     have hstop:D=cd↔n=F:=by
      rw [<-hD];by_cases h1:n+1<=2932896
      ·rw [if_pos h1];by_cases h2:n=F
       ·subst h2;exact⟨λ_=>rfl,λ_=>Hyes.out h1⟩
       ·exact⟨λe=>absurd e (Hno.out n hn0 j1 h1),λe=>absurd e h2⟩
      ·rw [if_neg h1];have:=Hend.out j1
       constructor
       ·intro e;have:=this.2 e.symm;omega
       ·intro e;exact(this.1 j1).symm
     by_cases h1:n+1<=2932896
     ·have hd:dayIn (n+1)=true:=by simp [dayIn];omega
      rw [if_pos hd,if_pos hd] at hdt;rw [if_pos h1] at hD;rw [hD] at hdt;have h1':¬2932896<n+1:=j3;by_cases h2:n=F
      ·exact j6a
      ·have hDc:(D==cd)=false:=beq_eq_false_iff_ne.2 (λe=>h2 (hstop.1 e));exact j6b
     ·have hd:dayIn (n+1)=false:=by simp [dayIn];omega
      have hdd:¬dayIn (n+1)=true:=by rw [hd];decide
      rw [if_neg hdd,if_neg hdd] at hdt;rw [if_neg h1] at hD;subst hD;have hD:True:=trivial;have h1':2932896<n+1:=j3;clear hdd;by_cases h2:n=F
      ·exact j6a
      ·have hDc:((1:Int)==cd)=false:=beq_eq_false_iff_ne.2 (λe=>h2 (hstop.1 e));exact j6b
    ·have h:=HE'.out;rw [if_pos j1] at h;subst h;have h:=HV'.out;rw [if_neg j2] at h;subst h;have Hk:=Lib.hid hk;clear hk;go_wp2;exact bodyPost_ret (v:= .tuple #[.int .i64 0,.int .i64 10]) j1x rfl ⟨rfl,Hk.out⟩
  ·rw [if_pos hin] at hE';subst hE';rw [if_neg j2] at hV';subst hV';clear hc;obtain⟨HF,HE,HV⟩:=hid3 hF hE hV;clear hV hE hF;by_cases hf0:fr< -135140
   ·exact j6c
   ·have hf1:2932896<fr:=j3;exact j6c
structure OfAt(R:List (Int×Int)×Bool)(st cd day:Int)(k:Nat)(fr:Int):Prop where
 k3:k<=300
 two:R.2=(findW cd day (300-k) fr).2
 len:R.1.length=k+(findW cd day (300-k) fr).1.length
 st0:k=0->fr=st
 st1:0<k->lastE st cd=0/\st<=day/\fr<=day
theorem OfAt.next{R:List (Int×Int)×Bool}{st cd day:Int}{k:Nat}{fr:Int}(h:OfAt R st cd day k fr)(hk:k<300)(he:lastE fr cd=0)(hF:lastF fr cd<day)(hst:st<=day):OfAt R st cd day (k+1) (lastF fr cd+1):=by
 obtain⟨k3,two,len,st0,st1⟩:=h
 have he0:lastE st cd=0:=by
  rcases Nat.eq_zero_or_pos k with h|h
  ·rw [<-st0 h];exact he
  ·exact(st1 h).1
 obtain⟨f,hf⟩:∃f,300-(k+1)=f:=⟨_,rfl⟩;have hkk:300-k=f+1:=j3;rw [hkk] at two len;refine⟨by omega, ?_, ?_,by omega,λ_=>⟨he0,hst,by omega⟩⟩
 ·rw [hf];by_cases hf0:f=0
  ·subst hf0;rw [Dy he (λh=>h.2 rfl)] at two;rw [two,show decide (day<=lastF fr cd)=false by simp;omega];simp [findW]
  ·rw [Jp he ⟨hF,hf0⟩] at two;exact two
 ·rw [hf];by_cases hf0:f=0
  ·subst hf0;rw [Dy he (λh=>h.2 rfl)] at len;rw [len];rfl
  ·rw [Jp he ⟨hF,hf0⟩,List.length_cons] at len;omega
theorem ofE_0{R:List (Int×Int)×Bool}{st cd day:Int}(hR:findW cd day 300 st=R)(h:lastE st cd=0)(h2:R.2=true):ofE st cd day=0:=by unfold ofE;rw [if_pos h,hR,if_pos h2]
theorem ofE_10{R:List (Int×Int)×Bool}{st cd day:Int}(hR:findW cd day 300 st=R)(h:lastE st cd=0)(h2:R.2=false):ofE st cd day=10:=by unfold ofE;rw [if_pos h,hR,if_neg (by rw [h2];decide)]
theorem ofE_n{st cd day:Int}(h:¬lastE st cd=0):ofE st cd day=lastE st cd:=by unfold ofE;rw [if_neg h]
theorem ofV_R{R:List (Int×Int)×Bool}{st cd day:Int}(hR:findW cd day 300 st=R):ofV st cd day=if ofE st cd day=0 then(R.1.length:Int) else 0:=by unfold ofV;rw [hR]
theorem Pz(st cd day:Int)(w:World):Calls Tryz.prog 83 #[.int .i64 st,.int .i64 cd,.int .i64 day] w λe w'=>e= .returned (.tuple #[.int .i64 (ofV st cd day),.int .i64 (ofE st cd day)])/\Keeps (λ_=>False) w w':=by
 obtain⟨E,hE⟩:∃z,ofE st cd day=z:=⟨_,rfl⟩;obtain⟨V,hV⟩:∃z,ofV st cd day=z:=⟨_,rfl⟩;obtain⟨R,hR⟩:∃R,findW cd day 300 st=R:=⟨_,rfl⟩;have hV':=ofV_R hR;rw [hE,hV] at hV';rw [hE,hV];have h10:=ofE_10 hR;have h00:=ofE_0 hR;rw [hE] at h10 h00;have hnn:=ofE_n (st:=st) (cd:=cd) (day:=day);rw [hE] at hnn;have hof0:OfAt R st cd day 0 st:=⟨by omega,by rw [hR],by rw [hR];simp,λ_=>rfl,λh=>by omega⟩;obtain⟨HE,HV,HV',HR,H10,H00,Hnn,Hof0⟩:=hid8 hE hV hV' hR h10 h00 hnn hof0;clear hof0 hnn h00 h10 hR hV' hV hE;go_enter Tryz.func83,Tryz.ntmps83;go_wp2
 go_loopw [8,9] (λx y wx=>∃(k:Nat) (fr:Int),x= .int .i64 fr/\y= .int .i64 ((k:Int)+1)/\OfAt R st cd day k fr/\Keeps (λ_=>False) w wx) (λ_ y _=>400-(intOf y).toNat)
 case atStart=>exact⟨0,st,rfl,rfl,Hof0.out,Keeps.refl _ _⟩
 case round=>
  obtain⟨k,fr,rfl,rfl,hof,hk⟩:=hrel;refine jc ?_;intro wq hwq;subst hwq;have hk3:=hof.k3;by_cases hlt:k<300
  ·have hltI:(k:Int)+1<=300:=j3;have hla:=Lg fr cd wq;obtain⟨F,hF⟩:∃F,lastF fr cd=F:=⟨_,rfl⟩;by_cases he:lastE fr cd=0
   ·have hv:lastV fr cd=F:=by unfold lastV;rw [if_pos he,hF]
    rw [hv,he] at hla;obtain⟨o1,o2,o3,o4,o5,o6⟩:=Qj he;rw [hF] at o5 o6
    have he0:lastE st cd=0:=by
     rcases Nat.eq_zero_or_pos k with h|h
     ·rw [<-hof.st0 h];exact he
     ·exact(hof.st1 h).1
    have hkk:300-k=(300-(k+1))+1:=j3;by_cases hds:day<st
    ·have hk0:k=0:=by
      rcases Nat.eq_zero_or_pos k with h|h
      ·exact h
      ·have:=(hof.st1 h).2.1;omega
     have hfs:=hof.st0 hk0;have h2:=hof.two;rw [hkk,Dy he (by rw [hF];omega)] at h2;have hd:decide (fr<=day)=false:=by rw [decide_eq_false_iff_not];omega
     have h2':R.2=false:=by rw [h2];simp only [hd,Bool.false_and]
     clear h2;have h2:=h2';clear h2';have hE10:=H10.out he0 h2;subst hE10;have h:=HV'.out;rw [if_neg j2] at h;subst h;clear o1 o2 o3 o4;subst hk0;subst hfs;obtain⟨Hof,Hk,Hla,HF,He,He0,Hv,H2,Hd⟩:=hid9 hof hk hla hF he he0 hv h2 hd;clear hd h2 hv he0 he hF hla hk hof;exact j6d
    ·have hst:st<=day:=j3;by_cases hdF:day<=F
     ·have h2:=hof.two;have h3:=hof.len;rw [hkk,Dy he (by rw [hF];omega),hF] at h2 h3
      have hfd:fr<=day:=by
       rcases Nat.eq_zero_or_pos k with h|h
       ·rw [hof.st0 h];omega
       ·exact(hof.st1 h).2.2
      have hd:(decide (fr<=day)&&decide (day<=F))=true:=by simp [hfd,hdF]
      have h2':R.2=true:=by rw [h2];simp only [hd]
      clear h2;have h2:=h2';clear h2';have hE0:=H00.out he0 h2;subst hE0;have h:=HV'.out;rw [if_pos rfl,h3] at h;simp only [List.length_cons,List.length_nil,Nat.zero_add] at h;subst h;obtain⟨Hof,Hk,Hla,HF,He,He0,Hv,H2,H3⟩:=hid9 hof hk hla hF he he0 hv h2 h3;clear h3 h2 hv he0 he hF hla hk hof;have Hd:=Lib.hid hd;clear hd;rcases Nat.eq_zero_or_pos k with hk0|hk0
      ·subst hk0;go_wp2_with fail
       with_reducible refine Hla.out.mono ?_
       rintro e w1 ⟨rfl,hk1⟩;have Hk2:=Lib.hid (Hk.out.nt hk1);clear hk1;go_wp2;exact bodyPost_ret (v:= .tuple #[.int .i64 (((0:Nat):Int)+1),.int .i64 0]) j1y rfl ⟨rfl,Hk2.out⟩
      ·have hk1':((k:Int)+1==1)=false:=by rw [beq_eq_false_iff_ne];omega
       go_wp2_with fail
       with_reducible refine Hla.out.mono ?_
       rintro e w1 ⟨rfl,hk1⟩;have Hk2:=Lib.hid (Hk.out.nt hk1);clear hk1;go_wp2;exact bodyPost_ret (v:= .tuple #[.int .i64 ((k:Int)+1),.int .i64 0]) j1y rfl ⟨rfl,Hk2.out⟩
     ·have hnx:=hof.next hlt he (by rw [hF];omega) hst;rw [hF] at hnx;have hdF':F<day:=j3;obtain⟨Hof,Hk,Hla,HF,He,He0,Hv,Hnx⟩:=hid8 hof hk hla hF he he0 hv hnx;clear hnx hv he0 he hF hla hk hof;rcases Nat.eq_zero_or_pos k with hk0|hk0
      ·subst hk0;go_wp2_with fail
       with_reducible refine Hla.out.mono ?_
       rintro e w1 ⟨rfl,hk1⟩;have Hk2:=Lib.hid (Hk.out.nt hk1);clear hk1;go_wp2;go_roundw
       case rel=>exact⟨0+1,F+1,rfl,by go_num,Hnx.out,Hk2.out⟩
       case measure=>simp [intOf]
      ·have hk1':((k:Int)+1==1)=false:=by rw [beq_eq_false_iff_ne];omega
       go_wp2_with fail
       with_reducible refine Hla.out.mono ?_
       rintro e w1 ⟨rfl,hk1⟩;have Hk2:=Lib.hid (Hk.out.nt hk1);clear hk1;go_wp2;go_roundw
       case rel=>exact⟨k+1,F+1,rfl,by go_num,Hnx.out,Hk2.out⟩
       case measure=>simp [intOf];omega
   ·have hv:lastV fr cd=0:=by unfold lastV;rw [if_neg he]
    obtain⟨z,hz⟩:∃z,lastE fr cd=z:=⟨_,rfl⟩;rw [hv,hz] at hla;rcases Nat.eq_zero_or_pos k with hk0|hk0
    ·have hfs:=hof.st0 hk0;have hne:¬lastE st cd=0:=by rw [<-hfs];exact he
     obtain rfl:E=z:=(Hnn.out hne).trans (by rw [<-hfs];exact hz);rw [hz] at he;have h:=HV'.out;rw [if_neg he] at h;subst h;subst hk0;have hzI:(E !=0)=true:=by simp [he]
     obtain⟨Hof,Hk,Hla,HF,Hv,Hz,Hne,Hfs⟩:=hid8 hof hk hla hF hv hz hne hfs;clear hfs hne hz hv hF hla hk hof;go_wp2_with fail
     with_reducible refine Hla.out.mono ?_
     rintro e w1 ⟨rfl,hk1⟩;have Hk2:=Lib.hid (Hk.out.nt hk1);clear hk1;go_wp2;exact bodyPost_ret (v:= .tuple #[.int .i64 0,.int .i64 E]) j1y rfl ⟨rfl,Hk2.out⟩
    ·have he0:=(hof.st1 hk0).1;have h2:=hof.two;rw [Jw he] at h2;have hE10:=H10.out he0 h2;subst hE10;have h:=HV'.out;rw [if_neg j2] at h;subst h;rw [hz] at he;have hzI:(z !=0)=true:=by simp [he]
     have hk1':((k:Int)+1==1)=false:=by rw [beq_eq_false_iff_ne];omega
     obtain⟨Hof,Hk,Hla,HF,Hv,Hz,He0,H2⟩:=hid8 hof hk hla hF hv hz he0 h2;clear h2 he0 hz hv hF hla hk hof;exact j6d
  ·obtain rfl:k=300:=by omega
   have he0:=(hof.st1 j1).1;have h2:=hof.two;obtain rfl:E=10:=H10.out he0 h2;have h:=HV'.out;rw [if_neg j2] at h;subst h;have Hk2:=Lib.hid hk;obtain⟨Hof,He0,H2⟩:=hid3 hof he0 h2;clear h2 he0 hof;exact j6e
theorem Rs(t:Tm)(L:List Ev)(td:Int):Cs t L td=if Fj t L=0 then(if 2000<L.length then 14 else if td<t.start\/2932896<td then 10 else if¬ofE t.start t.cyc td=0 then 10 else if L.any (lateQ td)=true then 10 else 0) else Fj t L:=by
 unfold Cs Fj;by_cases h:t.err=0
 ·simp only [if_pos h]
 ·rw [if_neg h,if_neg h,if_neg j2]
theorem Kg(t:Tm)(adt:Option Addr)(ct nt:Nat)(L:List Ev)(ad:Option Addr)(cap n:Nat)(td:Int)(w:World)(hnt:t.trs.length=nt)(htr:Reads w 2 (.slice adt nt ct) nt (t.trs.flatMap Tn.cells))(hn:L.length=n)(hr:Reads w 5 (.slice ad n cap) n (L.flatMap Ev.cells))(hl:n<=1000000)(htl:nt<=1000000):
  Calls Tryz.prog 109 #[.agg #[.int .i64 t.limit,.slice adt nt ct,.int .i64 t.cyc,.int .i64 t.due,.int .i64 t.minFixed,.int .i64 t.minPart,.int .i64 t.start],.slice ad n cap,.int .i64 td] w λe w'=>e= .returned (.int .i64 (Cs t L td))/\Keeps (λ_=>False) w w':=by
 have hri:=λW (hW:Keeps (λ_=>False) w W)=>Pv t adt ct L ad cap W j2j jN j1 j1;obtain⟨z,hz⟩:∃z,Cs t L td=z:=⟨_,rfl⟩;have hz':=hz;rw [Rs,hn] at hz';obtain⟨q,hq⟩:∃q,Fj t L=q:=⟨_,rfl⟩;rw [hz];simp only [Tm.val] at hri;rw [hnt,hn,hq] at hri;rw [hq] at hz';have hof:=λW=>Pz t.start t.cyc td W;obtain⟨oV,hoV⟩:∃y,ofV t.start t.cyc td=y:=⟨_,rfl⟩;obtain⟨oE,hoE⟩:∃y,ofE t.start t.cyc td=y:=⟨_,rfl⟩;rw [hoV,hoE] at hof;rw [hoE] at hz';have hbx:∀W,Keeps (λ_=>False) (w.alloc (.cells #[.int .i64 t.limit,.slice adt nt ct,.int .i64 t.cyc,.int .i64 t.due,.int .i64 t.minFixed,.int .i64 t.minPart,.int .i64 t.start] 24)) W->W.heap[w.heap.size]?=some (.cells #[.int .i64 t.limit,.slice adt nt ct,.int .i64 t.cyc,.int .i64 t.due,.int .i64 t.minFixed,.int .i64 t.minPart,.int .i64 t.start] 24 (0,0)):=λW hW=>Ac (heap_alloc_new w _) hW (by simp);by_cases hq0:q=0
 ·subst hq0;rw [if_pos rfl] at hz';by_cases h2:2000<n
  ·have h2I:decide ((2000:Int)<(n:Int))=true:=by rw [decide_eq_true_iff];omega
   rw [if_pos h2] at hz';exact j6f
  ·have h2I:decide ((2000:Int)<(n:Int))=false:=by rw [decide_eq_false_iff_not];omega
   rw [if_neg h2] at hz';obtain⟨bad,hbad⟩:∃b:Bool,decide (td<t.start\/2932896<td\/¬oE=0)=b:=⟨_,rfl⟩;obtain⟨b1,hb1⟩:∃b:Bool,decide (td<t.start)=b:=⟨_,rfl⟩;obtain⟨b2,hb2⟩:∃b:Bool,decide (2932896<td)=b:=⟨_,rfl⟩;obtain⟨b3,hb3⟩:∃b:Bool,(oE !=0)=b:=⟨_,rfl⟩
   cases bad with
   |true=>
    have hz10:z=10:=by
     rw [decide_eq_true_iff] at hbad;by_cases ha:td<t.start\/2932896<td
     ·rw [if_pos ha] at hz';exact hz'.symm
     ·rw [if_neg ha,if_pos j1] at hz';exact hz'.symm
    have hbb:b1=true\/b2=true\/b3=true:=by
     rw [decide_eq_true_iff] at hbad;rcases hbad with h|h|h
     ·exact .inl (by rw [<-hb1];simp [h])
     ·exact .inr (.inl (by rw [<-hb2];simp [h]))
     ·exact .inr (.inr (by rw [<-hb3];simp [h]))
    subst hz10;obtain⟨Hnt,Htr,Hn,Hr,Hri,Hz,Hz',Hq,Hof⟩:=hid9 hnt htr hn hr hri hz hz' hq hof;clear hof hq hz' hz hri hr hn htr hnt;obtain⟨HoV,HoE,Hbx,Hbad,Hbb⟩:=hid5 hoV hoE hbx hbad hbb;clear hbb hbad hbx hoE hoV;go_enter Tryz.func109,Tryz.ntmps109;go_wp2_with fail;refine(Hri.out _ (Keeps.alloc _ _)).mono ?_;rintro e w1 ⟨rfl,hk1⟩;have hb:=Hbx.out _ hk1;have c2:=Aa hb 2;have c6:=Aa hb 6;have cl:=lt_of_block hb;have hkw:=(Keeps.alloc (S:=λ_=>False) w _).nt hk1;obtain⟨Hk1,Hb,Hkw⟩:=hid3 hk1 hb hkw;clear hkw hb hk1;go_wp2_with fail;refine(Hof.out _).mono ?_;rintro e w2 ⟨rfl,hk2⟩;have hb:=Ac Hb.out hk2 (by simp);have hkw2:=Hkw.out.nt hk2;clear c2 c6 cl;have c6:=Aa hb 6;have cl:=lt_of_block hb;obtain⟨Hk2,Hb,Hkw2⟩:=hid3 hk2 hb hkw2;clear hkw2 hb hk2;rcases b1 with _|_<;>rcases b2 with _|_<;>rcases b3 with _|_
    ·exact absurd Hbb.out j2
    all_goals (go_wp2;go_ret;exact⟨rfl,Hkw2.out⟩)
   |false=>
    rw [decide_eq_false_iff_not] at hbad;rw [if_neg j1,if_neg j1] at hz';obtain rfl:b1=false:=by rw [<-hb1,decide_eq_false_iff_not];omega
    obtain rfl:b2=false:=by rw [<-hb2,decide_eq_false_iff_not];omega
    obtain rfl:oE=0:=by omega
    clear b3 hb3;obtain⟨Hnt,Htr,Hn,Hr,Hri,Hz,Hz',Hq,Hof⟩:=hid9 hnt htr hn hr hri hz hz' hq hof;clear hof hq hz' hz hri hr hn htr hnt;obtain⟨HoV,HoE,Hbx,Hbad⟩:=hid4 hoV hoE hbx hbad;clear hbad hbx hoE hoV;go_enter Tryz.func109,Tryz.ntmps109;go_wp2_with fail;refine(Hri.out _ (Keeps.alloc _ _)).mono ?_;rintro e w1 ⟨rfl,hk1⟩;have hb:=Hbx.out _ hk1;have c2:=Aa hb 2;have c6:=Aa hb 6;have cl:=lt_of_block hb;have hkw:=(Keeps.alloc (S:=λ_=>False) w _).nt hk1;obtain⟨Hk1,Hb,Hkw⟩:=hid3 hk1 hb hkw;clear hkw hb hk1;go_wp2_with fail;refine(Hof.out _).mono ?_;rintro e w2 ⟨rfl,hk2⟩;have hb:=Ac Hb.out hk2 (by simp);have hkw2:=Hkw.out.nt hk2;clear c2 c6 cl;have c6:=Aa hb 6;have cl:=lt_of_block hb;obtain⟨Hk2,Hb,Hkw2⟩:=hid3 hk2 hb hkw2;clear hkw2 hb hk2;go_wp2_with fail
    go_loop [8] (λx=>∃k:Nat,x= .int .i64 (k:Nat)/\k<=n/\∀j y,j<k->L[j]?=some y->lateQ td y=false) (λx=>n-(intOf x).toNat)
    case atStart=>exact⟨0,rfl,Nat.zero_le _,λj y h=>absurd h (Nat.not_lt_zero _)⟩
    case round=>
     obtain⟨k,rfl,hkn,hall⟩:=hrel;by_cases hlt:k<n
     ·have hltI:(k:Int)<(n:Int):=j3;obtain⟨x,hx⟩:=Aj (L:=L) (k:=k) jy;obtain⟨g,o,c',he,hc⟩:=(Hr.out.keeps Hkw2.out (by simp)).elem Ev.Aq hx j2;simp only [Value.slice.injEq,true_and] at he;obtain⟨rfl,rfl⟩:=he;have x1:w2.cell? ⟨g,o+k*5+1,none⟩=some (.int .i64 x.day):=hc 1 j2;have hgl:=Ai x1;clear hc;obtain⟨b,hbl⟩:∃b,lateQ td x=b:=⟨_,rfl⟩;have hbI:decide (td<x.day)=b:=hbl
      cases b with
      |true=>
       have hz10:z=10:=by
        have h:=Hz'.out;rw [if_pos (List.any_eq_true.2 ⟨x,List.mem_of_getElem? hx,hbl⟩)] at h;exact h.symm
       subst hz10;obtain⟨Hall,Hx,Hbl⟩:=hid3 hall hx hbl;clear hbl hx hall;go_wp2;go_ret;exact⟨rfl,Hkw2.out⟩
      |false=>
       have hall2:∀j y,j<k+1->L[j]?=some y->lateQ td y=false:=λj y hj hy=>by
        rcases Nat.lt_or_ge j k with h|h
        ·exact hall j y h hy
        ·obtain rfl:j=k:=by omega
         rw [hx] at hy;cases hy;exact hbl
       obtain⟨Hall,Hall2,Hx,Hbl⟩:=hid4 hall hall2 hx hbl;clear hbl hx hall2 hall;go_wp2
       go_round
       case rel=>exact⟨k+1,by go_num,by omega,Hall2.out⟩
       case measure=>simp [intOf];omega
     ·obtain rfl:n=k:=by omega
      have hz0:z=0:=by
       have h:=Hz'.out;rw [if_neg] at h
       ·exact h.symm
       ·intro hc;obtain⟨x,hx,hb⟩:=List.any_eq_true.1 hc;obtain⟨j,hj⟩:=List.getElem?_of_mem hx;have:=hall j x (by rw [<-Hn.out];exact Cj hj) hj;rw [this] at hb;exact absurd hb j2
      subst hz0;have Hall:=Lib.hid hall;clear hall;go_wp2;go_ret;exact⟨rfl,Hkw2.out⟩
 ·have hqI:(q !=0)=true:=by simp [hq0]
  rw [if_neg hq0] at hz';exact j6f
section
variable {w0 Z:World} {B:Nat} {p:Ps} {R:List Int} {E:Nat->List (List Int)} {vb vr vo vp:Value} {vs:Nat->Value} {F:Nat->List SI} {P:List SV} {m:Nat} {Q:List Value} {W:World}
theorem DocV.growB(h:DocV w0 Z B p R E vb vr vo vp vs F P m Q W)(hne:∀g,vb.ownBlock=some g->vr.ownBlock≠some g){w4 w5:World}{v:Int}{u:Value}(hk4:Keeps (λ_=>False) W w4)(hk5:Keeps (λi=>vb.ownBlock=some i) w4 w5)
  (hr:w5.ownsRow 0 2 1 u (p.bal.length+1) ((p.bal++ [v]).flatMap i64c)) (hf:u.ownBlock=vb.ownBlock\/∃g,u.ownBlock=some g/\w4.heap.size<=g):
  DocV w0 Z B ⟨p.bal++ [v],p.cr,p.du⟩ R E u vr vo vp vs F P m Q (w5.setCell ⟨B,0,none⟩ u)/\(∀g,(u).ownBlock=some g->(vr).ownBlock≠some g):=by
 have h4:=h.keep0 hk4;have hs4:=hk4.size;have hs5:=hk5.size;have hro:=h4.bal
 have hnewb:∀b,u.ownBlock=some b->vb.ownBlock=some b\/W.heap.size<=b:=λb hb=>by
  exact j0n
 have nr:∀{e:TypeId} {sz m:Nat} {u:Value} {xs:List Value},w4.ownsRow 0 e sz u m xs->e≠2->∀b,u.ownBlock=some b->¬vb.ownBlock=some b:=λhr' hne b hb e=>Cm hr' hro hne hb e;have h5b:=Ac h4.blk hk5 (Ag hro h4.blk j2);have kg:Keeps (λi=>i=B) w5 (w5.setCell ⟨B,0,none⟩ u):=Keeps.setCell _ _ _ rfl;have gb:∀{e:TypeId} {sz m:Nat} {u:Value} {xs:List Value},w5.ownsRow 0 e sz u m xs->115≠e->∀b,u.ownBlock=some b->¬b=B:=λhr' hne b hb e=>by subst e;exact Ag hr' h5b hne hb
 have r5:∀{e:TypeId} {sz m:Nat} {x:Value} {xs:List Value},w4.ownsRow 0 e sz x m xs->(∀b,x.ownBlock=some b->¬vb.ownBlock=some b)->115≠e->(w5.setCell ⟨B,0,none⟩ u).ownsRow 0 e sz x m xs:=λhr' hd hne=>kg.row (hk5.row hr' hd) (gb (hk5.row hr' hd) hne);have hw:∀b,u.ownBlock=some b->w0.heap.size<=b:=λb hb=>(hnewb b hb).elim (h.wb b) (λe=>by have:=h.kp.size;omega)
 refine⟨{ h4 with
  blk:=(heap_setCell_same _ _ 0 _ _ u h5b).trans rfl
  bal:=by rw [List.length_append];exact kg.row hr (gb hr j2)
  rts:=r5 h4.rts (λb hb e=>hne b e hb) j2
  out:=r5 h4.out (nr h4.out j2) j2
  ln:=λy hy=>r5 (h4.ln y hy) (nr (h4.ln y hy) j2) j2
  pst:=r5 h4.pst (nr h4.pst j2) j2
  o:=λa ha=>r5 (h4.o a ha) (nr (h4.o a ha) j2) j2
  i:=λa ha x hx=>r5 (h4.i a ha x hx) (λb hb e=>(h.db a ha x hx b hb).1 e) j2
  db:=λa ha x hx g hg=>⟨λe=>(hnewb g e).elim (h.db a ha x hx g hg).1 (λe=>by have:=Bh (h.i a ha x hx) hg;omega),(h.db a ha x hx g hg).2⟩
  wb:=hw
  kp:=(h4.kp.trans (hk5.mono λi _ e=> .inr (h.wb i e))).trans (kg.mono λi _ e=> .inr j1r)
  fz:=(h4.fz.step hk5 (λi e=>by obtain⟨c,fz,hc⟩:=Dm hro e;exact⟨c,_,fz,hc,.inr (.inl rfl)⟩)).step kg (λi e=>by have e':i=B:=e;subst e';exact⟨_,_,_,h5b,.inl rfl⟩) },λg hg e=> ?_⟩
 rcases hnewb g hg with h1|h1
 ·exact hne g h1 e
 ·have:=Bh h.rts e;omega
theorem DocV.growR(h:DocV w0 Z B p R E vb vr vo vp vs F P m Q W)(hne:∀g,vb.ownBlock=some g->vr.ownBlock≠some g){w4 w5:World}{v:Int}{u:Value}(hk4:Keeps (λ_=>False) W w4)(hk5:Keeps (λi=>vr.ownBlock=some i) w4 w5)
  (hr:w5.ownsRow 0 2 1 u (R.length+1) ((R++ [v]).flatMap i64c)) (hf:u.ownBlock=vr.ownBlock\/∃g,u.ownBlock=some g/\w4.heap.size<=g):
  DocV w0 Z B p (R++ [v]) E vb u vo vp vs F P m Q (w5.setCell ⟨B,3,none⟩ u)/\(∀g,(vb).ownBlock=some g->(u).ownBlock≠some g):=by
 have h4:=h.keep0 hk4;have hs4:=hk4.size;have hs5:=hk5.size;have hro:=h4.rts
 have hnewb:∀b,u.ownBlock=some b->vr.ownBlock=some b\/W.heap.size<=b:=λb hb=>by
  exact j0n
 have nr:∀{e:TypeId} {sz m:Nat} {u:Value} {xs:List Value},w4.ownsRow 0 e sz u m xs->e≠2->∀b,u.ownBlock=some b->¬vr.ownBlock=some b:=λhr' hne b hb e=>Cm hr' hro hne hb e;have h5b:=Ac h4.blk hk5 (Ag hro h4.blk j2);have kg:Keeps (λi=>i=B) w5 (w5.setCell ⟨B,3,none⟩ u):=Keeps.setCell _ _ _ rfl;have gb:∀{e:TypeId} {sz m:Nat} {u:Value} {xs:List Value},w5.ownsRow 0 e sz u m xs->115≠e->∀b,u.ownBlock=some b->¬b=B:=λhr' hne b hb e=>by subst e;exact Ag hr' h5b hne hb
 have r5:∀{e:TypeId} {sz m:Nat} {x:Value} {xs:List Value},w4.ownsRow 0 e sz x m xs->(∀b,x.ownBlock=some b->¬vr.ownBlock=some b)->115≠e->(w5.setCell ⟨B,3,none⟩ u).ownsRow 0 e sz x m xs:=λhr' hd hne=>kg.row (hk5.row hr' hd) (gb (hk5.row hr' hd) hne);have hw:∀b,u.ownBlock=some b->w0.heap.size<=b:=λb hb=>(hnewb b hb).elim (h.wr b) (λe=>by have:=h.kp.size;omega)
 refine⟨{ h4 with
  blk:=(heap_setCell_same _ _ 3 _ _ u h5b).trans rfl
  rts:=by rw [List.length_append];exact kg.row hr (gb hr j2)
  bal:=r5 h4.bal (λb hb e=>hne b hb e) j2
  out:=r5 h4.out (nr h4.out j2) j2
  ln:=λy hy=>r5 (h4.ln y hy) (nr (h4.ln y hy) j2) j2
  pst:=r5 h4.pst (nr h4.pst j2) j2
  o:=λa ha=>r5 (h4.o a ha) (nr (h4.o a ha) j2) j2
  i:=λa ha x hx=>r5 (h4.i a ha x hx) (λb hb e=>(h.db a ha x hx b hb).2 e) j2
  db:=λa ha x hx g hg=>⟨(h.db a ha x hx g hg).1,λe=>(hnewb g e).elim (h.db a ha x hx g hg).2 (λe=>by have:=Bh (h.i a ha x hx) hg;omega)⟩
  wr:=hw
  kp:=(h4.kp.trans (hk5.mono λi _ e=> .inr (h.wr i e))).trans (kg.mono λi _ e=> .inr j1r)
  fz:=(h4.fz.step hk5 (λi e=>by obtain⟨c,fz,hc⟩:=Dm hro e;exact⟨c,_,fz,hc,.inr (.inl rfl)⟩)).step kg (λi e=>by have e':i=B:=e;subst e';exact⟨_,_,_,h5b,.inl rfl⟩) },λg hg e=> ?_⟩
 rcases hnewb g e with h1|h1
 ·exact hne g hg h1
 ·have:=Bh h.bal hg;omega
theorem DocV.new(w:World):DocV w w w.heap.size ⟨[],0,0⟩ [] (λ_=> []) (.slice none 0 0) (.slice none 0 0) (.slice none 0 0) (.slice none 0 0) (λ_=> .slice none 0 0) (λ_=> []) [] 0 [] (w.alloc (.cells #[.slice none 0 0,.int .i64 0,.int .i64 0,.slice none 0 0,.slice none 0 0,.slice none 0 0,.slice none 0 0,.slice none 0 0,.slice none 0 0] 115)) where
 blk:=heap_alloc_new w _
 bal:=World.ownsRow_nil _ _ _ _
 rts:=World.ownsRow_nil _ _ _ _
 out:=World.ownsRow_nil _ _ _ _
 ln:=λx hx=>by cases hx
 pst:=World.ownsRow_nil _ _ _ _
 o:=λa _=>World.ownsRow_nil _ _ _ _
 i:=λa _ x hx=>by cases hx
 l:=λa _=>rfl
 d:=λa b _ _ j k x y hx=>by simp at hx
 db:=λa _ x hx=>by cases hx
 go:=λa b _ _ _ g hg=>by cases hg
 wB:=Nat.le_refl _
 wb:=λg hg=>by cases hg
 wr:=λg hg=>by cases hg
 wo:=λg hg=>by cases hg
 wp:=λg hg=>by cases hg
 ws:=λa _ g hg=>by cases hg
 wi:=λa _ x hx=>by cases hx
 wl:=λx hx=>by cases hx
 kp:=Keeps.alloc _ _
 fz:=λi c e f hz _=>Ap hz _
end
def laid(cur:List Value)(o:Nat)(cs:List Value):List Value:=cur.take o++cs++cur.drop (o+cs.length)
def bxS(E:Nat)(ki da tr am re:Int)(w:World):Prop:=
 w.cell? ⟨E,0,none⟩=some (.int .i64 ki)/\w.cell? ⟨E,1,none⟩=some (.int .i64 da)/\w.cell? ⟨E,2,none⟩=some (.int .i64 tr)/\w.cell? ⟨E,3,none⟩=some (.int .i64 am)/\w.cell? ⟨E,4,none⟩=some (.int .i64 re)
theorem bxS.of{E:Nat}{ki da tr am re:Int}{w:World}(he:w.heap[E]?=some (.cells #[.int .i64 ki,.int .i64 da,.int .i64 tr,.int .i64 am,.int .i64 re] 32 (0,0))):bxS E ki da tr am re w:=
 ⟨Aa he 0,Aa he 1,Aa he 2,Aa he 3,Aa he 4⟩
def Ey(w:World)(M:List Ev)(e:Ending)(w':World):Prop:=∃v',e= .returned v'/\w'.ownsRow 0 32 5 v' M.length (M.flatMap Ev.cells)/\Fresh w w' v'
theorem Fresh.up{w w':World}{o:Obj}{v:Value}(h:Fresh (w.alloc o) w' v):Fresh w w' v:=⟨(Keeps.alloc w o).nt h.1,λg hg=>by have:=h.2 g hg;simp at this;omega⟩
def bxS1(E:Nat)(_ da _ _ _:Int)(g o:Nat)(x:Int)(w:World):Prop:=w.cell? ⟨g,o,none⟩=some (.int .i64 x)/\w.cell? ⟨E,1,none⟩=some (.int .i64 da)
theorem Vm(e:Ev)(w:World):Calls Tryz.prog 172 #[.slice none 0 0,e.agg] w (Ey w (putL [] e)):=by
 obtain⟨i0,hi,hi0,hi1,hi2⟩:=info_parts Es;obtain⟨ki,da,tr,am,re⟩:=e;obtain⟨L,hL⟩:∃L:List Ev,L= []:=⟨_,rfl⟩;have hn:L.length=0:=by rw [hL];rfl
 have hr:w.ownsRow 0 32 5 (.slice none 0 0) 0 (L.flatMap Ev.cells):=by rw [hL];exact World.ownsRow_nil _ _ _ _
 have hp:placeOf da L 0=0:=by rw [hL];rfl
 rw [<-hL];refine j1z ?_;intro hbS;have hk:Keeps (λ_=>False) (w.alloc (.cells #[.int .i64 ki,.int .i64 da,.int .i64 tr,.int .i64 am,.int .i64 re] 32)) (w.alloc (.cells #[.int .i64 ki,.int .i64 da,.int .i64 tr,.int .i64 am,.int .i64 re] 32)):=Keeps.refl _ _;simp only [Ev.agg];obtain⟨Hi,Hi0,Hi1,Hi2,HbS,Hn,Hr,Hp,Hk⟩:=hid9 hi hi0 hi1 hi2 hbS hn hr hp hk;clear hk hp hr hn hbS hi2 hi1 hi0 hi;have HL:=Lib.hid hL;clear hL;go_enter Tryz.func172,Tryz.ntmps172;go_wp2
 go_loopw [5] (λx wx=>x= .int .i64 0/\Keeps (λ_=>False) (w.alloc (.cells #[.int .i64 ki,.int .i64 da,.int .i64 tr,.int .i64 am,.int .i64 re] 32)) wx) (λx _=>(intOf x).toNat)
 case atStart=>exact⟨rfl,Keeps.refl _ _⟩
 case round=>
  obtain⟨rfl,hk⟩:=hrel;clear Hk;have Hk:=Lib.hid hk;clear hk;go_wp2_with fail;refine Ak (bxS w.heap.size ki da tr am re) (.take 0 (.take 1 (.take 2 (.take 3 (.take 4 (.take 5 (.take 6 (.take 7 (.take 8 (.take 9 (.take 10 (.take 11 (.take 12 .done))))))))))))) j4 j4 ?_ ?_
  ·exact HbS.out _ (Hk.out.nt (Keeps.drew _))
  intro w1 hs1 hk1;refine jf ?_;have Hk:=jW;clear hs1 hk1;go_wp2_with fail;refine j6g ?_;intro hkn hlm hkI hkI0 hkI2 hend;have hsuf:Reads (w.alloc (.cells #[.int .i64 ki,.int .i64 da,.int .i64 tr,.int .i64 am,.int .i64 re] 32)) 5 (.slice none 0 0) (0) ((L.drop 0).flatMap Ev.cells):=by have h0:L= []:=List.eq_nil_of_length_eq_zero Hn.out;rw [h0];exact Reads.nil _ _
  obtain⟨Hend,Hsuf,Hkn⟩:=hid3 hend hsuf hkn;clear hkn hsuf hend;refine Ak (bxS w.heap.size ki da tr am re) (.take 0 (.take 1 (.take 2 (.take 4 (.take 7 (.take 8 (.take 9 (.fork 3 (.move 5 (.move 6 (.move 10 (.take 11 .done)))) 5 (.move 3 (.move 6 (.move 10 (.take 11 .done)))))))))))) j4 j4 ?_ ?_
  ·exact j0z
  intro w1 hs1 hk1;refine j0A ?_;intro Hkw Hread;clear hs1 hk1;refine jR ?_;refine Bz ?_ ?_ (HbS.out _ Hkw.out)
  ·skip
   refine j2T ?_;intro K hK v2 w2 hown2 hk2 hf2 hfr2 hbs2;obtain⟨ad2,c2,rfl,_,_⟩:=Ad hown2;simp only [Nat.zero_add,List.nil_append] at hown2 hfr2⊢;refine jC ?_;clear hK K;refine j5 ?_;obtain⟨Hown2,Hfr2,Hbs2⟩:=hid3 hown2 hfr2 hbs2;clear hbs2 hfr2 hown2;clear hf2 hk2;refine j0B ?_;refine j2U ?_;intro K hK v3 w3 hown3 hk3 hf3 hfr3;exact j6h
  ·skip
   refine j0C ?_;refine j2V ?_;intro K hK v2 w2 hown2 hk2 hf2 hfr2 hbs2;obtain⟨ad2,c2,rfl,_,_⟩:=Ad hown2;refine j0D ?_;intro hbx2;simp only [Nat.zero_add,List.nil_append] at hown2 hfr2 hbx2⊢;refine jC ?_;clear hK K;refine j5 ?_;obtain⟨Hown2,Hfr2,Hbs2,Hbx2⟩:=hid4 hown2 hfr2 hbs2 hbx2;clear hbx2 hbs2 hfr2 hown2;clear hf2 hk2;refine j2W ?_;intro K hK v3 w3 hown3 hk3 hf3 hfr3;exact j6h
end Go.Proofs.YtgfkeeicjjbnpaaGreat
