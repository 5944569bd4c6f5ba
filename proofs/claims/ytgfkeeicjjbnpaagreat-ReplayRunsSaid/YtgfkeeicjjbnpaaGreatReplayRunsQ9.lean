/- Part 9 of the proof of ReplayRuns: walks and plain laws. -/
import Derived.Test.YtgfkeeicjjbnpaaGreatReplayRunsQ8
set_option maxRecDepth 100000
set_option maxHeartbeats 6400000
namespace Go.Proofs.YtgfkeeicjjbnpaaGreat
open Go.RowKit
theorem Ll(R:List Int)(hi0:Bool)(ad:Option Addr)(cap n:Nat)(w:World)(hr:Reads w 1 (.slice ad n cap) n (R.flatMap i64c))(hN:R.length=n)(hl:n<=1000):
  Calls Tryz.prog 269 #[.slice ad n cap,.bool hi0] w λe w'=>∃v,e= .returned v/\OrdR w hi0 R n v w':=by
 obtain⟨i0,hi,hi0',hi1,hi2⟩:=info_parts Jv;have Hi0:=Lib.hid hi0';clear hi0';obtain⟨Hr,HN,Hi,Hi1,Hi2⟩:=hid5 hr hN hi hi1 hi2;clear hi2 hi1 hi hN hr;go_enter Tryz.func269,Tryz.ntmps269;go_wp2
 go_loopw [5,6] (λx y wx=>∃(i:Nat) (v:Value),v=x/\y= .int .i64 (i:Nat)/\i<=n/\(i=0->v= .slice none 0 0)/\OrdR w hi0 R i v wx) (λ_ y _=>n-(intOf y).toNat)
 case atStart=>exact⟨0,_,rfl,rfl,Nat.zero_le _,λ_=>rfl,World.ownsRow_nil _ _ _ _,Keeps.refl _ _,by simp [Value.ownBlock]⟩
 case round=>
  obtain⟨i,v,rfl,rfl,hin,hv0,hrow,hfr⟩:=hrel;refine jc ?_;intro wq hwq;subst hwq;have hlen:=Cz hi0 R i;by_cases hlt:i<n
  ·have hltI:(i:Int)<(n:Int):=j3;obtain⟨O,hO⟩:∃O,rankN hi0 R i=O:=⟨_,rfl⟩;obtain⟨r,hx⟩:=Aj (L:=R) (k:=i) jw;have hwi1:IntKind.i64.wrap ((i:Int)+1)=(i:Int)+1:=by rw [IntKind.wrap_i64];omega
   have hget:R.getD i 0=r:=by rw [List.getD_eq_getElem?_getD,hx];rfl
   rw [hO] at hrow hlen;by_cases hi00:i=0
   ·subst hi00;obtain rfl:=hv0 rfl;have hpl:plR hi0 R r O 0=0:=rfl;have hO0:O= []:=List.eq_nil_of_length_eq_zero hlen;obtain⟨Hrow,Hfr,Hlen,HO,Hx,Hget,Hv0⟩:=hid7 hrow hfr hlen hO hx hget hv0;clear hv0 hget hx hO hlen hfr hrow;go_wp2
    go_loopw [7] (λx wx=>x= .int .i64 0/\Keeps (λ_=>False) wq wx) (λx _=>(intOf x).toNat)
    case atStart=>exact⟨rfl,Keeps.refl _ _⟩
    case round=>
     obtain⟨rfl,hkq⟩:=hrel;obtain⟨wi,hwi⟩:∃x,x=wr:=⟨_,rfl⟩;subst hwi;have hk0:decide ((0:Int)<0)=false:=by decide
     have hkw6':=Hfr.out.1.nt hkq;obtain⟨Hpl,Hkq⟩:=hid2 hpl hkq;clear hkq hpl;go_wp2_with fail;refine Ak (λ_=>True) (.take 0 (.take 1 (.take 2 (.take 3 (.take 4 (.take 5 (.take 6 (.take 7 (.take 8 (.take 9 (.take 10 (.take 11 (.take 12 (.take 13 (.take 14 (.take 15 (.take 16 (.take 17 (.take 18 (.take 19 (.take 20 (.take 21 (.take 22 (.take 23 (.take 24 (.take 25 (.take 26 (.take 27 (.take 28 (.take 29 (.take 30 (.take 31 (.take 32 (.take 33 (.take 34 (.take 35 (.take 36 (.take 37 (.take 38 (.take 39 (.take 40 .done))))))))))))))))))))))))))))))))))))))))) j4 j4 ?_ ?_
     ·trivial
     intro w6 hs6 hk6;refine jf ?_;clear hs6;refine j1m ?_;intro hkq6 hrow6 hkw6;obtain⟨Hkq6,Hrow6,Hkw6,Hk6,Hkw6'⟩:=hid5 hkq6 hrow6 hkw6 hk6 hkw6';clear hkw6' hk6 hkw6 hrow6 hkq6;go_wp2_with fail;have hkn:0<=0:=j3;have hlm:0+1+(0)<=1000001:=j3;have hlm2:0+1+(0)=0+1:=j3;have hkI:(0:Int)<=((0:Nat):Int):=j3;have hkI0:(0:Int)<=(0:Int):=j3;have hkI2:(0:Int)<=(0:Int):=j3
     have hend:∀v4 W4,World.ownsRow W4 0 3 1 v4 (0+1+(0)) ((O.take 0).flatMap i64c++ [.int .i64 (((0:Nat):Int)+1)]++(O.drop 0).flatMap i64c)->Fresh w6 W4 v4->OrdR w hi0 R (0+1+(0)) v4 W4:=by
      intro v4 W4 ho hf;refine⟨?_,Hkw6.out.nt hf.1,λg hg=>Nat.le_trans Hkw6.out.size (hf.2 g hg)⟩;rw [hlm2] at ho⊢;show W4.ownsRow 0 _ 1 v4 (0+1) ((insR hi0 R (0) (rankN hi0 R (0))).flatMap i64c);exact j07
     have hsuf:Reads w6 1 (.slice none 0 0) (0) ((O.drop 0).flatMap i64c):=by rw [List.drop_zero];exact Reads.Ay Hrow6.out
     obtain⟨Hend,Hsuf,Hkn,Hlm2⟩:=hid4 hend hsuf hkn hlm2;clear hlm2 hkn hsuf hend;refine Ak (λ_=>True) (.take 0 (.take 1 (.take 2 (.take 4 (.take 5 (.take 8 (.take 9 (.take 10 (.fork 3 (.move 6 (.move 7 (.move 11 (.take 12 .done)))) 6 (.move 3 (.move 7 (.move 11 (.take 12 .done))))))))))))) j4 j4 ?_ ?_
     ·trivial
     intro w7 hs7 hk7;refine j1n ?_;intro Hkw Hread;clear hs7 hk7;refine jR ?_;refine Bz ?_ ?_ trivial
     ·skip
      refine Ae rfl (λK hK=> ?_);refine Ah rfl (.const (.slice none 0 0)) (.tmp 61) 267 rfl 0 3 i0 _ 1 8 Tryz.underlying267 Hi.out Hi0.out Hi1.out Hi2.out rfl j2 (.slice none 0 0) 0 [] rfl (World.ownsRow_nil _ _ _ _) _ 0 _ rfl (Hread.out.preL Bg 0 Hkn.out) (Bo _) j6 j1 (Nat.zero_le _) ?_;intro v2 w2 hown2 hk2 hf2;have hfr2:=j0r;obtain⟨ad2,c2,rfl,_,_⟩:=Ad hown2;simp only [Nat.zero_add,List.nil_append] at hown2 hfr2⊢;refine jn ?_;clear hK K;refine j5 ?_;obtain⟨Hown2,Hfr2⟩:=hid2 hown2 hfr2;clear hfr2 hown2;clear hf2 hk2;refine jR ?_;refine jj ?_;refine Ae rfl (λK hK=> ?_);refine Ah rfl (.tmp 62) (.tmp 65) 267 rfl 0 3 i0 _ 1 8 Tryz.underlying267 Hi.out Hi0.out Hi1.out Hi2.out rfl j2 _ 0 _ rfl (Hown2.out.alloc _) _ 1 _ rfl (Reads.litAt _ _ _ 1 1 _ jd rfl) j9 j6 j1 (Nat.zero_le _) ?_;intro v3 w3 hown3 hk3 hf3;have hfr3:=j0s;exact j5k
     ·skip
      refine jj ?_;refine jk ?_;intro K hK;refine Ah rfl (.const (.slice none 0 0)) (.tmp 61) 267 rfl 0 3 i0 _ 1 8 Tryz.underlying267 Hi.out Hi0.out Hi1.out Hi2.out rfl j2 (.slice none 0 0) 0 [] rfl (World.ownsRow_nil _ _ _ _) _ 0 _ rfl ((Hread.out.preL Bg 0 Hkn.out).alloc _) (Bo _) j6 j1 (Nat.zero_le _) ?_;intro v2 w2 hown2 hk2 hf2;refine j0t ?_;intro hfr2;obtain⟨ad2,c2,rfl,_,_⟩:=Ad hown2;refine j1o ?_;intro hbx2;simp only [Nat.zero_add,List.nil_append] at hown2 hfr2 hbx2⊢;refine jn ?_;clear hK K;refine j5 ?_;obtain⟨Hown2,Hfr2,Hbx2⟩:=hid3 hown2 hfr2 hbx2;clear hbx2 hfr2 hown2;clear hf2 hk2;refine jk ?_;intro K hK;refine Ah rfl (.tmp 62) (.tmp 65) 267 rfl 0 3 i0 _ 1 8 Tryz.underlying267 Hi.out Hi0.out Hi1.out Hi2.out rfl j2 _ 0 _ rfl Hown2.out _ 1 _ rfl Hbx2.out j9 j6 j1 (Nat.zero_le _) ?_;intro v3 w3 hown3 hk3 hf3;have hfr3:=Hfr2.out.app hk3 hf3;exact j5k
   ·obtain⟨g,cap,rfl,hgl⟩:=Fa hrow j1;obtain⟨_,_,hsh,hic,_⟩:=Ad hrow;simp only [Value.slice.injEq,true_and] at hsh;obtain⟨hx9,rfl⟩:=hsh;clear hx9;have hicI:(i:Int)<=(cap:Int):=j3;obtain⟨Hrow,Hfr,Hlen,HO,Hx,Hget,Hv0⟩:=hid7 hrow hfr hlen hO hx hget hv0;clear hv0 hget hx hO hlen hfr hrow;go_wp2
    go_loopw [7] (λx wx=>∃k:Nat,x= .int .i64 (k:Nat)/\k<=i/\plR hi0 R r O i=plR hi0 R r O k/\Keeps (λ_=>False) wq wx) (λx _=>(intOf x).toNat)
    case atStart=>exact⟨i,rfl,Nat.le_refl _,rfl,Keeps.refl _ _⟩
    case round=>
     obtain⟨k,rfl,hki,hpl,hkq⟩:=hrel;obtain⟨wi,hwi⟩:∃x,x=wr:=⟨_,rfl⟩;subst hwi;by_cases hkz:k=0
     ·have hk0:decide (0<k)=false:=by rw [decide_eq_false_iff_not];omega
      have hpl:plR hi0 R r O i=k:=by rw [hpl,hkz];rfl
      obtain⟨Hpl,Hkq,Hkz⟩:=hid3 hpl hkq hkz;clear hkz hkq hpl;go_wp2_with fail;refine Ak (λ_=>True) (.take 0 (.take 1 (.take 2 (.take 3 (.take 4 (.take 5 (.take 6 (.take 7 (.take 8 (.take 9 (.take 10 (.take 11 (.take 12 (.take 13 (.take 14 (.take 15 (.take 16 (.take 17 (.take 18 (.take 19 (.take 20 (.take 21 (.take 22 (.take 23 (.take 24 (.take 25 (.take 26 (.take 27 (.take 28 (.take 29 (.take 30 (.take 31 (.take 32 (.take 33 (.take 34 (.take 35 (.take 36 (.take 37 (.take 38 (.take 39 (.take 40 .done))))))))))))))))))))))))))))))))))))))))) j4 j4 ?_ ?_
      ·trivial
      intro w6 hs6 hk6;refine jf ?_;clear hs6;refine j1m ?_;intro hkq6 hrow6 hkw6;obtain⟨Hkq6,Hrow6,Hkw6,Hk6⟩:=hid4 hkq6 hrow6 hkw6 hk6;clear hk6 hkw6 hrow6 hkq6;go_wp2_with fail;have hck2:¬(cap:Int)=(k:Int):=by have:=Hkz.out;omega
      have hck:¬cap=k:=by have:=Hkz.out;omega
      have hkn:k<=i:=j3;have hlm:k+1+(i-k)<=1000001:=j3;have hlm2:k+1+(i-k)=i+1:=j3;have hkI:(k:Int)<=((i:Nat):Int):=j3;have hkI0:(0:Int)<=(k:Int):=j3;have hkI2:(k:Int)<=(cap:Int):=j3
      have hend:∀v4 W4,World.ownsRow W4 0 3 1 v4 (k+1+(i-k)) ((O.take k).flatMap i64c++ [.int .i64 (((i:Nat):Int)+1)]++(O.drop k).flatMap i64c)->Fresh w6 W4 v4->OrdR w hi0 R (k+1+(i-k)) v4 W4:=by
       intro v4 W4 ho hf;refine⟨?_,Hkw6.out.nt hf.1,λg hg=>Nat.le_trans Hkw6.out.size (hf.2 g hg)⟩;rw [hlm2] at ho⊢;show W4.ownsRow 0 _ 1 v4 (i+1) ((insR hi0 R (i) (rankN hi0 R (i))).flatMap i64c);exact j07
      have hsuf:Reads w6 1 (.slice (some ⟨g,k,none⟩) (i-k) (cap-k)) (i-k) ((O.drop k).flatMap i64c):=by have:=(Reads.Ay Hrow6.out).sufL Bg k j1;rwa [Nat.zero_add,Nat.mul_one] at this
      obtain⟨Hend,Hsuf,Hkn,Hlm2⟩:=hid4 hend hsuf hkn hlm2;clear hlm2 hkn hsuf hend;refine Ak (λ_=>True) (.take 0 (.take 1 (.take 2 (.take 4 (.take 5 (.take 8 (.take 9 (.take 10 (.fork 3 (.move 6 (.move 7 (.move 11 (.take 12 .done)))) 6 (.move 3 (.move 7 (.move 11 (.take 12 .done))))))))))))) j4 j4 ?_ ?_
      ·trivial
      intro w7 hs7 hk7;refine j1n ?_;intro Hkw Hread;clear hs7 hk7;refine jR ?_;refine Bz ?_ ?_ trivial
      ·skip
       refine Ae rfl (λK hK=> ?_);refine Ah rfl (.const (.slice none 0 0)) (.tmp 61) 267 rfl 0 3 i0 _ 1 8 Tryz.underlying267 Hi.out Hi0.out Hi1.out Hi2.out rfl j2 (.slice none 0 0) 0 [] rfl (World.ownsRow_nil _ _ _ _) _ k _ rfl (Hread.out.preL Bg k Hkn.out) (Bo _) j6 j1 (Nat.zero_le _) ?_;intro v2 w2 hown2 hk2 hf2;have hfr2:=j0r;obtain⟨ad2,c2,rfl,_,_⟩:=Ad hown2;simp only [Nat.zero_add,List.nil_append] at hown2 hfr2⊢;refine jn ?_;clear hK K;refine j5 ?_;obtain⟨Hown2,Hfr2⟩:=hid2 hown2 hfr2;clear hfr2 hown2;clear hf2 hk2;refine jR ?_;refine jj ?_;refine Ae rfl (λK hK=> ?_);refine Ah rfl (.tmp 62) (.tmp 65) 267 rfl 0 3 i0 _ 1 8 Tryz.underlying267 Hi.out Hi0.out Hi1.out Hi2.out rfl j2 _ k _ rfl (Hown2.out.alloc _) _ 1 _ rfl (Reads.litAt _ _ _ 1 1 _ jd rfl) j9 j6 j1 (Nat.zero_le _) ?_;intro v3 w3 hown3 hk3 hf3;have hfr3:=j0s;exact j5l
      ·skip
       refine jj ?_;refine jk ?_;intro K hK;refine Ah rfl (.const (.slice none 0 0)) (.tmp 61) 267 rfl 0 3 i0 _ 1 8 Tryz.underlying267 Hi.out Hi0.out Hi1.out Hi2.out rfl j2 (.slice none 0 0) 0 [] rfl (World.ownsRow_nil _ _ _ _) _ k _ rfl ((Hread.out.preL Bg k Hkn.out).alloc _) (Bo _) j6 j1 (Nat.zero_le _) ?_;intro v2 w2 hown2 hk2 hf2;refine j0t ?_;intro hfr2;obtain⟨ad2,c2,rfl,_,_⟩:=Ad hown2;refine j1o ?_;intro hbx2;simp only [Nat.zero_add,List.nil_append] at hown2 hfr2 hbx2⊢;refine jn ?_;clear hK K;refine j5 ?_;obtain⟨Hown2,Hfr2,Hbx2⟩:=hid3 hown2 hfr2 hbx2;clear hbx2 hfr2 hown2;clear hf2 hk2;refine jk ?_;intro K hK;refine Ah rfl (.tmp 62) (.tmp 65) 267 rfl 0 3 i0 _ 1 8 Tryz.underlying267 Hi.out Hi0.out Hi1.out Hi2.out rfl j2 _ k _ rfl Hown2.out _ 1 _ rfl Hbx2.out j9 j6 j1 (Nat.zero_le _) ?_;intro v3 w3 hown3 hk3 hf3;have hfr3:=Hfr2.out.app hk3 hf3;exact j5l
     ·obtain⟨j,hj⟩:∃j,k=j+1:=⟨k-1,by omega⟩;subst hj;obtain⟨x,hxj⟩:=Aj (L:=O) (k:=j) (by rw [Hlen.out];omega);have hxm:=Dc (hi:=hi0) (R:=R) (n:=i) (x:=x) (by rw [HO.out];exact List.mem_of_getElem? hxj);obtain⟨q,hq⟩:∃q:Nat,x=(q:Int)+1:=⟨(x-1).toNat,by omega⟩;subst hq;obtain⟨r',hr'⟩:=Aj (L:=R) (k:=q) (by rw [HN.out];omega)
      have hrt:rt R (O.getD j 0)=r':=by
       unfold rt;simp only [List.getD_eq_getElem?_getD,hxj,Option.getD_some];rw [show((q:Int)+1-1).toNat=q by omega,hr'];rfl
      have hkwi:=Hfr.out.1.nt hkq;obtain⟨gR,oR,heR,c1⟩:=(Hr.out.keeps hkwi (by simp)).int (k:= .i64) Hx.out;obtain⟨gR',oR',heR',c2⟩:=(Hr.out.keeps hkwi (by simp)).int (k:= .i64) hr';subst heR;simp only [Option.some.injEq,Addr.mk.injEq,and_true] at heR';obtain⟨rfl,rfl⟩:=heR';have c3:=(show RowI wi g i cap O from⟨Hrow.out.of_keeps hkq,Hlen.out⟩).cell hxj;have hS:ro6 gR oR i q g j r r' ((q:Int)+1) wi.drew:=⟨c1,c3,c2⟩;have hlR:=Ai c1;have hlg:=Ai c3;have hj1:(((j+1:Nat)):Int)-1=j:=j3;have hwj2:IntKind.i64.wrap ((j:Int)+1+1)=(j:Int)+1+1:=by rw [IntKind.wrap_i64];omega
      have hj2:decide ((0:Int)<((j+1:Nat):Int))=true:=by rw [decide_eq_true_iff];omega
      have hj3:decide ((0:Int)<(j:Int)+1)=true:=by rw [decide_eq_true_iff];omega
      have hq1:(q:Int)+1-1=q:=j3;have hqn:(q:Int)<(n:Int):=j3;have hji:(j:Int)<(i:Int):=j3;have hwj:IntKind.i64.wrap (j:Int)=j:=by rw [IntKind.wrap_i64];omega
      have hwq:IntKind.i64.wrap (q:Int)=q:=by rw [IntKind.wrap_i64];omega
      have hpl2:plR hi0 R r O i=if Eh hi0 r r'=true then plR hi0 R r O j else j+1:=by rw [hpl];conv=>lhs;unfold plR;rw [hrt]
      clear c1 c2 c3 hxm hpl;obtain⟨Hxj,Hr',Hrt,Hkwi,HS,Hkq,Hpl2⟩:=hid7 hxj hr' hrt hkwi hS hkq hpl2;clear hpl2 hkq hS hkwi hrt hr' hxj;rcases hi0 with _|_
      ·rcases hc:decide (r<r') with _|_
       ·have hpl:plR false R r O i=j+1:=by rw [Hpl2.out];simp [Eh,hc]
        have Hpl:=Lib.hid hpl;clear hpl;go_wp2_with fail;refine Ak (ro6 gR oR i q g j r r' ((q:Int)+1)) (.take 0 (.take 1 (.take 2 (.take 3 (.take 4 (.take 5 (.take 6 (.take 7 (.take 8 (.take 9 (.take 10 (.take 11 (.take 12 (.take 13 (.take 14 (.take 15 (.take 16 (.take 17 (.take 18 (.take 19 (.take 20 (.take 21 (.take 22 (.take 23 (.take 24 (.take 25 (.take 26 (.take 27 (.take 28 (.take 29 (.take 30 (.take 31 (.take 32 (.take 33 (.take 34 (.take 35 (.take 36 (.take 37 (.take 38 (.take 39 (.take 40 .done))))))))))))))))))))))))))))))))))))))))) j4 j4 ?_ ?_
        ·exact HS.out
        intro w6 hs6 hk6;refine jf ?_;clear hs6;refine j1m ?_;intro hkq6 hrow6 hkw6;obtain⟨Hkq6,Hrow6,Hkw6,Hk6⟩:=hid4 hkq6 hrow6 hkw6 hk6;clear hk6 hkw6 hrow6 hkq6;go_wp2_with fail;by_cases hck:cap=(j+1)
        ·obtain rfl:i=(j+1):=by omega
         subst hck;refine j5m ?_;intro hkn hlm hlm2 hkI hkI0 hkI2
         have hend:∀v4 W4,World.ownsRow W4 0 3 1 v4 ((j+1)+1+(0)) ((O.take (j+1)).flatMap i64c++ [.int .i64 ((((j+1):Nat):Int)+1)]++(O.drop (j+1)).flatMap i64c)->Fresh w6 W4 v4->OrdR w false R ((j+1)+1+(0)) v4 W4:=by
          intro v4 W4 ho hf;refine⟨?_,Hkw6.out.nt hf.1,λg hg=>Nat.le_trans Hkw6.out.size (hf.2 g hg)⟩;rw [hlm2] at ho⊢;show W4.ownsRow 0 _ 1 v4 ((j+1)+1) ((insR false R ((j+1)) (rankN false R ((j+1)))).flatMap i64c);exact j07
         exact j5n
        ·refine j5o ?_;intro hck2 hkn hlm hlm2 hkI hkI0 hkI2
         have hend:∀v4 W4,World.ownsRow W4 0 3 1 v4 ((j+1)+1+(i-(j+1))) ((O.take (j+1)).flatMap i64c++ [.int .i64 (((i:Nat):Int)+1)]++(O.drop (j+1)).flatMap i64c)->Fresh w6 W4 v4->OrdR w false R ((j+1)+1+(i-(j+1))) v4 W4:=by
          intro v4 W4 ho hf;refine⟨?_,Hkw6.out.nt hf.1,λg hg=>Nat.le_trans Hkw6.out.size (hf.2 g hg)⟩;rw [hlm2] at ho⊢;show W4.ownsRow 0 _ 1 v4 (i+1) ((insR false R (i) (rankN false R (i))).flatMap i64c);exact j07
         exact j5p
       ·have hpl:plR false R r O i=plR false R r O j:=by rw [Hpl2.out];simp [Eh,hc]
        exact j5q
      ·rcases hc:decide (r'<r) with _|_
       ·have hpl:plR true R r O i=j+1:=by rw [Hpl2.out];simp [Eh,hc]
        have Hpl:=Lib.hid hpl;clear hpl;go_wp2_with fail;refine Ak (ro6 gR oR i q g j r r' ((q:Int)+1)) (.take 0 (.take 1 (.take 2 (.take 3 (.take 4 (.take 5 (.take 6 (.take 7 (.take 8 (.take 9 (.take 10 (.take 11 (.take 12 (.take 13 (.take 14 (.take 15 (.take 16 (.take 17 (.take 18 (.take 19 (.take 20 (.take 21 (.take 22 (.take 23 (.take 24 (.take 25 (.take 26 (.take 27 (.take 28 (.take 29 (.take 30 (.take 31 (.take 32 (.take 33 (.take 34 (.take 35 (.take 36 (.take 37 (.take 38 (.take 39 (.take 40 .done))))))))))))))))))))))))))))))))))))))))) j4 j4 ?_ ?_
        ·exact HS.out
        intro w6 hs6 hk6;refine jf ?_;clear hs6;refine j1m ?_;intro hkq6 hrow6 hkw6;obtain⟨Hkq6,Hrow6,Hkw6,Hk6⟩:=hid4 hkq6 hrow6 hkw6 hk6;clear hk6 hkw6 hrow6 hkq6;go_wp2_with fail;by_cases hck:cap=(j+1)
        ·obtain rfl:i=(j+1):=by omega
         subst hck;refine j5m ?_;intro hkn hlm hlm2 hkI hkI0 hkI2
         have hend:∀v4 W4,World.ownsRow W4 0 3 1 v4 ((j+1)+1+(0)) ((O.take (j+1)).flatMap i64c++ [.int .i64 ((((j+1):Nat):Int)+1)]++(O.drop (j+1)).flatMap i64c)->Fresh w6 W4 v4->OrdR w true R ((j+1)+1+(0)) v4 W4:=by
          intro v4 W4 ho hf;refine⟨?_,Hkw6.out.nt hf.1,λg hg=>Nat.le_trans Hkw6.out.size (hf.2 g hg)⟩;rw [hlm2] at ho⊢;show W4.ownsRow 0 _ 1 v4 ((j+1)+1) ((insR true R ((j+1)) (rankN true R ((j+1)))).flatMap i64c);exact j07
         exact j5n
        ·refine j5o ?_;intro hck2 hkn hlm hlm2 hkI hkI0 hkI2
         have hend:∀v4 W4,World.ownsRow W4 0 3 1 v4 ((j+1)+1+(i-(j+1))) ((O.take (j+1)).flatMap i64c++ [.int .i64 (((i:Nat):Int)+1)]++(O.drop (j+1)).flatMap i64c)->Fresh w6 W4 v4->OrdR w true R ((j+1)+1+(i-(j+1))) v4 W4:=by
          intro v4 W4 ho hf;refine⟨?_,Hkw6.out.nt hf.1,λg hg=>Nat.le_trans Hkw6.out.size (hf.2 g hg)⟩;rw [hlm2] at ho⊢;show W4.ownsRow 0 _ 1 v4 (i+1) ((insR true R (i) (rankN true R (i))).flatMap i64c);exact j07
         exact j5p
       ·have hpl:plR true R r O i=plR true R r O j:=by rw [Hpl2.out];simp [Eh,hc]
        exact j5q
  ·obtain rfl:i=n:=by omega
   obtain⟨Hrow,Hfr,Hv0⟩:=hid3 hrow hfr hv0;clear hv0 hfr hrow;obtain⟨av,cv,rfl⟩:∃a c,v= .slice a i c:=by obtain⟨a,c,h,_⟩:=Ad Hrow.out;exact⟨a,c,h⟩
   exact j2A
theorem helpIn_no(L:List Int)(x:Int)(ad:Option Addr)(cap m:Nat)(w:World)(hr:Reads w 1 (.slice ad m cap) m (L.flatMap i64c))(hM:L.length=m)(hm:m<=1000)(hx:∀y∈L,¬y=x):
  Calls Tryz.prog 268 #[.slice ad m cap,.int .i64 x] w λe w'=>e= .returned (.bool false)/\w=w':=by
 have Hno:=Lib.hid hx;clear hx;obtain⟨Hr,HM⟩:=hid2 hr hM;clear hM hr;go_enter Tryz.func268,Tryz.ntmps268;go_wp2
 go_loopw [5] (λy wx=>∃k:Nat,y= .int .i64 (k:Nat)/\k<=m/\w=wx) (λy _=>m-(intOf y).toNat)
 case atStart=>exact⟨0,rfl,Nat.zero_le _,rfl⟩
 case round=>
  obtain⟨k,rfl,hkm,hk⟩:=hrel;by_cases hlt:k<m
  ·have hltI:(k:Int)<(m:Int):=j3;obtain⟨y,hy⟩:=Aj (L:=L) (k:=k) j0i;have hne:=Hno.out y (List.mem_of_getElem? hy);have hneI:(y==x)=false:=beq_eq_false_iff_ne.2 hne;obtain⟨g,o,he,c0⟩:=Hr.out.int (k:= .i64) hy;subst he;rw [hk] at c0;have cl:=Ai c0;have hx:=hy;obtain⟨Hx,Hne,Hk⟩:=hid3 hx hne hk;clear hk hne hx;go_wp2;exact j5r
  ·obtain rfl:m=k:=by omega
   have Hk:=Lib.hid hk;clear hk;go_wp2;go_ret;exact⟨rfl,Hk.out⟩
theorem Xw(v:Int)(w:World):Calls Tryz.prog 266 #[.int .i64 v] w λe w'=>e= .returned (.bool (Az v))/\w=w':=by
 by_cases h1:v<0
 ·have hf:Az v=false:=by simp [Az];omega
  have h1':¬0<=v:=j3;exact j2B
 ·by_cases h2:1000000000000000<v
  ·have hf:Az v=false:=by simp [Az];omega
   have hd:decide (v<=1000000000000000)=false:=by rw [decide_eq_false_iff_not];omega
   have h1':0<=v:=j3;exact j2B
  ·have hf:Az v=true:=by simp [Az];omega
   have h1':0<=v:=j3;exact j2B
theorem Ez{v:Int}{b:Bool}(h:Az v=b)(w:World):Calls Tryz.prog 266 #[.int .i64 v] w λe w'=>e= .returned (.bool b)/\w=w':=by subst h;exact Xw v w
def r4S(v:Value)(m:Nat)(O:List Int)(g i:Nat)(x:Int)(W:World):Prop:=Hid (Reads W 1 v m (O.flatMap i64c))/\W.cell? ⟨g,i,none⟩=some (.int .i64 x)
theorem Jl(B O:List Int)(a:Int)(adB adO:Option Addr)(cB cO n m:Nat)(w:World)(hB:Reads w 1 (.slice adB n cB) n (B.flatMap i64c))(hN:B.length=n)(hO:Reads w 1 (.slice adO m cO) m (O.flatMap i64c))(hM:O.length=m)(hm:B.all Az=true)(ha:Az a=true)
  (hord:OrdOk n O) (hl:n<=1000) (hl2:m<=1000):Calls Tryz.prog 225 #[.slice adB n cB,.slice adO m cO,.int .i64 a] w λe w'=>∃g,e= .returned (.tuple #[.slice (some ⟨g,0,none⟩) n n,.int .i64 (intoL B O a).2,.int .i64 0])/\RowZ w' 2 g n n (intoL B O a).1/\Keeps (λ_=>False) w w'/\w.heap.size<=g:=by
 obtain⟨i0,hi,hi0,hi1,hi2⟩:=info_parts Ca;have hmb:∀x∈B,0<=x/\x<=1000000000000000:=λx hx=>(Aw x).1 (List.all_eq_true.1 hm x hx);have hab:=(Aw a).1 ha;obtain⟨r,hr⟩:∃r,intoL B O a=r:=⟨_,rfl⟩;rw [hr];refine jU ?_;intro hmk;simp only [Int.toNat_natCast,hi1,Nat.mul_one] at hmk;refine j0a ?_;intro Z hZ;rw [<-hZ] at hmk;obtain⟨ha0,ha1⟩:=hab
 have hno:∀k x,O[k]?=some x->∀y∈O.take k,¬y=x:=λk x hx y hy e=>by
  subst e;have h1:=hord.nd;have h2:O=O.take k++y::O.drop (k+1):=by rw [<-Br hx,List.take_append_drop]
  rw [h2,List.nodup_append] at h1;exact h1.2.2 y hy y (List.mem_cons_self ..) rfl
 obtain⟨HB,HO,Hm,Ha,HN,HM,Hr,Hi,Hi0⟩:=hid9 hB hO hm ha hN hM hr hi hi0;clear hi0 hi hr hM hN ha hm hO hB;obtain⟨Hi1,Hi2,HZ,Hmb,Hord,Hno⟩:=hid6 hi1 hi2 hZ hmb hord hno;clear hno hord hmb hZ hi2 hi1;go_enter Tryz.func225,Tryz.ntmps225;go_wp2
 go_loopw [9] (λx wx=>∃k:Nat,x= .int .i64 (k:Nat)/\k<=m/\Keeps (λ_=>False) w wx) (λx _=>m-(intOf x).toNat)
 case atStart=>exact⟨0,rfl,Nat.zero_le _,Keeps.refl _ _⟩
 case round=>
  obtain⟨k,rfl,hkm,hk⟩:=hrel;refine jc ?_;intro wq hwq;subst hwq;by_cases hlt:k<m
  ·have hltI:(k:Int)<(m:Int):=j3;obtain⟨x,hx⟩:=Aj (L:=O) (k:=k) j0i;obtain⟨x1,x2⟩:=Hord.out.ok x (List.mem_of_getElem? hx);obtain⟨g,o,he,c0⟩:=(HO.out.keeps hk (by simp)).int (k:= .i64) hx;subst he;have hx1:decide (x<1)=false:=by rw [decide_eq_false_iff_not];omega
   have hx2:decide ((n:Int)<x)=false:=by rw [decide_eq_false_iff_not];omega
   have hS:r4S (.slice (some ⟨g,o,none⟩) m cO) m O g (o+k) x wq.drew:=⟨Lib.hid ((HO.out.keeps hk (by simp)).drew),c0⟩;have cl:=Ai c0
   have hkI:(k:Int)<=(cO:Int):=by
    obtain⟨_,_,e,hc,_⟩:=HO.out;simp only [Value.slice.injEq,true_and] at e;omega
   have hin:=λW (hW:r4S (.slice (some ⟨g,o,none⟩) m cO) m O g (o+k) x W)=>helpIn_no (O.take k) x (some ⟨g,o,none⟩) cO k W (Reads.preL Bg hW.1.out k hkm) (by rw [List.length_take,HM.out];omega) j1 (Hno.out k x hx);clear c0;obtain⟨Hk,Hx,HS,Hin⟩:=hid4 hk hx hS hin;clear hin hS hx hk;go_wp2_with fail;refine Ak (r4S (.slice (some ⟨g,o,none⟩) m cO) m O g (o+k) x) (.take 0 (.take 1 (.take 2 (.take 3 (.take 4 (.take 5 (.take 6 (.take 7 (.take 8 (.take 9 (.take 10 (.take 11 (.take 12 (.take 13 (.take 14 (.take 15 (.take 16 (.take 17 (.take 18 (.take 19 (.take 20 (.take 21 (.take 22 (.take 23 .done)))))))))))))))))))))))) j4 j4 ?_ ?_
   ·exact HS.out
   intro w5 hs5 hk5;refine jR ?_;refine Jn (v:= ?_) rfl (by rfl) ?_ ?_ ?_ ?_ ?_
   rotate_left 3
   ·intro w' hSw;unfold id at hSw;go_simp;(first|done|(constructor<;>with_reducible rfl)|with_reducible rfl)
   ·intro w' hSw;exact(Hin.out _ hSw)
   rotate_right 3
   try simp only [aps]
   refine jf ?_;clear hs5;go_wp2;go_roundw
   case rel=>exact⟨k+1,by go_num,by omega,Hk.out.nt hk5⟩
   case measure=>simp [intOf];omega
  ·obtain rfl:m=k:=by omega
   have Hk0:=Lib.hid hk;clear hk;go_wp2
   go_loopw [10] (λx wx=>∃k:Nat,x= .int .i64 (k:Nat)/\k<=n/\Keeps (λ_=>False) w wx) (λx _=>n-(intOf x).toNat)
   case atStart=>exact⟨0,rfl,Nat.zero_le _,Hk0.out⟩
   case round=>
    obtain⟨k,rfl,hkn,hk⟩:=hrel;by_cases hlt:k<n
    ·have hltI:(k:Int)<(n:Int):=j3;obtain⟨x,hx⟩:=Aj (L:=B) (k:=k) jw;obtain⟨g,o,he,c0⟩:=(HB.out.keeps hk (by simp)).int (k:= .i64) hx;subst he;have cl:=Ai c0;have m1:=List.all_eq_true.1 Hm.out x (List.mem_of_getElem? hx);obtain⟨Hk,Hx⟩:=hid2 hk hx;clear hx hk
     go_wp2_with (go_at_call 266;(with_reducible refine(Ez m1 _).mono ?_);rintro e w1 ⟨rfl,rfl⟩)
     exact j5r
    ·obtain rfl:n=k:=by omega
     have Hk1:=Lib.hid hk;clear hk;have m2:=Ha.out
     go_wp2_with (go_at_call 266;(with_reducible refine(Ez m2 _).mono ?_);rintro e w1 ⟨rfl,rfl⟩)
     obtain⟨wa,hwa⟩:∃x,x=wr:=⟨_,rfl⟩;subst hwa;have hmade:=RowZ.made wa 2 n j6;rw [<-HZ.out] at hmade;obtain⟨wb,hwb⟩:∃x,x=wa.alloc (.cells Z 2):=⟨_,rfl⟩;have hkb:Keeps (λ_=>False) w wb:=by rw [hwb];exact Hk1.out.nt (Keeps.alloc _ _)
     obtain⟨g,hge⟩:∃x,x=wa.heap.size:=⟨_,rfl⟩;have hgg:w.heap.size<=g:=by rw [hge];exact Hk1.out.size
     rw [<-hwb,<-hge] at hmade;rw [<-hwb,<-hge];clear hwb hge;have hst:InAt B O a w g 0 (List.replicate n 0) a wb:=⟨Nat.zero_le _,ha0,ha1,by rw [HN.out];exact hmade,by unfold intoL;rw [HN.out];rfl,hkb,hgg⟩;obtain⟨Hmade,Hkb,Hgg,Hst⟩:=hid4 hmade hkb hgg hst;clear hst hgg hkb hmade
     go_loopw [2,12] (λx y wx=>∃(j:Nat) (out:List Int) (b:Int),x= .int .i64 b/\y= .int .i64 (j:Nat)/\InAt B O a w g j out b wx) (λ_ y _=>m-(intOf y).toNat)
     case atStart=>exact⟨0,_,_,rfl,rfl,Hst.out⟩
     case round=>
      obtain⟨j,out,b,rfl,rfl,hat⟩:=hrel;obtain⟨W,hW⟩:∃x,x=wr:=⟨_,rfl⟩;subst hW;have hjl:=hat.jl;have hb0:=hat.a0;have hb1:=hat.a1;have hrow:=hat.row;rw [HN.out] at hrow;rw [HM.out] at hjl;by_cases hlt:j<m
      ·have hltI:(j:Int)<(m:Int):=j3;obtain⟨k,hk⟩:=Aj (L:=O) (k:=j) j0i;obtain⟨k1,k2⟩:=Hord.out.ok k (List.mem_of_getElem? hk);obtain⟨i,hi⟩:∃i:Nat,(i:Int)=k-1:=⟨(k-1).toNat,by omega⟩;obtain⟨x,hx⟩:=Aj (L:=B) (k:=i) (by rw [HN.out];omega);obtain⟨x1,x2⟩:=Hmb.out x (List.mem_of_getElem? hx);obtain⟨gO,oO,he,hcO⟩:=(HO.out.keeps hat.kp (by simp)).int (k:= .i64) hk;subst he;obtain⟨gB,oB,he,hcB⟩:=(HB.out.keeps hat.kp (by simp)).int (k:= .i64) hx;subst he;refine j3r ?_;intro y hy cy fy lO lB lg q1 q2 q3 q4 hstep
       have hat2:∀v:Int,minI b x=v->0<=v->v<=b->InAt B O a w g (j+1) (out.set i v) (b-v) (W.setCell ⟨g,i,none⟩ (.int .i64 v)):=λv hv h0 h1=>
        ⟨by rw [HM.out];omega,by omega,by omega,by rw [HN.out];exact hrow.set j1 v,by rw [hat.eq,hstep,hv],hat.kp.trans (Keeps.setCell _ _ _ (.inr hat.gg)),hat.gg⟩
       rcases Int.lt_trichotomy b x with m1|m1|m1
       ·have h2:=hat2 b (by unfold minI;rw [if_pos j1]) j1 j1;rw [Int.sub_self] at h2;exact j2C
       ·have h2:=hat2 b (by unfold minI;rw [if_pos j1]) j1 j1;rw [Int.sub_self] at h2;subst m1;exact j2C
       ·have h2:=hat2 x (by unfold minI;rw [if_neg j1]) j1 j1;exact j2C
      ·obtain rfl:j=m:=by omega
       have he:=hat.eq;rw [Hr.out,List.drop_eq_nil_of_le (by rw [HM.out];exact Nat.le_refl _)] at he;have he2:r=(out,b):=he;subst he2;have hkp:=hat.kp;have hgg:=hat.gg;obtain⟨Hat,He,Hrow,Hkp,Hgg⟩:=hid5 hat he hrow hkp hgg;clear hgg hkp hrow he hat;go_wp2;exact bodyPost_ret (v:= .tuple #[.slice (some ⟨g,0,none⟩) n n,.int .i64 b,.int .i64 0]) (by simp [results,Tryz.results225,go_sem]) rfl ⟨g,rfl,Hrow.out,Hkp.out,Hgg.out⟩
theorem Nn(R:List Int)(ad:Option Addr)(cap n:Nat)(w:World)(hr:Reads w 1 (.slice ad n cap) n (R.flatMap i64c))(hN:R.length=n)(hl:n<=1000):
  Calls Tryz.prog 226 #[.slice ad n cap] w λe w'=>∃a c,e= .returned (.slice a n c)/\Reads w' 1 (.slice a n c) n ((rankL true R).flatMap i64c)/\Keeps (λ_=>False) w w':=by
 have hc:=Ll R true ad cap n w hr hN hl;have hrk:rankL true R=rankN true R n:=by rw [<-hN];rfl
 obtain⟨Hc,Hr,HN,Hrk⟩:=hid4 hc hr hN hrk;clear hrk hN hr hc;go_enter Tryz.func226,Tryz.ntmps226;exact j5s
theorem Xy(R:List Int)(ad:Option Addr)(cap n:Nat)(w:World)(hr:Reads w 1 (.slice ad n cap) n (R.flatMap i64c))(hN:R.length=n)(hl:n<=1000):
  Calls Tryz.prog 267 #[.slice ad n cap] w λe w'=>∃a c,e= .returned (.slice a n c)/\Reads w' 1 (.slice a n c) n ((rankL false R).flatMap i64c)/\Keeps (λ_=>False) w w':=by
 have hc:=Ll R false ad cap n w hr hN hl;have hrk:rankL false R=rankN false R n:=by rw [<-hN];rfl
 obtain⟨Hc,Hr,HN,Hrk⟩:=hid4 hc hr hN hrk;clear hrk hN hr hc;go_enter Tryz.func267,Tryz.ntmps267;exact j5s
def r10S(T:Nat)(vB:Value)(gb ob gp op:Nat)(x y:Int)(W:World):Prop:=W.cell? ⟨T,0,none⟩=some vB/\W.cell? ⟨gb,ob,none⟩=some (.int .i64 x)/\W.cell? ⟨gp,op,none⟩=some (.int .i64 y)
theorem r10S.keep{T gb ob gp op:Nat}{vB:Value}{x y:Int}{S:Nat->Prop}{W W':World}(h:r10S T vB gb ob gp op x y W)(hk:Keeps S W W')(h1:¬S T)(h2:¬S gb)(h3:¬S gp):r10S T vB gb ob gp op x y W':=
 ⟨(hk.cell (Ai h.1) h1).trans h.1,(hk.cell (Ai h.2.1) h2).trans h.2.1,(hk.cell (Ai h.2.2) h3).trans h.2.2⟩
def r10T(gb ob gp op:Nat)(x y:Int)(W:World):Prop:=W.cell? ⟨gb,ob,none⟩=some (.int .i64 x)/\W.cell? ⟨gp,op,none⟩=some (.int .i64 y)
theorem r10T.keep{gb ob gp op:Nat}{x y:Int}{S:Nat->Prop}{W W':World}(h:r10T gb ob gp op x y W)(hk:Keeps S W W')(h2:¬S gb)(h3:¬S gp):r10T gb ob gp op x y W':=
 ⟨(hk.cell (Ai h.1) h2).trans h.1,(hk.cell (Ai h.2) h3).trans h.2⟩
theorem Xh{f:Int->Int->Int}{B P:List Int}{i:Nat}{x y:Int}(hx:B[i]?=some x)(hy:P[i]?=some y):(List.zipWith f B P).take i++ [f x y]=(List.zipWith f B P).take (i+1):=by
 rw [List.take_add_one]
 congr 1
 rw [List.getElem?_zipWith,hx,hy];rfl
theorem Xx(B R:List Int)(cr du a:Int)(adB adR:Option Addr)(cB cR n:Nat)(w:World)(hB:Reads w 1 (.slice adB n cB) n (B.flatMap i64c))(hN:B.length=n)(hR:Reads w 1 (.slice adR n cR) n (R.flatMap i64c))(hRn:R.length=n)
  (hm:B.all Az=true) (hcr:Az cr=true) (hdu:Az du=true) (ha:Az a=true) (hl:n<=8):
  Calls Tryz.prog 223 #[.agg #[.slice adB n cB,.int .i64 cr,.int .i64 du],.slice adR n cR,.int .i64 a] w λe w'=>∃g,e= .returned (.tuple #[.slice (some ⟨g,0,none⟩) n n,.int .i64 (payL B R du a).2.1,.int .i64 (payL B R du a).2.2,.int .i64 0])/\RowZ w' 2 g n n (payL B R du a).1/\Keeps (λ_=>False) w w'/\w.heap.size<=g:=by
 obtain⟨i0,hi,hi0,hi1,hi2⟩:=info_parts Ca;have hBb:∀x∈B,0<=x/\x<=1000000000000000:=λx hx=>(Aw x).1 (List.all_eq_true.1 hm x hx);obtain⟨a0,a1⟩:=(Aw a).1 ha;obtain⟨du0,du1⟩:=(Aw du).1 hdu;obtain⟨m,hmin⟩:∃m,minI a du=m:=⟨_,rfl⟩;have hm2:0<=m/\m<=a/\m<=du:=by rw [<-hmin];unfold minI;split<;>omega
 obtain⟨m0,m1,m2⟩:=hm2;refine j1Z ?_;intro p1 r1 hp q1 r2 hq hpay;have hokL:=Pg false hRn;have hokH:=Pg true hRn;have hpb:=Ef (B:=B) (O:=rankL false R) (a:=m) (λx hx=>(hBb x hx).1) m0 (by rw [hN];exact hokL.ok);have hpl:=Cb B (rankL false R) m;rw [hp] at hpb hpl;simp only at hpb hpl;obtain⟨r10,r11,hpe⟩:=hpb;have hB2:=Kn hpe hBb;have hB2l:(List.zipWith (λx y:Int=>x-y) B p1).length=n:=by rw [List.length_zipWith];omega
 have hB2m:(List.zipWith (λx y:Int=>x-y) B p1).all Az=true:=List.all_eq_true.2 λx hx=>(Aw x).2 (hB2 x hx);have hqb:=Ef (B:=List.zipWith (· - ·) B p1) (O:=rankL true R) (a:=a-m+r1) (λx hx=>(hB2 x hx).1) j1 (by rw [hB2l];exact hokH.ok);have hql:=Cb (List.zipWith (· - ·) B p1) (rankL true R) (a-m+r1);rw [hq] at hqb hql;simp only at hqb hql;obtain⟨r20,r21,hqe⟩:=hqb;rw [hN] at hpl;rw [hB2l] at hql;have hmm:Az m=true:=(Aw m).2 ⟨m0,by omega⟩;have ham:Az (r1+a-m)=true:=(Aw _).2 ⟨by omega,by omega⟩;have hsum:r1+a-m=a-m+r1:=j3;have hq':intoL (List.zipWith (· - ·) B p1) (rankL true R) (r1+a-m)=(q1,r2):=by rw [hsum];exact hq
 have hrkl:=Dn false R;have hrkh:=Dn true R;rw [hRn] at hrkl hrkh;have hlow:=λW (hW:Keeps (λ_=>False) w W)=>Xy R adR cR n W (hR.keeps hW (by simp)) hRn j1;have hhigh:=λW (hW:Keeps (λ_=>False) w W)=>Nn R adR cR n W (hR.keeps hW (by simp)) hRn j1;have hin1:=λW (ad:Option Addr) (c:Nat) (hW:Keeps (λ_=>False) w W) (hO:Reads W 1 (.slice ad n c) n ((rankL false R).flatMap i64c))=>Jl B (rankL false R) m adB ad cB c n n W (hB.keeps hW (by simp)) hN hO hrkl hm hmm hokL j1 j1;rw [hp] at hin1;have hin2:=λW (ad:Option Addr) (c g cg:Nat) (hr:RowZ W 2 g n cg (List.zipWith (λx y:Int=>x-y) B p1)) (hO:Reads W 1 (.slice ad n c) n ((rankL true R).flatMap i64c))=>Jl (List.zipWith (λx y:Int=>x-y) B p1) (rankL true R) (r1+a-m) (some ⟨g,0,none⟩) ad cg c n n W hr.reads hB2l hO hrkh hB2m ham hokH j1 j1;rw [hq'] at hin2;refine j42 ?_;intro hbx;refine jU ?_;intro hmk;simp only [Int.toNat_natCast,hi1,Nat.mul_one] at hmk;refine j0a ?_;intro Z hZ;rw [<-hZ] at hmk;simp only at hin1 hin2;obtain⟨HB,HR,Hm,Hcr,Hdu,Ha,HBb,Hmin,Hp⟩:=hid9 hB hR hm hcr hdu ha hBb hmin hp;clear hp hmin hBb ha hdu hcr hm hR hB;obtain⟨Hq,Hq',Hpay,HokL,HokH,Hpe,HB2,HB2l,HB2m⟩:=hid9 hq hq' hpay hokL hokH hpe hB2 hB2l hB2m;clear hB2m hB2l hB2 hpe hokH hokL hpay hq' hq;obtain⟨Hqe,Hpl,Hql,Hlow,Hhigh,Hin1,Hin2,Hbx,HN⟩:=hid9 hqe hpl hql hlow hhigh hin1 hin2 hbx hN;clear hN hbx hin2 hin1 hhigh hlow hql hpl hqe;obtain⟨HRn,Hmm,Ham,Hsum,Hrkl,Hrkh,Hi,Hi0,Hi1⟩:=hid9 hRn hmm ham hsum hrkl hrkh hi hi0 hi1;clear hi1 hi0 hi hrkh hrkl hsum ham hmm hRn;obtain⟨Hi2,HZ⟩:=hid2 hi2 hZ;clear hZ hi2;have q1:=Hcr.out;have q2:=Hdu.out;have q3:=Ha.out;go_enter Tryz.func223,Tryz.ntmps223
 go_wp2_with (first|(go_at_call 266;(with_reducible refine(Ez q1 _).mono ?_);rintro e w1 ⟨rfl,rfl⟩)|(go_at_call 266;(with_reducible refine(Ez q2 _).mono ?_);rintro e w1 ⟨rfl,rfl⟩)|(go_at_call 266;(with_reducible refine(Ez q3 _).mono ?_);rintro e w1 ⟨rfl,rfl⟩))
 clear q1 q2 q3
 go_loopw [10,11] (λb x wx=>∃k:Nat,b= .bool true/\x= .int .i64 (k:Nat)/\k<=n/\Keeps (λ_=>False) (w.alloc (.cells #[.slice adB n cB,.int .i64 cr,.int .i64 du] 35)) wx) (λ_ x _=>n-(intOf x).toNat)
 case atStart=>exact⟨0,rfl,rfl,Nat.zero_le _,Keeps.refl _ _⟩
 case round=>
  obtain⟨k,rfl,rfl,hkn,hk⟩:=hrel;have hb0:=Hbx.out _ hk;have hk0:=(Keeps.alloc w (.cells #[.slice adB n cB,.int .i64 cr,.int .i64 du] 35)).nt hk;have b0:=Aa hb0 0;have b2:=Aa hb0 2;have bl:=lt_of_block hb0;by_cases hlt:k<n
  ·have hltI:(k:Int)<(n:Int):=j3;obtain⟨x,hx⟩:=Aj (L:=B) (k:=k) jw;obtain⟨g,o,he,c0⟩:=(HB.out.keeps hk0 (by simp)).int (k:= .i64) hx;subst he;have cl:=Ai c0;have m1':=List.all_eq_true.1 Hm.out x (List.mem_of_getElem? hx);clear b2;obtain⟨Hk,Hx,Hk0,Hb0⟩:=hid4 hk hx hk0 hb0;clear hb0 hk0 hx hk
   go_wp2_with (go_at_call 266;(with_reducible refine(Ez m1' _).mono ?_);rintro e w1 ⟨rfl,rfl⟩)
   exact j5t
  ·obtain rfl:n=k:=by omega
   obtain⟨W0,hW0⟩:∃x,x=wr:=⟨_,rfl⟩;subst hW0;clear hk;obtain⟨Hb0,Hk0⟩:=hid2 hb0 hk0;clear hk0 hb0
   go_upto_region 8 with fail
   go_cut [12] (λx wx=>x= .int .i64 m/\W0=wx)
   case first=>
    have hmn:=Hmin.out;unfold minI at hmn;rcases Int.lt_trichotomy a du with hle|hle|hle
    ·rw [if_pos j1] at hmn;exact jZ
    ·exact j5u
    ·rw [if_neg j1] at hmn;exact jZ
   obtain⟨rfl,rfl⟩:=hcut;go_wp2_with fail;refine Ak (λw'=>w'.cell? ⟨w.heap.size,0,none⟩=some (.slice adB n cB)) (.take 0 (.take 1 (.take 2 (.take 4 (.move 3 (.move 5 (.take 6 (.take 7 (.take 8 (.take 9 (.take 10 (.take 11 (.take 12 .done))))))))))))) j4 j4 ?_ ?_
   ·exact Aa (Ac (S:=λ_=>False) Hb0.out (Keeps.drew _) (by simp)) 0
   intro w3 hs3 hk3;have hk3w:Keeps (λ_=>False) w w3:=Hk0.out.nt hk3;have hlt3:=Ai hs3;obtain⟨Hs3,Hk3,Hk3w,Hlt3⟩:=hid4 hs3 hk3 hk3w hlt3;clear hlt3 hk3w hk3 hs3;refine je ?_;intro K hK
   go_at_call 267
   ((with_reducible refine(Hlow.out _ Hk3w.out).mono ?_);rintro e w4 ⟨a4,c4,rfl,hrow4,hf4⟩;dsimp only)
   refine hK.out _ _ (by exact(hf4.cell (p:=⟨w.heap.size,0,none⟩) Hlt3.out (by simp)).trans Hs3.out) ?_;clear hK K;refine j5 ?_;have hk4w:Keeps (λ_=>False) w w4:=Hk3w.out.nt hf4;have hs4:=(hf4.cell (p:=⟨w.heap.size,0,none⟩) Hlt3.out (by simp)).trans Hs3.out;have hb4:=Ac (Ac Hb0.out Hk3.out (by simp)) hf4 (by simp);have hlt4:=Ai hs4;obtain⟨Hrow4,Hf4,Hk4w,Hs4,Hlt4,Hb4⟩:=hid6 hrow4 hf4 hk4w hs4 hlt4 hb4;clear hb4 hlt4 hs4 hk4w hf4 hrow4;refine je ?_;intro K hK
   go_at_call 225
   ((with_reducible refine(Hin1.out _ _ _ Hk4w.out Hrow4.out).mono ?_);rintro e w5 ⟨g1,rfl,hrow5,hk5,hg5⟩;dsimp only)
   refine hK.out _ _ j43 ?_;clear hK K;refine j5 ?_;have hk5w:Keeps (λ_=>False) w w5:=Hk4w.out.nt hk5;have hb5:=Ac Hb4.out hk5 (by simp);have hg5w:w.heap.size<=g1:=by have:=Hk4w.out.size;omega
   have hg5n:¬g1=w.heap.size:=by have:=Hlt4.out;simp only at this;omega
   clear b0 b2 bl;obtain⟨Hrow5,Hk5,Hg5,Hk5w,Hb5,Hg5w,Hg5n⟩:=hid7 hrow5 hk5 hg5 hk5w hb5 hg5w hg5n;clear hg5n hg5w hb5 hk5w hg5 hk5 hrow5;refine jf ?_;have b50:=Aa Hb5.out 0;have b5l:=lt_of_block Hb5.out;go_wp2;have hmade:=RowZ.made w5 2 n j6;rw [<-HZ.out] at hmade;have hg15:=Hrow5.out.lt;have hr15:=Hrow5.out.keep (Keeps.alloc w5 (.cells Z 2));have hb6:=Ac (S:=λ_=>False) Hb5.out (Keeps.alloc w5 (.cells Z 2)) (by simp);obtain⟨w6,hw6⟩:∃x,x=w5.alloc (.cells Z 2):=⟨_,rfl⟩;have hk6w:Keeps (λ_=>False) w w6:=by rw [hw6];exact Hk5w.out.nt (Keeps.alloc _ _)
   obtain⟨g2,hg2⟩:∃x,x=w5.heap.size:=⟨_,rfl⟩;have hg2w:w.heap.size<=g2:=by rw [hg2];exact Hk5w.out.size
   have hg12:¬g1=g2:=j3;have hg2T:¬w.heap.size=g2:=j3;rw [<-hw6,<-hg2] at hmade;rw [<-hw6] at hr15 hb6;rw [<-hw6,<-hg2];clear hw6 hg2 hg15 b50 b5l;obtain⟨Hmade,Hr15,Hb6,Hk6w,Hg2w,Hg12,Hg2T⟩:=hid7 hmade hr15 hb6 hk6w hg2w hg12 hg2T;clear hg2T hg12 hg2w hk6w hb6 hr15 hmade
   go_loopw [17] (λx wx=>∃i:Nat,x= .int .i64 (i:Nat)/\i<=n/\RowZ wx 2 g2 n n (zeros n i ((List.zipWith (λx y:Int=>x-y) B p1).take i))/\Keeps (λk=>k=g2) w6 wx) (λx _=>n-(intOf x).toNat)
   case atStart=>exact⟨0,rfl,Nat.zero_le _,by simpa [zeros] using Hmade.out,Keeps.refl _ _⟩
   case round=>
    obtain⟨i,rfl,hin,hrow,hk⟩:=hrel;refine jc ?_;intro wq hwq;subst hwq;have hrp:RowZ wq 2 g1 n n p1:=⟨hk.row Hr15.out.1 (λg' hg e=>by simp only [Value.ownBlock,Option.some.injEq] at hg;subst hg;exact Hg12.out e),Hr15.out.2⟩;have hbq:=Ac Hb6.out hk (λe=>Hg2T.out e);by_cases hlt:i<n
    ·refine j44 ?_;intro hltI x hx y hy x0 x1 hxy;rw [List.getD_eq_getElem?_getD,hx] at hxy;obtain⟨y0,y1⟩:=hxy;simp only [Option.getD_some] at y1;have hkq:Keeps (λ_=>False) w wq:=Hk6w.out.trans (hk.mono λk _ e=> .inr (by subst e;exact Hg2w.out));obtain⟨gB,oB,he,hcB⟩:=(HB.out.keeps hkq (by simp)).int (k:= .i64) hx;subst he;have hS:r10S w.heap.size (.slice (some ⟨gB,oB,none⟩) n cB) gB (oB+i) g1 i x y wq:=⟨Aa hbq 0,hcB,hrp.cell hy⟩;have hSd:=hS.keep (S:=λ_=>False) (Keeps.drew wq) (by simp) (by simp) (by simp);obtain⟨v0,hv0⟩:=Aj (L:=zeros n i ((List.zipWith (λx y:Int=>x-y) B p1).take i)) (k:=i) (by rw [hrow.2];exact hlt);have hzl:((List.zipWith (λx y:Int=>x-y) B p1).take i).length=i:=by rw [List.length_take,HB2l.out];omega
     have hq1:IntKind.i64.wrap (x-y)=x-y:=IntWalk.i64_in _ ⟨by omega,by omega⟩;have hrd:∀w1,Keeps (λ_=>False) wq w1->RowZ w1 2 g2 n n (zeros n i ((List.zipWith (λx y:Int=>x-y) B p1).take i)):=λw1 h=>hrow.keep h
     have hnewr:∀w1,Keeps (λ_=>False) wq w1->RowZ (w1.setCell ⟨g2,i,none⟩ (.int .i64 (x-y))) 2 g2 n n (zeros n (i+1) ((List.zipWith (λx y:Int=>x-y) B p1).take (i+1))):=λw1 h=>by
      have:=(hrow.keep h).set hlt (x-y)
      rwa [Mj hzl hlt,Xh hx hy] at this
     have hnk:∀w1,Keeps (λ_=>False) wq w1->Keeps (λk=>k=g2) w6 (w1.setCell ⟨g2,i,none⟩ (.int .i64 (x-y))):=λw1 h=>(hk.trans (h.mono λk _ e=> .inl e.elim)).trans (Keeps.setCell _ _ _ (.inl rfl));clear hcB;obtain⟨Hrow,Hk,Hrp,Hbq,Hx,Hy,HS,HSd,Hkq⟩:=hid9 hrow hk hrp hbq hx hy hS hSd hkq;clear hkq hSd hS hy hx hbq hrp hk hrow;obtain⟨Hzl,Hrd,Hnewr,Hnk⟩:=hid4 hzl hrd hnewr hnk;clear hnk hnewr hrd hzl;go_wp2_with fail;refine Bj (r10S w.heap.size (.slice (some ⟨gB,oB,none⟩) n cB) gB (oB+i) g1 i x y) 13 (.take 0 (.take 1 (.take 2 (.take 3 (.take 4 (.take 5 (.take 6 (.take 7 (.take 8 (.take 9 (.take 10 (.take 11 (.take 12 (.move 13 .done)))))))))))))) j4 j4 ?_ ?_
     ·exact HSd.out
     intro w8 hs8 hk8;have r8:=Hrd.out _ hk8;have c8:=r8.cell hv0;have f8:=r8.free i;have l8:=r8.lt;obtain⟨Hs8,Hk8,R8⟩:=hid3 hs8 hk8 r8;clear r8 hk8 hs8;refine jR ?_;refine jh ?_;have hn8:=Hnewr.out _ Hk8.out;have hn9:=Hnk.out _ Hk8.out;clear c8 f8 l8;exact j5v
    ·obtain rfl:i=n:=by omega
     have hrz:RowZ wq 2 g2 i i (List.zipWith (λx y:Int=>x-y) B p1):=by
      have:=hrow;rw [List.take_of_length_le (by rw [HB2l.out];exact Nat.le_refl _)] at this
      simpa [zeros] using this
     have hkw:Keeps (λ_=>False) w wq:=Hk6w.out.trans (hk.mono λk _ e=> .inr (by subst e;exact Hg2w.out));have w1:IntKind.i64.wrap (r1+a)=r1+a:=IntWalk.i64_in _ ⟨by omega,by omega⟩;have w2:IntKind.i64.wrap (r1+a-m)=r1+a-m:=IntWalk.i64_in _ ⟨by omega,by omega⟩;clear hrow;obtain⟨Hk,Hrp,Hbq,Hrz,Hkw⟩:=hid5 hk hrp hbq hrz hkw;clear hkw hrz hbq hrp hk;go_wp2_with fail;refine(Hhigh.out _ Hkw.out).mono ?_;rintro e w7 ⟨a7,c7,rfl,hrow7,hf7⟩;have hk7w:=Hkw.out.nt hf7;have hrB7:=Hrz.out.keep hf7;have hrp7:=Hrp.out.keep hf7;obtain⟨Hrow7,Hf7,Hk7w,HrB7,Hrp7⟩:=hid5 hrow7 hf7 hk7w hrB7 hrp7;clear hrp7 hrB7 hk7w hf7 hrow7;go_wp2_with fail;refine(Hin2.out _ _ _ _ _ HrB7.out Hrow7.out).mono ?_;rintro e w8 ⟨g3,rfl,hrow8,hk8,hg3⟩;have hlt1:=Hrp7.out.lt;have hg13:¬g1=g3:=j3;have hk8w:=Hk7w.out.nt hk8;have hrp8:=Hrp7.out.keep hk8;clear hlt1;obtain⟨Hrow8,Hk8,Hg3,Hg13,Hk8w,Hrp8⟩:=hid6 hrow8 hk8 hg3 hg13 hk8w hrp8;clear hrp8 hk8w hg13 hg3 hk8 hrow8;go_wp2
     go_loopw [20] (λx wx=>∃j:Nat,x= .int .i64 (j:Nat)/\j<=i/\RowZ wx 2 g1 i i (stepL (λx y=>x+y) p1 q1 j)/\Keeps (λk=>k=g1) w8 wx) (λx _=>i-(intOf x).toNat)
     case atStart=>exact⟨0,rfl,Nat.zero_le _,by rw [Dw];exact Hrp8.out,Keeps.refl _ _⟩
     case round=>
      obtain⟨j,rfl,hjn,hrowj,hkj⟩:=hrel;obtain⟨wz,hwz⟩:∃x,x=wr:=⟨_,rfl⟩;subst hwz;have hrq:RowZ wz 2 g3 i i q1:=⟨hkj.row Hrow8.out.1 (λg' hg e=>by simp only [Value.ownBlock,Option.some.injEq] at hg;subst hg;exact Hg13.out e.symm),Hrow8.out.2⟩;by_cases hltj:j<i
      ·refine j46 ?_;intro hltI x hx y hy x0 x1 y0 y1;have hex:=El (f:=λx y=>x+y) (P:=q1) j01 hx;have hS:r10T g1 j g3 j x y wz:=⟨hrowj.cell hex,hrq.cell hy⟩;have hSd:=hS.keep (S:=λ_=>False) (Keeps.drew wz) (by simp) (by simp);have hst:=Ej (f:=λx y=>x+y) (P:=q1) j01 hx hy;have hq1:IntKind.i64.wrap (x+y)=x+y:=IntWalk.i64_in _ ⟨by omega,by omega⟩;have hrd:∀w1,Keeps (λ_=>False) wz w1->RowZ w1 2 g1 i i (stepL (λx y=>x+y) p1 q1 j):=λw1 h=>hrowj.keep h
       have hnewr:∀w1,Keeps (λ_=>False) wz w1->RowZ (w1.setCell ⟨g1,j,none⟩ (.int .i64 (x+y))) 2 g1 i i (stepL (λx y=>x+y) p1 q1 (j+1)):=λw1 h=>by
        have:=(hrowj.keep h).set hltj (x+y)
        rwa [hst] at this
       have hnk:∀w1,Keeps (λ_=>False) wz w1->Keeps (λk=>k=g1) w8 (w1.setCell ⟨g1,j,none⟩ (.int .i64 (x+y))):=λw1 h=>(hkj.trans (h.mono λk _ e=> .inl e.elim)).trans (Keeps.setCell _ _ _ (.inl rfl));obtain⟨Hrowj,Hkj,Hrq,Hx,Hy,Hex,HS,HSd,Hst⟩:=hid9 hrowj hkj hrq hx hy hex hS hSd hst;clear hst hSd hS hex hy hx hrq hkj hrowj;obtain⟨Hrd,Hnewr,Hnk⟩:=hid3 hrd hnewr hnk;clear hnk hnewr hrd;go_wp2_with fail;refine Bj (r10T g1 j g3 j x y) 12 (.take 0 (.take 1 (.take 2 (.take 3 (.take 4 (.take 5 (.take 6 (.take 7 (.take 8 (.take 9 (.take 10 (.take 11 (.move 12 .done))))))))))))) j4 j4 ?_ ?_
       ·exact HSd.out
       intro w9 hs9 hk9;have r9:=Hrd.out _ hk9;have c9:=r9.cell Hex.out;have f9:=r9.free j;have l9:=r9.lt;obtain⟨Hs9,Hk9,R9⟩:=hid3 hs9 hk9 r9;clear r9 hk9 hs9;refine jR ?_;refine jh ?_;have hn8:=Hnewr.out _ Hk9.out;have hn9:=Hnk.out _ Hk9.out;clear c9 f9 l9;obtain⟨Hn8,Hn9⟩:=hid2 hn8 hn9;clear hn9 hn8;go_wp2;go_roundw
       case rel=>exact⟨j+1,by go_num,by omega,Hn8.out,Hn9.out⟩
       case measure=>simp [intOf];omega
      ·obtain rfl:j=i:=by omega
       rw [Dx j01 Hpl.out] at hrowj;have hkz:Keeps (λ_=>False) w wz:=Hk8w.out.trans (hkj.mono λk _ e=> .inr (by subst e;exact Hg5w.out));obtain⟨Hrowj,Hkj,Hrq,Hkz⟩:=hid4 hrowj hkj hrq hkz;clear hkz hrq hkj hrowj;go_wp2;exact bodyPost_ret (v:= .tuple #[.slice (some ⟨g1,0,none⟩) j j,.int .i64 m,.int .i64 r2,.int .i64 0]) (by simp [results,Tryz.results223,go_sem]) rfl ⟨g1,rfl,Hrowj.out,Hkz.out,Hg5w.out⟩
theorem Ep(L:List Int)(cr du:Int)(ad:Option Addr)(cap n:Nat)(w:World)(hr:Reads w 1 (.slice ad n cap) n (L.flatMap i64c))(hl:n<=1000):
  Calls Tryz.prog 84 #[.agg #[.slice ad n cap,.int .i64 cr,.int .i64 du]] w λe w'=>∃v',e= .returned (.agg #[v',.int .i64 cr,.int .i64 du])/\w'.ownsRow 0 2 1 v' n (L.flatMap i64c)/\Fresh w w' v':=by
 obtain⟨i0,hi,hi0,hi1,hi2⟩:=info_parts Ca;obtain⟨w0,hw0⟩:∃x,x=(w.alloc (.cells #[.slice ad n cap,.int .i64 cr,.int .i64 du] 35)).alloc (.cells #[.slice none 0 0,.int .i64 0,.int .i64 0] 35):=⟨_,rfl⟩;have hk0:Keeps (λ_=>False) w w0:=by rw [hw0];(repeat (first|exact Keeps.refl _ _|exact Keeps.alloc _ _|exact Keeps.drew _|exact Keeps.drewN _ _|refine Keeps.Am ?_|refine Keeps.Al ?_|refine Keeps.Af ?_))
 have hb0:w0.heap[w.heap.size]?=some (.cells #[.slice ad n cap,.int .i64 cr,.int .i64 du] 35 (0,0)):=by rw [hw0];exact Ap (heap_alloc_new w _) _
 have hs0:w0.heap[w.heap.size+1]?=some (.cells #[.slice none 0 0,.int .i64 0,.int .i64 0] 35 (0,0)):=by rw [hw0];exact Av _ _ (by simp)
 have hz0:w0.heap.size=w.heap.size+1+1:=by rw [hw0];simp
 have b0:=Aa hb0 0;have bl:=lt_of_block hb0;obtain⟨Hr,Hi,Hi0,Hi1,Hi2,Hk0,Hb0,Hs0,Hz0⟩:=hid9 hr hi hi0 hi1 hi2 hk0 hb0 hs0 hz0;clear hz0 hs0 hb0 hk0 hi2 hi1 hi0 hi hr;go_enter Tryz.func84,Tryz.ntmps84
 go_upto_region 1 with fail
 rw [<-hw0];have Hw0:=Lib.hid hw0;clear hw0
 go_wp2_with (at_builtin;refine Ba rfl (.const (.slice none 0 0)) (.tmp 4) 33 rfl 0 2 i0 _ 1 8 Tryz.underlying33 Hi.out Hi0.out Hi1.out Hi2.out rfl j2 _ 0 [] rfl (World.ownsRow_nil _ _ _ _) _ n (L.flatMap i64c) rfl (Hr.out.keeps Hk0.out (by simp)) (Bo _) j6 j1 j1 ?_;intro v1 w1 hown1 hk1 hf1;refine haltD ?_)
 refine Lib.hid ?_;have hrow:w1.ownsRow 0 2 1 v1 n (L.flatMap i64c):=by simpa using hown1
 have hfw:Fresh w0 w1 v1:=(Fresh.nil w0).app hk1 hf1;have hnew:∀g,v1.ownBlock=some g->w0.heap.size<=g:=hfw.2;have hkw:=Hk0.out.nt hfw.1;have hb:=Ac Hb0.out hfw.1 (by simp);have hrs:=Ac Hs0.out hfw.1 (by simp);have hnew2:∀g,v1.ownBlock=some g->w.heap.size+1+1<=g:=λg hg=>by have:=hnew g hg;rw [Hz0.out] at this;exact this
 clear hnew hown1 hf1 b0 bl;have hnew:=hnew2;clear hnew2;refine j3y ?_;intro k0 hrs2 hb3 k3 k4;have hrow3:=k4.row hrow (λg hg e=>by have:=hnew g hg;(try simp at this);omega);have hfin:Fresh w ((((w1.setCell ⟨w.heap.size,0,none⟩ v1).setCell ⟨w.heap.size+1,0,none⟩ v1).setCell ⟨w.heap.size+1,1,none⟩ (.int .i64 cr)).setCell ⟨w.heap.size+1,2,none⟩ (.int .i64 du)) v1:=⟨hkw.trans (k3.mono λi _ e=> .inr e),λg hg=>by have:=hnew g hg;(try simp at this);omega⟩;have b0:=Aa hb 0;have b1:=Aa hb 1;have b2:=Aa hb 2;have bf:=Ab hb 0;have bl:=lt_of_block hb;refine jM ?_;intro r0 r1 r2 rf0 rf1 rf2 rl;have sr0:=Aa hb3 0;have sr1:=Aa hb3 1;have sr2:=Aa hb3 2;obtain⟨ad1,c1,rfl,_,_⟩:=Ad hrow;obtain⟨Hrow,Hk1,Hfw,Hnew,Hkw,Hb,Hrs,K0,Hrs2⟩:=hid9 hrow hk1 hfw hnew hkw hb hrs k0 hrs2;clear hrs2 k0 hrs hb hkw hnew hfw hk1 hrow;obtain⟨Hb3,K3,K4,Hrow3,Hfin,Sr0,Sr1,Sr2⟩:=hid8 hb3 k3 k4 hrow3 hfin sr0 sr1 sr2;clear sr2 sr1 sr0 hfin hrow3 k4 k3 hb3;go_wp2;refine ja ?_;intro R0' R1' R2';clear r0 r1 r2 b0 b1 b2;exact bodyPost_ret (v:= .agg #[.slice ad1 n c1,.int .i64 cr,.int .i64 du]) (by simp [results,Tryz.results84,go_sem,R0',R1',R2']) rfl ⟨_,rfl,Hrow3.out,Hfin.out⟩
theorem Ct(L:List Int)(cr du:Int)(ad:Option Addr)(cap n:Nat)(w:World)(hr:Reads w 1 (.slice ad n cap) n (L.flatMap i64c))(hN:L.length=n)(hl:n<=1000)(b:Bool)(hb:Ps.Ar ⟨L,cr,du⟩=b):
  Calls Tryz.prog 173 #[.agg #[.slice ad n cap,.int .i64 cr,.int .i64 du]] w λe w'=>e= .returned (.bool b)/\Keeps (λ_=>False) w w':=by
 have:=Lj L cr du ad cap n w hr hN j1;rw [hb] at this;exact this
theorem Gu(L:List Int)(cr du a k:Int)(ad:Option Addr)(cap n:Nat)(w:World)(hr:Reads w 1 (.slice ad n cap) n (L.flatMap i64c))(hN:L.length=n)(hl:n<=1000):
  Calls Tryz.prog 221 #[.agg #[.slice ad n cap,.int .i64 cr,.int .i64 du],.int .i64 k,.int .i64 a] w λe w'=>e= .returned (.int .i64 (askE ⟨L,cr,du⟩ [k] a))/\Keeps (λ_=>False) w w':=by
 obtain⟨z,hz⟩:∃z,askE ⟨L,cr,du⟩ [k] a=z:=⟨_,rfl⟩;have hz':=hz;unfold askE at hz';simp only [List.all_cons,List.all_nil,Bool.and_true] at hz';rw [hN] at hz';rw [hz];refine jL ?_;intro hbx;rcases hb:Ps.Ar ⟨L,cr,du⟩ with _|_
 ·refine j1p ?_;intro hri;rw [hb] at hz';rw [if_neg j2] at hz';exact j5w
 ·refine j1p ?_;intro hri;rw [hb] at hz';rw [if_pos rfl] at hz';by_cases k1:k<1
  ·rw [if_neg (by simp [trB];omega)] at hz';exact j5w
  ·by_cases k2:(n:Int)<k
   ·rw [if_neg (by simp [trB];omega)] at hz';subst hz';obtain⟨Hr,Hri,Hb,Hz,Hbx⟩:=hid5 hr hri hb hz hbx;clear hbx hz hb hri hr;go_enter Tryz.func221,Tryz.ntmps221;go_wp2_with fail;refine(Hri.out _ j8).mono ?_;rintro e w1 ⟨rfl,hk1⟩;have hbb:=Hbx.out _ hk1;have b0:=Aa hbb 0;have bl:=lt_of_block hbb;have Hk1:=j1q;clear hk1 hbb;exact j0m
   ·rw [if_pos (by simp [trB];omega)] at hz';rcases m3:Az a with _|_
    ·rw [m3,if_neg j2] at hz';exact j5x
    ·rw [m3,if_pos rfl] at hz';exact j5x
theorem Gi:(Tryz.prog.info? 97).map (λi=>(i.zero,i.size,i.bytes))=some (some (.agg #[.int .i64 0,.complex .f64 0 0]),2,24):=by kernel_rfl
theorem Qb(v:Int)(w:World):Calls Tryz.prog 270 #[.int .i64 v] w λe w'=>e= .returned (.bool (Az v))/\w=w':=by
 by_cases h0:0<=v
 ·have q1:decide (0<=v)=true:=by simp [h0]
  by_cases h1:v<=1000000000000000
  ·have q2:decide (v<=1000000000000000)=true:=by simp [h1]
   have hf:Az v=true:=by simp [Az,h0,h1]
   exact j2D
  ·have q2:decide (v<=1000000000000000)=false:=by simp [h1]
   have hf:Az v=false:=by simp [Az,h1]
   exact j2D
 ·have q1:decide (0<=v)=false:=by simp [h0]
  have hf:Az v=false:=by simp [Az,h0]
  exact j2D
theorem Tw(v:Int)(w:World):Calls Tryz.prog 227 #[.int .i64 v] w λe w'=>(∃a b,e= .returned (.complex .f64 a b))/\w=w':=by
 have hm:=Qb v w;obtain⟨b,hb⟩:∃b,Az v=b:=⟨_,rfl⟩;rw [hb] at hm;obtain⟨Hm,Hb⟩:=hid2 hm hb;clear hb hm;go_enter Tryz.func227,Tryz.ntmps227;exact j5y
theorem Ri(v:Int)(w:World):Calls Tryz.prog 228 #[.int .i64 v] w λe w'=>(∃a b,e= .returned (.complex .f64 a b))/\w=w':=by
 have hm:=Qb v w;obtain⟨b,hb⟩:∃b,Az v=b:=⟨_,rfl⟩;rw [hb] at hm;obtain⟨Hm,Hb⟩:=hid2 hm hb;clear hb hm;go_enter Tryz.func228,Tryz.ntmps228;exact j5y
def PostLit(w:World)(e:Ending)(w':World):Prop:=∃a n c xs,e= .returned (.slice a n c)/\n<=1/\Reads w' 2 (.slice a n c) n xs/\(∀x∈xs,x.oneCell'=true)/\Keeps (λ_=>False) w w'
theorem Fp(k v:Int)(w:World):Calls Tryz.prog 177 #[.int .i64 k,.int .i64 v] w (PostLit w):=by
 have hd:=Tw v w;have hc:=Ri (wrap64 (-v)) w;obtain⟨Hd,Hc⟩:=hid2 hd hc;clear hc hd;by_cases h0:0<v
 ·go_enter Tryz.func177,Tryz.ntmps177;go_wp2_with fail;refine Hd.out.mono ?_;exact j5z
 ·by_cases h1:v<0
  ·go_enter Tryz.func177,Tryz.ntmps177;go_wp2_with fail;refine Hc.out.mono ?_;exact j5z
  ·go_enter Tryz.func177,Tryz.ntmps177;go_wp2;go_ret;exact⟨_,0,_,_,rfl,Nat.zero_le _,Reads.nil _ _,by simp,Keeps.refl _ _⟩
def PostOwn(n:Nat)(w:World)(e:Ending)(w':World):Prop:=∃v m xs,e= .returned v/\m<=n/\w'.ownsRow 0 97 2 v m xs/\(∀x∈xs,x.oneCell'=true)/\Fresh w w' v
def PpR(w:World)(n:Nat)(C1 C2:Array Value)(o s c:Value)(wr:World):Prop:=∃(k m:Nat) (a:Option Addr) (cv:Nat) (z:Int) (xs:List Value),k<=n/\m<=k/\c= .int .i64 (k:Nat)/\s= .int .i64 z/\o= .slice a m cv/\wr.ownsRow 0 97 2 (.slice a m cv) m xs/\(∀x∈xs,x.oneCell'=true)/\Fresh w wr (.slice a m cv)/\wr.heap[w.heap.size]?=some (.cells C1 35 (0,0))/\wr.heap[w.heap.size+1]?=some (.cells C2 35 (0,0))
def pp8(B g1 o1 g2 o2:Nat)(v1 v2:Value)(x y:Int)(W:World):Prop:=W.cell? ⟨B,0,none⟩=some v1/\W.cell? ⟨B+1,0,none⟩=some v2/\W.cell? ⟨g1,o1,none⟩=some (.int .i64 x)/\W.cell? ⟨g2,o2,none⟩=some (.int .i64 y)
theorem pp8.keep{B g1 o1 g2 o2:Nat}{v1 v2:Value}{x y:Int}{W W':World}(h:pp8 B g1 o1 g2 o2 v1 v2 x y W)(hk:Keeps (λ_=>False) W W'):pp8 B g1 o1 g2 o2 v1 v2 x y W':=by
 exact j5A
theorem Jf(L M:List Int)(bc bd ac ad k:Int)(a1 a2:Option Addr)(c1 c2 n:Nat)(w:World)(hL:Reads w 1 (.slice a1 n c1) n (L.flatMap i64c))(hLn:L.length=n)(hM:Reads w 1 (.slice a2 n c2) n (M.flatMap i64c))(hMn:M.length=n)(hn:n<=1000)(h1:Ps.Ar ⟨L,bc,bd⟩=true)(h2:Ps.Ar ⟨M,ac,ad⟩=true):
  Calls Tryz.prog 114 #[.agg #[.slice a1 n c1,.int .i64 bc,.int .i64 bd],.agg #[.slice a2 n c2,.int .i64 ac,.int .i64 ad],.int .i64 k] w (PostOwn (n+2) w):=by
 obtain⟨i0,hi,hi0,hi1,hi2⟩:=info_parts Gi;have hr1:=λW (hW:Keeps (λ_=>False) w W)=>Ct L bc bd a1 c1 n W (hL.keeps hW (by simp)) hLn hn true h1;have hr2:=λW (hW:Keeps (λ_=>False) w W)=>Ct M ac ad a2 c2 n W (hM.keeps hW (by simp)) hMn hn true h2;have hnn:((n:Int) !=(n:Int))=false:=by simp
 obtain⟨W0,hW0⟩:∃x,x=(w.alloc (.cells #[.slice a1 n c1,.int .i64 bc,.int .i64 bd] 35)).alloc (.cells #[.slice a2 n c2,.int .i64 ac,.int .i64 ad] 35):=⟨_,rfl⟩;have hk0:Keeps (λ_=>False) w W0:=by rw [hW0];(repeat (first|exact Keeps.refl _ _|exact Keeps.alloc _ _|exact Keeps.drew _|exact Keeps.drewN _ _|refine Keeps.Am ?_|refine Keeps.Al ?_|refine Keeps.Af ?_))
 have hx0:W0.heap[w.heap.size]?=some (.cells #[.slice a1 n c1,.int .i64 bc,.int .i64 bd] 35 (0,0)):=by rw [hW0];exact Ap (heap_alloc_new w _) _
 have hy0:W0.heap[w.heap.size+1]?=some (.cells #[.slice a2 n c2,.int .i64 ac,.int .i64 ad] 35 (0,0)):=by rw [hW0];exact Av _ _ (by simp)
 obtain⟨HL,HLn,HM,HMn,H1,H2,Hr1,Hr2,Hk0⟩:=hid9 hL hLn hM hMn h1 h2 hr1 hr2 hk0;clear hk0 hr2 hr1 h2 h1 hMn hM hLn hL;obtain⟨Hx0,Hy0,Hi,Hi0,Hi1,Hi2⟩:=hid6 hx0 hy0 hi hi0 hi1 hi2;clear hi2 hi1 hi0 hi hy0 hx0;go_enter Tryz.func114,Tryz.ntmps114;go_wp2_with fail;rw [<-hW0];clear hW0;refine(Hr1.out W0 Hk0.out).mono ?_;rintro e w1 ⟨rfl,hk1⟩;have hy1:=Ac Hy0.out hk1 (by simp);have hx1:=Ac Hx0.out hk1 (by simp);have y0:=Aa hy1 0;have y1:=Aa hy1 1;have y2:=Aa hy1 2;have yl:=lt_of_block hy1;have hkw1:=Hk0.out.nt hk1;clear hk1;obtain⟨Hx1,Hy1,Hkw1⟩:=hid3 hx1 hy1 hkw1;clear hkw1 hy1 hx1;go_wp2_with fail;refine(Hr2.out w1 Hkw1.out).mono ?_;rintro e w2 ⟨rfl,hk2⟩;have hy2:=Ac Hy1.out hk2 (by simp);have hx2:=Ac Hx1.out hk2 (by simp);have hkw2:=Hkw1.out.nt hk2;clear y0 y1 y2 yl;have y0:=Aa hy2 0;have x0:=Aa hx2 0;have yl:=lt_of_block hy2;have xl:=lt_of_block hx2;clear hk2;obtain⟨Hx2,Hy2,Hkw2⟩:=hid3 hx2 hy2 hkw2;clear hkw2 hy2 hx2;go_wp2_with fail;clear y0 x0 yl xl
 go_loopw [7,8,9] (λo s c wr=>PpR w n #[.slice a1 n c1,.int .i64 bc,.int .i64 bd] #[.slice a2 n c2,.int .i64 ac,.int .i64 ad] o s c wr) (λ_ _ c _=>n-(intOf c).toNat)
 case atStart=>
  unfold PpR;exact⟨0,0,none,0,0, [],Nat.zero_le _,Nat.le_refl _,rfl,rfl,rfl,World.ownsRow_nil _ _ _ _,by simp,⟨Hkw2.out,by simp [Value.ownBlock]⟩,Hx2.out,Hy2.out⟩
 case round=>
  unfold PpR at hrel;obtain⟨i,m,a,cv,z,xs,hin,hmi,rfl,rfl,rfl,hrow,hone,hfr,hx,hy⟩:=hrel;refine jc ?_;intro wq hwq;subst hwq;have y0:=Aa hy 0;have yl:=lt_of_block hy;by_cases hlt:i<n
  ·have hltI:(i:Int)<(n:Int):=j3;obtain⟨p,hp⟩:=Aj (L:=L) (k:=i) (by rw [HLn.out];exact hlt);obtain⟨q,hq⟩:=Aj (L:=M) (k:=i) (by rw [HMn.out];exact hlt);obtain⟨g1,o1,d1,he1,hc1⟩:=(HL.out.keeps hfr.1 (by simp)).elem Bg hp j2;obtain⟨g2,o2,d2,he2,hc2⟩:=(HM.out.keeps hfr.1 (by simp)).elem Bg hq j2;simp only [Value.slice.injEq,true_and] at he1 he2;obtain⟨rfl,rfl⟩:=he1;obtain⟨rfl,rfl⟩:=he2;have e1:wq.cell? ⟨g1,o1+i,none⟩=some (.int .i64 p):=by have:=hc1 0 j2;simpa [i64c] using this
   have e2:wq.cell? ⟨g2,o2+i,none⟩=some (.int .i64 q):=by have:=hc2 0 j2;simpa [i64c] using this
   have hS:pp8 w.heap.size g1 (o1+i) g2 (o2+i) (.slice (some ⟨g1,o1,none⟩) n c1) (.slice (some ⟨g2,o2,none⟩) n c2) p q wq:=⟨Aa hx 0,Aa hy 0,e1,e2⟩;clear hc1 hc2 e1 e2;obtain⟨Hp,Hq,HS,Hrow,Hone,Hfr,Hx,Hy⟩:=hid8 hp hq hS hrow hone hfr hx hy;clear hy hx hfr hone hrow hS hq hp
   go_upto_region 8 with fail
   refine Ak (pp8 w.heap.size g1 (o1+i) g2 (o2+i) (.slice (some ⟨g1,o1,none⟩) n c1) (.slice (some ⟨g2,o2,none⟩) n c2) p q) (.take 0 (.take 1 (.take 2 (.take 3 (.take 4 (.take 5 (.take 6 (.take 7 (.take 8 (.take 9 (.take 10 (.take 11 .done)))))))))))) j4 j4 ?_ ?_
   ·exact j08
   intro w3 hs3 hk3;refine jf ?_;obtain⟨mo,hmo⟩:∃z,wrap64 (q-p)=z:=⟨_,rfl⟩
   try rw [hmo]
   clear hmo hs3 y0 yl;have hpo:=λk v=>Fp k v w3;obtain⟨Hk3,Hpo⟩:=hid2 hk3 hpo;clear hpo hk3;go_wp2_with fail;refine(Hpo.out _ _).mono ?_;rintro e w5 ⟨ap,np,cp,xs2,rfl,hnp,hrp,hop,hk5⟩;have hk35:=Hk3.out.nt hk5;have hrow5:=Hrow.out.of_keeps hk35;have hfr5:=Hfr.out.keep hk35;have hx5:=Ac Hx.out hk35 (by simp);have hy5:=Ac Hy.out hk35 (by simp);clear hk5;obtain⟨Hk35,Hrow5,Hfr5,Hx5,Hy5,Hrp,Hop⟩:=hid7 hk35 hrow5 hfr5 hx5 hy5 hrp hop;clear hop hrp hy5 hx5 hfr5 hrow5 hk35
   go_wp2_with (at_builtin;refine Ba rfl (.tmp 48) (.tmp 52) 84 rfl 0 97 i0 _ 2 24 Tryz.underlying84 Hi.out Hi0.out Hi1.out Hi2.out rfl j2 (.slice a m cv) m _ rfl (Hrow5.out) _ np _ rfl (Hrp.out) (Hop.out) j6 j1 j1 ?_;intro v4 w4 hown4 hk4 hf4;refine haltR ?_)
   refine Lib.hid ?_;have hfr4:=(Hfr5.out).app hk4 hf4;have hb14:=Ac Hx5.out hk4 (λe=>Ag (Hrow5.out) Hx5.out j2 e);have hb24:=Ac Hy5.out hk4 (λe=>Ag (Hrow5.out) Hy5.out j2 e);obtain⟨ad4,c4,rfl,_,_⟩:=Ad hown4;have ho4:∀x∈xs++xs2,x.oneCell'=true:=λx hx=>(List.mem_append.1 hx).elim (Hone.out x) (Hop.out x);obtain⟨Hown4,Hfr4,Hb14,Hb24,Ho4⟩:=hid5 hown4 hfr4 hb14 hb24 ho4;clear ho4 hb24 hb14 hfr4 hown4;clear hk4 hf4;go_wp2;go_roundw
   case rel=>
    unfold PpR;exact⟨i+1,m+np,ad4,c4,_,_,by omega,by omega,by go_num,rfl,rfl,Hown4.out,Ho4.out,Hfr4.out,Hb14.out,Hb24.out⟩
   case measure=>simp [intOf];omega
  ·obtain rfl:i=n:=by omega
   have hge:¬(i:Int)<(i:Int):=j3;have x1:=Aa hx 1;have y1:=Aa hy 1;have xl:=lt_of_block hx;have hpo:=λk v=>Fp k v wq;obtain⟨Hrow,Hone,Hfr,Hx,Hy,Hpo⟩:=hid6 hrow hone hfr hx hy hpo;clear hpo hy hx hfr hone hrow;go_wp2_with fail;refine(Hpo.out _ _).mono ?_;rintro e w5 ⟨ap,np,cp,xs2,rfl,hnp,hrp,hop,hk5⟩;have hrow5:=Hrow.out.of_keeps hk5;have hfr5:=Hfr.out.keep hk5;have hx5:=Ac Hx.out hk5 (by simp);have hy5:=Ac Hy.out hk5 (by simp);clear hk5 x1 y1 xl y0 yl;obtain⟨Hrow5,Hfr5,Hx5,Hy5,Hrp,Hop⟩:=hid6 hrow5 hfr5 hx5 hy5 hrp hop;clear hop hrp hy5 hx5 hfr5 hrow5
   go_wp2_with (at_builtin;refine Ba rfl (.tmp 62) (.tmp 64) 84 rfl 0 97 i0 _ 2 24 Tryz.underlying84 Hi.out Hi0.out Hi1.out Hi2.out rfl j2 (.slice a m cv) m _ rfl (Hrow5.out) _ np _ rfl (Hrp.out) (Hop.out) j6 j1 j1 ?_;intro v4 w4 hown4 hk4 hf4;refine haltR ?_)
   refine Lib.hid ?_;have hfr4:=(Hfr5.out).app hk4 hf4;have hb14:=Ac Hx5.out hk4 (λe=>Ag (Hrow5.out) Hx5.out j2 e);have hb24:=Ac Hy5.out hk4 (λe=>Ag (Hrow5.out) Hy5.out j2 e);obtain⟨ad4,c4,rfl,_,_⟩:=Ad hown4;have ho4:∀x∈xs++xs2,x.oneCell'=true:=λx hx=>(List.mem_append.1 hx).elim (Hone.out x) (Hop.out x);obtain⟨Hown4,Hfr4,Hb14,Hb24,Ho4⟩:=hid5 hown4 hfr4 hb14 hb24 ho4;clear ho4 hb24 hb14 hfr4 hown4;clear hk4 hf4;obtain⟨X,hX⟩:∃X,wrap64 (-wrap64 (z+wrap64 (bc-ac)))=X:=⟨_,rfl⟩;have hpo2:=λk v=>Fp k v w4;have Hpo2:=Lib.hid hpo2;clear hpo2;by_cases l1:1000000000000000<X
   ·go_wp2;go_ret;exact⟨_,m+np,_,rfl,by omega,Hown4.out,Ho4.out,Hfr4.out⟩
   ·by_cases l2:X< -1000000000000000
    ·go_wp2;go_ret;exact⟨_,m+np,_,rfl,by omega,Hown4.out,Ho4.out,Hfr4.out⟩
    ·go_wp2_with fail;refine(Hpo2.out _ _).mono ?_;rintro e w6 ⟨ap,nq,cp,xs3,rfl,hnq,hrq,hoq,hk6⟩;have hrow6:=Hown4.out.of_keeps hk6;have hfr6:=Hfr4.out.keep hk6;clear hk6;obtain⟨Hrow6,Hfr6,Hrq,Hoq⟩:=hid4 hrow6 hfr6 hrq hoq;clear hoq hrq hfr6 hrow6
     go_wp2_with (at_builtin;refine Ba rfl (.tmp 77) (.tmp 80) 84 rfl 0 97 i0 _ 2 24 Tryz.underlying84 Hi.out Hi0.out Hi1.out Hi2.out rfl j2 (.slice ad4 (m+np) c4) (m+np) _ rfl (Hrow6.out) _ nq _ rfl (Hrq.out) (Hoq.out) j6 j1 j1 ?_;intro v7 w7 hown7 hk7 hf7;refine haltR ?_)
     refine Lib.hid ?_;have hfr7:=(Hfr6.out).app hk7 hf7;obtain⟨ad7,c7,rfl,_,_⟩:=Ad hown7;have ho7:∀x∈(xs++xs2)++xs3,x.oneCell'=true:=λx hx=>(List.mem_append.1 hx).elim (Ho4.out x) (Hoq.out x);clear hk7 hf7;obtain⟨Hown7,Hfr7,Ho7⟩:=hid3 hown7 hfr7 ho7;clear ho7 hfr7 hown7;go_wp2;go_ret;exact⟨_,m+np+nq,_,rfl,by omega,Hown7.out,Ho7.out,Hfr7.out⟩
def upd{α:Type}(f:Nat->α)(a:Nat)(x:α):Nat->α:=λb=>if b=a then x else f b
theorem Cw{α:Type}(f:Nat->α)(a:Nat)(x:α):upd f a x a=x:=if_pos rfl
theorem upd_ne{α:Type}{f:Nat->α}{a b:Nat}{x:α}(h:b≠a):upd f a x b=f b:=if_neg h
def docT(e:TypeId):Prop:=e=115\/e=2\/e=33\/e=58\/e=97
def DocK(Z W:World):Prop:=∀(i:Nat) (c:Array Value) (e:TypeId) (fz:Nat×Nat),Z.heap[i]?=some (.cells c e fz)->¬docT e->W.heap[i]?=some (.cells c e fz)
theorem DocK.step{Z W W':World}{S:Nat->Prop}(h:DocK Z W)(hk:Keeps S W W')(hS:∀i,S i->∃c e fz,W.heap[i]?=some (.cells c e fz)/\docT e):DocK Z W':=λi c e fz hz hne=>by
 have h1:=h i c e fz hz hne;refine Ac h1 hk λhs=> ?_;obtain⟨c',e',fz',h2,h3⟩:=hS i hs;rw [h1] at h2;injection h2 with h2;injection h2 with _ h2 _;exact hne (h2▸h3)
theorem Dm{w:World}{e:TypeId}{sz n g:Nat}{v:Value}{xs:List Value}(h:w.ownsRow 0 e sz v n xs)(hg:v.ownBlock=some g):∃c fz,w.heap[g]?=some (.cells c e fz):=by
 rcases h.2 with⟨rfl,_⟩|⟨g',cap,cur,rfl,_,hh,_⟩
 ·simp [Value.ownBlock] at hg
 ·simp only [Value.ownBlock,Option.some.injEq] at hg;subst hg;exact⟨cur,_,hh⟩
theorem DocK.row{Z W:World}(h:DocK Z W){e:TypeId}{sz n:Nat}{v:Value}{xs:List Value}(hr:Z.ownsRow 0 e sz v n xs)(hne:¬docT e):W.ownsRow 0 e sz v n xs:=by
 refine⟨hr.1, ?_⟩;rcases hr.2 with h1|⟨g,cap,cur,h1,h2,h3,h4⟩
 ·exact .inl h1
 ·exact .inr ⟨g,cap,cur,h1,h2,h g _ _ _ h3 hne,h4⟩
structure DocV(w0 Z:World)(B:Nat)(p:Ps)(R:List Int)(E:Nat->List (List Int))(vb vr vo vp:Value)(vs:Nat->Value)(F:Nat->List SI)(P:List SV)(m:Nat)(Q:List Value)(W:World):Prop where
 blk:W.heap[B]?=some (.cells #[vb,.int .i64 p.cr,.int .i64 p.du,vr,vo,vs 0,vp,vs 1,vs 2] 115 (0,0))
 bal:W.ownsRow 0 2 1 vb p.bal.length (p.bal.flatMap i64c)
 rts:W.ownsRow 0 2 1 vr R.length (R.flatMap i64c)
 out:W.ownsRow 0 58 9 vo P.length (P.flatMap SV.cells)
 ln:∀x∈P,W.ownsRow 0 92 3 x.v x.s.lines.length (x.s.lines.flatMap Ln.cells)
 pst:W.ownsRow 0 97 2 vp m Q
 o:∀a,a<3->W.ownsRow 0 33 1 (vs a) (F a).length ((F a).map SI.v)
 i:∀a,a<3->∀x∈F a,W.ownsRow 0 2 1 x.v x.L.length (x.L.flatMap i64c)
 l:∀a,a<3->(F a).map SI.L=E a
 d:∀a b,a<3->b<3->∀(j k:Nat) (x y:SI),(F a)[j]?=some x->(F b)[k]?=some y->¬(a=b/\j=k)->∀g,x.v.ownBlock=some g->y.v.ownBlock≠some g
 db:∀a,a<3->∀x∈F a,∀g,x.v.ownBlock=some g->vb.ownBlock≠some g/\vr.ownBlock≠some g
 go:∀a b,a<3->b<3->a≠b->∀g,(vs a).ownBlock=some g->(vs b).ownBlock≠some g
 wB:w0.heap.size<=B
 wb:∀g,vb.ownBlock=some g->w0.heap.size<=g
 wr:∀g,vr.ownBlock=some g->w0.heap.size<=g
 wo:∀g,vo.ownBlock=some g->w0.heap.size<=g
 wp:∀g,vp.ownBlock=some g->w0.heap.size<=g
 ws:∀a,a<3->∀g,(vs a).ownBlock=some g->w0.heap.size<=g
 wi:∀a,a<3->∀x∈F a,∀g,x.v.ownBlock=some g->w0.heap.size<=g
 wl:∀x∈P,∀g,x.v.ownBlock=some g->w0.heap.size<=g
 kp:Keeps (λ_=>False) w0 W
 fz:DocK Z W
section
variable {w0 Z:World} {B:Nat} {p:Ps} {R:List Int} {E:Nat->List (List Int)} {vb vr vo vp:Value} {vs:Nat->Value} {F:Nat->List SI} {P:List SV} {m:Nat} {Q:List Value} {W W':World}
theorem DocV.keep0(h:DocV w0 Z B p R E vb vr vo vp vs F P m Q W)(hk:Keeps (λ_=>False) W W'):DocV w0 Z B p R E vb vr vo vp vs F P m Q W':=
 { h with
  blk:=Ac h.blk hk (by simp)
  bal:=h.bal.of_keeps hk
  rts:=h.rts.of_keeps hk
  out:=h.out.of_keeps hk
  ln:=λx hx=>(h.ln x hx).of_keeps hk
  pst:=h.pst.of_keeps hk
  o:=λa ha=>(h.o a ha).of_keeps hk
  i:=λa ha x hx=>(h.i a ha x hx).of_keeps hk
  kp:=h.kp.nt hk
  fz:=h.fz.step hk (by simp) }
theorem DocV.ext(h:DocV w0 Z B p R E vb vr vo vp vs F P m Q W){a k g c:Nat}(ha:a<3)(hv:vs a= .slice (some ⟨g,0,none⟩) (F a).length c){x x':SI}{v:Int}{w4 w5:World}(hx:(F a)[k]?=some x)(hk4:Keeps (λ_=>False) W w4)(hk5:Keeps (λi=>x.v.ownBlock=some i) w4 w5)
  (hr:w5.ownsRow 0 2 1 x'.v x'.L.length (x'.L.flatMap i64c)) (hL:x'.L=x.L++ [v]) (hf:x'.v.ownBlock=x.v.ownBlock\/∃g,x'.v.ownBlock=some g/\w4.heap.size<=g):
  DocV w0 Z B p R (upd E a ((E a).set k (x.L++ [v]))) vb vr vo vp vs (upd F a ((F a).set k x')) P m Q (w5.setCell ⟨g,k,none⟩ x'.v):=by
 have h4:=h.keep0 hk4;have hxm:=List.mem_of_getElem? hx;have hrx:=h4.i a ha x hxm;have hkl:=Cj hx;have hs4:=hk4.size;have hs5:=hk5.size
 have hnewb:∀b,x'.v.ownBlock=some b->x.v.ownBlock=some b\/W.heap.size<=b:=λb hb=>by
  exact j0n
 refine j2l ?_;intro nx nr;have h5b:=Ac h4.blk hk5 (nx h4.blk j2);have ho5:∀b,b<3->w5.ownsRow 0 33 1 (vs b) (F b).length ((F b).map SI.v):=λb hb=>hk5.row (h4.o b hb) (nr (h4.o b hb) j2);have hga:(vs a).ownBlock=some g:=by rw [hv];rfl
 have kg:Keeps (λi=>i=g) w5 (w5.setCell ⟨g,k,none⟩ x'.v):=Keeps.setCell _ _ _ rfl;have gb:∀{e:TypeId} {sz m:Nat} {u:Value} {xs:List Value},w5.ownsRow 0 e sz u m xs->e≠33->∀b,u.ownBlock=some b->¬b=g:=λhr' hne b hb e=>by subst e;exact Cm hr' (ho5 a ha) hne hb hga
 have hBg:¬B=g:=λe=>by subst e;exact Ag (ho5 a ha) h5b j2 hga
 have r5:∀{e:TypeId} {sz m:Nat} {u:Value} {xs:List Value},w4.ownsRow 0 e sz u m xs->(∀b,u.ownBlock=some b->¬x.v.ownBlock=some b)->e≠33->(w5.setCell ⟨g,k,none⟩ x'.v).ownsRow 0 e sz u m xs:=λhr' hd hne=>kg.row (hk5.row hr' hd) (gb (hk5.row hr' hd) hne)
 have hmem:∀(b j:Nat) (y:SI),(upd F a ((F a).set k x') b)[j]?=some y->((b=a/\j=k)/\y=x')\/(¬(b=a/\j=k)/\(F b)[j]?=some y):=λb j y hy=>by
  by_cases eb:b=a
  ·subst eb;rw [Cw] at hy;by_cases e:j=k
   ·subst e;rw [List.getElem?_set_self hkl] at hy;simp only [Option.some.injEq] at hy;exact .inl ⟨⟨rfl,rfl⟩,hy.symm⟩
   ·rw [List.getElem?_set_ne (λh=>e h.symm)] at hy;exact .inr ⟨λh=>e h.2,hy⟩
  ·rw [upd_ne eb] at hy;exact .inr ⟨λh=>eb h.1,hy⟩
 have hmem2:∀b,∀y∈upd F a ((F a).set k x') b,(b=a/\y=x')\/∃j,¬(b=a/\j=k)/\(F b)[j]?=some y:=λb y hy=>by
  obtain⟨j,hj⟩:=List.getElem?_of_mem hy;rcases hmem b j y hj with h|h
  ·exact .inl ⟨h.1.1,h.2⟩
  ·exact .inr ⟨j,h⟩
 exact { h4 with
  blk:=Ac h5b kg hBg
  bal:=r5 h4.bal (λb hb e=>(h.db a ha x hxm b e).1 hb) j2
  rts:=r5 h4.rts (λb hb e=>(h.db a ha x hxm b e).2 hb) j2
  out:=r5 h4.out (nr h4.out j2) j2
  ln:=λy hy=>r5 (h4.ln y hy) (nr (h4.ln y hy) j2) j2
  pst:=r5 h4.pst (nr h4.pst j2) j2
  o:=λb hb=>by
   by_cases e:b=a
   ·subst e;rw [Cw,List.length_set,List.map_set,hv];have h5:=ho5 b hb;rw [hv] at h5;exact(h5.stored k x'.v).1
   ·rw [upd_ne e];exact kg.row (ho5 b hb) (λi hi e'=>by have e2:i=g:=e';subst e2;exact h.go b a hb ha e i hi hga)
  i:=λb hb y hy=>by
   rcases hmem2 b y hy with⟨rfl,rfl⟩|⟨j,hj,hjy⟩
   ·exact kg.row hr (gb hr j2)
   ·exact r5 (h4.i b hb y (List.mem_of_getElem? hjy)) (λg' hb' e=>h.d b a hb ha j k y x hjy hx hj g' hb' e) j2
  l:=λb hb=>by
   by_cases e:b=a
   ·subst e;rw [Cw,Cw,List.map_set,h.l b hb,hL]
   ·rw [upd_ne e,upd_ne e];exact h.l b hb
  d:=λb c hb hc i j y z hy hz hne g' hg'=>by
   rcases hmem b i y hy with⟨⟨rfl,rfl⟩,rfl⟩|⟨h1,h2⟩
   ·rcases hmem c j z hz with⟨⟨rfl,rfl⟩,rfl⟩|⟨h3,h4'⟩
    ·exact absurd ⟨rfl,rfl⟩ hne
    ·rcases hnewb g' hg' with h5|h5
     ·exact h.d b c hb hc i j x z hx h4' hne g' h5
     ·intro e;have:=Bh (h.i c hc z (List.mem_of_getElem? h4')) e;omega
   ·rcases hmem c j z hz with⟨⟨rfl,rfl⟩,rfl⟩|⟨h3,h4'⟩
    ·intro e;rcases hnewb g' e with h5|h5
     ·exact h.d b c hb hc i j y x h2 hx hne g' hg' h5
     ·have:=Bh (h.i b hb y (List.mem_of_getElem? h2)) hg';omega
    ·exact h.d b c hb hc i j y z h2 h4' hne g' hg'
  db:=λb hb y hy g' hg'=>by
   rcases hmem2 b y hy with⟨rfl,rfl⟩|⟨j,hj,hjy⟩
   ·rcases hnewb g' hg' with h5|h5
    ·exact h.db b hb x hxm g' h5
    ·exact j2m
   ·exact h.db b hb y (List.mem_of_getElem? hjy) g' hg'
  wi:=λb hb y hy g' hg'=>by
   rcases hmem2 b y hy with⟨rfl,rfl⟩|⟨j,hj,hjy⟩
   ·rcases hnewb g' hg' with h5|h5
    ·exact h.wi b hb x hxm g' h5
    ·have:=h.kp.size;omega
   ·exact h.wi b hb y (List.mem_of_getElem? hjy) g' hg'
  kp:=(h4.kp.trans (hk5.mono λi _ e=> .inr (h.wi a ha x hxm i e))).trans (kg.mono λi _ e=> .inr (by have e':i=g:=e;rw [e'];exact h.ws a ha g hga))
  fz:=(h4.fz.step hk5 (λi e=>by obtain⟨c,fz,hc⟩:=Dm hrx e;exact⟨c,_,fz,hc,.inr (.inl rfl)⟩)).step kg (λi e=>by have e':i=g:=e;subst e';obtain⟨c,fz,hc⟩:=Dm (ho5 a ha) hga;exact⟨c,_,fz,hc,.inr (.inr (.inl rfl))⟩) }
def fldD(a:Nat):Nat:=if a=0 then 5 else 6+a
theorem DocV.putS(h:DocV w0 Z B p R E vb vr vo vp vs F P m Q W){a:Nat}(ha:a<3){w4 w5:World}{v':Value}{F':List SI}{E':List (List Int)}(hk4:Keeps (λ_=>False) W w4)(hk5:Keeps (λi=>(vs a).ownBlock=some i) w4 w5)
  (hr:w5.ownsRow 0 33 1 v' F'.length (F'.map SI.v)) (hE:F'.map SI.L=E') (hf:∀g,v'.ownBlock=some g->(vs a).ownBlock=some g\/w4.heap.size<=g) (hF:∀(k:Nat) (x:SI),F'[k]?=some x->(F a)[k]?=some x\/x=si0):
  DocV w0 Z B p R (upd E a E') vb vr vo vp (upd vs a v') (upd F a F') P m Q (w5.setCell ⟨B,fldD a,none⟩ v'):=by
 have h4:=h.keep0 hk4;have hro:=h4.o a ha;have hs4:=hk4.size;have hs5:=hk5.size;have hnewb:∀b,v'.ownBlock=some b->(vs a).ownBlock=some b\/W.heap.size<=b:=λb hb=>(hf b hb).imp id (λe=>by omega);have nx:∀{e:TypeId} {b:Nat} {c:Array Value},w4.heap[b]?=some (.cells c e (0,0))->e≠33->¬(vs a).ownBlock=some b:=λhb hne=>Ag hro hb hne;have nr:∀{e:TypeId} {sz m:Nat} {u:Value} {xs:List Value},w4.ownsRow 0 e sz u m xs->e≠33->∀b,u.ownBlock=some b->¬(vs a).ownBlock=some b:=λhr' hne b hb e=>Cm hr' hro hne hb e;have h5b:=Ac h4.blk hk5 (nx h4.blk j2);have kg:Keeps (λi=>i=B) w5 (w5.setCell ⟨B,fldD a,none⟩ v'):=Keeps.setCell _ _ _ rfl;have gb:∀{e:TypeId} {sz m:Nat} {u:Value} {xs:List Value},w5.ownsRow 0 e sz u m xs->115≠e->∀b,u.ownBlock=some b->¬b=B:=λhr' hne b hb e=>by subst e;exact Ag hr' h5b hne hb
 have r5:∀{e:TypeId} {sz m:Nat} {u:Value} {xs:List Value},w4.ownsRow 0 e sz u m xs->(∀b,u.ownBlock=some b->¬(vs a).ownBlock=some b)->115≠e->(w5.setCell ⟨B,fldD a,none⟩ v').ownsRow 0 e sz u m xs:=λhr' hd hne=>kg.row (hk5.row hr' hd) (gb (hk5.row hr' hd) hne);have hnil:si0.v.ownBlock=none:=rfl
 have hmem:∀(b j:Nat) (y:SI),(upd F a F' b)[j]?=some y->(F b)[j]?=some y\/y=si0:=λb j y hy=>by
  by_cases eb:b=a
  ·subst eb;rw [Cw] at hy;exact hF j y hy
  ·rw [upd_ne eb] at hy;exact .inl hy
 have hmem2:∀b,∀y∈upd F a F' b,(∃j,(F b)[j]?=some y)\/y=si0:=λb y hy=>by
  obtain⟨j,hj⟩:=List.getElem?_of_mem hy;exact(hmem b j y hj).imp (λh=>⟨j,h⟩) id
 exact { h4 with
  blk:=by
   have hs:=heap_setCell_same _ _ (fldD a) _ _ v' h5b;rw [hs];obtain rfl|rfl|rfl:a=0\/a=1\/a=2:=by omega
   all_goals rfl
  bal:=r5 h4.bal (nr h4.bal j2) j2
  rts:=r5 h4.rts (nr h4.rts j2) j2
  out:=r5 h4.out (nr h4.out j2) j2
  ln:=λy hy=>r5 (h4.ln y hy) (nr (h4.ln y hy) j2) j2
  pst:=r5 h4.pst (nr h4.pst j2) j2
  o:=λb hb=>by
   by_cases e:b=a
   ·subst e;rw [Cw,Cw];exact kg.row hr (gb hr j2)
   ·rw [upd_ne e,upd_ne e];exact r5 (h4.o b hb) (λg hg e'=>h.go b a hb ha e g hg e') j2
  i:=λb hb y hy=>by
   rcases hmem2 b y hy with⟨j,hj⟩|rfl
   ·exact r5 (h4.i b hb y (List.mem_of_getElem? hj)) (nr (h4.i b hb y (List.mem_of_getElem? hj)) j2) j2
   ·exact World.ownsRow_nil _ _ _ _
  l:=λb hb=>by
   by_cases e:b=a
   ·subst e;rw [Cw,Cw];exact hE
   ·rw [upd_ne e,upd_ne e];exact h.l b hb
  d:=λb c hb hc i j y z hy hz hne g' hg'=>by
   rcases hmem b i y hy with h1|rfl
   ·rcases hmem c j z hz with h2|rfl
    ·exact h.d b c hb hc i j y z h1 h2 hne g' hg'
    ·rw [hnil];exact λe=>by cases e
   ·rw [hnil] at hg';cases hg'
  db:=λb hb y hy g' hg'=>by
   rcases hmem2 b y hy with⟨j,hj⟩|rfl
   ·exact h.db b hb y (List.mem_of_getElem? hj) g' hg'
   ·rw [hnil] at hg';cases hg'
  go:=λb c hb hc hne g hg e=>by
   by_cases eb:b=a
   ·subst eb;rw [Cw] at hg;rw [upd_ne (Ne.symm hne)] at e;rcases hnewb g hg with h1|h1
    ·exact h.go b c hb hc hne g h1 e
    ·have:=Bh (h.o c hc) e;omega
   ·rw [upd_ne eb] at hg;by_cases ec:c=a
    ·subst ec;rw [Cw] at e;rcases hnewb g e with h1|h1
     ·exact h.go b c hb hc hne g hg h1
     ·have:=Bh (h.o b hb) hg;omega
    ·rw [upd_ne ec] at e;exact h.go b c hb hc hne g hg e
  ws:=λb hb g hg=>by
   by_cases e:b=a
   ·subst e;rw [Cw] at hg;rcases hnewb g hg with h1|h1
    ·exact h.ws b hb g h1
    ·have:=h.kp.size;omega
   ·rw [upd_ne e] at hg;exact h.ws b hb g hg
  wi:=λb hb y hy g' hg'=>by
   rcases hmem2 b y hy with⟨j,hj⟩|rfl
   ·exact h.wi b hb y (List.mem_of_getElem? hj) g' hg'
   ·rw [hnil] at hg';cases hg'
  kp:=(h4.kp.trans (hk5.mono λi _ e=> .inr (h.ws a ha i e))).trans (kg.mono λi _ e=> .inr j1r)
  fz:=(h4.fz.step hk5 (λi e=>by obtain⟨c,fz,hc⟩:=Dm hro e;exact⟨c,_,fz,hc,.inr (.inr (.inl rfl))⟩)).step kg (λi e=>by have e':i=B:=e;subst e';exact⟨_,_,_,h5b,.inl rfl⟩) }
theorem DocV.here(h:DocV w0 Z B p R E vb vr vo vp vs F P m Q W):DocV w0 W B p R E vb vr vo vp vs F P m Q W:={ h with fz:=λ_ _ _ _ h _=>h }
end
theorem upd_same{α:Type}(f:Nat->α)(a:Nat)(x y:α):upd (upd f a x) a y=upd f a y:=by
 funext b
 by_cases h:b=a
 ·subst h;rw [Cw,Cw]
 ·rw [upd_ne h,upd_ne h,upd_ne h]
theorem upd_comm{α:Type}(f:Nat->α){a b:Nat}(h:a≠b)(x y:α):upd (upd f a x) b y=upd (upd f b y) a x:=by
 funext c
 by_cases h1:c=a
 ·subst h1;rw [Cw,upd_ne h,Cw]
 ·by_cases h2:c=b
  ·subst h2;rw [Cw,upd_ne h1,Cw]
  ·rw [upd_ne h2,upd_ne h1,upd_ne h1,upd_ne h2]
theorem Sn{α:Type}(f:Nat->α)(x y z:α):upd (upd (upd f 1 x) 2 y) 1 z=upd (upd f 1 z) 2 y:=by rw [upd_comm _ (show(2:Nat)≠1 by decide),upd_same]
theorem Le{α:Type}(k:Nat)(x:α):List.replicate k x++ [x]=List.replicate (k+1) x:=by rw [List.replicate_succ']
abbrev DocC(w0 Z:World)(B:Nat)(p:Ps)(R:List Int)(E:Nat->List (List Int))(vb vr vo vp:Value)(vs:Nat->Value)(F:Nat->List SI)(P:List SV)(m:Nat)(Q:List Value)(j k:Nat)(v1 v2:Value)(W:World):Prop:=
 DocV w0 Z B p R (upd (upd E 1 (List.replicate j [])) 2 (List.replicate k [])) vb vr vo vp (upd (upd vs 1 v1) 2 v2) (upd (upd F 1 (List.replicate j si0)) 2 (List.replicate k si0)) P m Q W
theorem DocC.add1{w0 Z:World}{B:Nat}{p:Ps}{R:List Int}{E:Nat->List (List Int)}{vb vr vo vp:Value}{vs:Nat->Value}{F:Nat->List SI}{P:List SV}{m:Nat}{Q:List Value}{j k:Nat}{v1 v2 v':Value}{W w4 w5:World}(h:DocC w0 Z B p R E vb vr vo vp vs F P m Q j k v1 v2 W)
  (hk4:Keeps (λ_=>False) W w4) (hk5:Keeps (λi=>v1.ownBlock=some i) w4 w5) (hr:w5.ownsRow 0 33 1 v' (j+1) ((List.replicate j si0).map SI.v++ [.slice none 0 0])) (hf:v'.ownBlock=v1.ownBlock\/∃g,v'.ownBlock=some g/\w4.heap.size<=g):
  DocC w0 Z B p R E vb vr vo vp vs F P m Q (j+1) k v' v2 (w5.setCell ⟨B,7,none⟩ v'):=by
 have h1:=DocV.putS h (a:=1) j2 hk4 (show Keeps (λi=>(upd (upd vs 1 v1) 2 v2 1).ownBlock=some i) w4 w5 from hk5) (v':=v') (F':=List.replicate (j+1) si0) (E':=List.replicate (j+1) []) (by
  rw [List.length_replicate,<-Le,List.map_append];exact hr) (by rw [List.map_replicate];rfl) (λg hg=>by
  rcases hf with e|⟨g',e,hg'⟩
  ·exact .inl (by show v1.ownBlock=some g;rw [<-e];exact hg)
  ·rw [e] at hg;simp only [Option.some.injEq] at hg;exact .inr (by omega)) (λk x hx=> .inr ((List.mem_replicate.1 (List.mem_of_getElem? hx)).2))
 rw [Sn,Sn,Sn] at h1;exact h1
theorem DocC.add2{w0 Z:World}{B:Nat}{p:Ps}{R:List Int}{E:Nat->List (List Int)}{vb vr vo vp:Value}{vs:Nat->Value}{F:Nat->List SI}{P:List SV}{m:Nat}{Q:List Value}{j k:Nat}{v1 v2 v':Value}{W w4 w5:World}(h:DocC w0 Z B p R E vb vr vo vp vs F P m Q j k v1 v2 W)
  (hk4:Keeps (λ_=>False) W w4) (hk5:Keeps (λi=>v2.ownBlock=some i) w4 w5) (hr:w5.ownsRow 0 33 1 v' (k+1) ((List.replicate k si0).map SI.v++ [.slice none 0 0])) (hf:v'.ownBlock=v2.ownBlock\/∃g,v'.ownBlock=some g/\w4.heap.size<=g):
  DocC w0 Z B p R E vb vr vo vp vs F P m Q j (k+1) v1 v' (w5.setCell ⟨B,8,none⟩ v'):=by
 have h1:=DocV.putS h (a:=2) j2 hk4 (show Keeps (λi=>(upd (upd vs 1 v1) 2 v2 2).ownBlock=some i) w4 w5 from hk5) (v':=v') (F':=List.replicate (k+1) si0) (E':=List.replicate (k+1) []) (by
  rw [List.length_replicate,<-Le,List.map_append];exact hr) (by rw [List.map_replicate];rfl) (λg hg=>by
  rcases hf with e|⟨g',e,hg'⟩
  ·exact .inl (by show v2.ownBlock=some g;rw [<-e];exact hg)
  ·rw [e] at hg;simp only [Option.some.injEq] at hg;exact .inr (by omega)) (λk x hx=> .inr ((List.mem_replicate.1 (List.mem_of_getElem? hx)).2))
 rw [upd_same,upd_same,upd_same] at h1;exact h1
theorem DocV.none2{w0 Z:World}{B:Nat}{p:Ps}{R:List Int}{E:Nat->List (List Int)}{vb vr vo vp:Value}{vs:Nat->Value}{F:Nat->List SI}{P:List SV}{m:Nat}{Q:List Value}{W:World}(h:DocV w0 Z B p R E vb vr vo vp vs F P m Q W):
  DocC w0 Z B p R E vb vr vo vp vs F P m Q 0 0 (.slice none 0 0) (.slice none 0 0) ((W.setCell ⟨B,7,none⟩ (.slice none 0 0)).setCell ⟨B,8,none⟩ (.slice none 0 0)):=by
 have h1:=h.putS (a:=1) j2 (Keeps.refl _ _) (Keeps.refl _ _) (v':= .slice none 0 0) (F':= []) (E':= []) (World.ownsRow_nil _ _ _ _) rfl (λg e=>by cases e) (λk x e=>by simp at e);exact h1.putS (a:=2) j2 (Keeps.refl _ _) (Keeps.refl _ _) (v':= .slice none 0 0) (F':= []) (E':= []) (World.ownsRow_nil _ _ _ _) rfl (λg e=>by cases e) (λk x e=>by simp at e)
theorem Li{w0 Z:World}{B:Nat}{p:Ps}{R:List Int}{E:Nat->List (List Int)}{vb vr vo vp:Value}{vs:Nat->Value}{F:Nat->List SI}{P:List SV}{m:Nat}{Q:List Value}{W:World}(h:DocV w0 Z B p R E vb vr vo vp vs F P m Q W)(n:Nat)(hn:n<=1000000):
  Calls Tryz.prog 111 #[(.pointer (some ⟨B,0,none⟩)),.int .i64 (n:Nat)] W λe W'=>e= .returned (.tuple #[])/\∃v1 v2,DocC w0 Z B p R E vb vr vo vp vs F P m Q n n v1 v2 W':=by
 obtain⟨i0,hi,hi0,hi1,hi2⟩:=info_parts Ja;have h2:=h.none2;obtain⟨W5,hW5⟩:∃W5,W5=((W.setCell ⟨B,7,none⟩ (.slice none 0 0)).setCell ⟨B,8,none⟩ (.slice none 0 0)):=⟨_,rfl⟩;rw [<-hW5] at h2;have c7:=Aa h.blk 7;have c8:=Aa h.blk 8;have f7:=Ab h.blk 7;have f8:=Ab h.blk 8;have bl:=lt_of_block h.blk;obtain⟨H,Hi,Hi0,Hi1,Hi2,H2⟩:=hid6 h hi hi0 hi1 hi2 h2;clear h2 hi2 hi1 hi0 hi h;go_enter Tryz.func111,Tryz.ntmps111;go_wp2_with fail;rw [<-hW5];have HW5:=Lib.hid hW5;clear hW5 c7 c8 f7 f8 bl
 go_loopw [4] (λx wx=>∃(k:Nat) (v1 v2:Value),x= .int .i64 (k:Nat)/\k<=n/\DocC w0 Z B p R E vb vr vo vp vs F P m Q k k v1 v2 wx) (λx _=>n-(intOf x).toNat)
 case atStart=>exact⟨0,.slice none 0 0,.slice none 0 0,rfl,Nat.zero_le _,H2.out⟩
 case round=>
  obtain⟨k,v1,v2,rfl,hkn,hd⟩:=hrel;refine jc ?_;intro wq hwq;subst hwq;by_cases hlt:k<n
  ·have hltI:(k:Int)<(n:Int):=j3;have ho1:wq.ownsRow 0 33 1 v1 k ((List.replicate k si0).map SI.v):=by have:=DocV.o hd 1 j2;simpa [upd] using this
   obtain⟨a1,k1,rfl,_,_⟩:=Ad ho1;have hb:wq.heap[B]?=some (.cells #[vb,.int .i64 p.cr,.int .i64 p.du,vr,vo,vs 0,vp,.slice a1 k k1,v2] 115 (0,0)):=DocV.blk hd;have b7:=Aa hb 7;have bl:=lt_of_block hb;obtain⟨Hd,Ho1,Hb⟩:=hid3 hd ho1 hb;clear hb ho1 hd
   go_wp2_with (at_builtin;refine Ba rfl (.tmp 20) (.tmp 21) 113 rfl 0 33 i0 _ 1 24 Tryz.underlying113 Hi.out Hi0.out Hi1.out Hi2.out rfl j2 (.slice a1 k k1) k _ rfl ((Ho1.out).alloc _) _ 1 _ rfl (Reads.litAt _ _ _ 1 1 _ jd rfl) j9 j6 j1 (Nat.zero_le _) ?_;intro v4 w4 hown4 hk4 hf4;refine haltG ?_)
   refine Lib.hid ?_;have hd4:=DocC.add1 Hd.out (Keeps.alloc _ _) hk4 hown4 hf4;obtain⟨a4,c4,rfl,_,_⟩:=Ad hown4;have hb4:=Ac (Ap Hb.out _) hk4 (λe=>Ag Ho1.out Hb.out j2 e);clear b7 bl;have f7:=Ab hb4 7;have c7:=Aa hb4 7;have bl:=lt_of_block hb4;obtain⟨W6,hW6⟩:∃W6,W6=w4.setCell ⟨B,7,none⟩ (.slice a4 (k+1) c4):=⟨_,rfl⟩;rw [<-hW6] at hd4;have ho2:W6.ownsRow 0 33 1 v2 k ((List.replicate k si0).map SI.v):=by have:=DocV.o hd4 2 j2;simpa [upd] using this
   obtain⟨a2,k2,rfl,_,_⟩:=Ad ho2;have hb6:W6.heap[B]?=some (.cells #[vb,.int .i64 p.cr,.int .i64 p.du,vr,vo,vs 0,vp,.slice a4 (k+1) c4,.slice a2 k k2] 115 (0,0)):=DocV.blk hd4;clear hown4 hk4 hf4;obtain⟨Hd4,Hb4,Ho2,Hb6⟩:=hid4 hd4 hb4 ho2 hb6;clear hb6 ho2 hb4 hd4
   go_upto_region 5 with fail
   rw [<-hW6];have HW6:=Lib.hid hW6;clear hW6 f7 c7 bl;have b8:=Aa Hb6.out 8;have bl:=lt_of_block Hb6.out
   go_wp2_with (at_builtin;refine Ba rfl (.tmp 29) (.tmp 30) 113 rfl 0 33 i0 _ 1 24 Tryz.underlying113 Hi.out Hi0.out Hi1.out Hi2.out rfl j2 (.slice a2 k k2) k _ rfl ((Ho2.out).alloc _) _ 1 _ rfl (Reads.litAt _ _ _ 1 1 _ jd rfl) j9 j6 j1 (Nat.zero_le _) ?_;intro v4 w4 hown4 hk4 hf4;refine haltG ?_)
   refine Lib.hid ?_;have hd8:=DocC.add2 Hd4.out (Keeps.alloc _ _) hk4 hown4 hf4;obtain⟨a8,c8,rfl,_,_⟩:=Ad hown4;have hb8:=Ac (Ap Hb6.out _) hk4 (λe=>Ag Ho2.out Hb6.out j2 e);clear b8 bl hown4 hk4 hf4;have f8:=Ab hb8 8;have c8:=Aa hb8 8;have bl:=lt_of_block hb8;obtain⟨Hd8,Hb8⟩:=hid2 hd8 hb8;clear hb8 hd8;go_wp2;go_roundw
   case rel=>exact⟨k+1,_,_,by go_num,by omega,Hd8.out⟩
   case measure=>simp [intOf];omega
  ·obtain rfl:n=k:=by omega
   have Hd:=Lib.hid hd;clear hd;go_wp2;go_end0;exact⟨rfl,_,_,Hd.out⟩
theorem Dz{E:List (List Int)}{V:List Int}(h:V.length=E.length){k:Nat}(hk:k<=E.length):(extL E V k).length=E.length:=by
 unfold extL;rw [List.length_append,List.length_take,List.length_zipWith,List.length_drop];omega
theorem Pw{w:World}{base:Nat}{e:TypeId}{size:Nat}{v:Value}{n:Nat}{xs:List Value}(h:w.ownsRow base e size v n xs)(hn:0<n):∃g cap,v= .slice (some ⟨g,0,none⟩) n cap:=by
 rcases h.2 with⟨_,h0⟩|⟨g,cap,cur,hv,_⟩
 ·omega
 ·exact⟨g,cap,hv⟩
end Go.Proofs.YtgfkeeicjjbnpaaGreat
