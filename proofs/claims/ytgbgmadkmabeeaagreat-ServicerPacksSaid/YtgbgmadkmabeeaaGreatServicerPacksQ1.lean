/- Part 1 of the proof of ServicerPacks: walks and plain laws. -/
import Derived.Test.YtgbgmadkmabeeaaGreatB14
set_option maxRecDepth 100000
set_option maxHeartbeats 3200000
namespace Go.Proofs.YtgbgmadkmabeeaaGreat
open Go.RowKit
section
variable {w wr w':World} {B:List Int} {p T:Nat} {C:Array Value} {v:Value} {L:List Ln}
end
theorem Gs(L:List Int)(v1 v2:Value)(w:World)(h1:Reads w 1 v1 L.length (L.flatMap u8c))(h2:Reads w 1 v2 L.length (L.flatMap u8c)):
  Calls Tryz.prog 15 #[v1,v2] w λe w'=>e= .returned (.bool true)/\w=w':=by
 have g1:=h1;have g2:=h2;obtain⟨ad1,c1,rfl,_,_⟩:=g1;obtain⟨ad2,c2,rfl,_,_⟩:=g2;have k1:=Uj Tryz.underlying24 Tryz.underlying5 Tryz.underlying9 h1;have k2:=Uj Tryz.underlying24 Tryz.underlying5 Tryz.underlying9 h2;obtain⟨H1,H2⟩:=hid2 h1 h2;clear h2 h1;go_enter Tryz.func15,Tryz.ntmps15;go_wp2;go_ret;exact⟨by simp,rfl⟩
theorem Acx(v:Int):eight (IntKind.u64.wrap v)=eight v:=by
 simp only [eight,IntKind.wrap,IntKind.signed,IntKind.bits];simp;omega
theorem Fr.app{w wr w4:World}{v v4:Value}{C:List Int}{z:Int}{o:Obj}{xs:List Value}{n:Nat}(h:Fr w wr v C)(hx:xs=C.flatMap u8c++ [.int .u8 z])(hn:n=C.length+1)(ho:w4.ownsRow 0 5 1 v4 n xs)(hk:Keeps (λk=>v.ownBlock=some k) (wr.alloc o) w4)(hf:v4.ownBlock=v.ownBlock\/∃g,v4.ownBlock=some g/\wr.heap.size+1<=g):Fr w w4 v4 (C++ [z]):=
 h.grow ((Grown.refl h.row).app hx hn ho hk hf)
theorem Vu(x0:Int)(w:World):Calls Tryz.prog 54 #[.int .i64 x0] w λe w'=>∃v',e= .returned v'/\Fr w w' v' (eight x0):=by
 obtain⟨i0,hi,hi0,hi1,hi2⟩:=info_parts Ez;obtain⟨x,hx⟩:∃x,IntKind.u64.wrap x0=x:=⟨_,rfl⟩;have he:eight x0=eight x:=by rw [<-hx,Acx]
 have hxb:0<=x:=by rw [<-hx];simp [IntKind.wrap,IntKind.signed,IntKind.bits];omega
 rw [he];have hnil:=Fr.nil w;clear he;have Hnil:=Lib.hid hnil;clear hnil;go_enter Tryz.func54,Tryz.ntmps54;go_wp2
 go_loopw [3,4] (λa c wr=>∃(j:Nat) (va:Value),j<=8/\c= .int .i64 (7-(j:Int))/\a=va/\Fr w wr va ((eight x).take j)) (λ_ c _=>(intOf c+1).toNat)
 case atStart=>exact⟨0,_,by omega,rfl,rfl,Hnil.out⟩
 case round=>
  obtain⟨j,va,hj,rfl,rfl,hf⟩:=hrel;obtain⟨K,hK⟩:∃K:Int,7-(j:Int)=K:=⟨_,rfl⟩;rw [hK];have hrow:=hf.row;obtain⟨av',capv',rfl,hcv',_⟩:=Ae hrow;obtain⟨E,hE⟩:∃E,(eight x).take j=E:=⟨_,rfl⟩;have hEl:E.length<=8:=by rw [<-hE,List.length_take,Bu];omega
  rw [hE] at hf hrow hcv'⊢;by_cases hj7:j<8
  ·rcases(show j=0\/j=1\/j=2\/j=3\/j=4\/j=5\/j=6\/j=7 by omega) with rfl|rfl|rfl|rfl|rfl|rfl|rfl|rfl
   ·
    obtain rfl:K=7:=by omega
    obtain⟨Hf,Hrow,HE⟩:=hid3 hf hrow hE;clear hE hrow hf
    go_wp2_with (at_builtin;refine Ao rfl (.tmp 9) (.tmp 17) 24 rfl 0 5 i0 _ 1 1 Tryz.underlying24 hi hi0 hi1 hi2 rfl j7 (.slice av' E.length capv') E.length _ rfl (Hrow.out.alloc _) _ 1 _ rfl (Reads.lit _ _ _ _ _ rfl) jg jd j6 j6 ?_)
    refine jN ?_;intro v4 w4 Hg4;go_wp2;go_roundw
    case rel=>exact⟨0+1,_,by omega,by go_num,rfl,by have:=Hg4.out;rw [<-HE.out] at this;exact this⟩
    case measure=>simp [intOf]
   ·
    obtain rfl:K=6:=by omega
    obtain⟨Hf,Hrow,HE⟩:=hid3 hf hrow hE;clear hE hrow hf
    go_wp2_with (at_builtin;refine Ao rfl (.tmp 9) (.tmp 17) 24 rfl 0 5 i0 _ 1 1 Tryz.underlying24 hi hi0 hi1 hi2 rfl j7 (.slice av' E.length capv') E.length _ rfl (Hrow.out.alloc _) _ 1 _ rfl (Reads.lit _ _ _ _ _ rfl) jg jd j6 j6 ?_)
    refine jN ?_;intro v4 w4 Hg4;go_wp2;go_roundw
    case rel=>exact⟨1+1,_,by omega,by go_num,rfl,by have:=Hg4.out;rw [<-HE.out] at this;exact this⟩
    case measure=>simp [intOf]
   ·
    obtain rfl:K=5:=by omega
    obtain⟨Hf,Hrow,HE⟩:=hid3 hf hrow hE;clear hE hrow hf
    go_wp2_with (at_builtin;refine Ao rfl (.tmp 9) (.tmp 17) 24 rfl 0 5 i0 _ 1 1 Tryz.underlying24 hi hi0 hi1 hi2 rfl j7 (.slice av' E.length capv') E.length _ rfl (Hrow.out.alloc _) _ 1 _ rfl (Reads.lit _ _ _ _ _ rfl) jg jd j6 j6 ?_)
    refine jN ?_;intro v4 w4 Hg4;go_wp2;go_roundw
    case rel=>exact⟨2+1,_,by omega,by go_num,rfl,by have:=Hg4.out;rw [<-HE.out] at this;exact this⟩
    case measure=>simp [intOf]
   ·
    obtain rfl:K=4:=by omega
    obtain⟨Hf,Hrow,HE⟩:=hid3 hf hrow hE;clear hE hrow hf
    go_wp2_with (at_builtin;refine Ao rfl (.tmp 9) (.tmp 17) 24 rfl 0 5 i0 _ 1 1 Tryz.underlying24 hi hi0 hi1 hi2 rfl j7 (.slice av' E.length capv') E.length _ rfl (Hrow.out.alloc _) _ 1 _ rfl (Reads.lit _ _ _ _ _ rfl) jg jd j6 j6 ?_)
    refine jN ?_;intro v4 w4 Hg4;go_wp2;go_roundw
    case rel=>exact⟨3+1,_,by omega,by go_num,rfl,by have:=Hg4.out;rw [<-HE.out] at this;exact this⟩
    case measure=>simp [intOf]
   ·
    obtain rfl:K=3:=by omega
    obtain⟨Hf,Hrow,HE⟩:=hid3 hf hrow hE;clear hE hrow hf
    go_wp2_with (at_builtin;refine Ao rfl (.tmp 9) (.tmp 17) 24 rfl 0 5 i0 _ 1 1 Tryz.underlying24 hi hi0 hi1 hi2 rfl j7 (.slice av' E.length capv') E.length _ rfl (Hrow.out.alloc _) _ 1 _ rfl (Reads.lit _ _ _ _ _ rfl) jg jd j6 j6 ?_)
    refine jN ?_;intro v4 w4 Hg4;go_wp2;go_roundw
    case rel=>exact⟨4+1,_,by omega,by go_num,rfl,by have:=Hg4.out;rw [<-HE.out] at this;exact this⟩
    case measure=>simp [intOf]
   ·
    obtain rfl:K=2:=by omega
    obtain⟨Hf,Hrow,HE⟩:=hid3 hf hrow hE;clear hE hrow hf
    go_wp2_with (at_builtin;refine Ao rfl (.tmp 9) (.tmp 17) 24 rfl 0 5 i0 _ 1 1 Tryz.underlying24 hi hi0 hi1 hi2 rfl j7 (.slice av' E.length capv') E.length _ rfl (Hrow.out.alloc _) _ 1 _ rfl (Reads.lit _ _ _ _ _ rfl) jg jd j6 j6 ?_)
    refine jN ?_;intro v4 w4 Hg4;go_wp2;go_roundw
    case rel=>exact⟨5+1,_,by omega,by go_num,rfl,by have:=Hg4.out;rw [<-HE.out] at this;exact this⟩
    case measure=>simp [intOf]
   ·
    obtain rfl:K=1:=by omega
    obtain⟨Hf,Hrow,HE⟩:=hid3 hf hrow hE;clear hE hrow hf
    go_wp2_with (at_builtin;refine Ao rfl (.tmp 9) (.tmp 17) 24 rfl 0 5 i0 _ 1 1 Tryz.underlying24 hi hi0 hi1 hi2 rfl j7 (.slice av' E.length capv') E.length _ rfl (Hrow.out.alloc _) _ 1 _ rfl (Reads.lit _ _ _ _ _ rfl) jg jd j6 j6 ?_)
    refine jN ?_;intro v4 w4 Hg4;go_wp2;go_roundw
    case rel=>exact⟨6+1,_,by omega,by go_num,rfl,by have:=Hg4.out;rw [<-HE.out] at this;exact this⟩
    case measure=>simp [intOf]
   ·
    obtain rfl:K=0:=by omega
    obtain⟨Hf,Hrow,HE⟩:=hid3 hf hrow hE;clear hE hrow hf
    go_wp2_with (at_builtin;refine Ao rfl (.tmp 9) (.tmp 17) 24 rfl 0 5 i0 _ 1 1 Tryz.underlying24 hi hi0 hi1 hi2 rfl j7 (.slice av' E.length capv') E.length _ rfl (Hrow.out.alloc _) _ 1 _ rfl (Reads.lit _ _ _ _ _ rfl) jg jd j6 j6 ?_)
    refine jN ?_;intro v4 w4 Hg4;go_wp2;go_roundw
    case rel=>exact⟨7+1,_,by omega,by go_num,rfl,by have:=Hg4.out;rw [<-HE.out] at this;exact this⟩
    case measure=>simp [intOf]
  ·obtain rfl:j=8:=by omega
   have hK':K= -1:=j8;subst hK';rw [List.take_of_length_le (by rw [Bu];omega)] at hE;obtain⟨Hf,Hrow,HE⟩:=hid3 hf hrow hE;clear hE hrow hf;go_wp2;go_ret;exact⟨_,rfl,by rw [HE.out];exact Hf.out⟩
theorem Ry(a:Int)(w:World):Calls Tryz.prog 98 #[.int .u8 a,.int .u8 a] w
  λe w'=>e= .returned (.bool true)/\w=w':=by
 go_enter Tryz.func98,Tryz.ntmps98;exact ji
theorem Vk(L:List Int)(v1 v2:Value)(w:World)(h1:Reads w 1 v1 L.length (L.flatMap u8c))(h2:Reads w 1 v2 L.length (L.flatMap u8c))(hl:L.length<=1000000000000):
  Calls Tryz.prog 97 #[v1,v2,.func (.func 98) #[] #[]] w λe w'=>e= .returned (.bool true)/\Keeps (λ_=>False) w w':=by
 have g1:=h1;have g2:=h2;obtain⟨ad1,c1,rfl,_,_⟩:=g1;obtain⟨ad2,c2,rfl,_,_⟩:=g2;obtain⟨H1,H2⟩:=hid2 h1 h2;clear h2 h1;go_enter Tryz.func97,Tryz.ntmps97;go_wp2
 go_loopw [7] (λi wr=>∃k:Nat,k<=L.length/\i= .int .i64 k/\Keeps (λ_=>False) w wr) (λi _=>L.length-(intOf i).toNat)
 case atStart=>exact⟨0,Nat.zero_le _,rfl,Keeps.refl _ _⟩
 case round=>
  obtain⟨k,hk,rfl,hkp⟩:=hrel;have Hkp:=Lib.hid hkp;clear hkp;by_cases hlt:k<L.length
  ·obtain⟨x,hx⟩:∃x,L[k]?=some x:=⟨L[k],List.getElem?_eq_getElem hlt⟩;obtain⟨g,o,c,he,hc⟩:=(H1.out.keeps Hkp.out (by simp)).elem Cn hx j7;obtain⟨g',o',c',he',hc'⟩:=(H2.out.keeps Hkp.out (by simp)).elem Cn hx j7;simp only [Value.slice.injEq,true_and] at he he';obtain⟨rfl,rfl⟩:=he;obtain⟨rfl,rfl⟩:=he';have x0:wr.cell? ⟨g,o+k,none⟩=some (.int .u8 x):=by have:=hc 0 j7;simpa [u8c] using this
   have y0:wr.cell? ⟨g',o'+k,none⟩=some (.int .u8 x):=by have:=hc' 0 j7;simpa [u8c] using this
   clear hc hc';have Hx:=Lib.hid hx;clear hx;go_wp2
   go_still_tail 9,j9
   go_wp2_with (go_at_call 98;refine(Ry _ _).mono ?_;rintro e w' ⟨rfl,rfl⟩)
   exact j4i
  ·exact j0T
theorem Tp(L:List Int)(v1 v2:Value)(w:World)(h1:Reads w 1 v1 L.length (L.flatMap u8c))(h2:Reads w 1 v2 L.length (L.flatMap u8c))(hl:L.length<=1000000000000):
  Calls Tryz.prog 55 #[v1,v2] w λe w'=>e= .returned (.bool true)/\Keeps (λ_=>False) w w':=by
 obtain⟨H1,H2⟩:=hid2 h1 h2;clear h2 h1;go_enter Tryz.func55,Tryz.ntmps55
 go_wp2_with (go_at_call 97;refine(Vk L _ _ _ H1.out H2.out hl).mono ?_;rintro e w' ⟨rfl,hk2⟩;have Hk2:=Lib.hid hk2;clear hk2)
 go_ret;exact⟨rfl,Hk2.out⟩
theorem OwnAt.reads{e:TypeId}{w:World}{g:Nat}{L:List Int}{x:Int}(h:OwnAt u8c e w g L x)(c:Nat)(_hc:L.length<=c)(n:Nat)(hn:n<=L.length+3)(hc':n<=c):Reads w 1 (.slice (some ⟨g,0,none⟩) n c) n (((L++List.replicate 3 x).take n).flatMap u8c):=by
 refine⟨_,_,rfl,hc',by rw [Cm Cn];simp;omega,by simp,λj u hj=>⟨g,0,rfl, ?_⟩⟩;rw [Nat.zero_add,Aa h.blk,List.getElem?_toArray];have e1:=Gz Cn (L++List.replicate 3 x) n;rw [<-e1] at hj;rw [List.getElem?_take] at hj
 split at hj
 ·exact hj
 ·simp at hj
theorem Yb(g:Nat)(ad:Option Addr)(cap:Nat)(L:List Int)(x:Int)(w:World)(h:OwnAt u8c 5 w g L x)(hr:Reads w 1 (.slice ad L.length cap) L.length (L.flatMap u8c))(hl:L.length<=1000000):
  Calls Tryz.prog 17 #[.slice (some ⟨g,0,none⟩) L.length (L.length+3),.slice ad L.length cap,.int .u8 x] w λe w'=>e= .returned (.bool true)/\Keeps (λ_=>False) w w':=by
 have ho:Reads w 1 (.slice (some ⟨g,0,none⟩) L.length (L.length+3)) L.length (L.flatMap u8c):=by
  have:=h.reads (L.length+3) j6 L.length j6 j6
  simpa using this
 have hgl:=lt_of_block h.blk;obtain⟨H,Hr,Ho⟩:=hid3 h hr ho;clear ho hr h;go_enter Tryz.func17,Tryz.ntmps17
 go_wp2_with (go_at_call 55;refine(Tp L _ _ _ Ho.out Hr.out j6).mono ?_;rintro e w1 ⟨rfl,hk1⟩;have Hk1:=Lib.hid hk1;clear hk1)
 go_loop [8] (λc=>∃(j:Nat),j<=3/\c= .int .i64 ((L.length+j:Nat):Int)) (λc=>L.length+3-(intOf c).toNat)
 case atStart=>exact⟨0,by omega,by simp⟩
 case round=>
  obtain⟨j,hj,rfl⟩:=hrel;by_cases hj3:j<3
  ·have hc:w1.cell? ⟨g,L.length+j,none⟩=some (.int .u8 x):=by
    rw [(Hk1.out.cell (p:=⟨g,L.length+j,none⟩) hgl (by simp)),Aa H.out.blk,List.getElem?_toArray];have:=flat_get Cn (L:=L++List.replicate 3 x) (k:=L.length+j) (j:=0) (x:=x) (by rw [List.getElem?_append_right j6,Nat.add_sub_cancel_left,List.getElem?_replicate,if_pos hj3]) j7
    simpa [u8c] using this
   have hjl:((L.length+j:Nat):Int)<(L.length:Int)+3:=j8;go_wp2
   go_round
   case rel=>exact⟨j+1,by omega,by go_num⟩
   case measure=>simp [intOf];omega
  ·obtain rfl:j=3:=by omega
   exact jV
theorem Tu(c:Cmd)(w:World):Calls Tryz.prog 16 #[.agg #[.int .i64 c.kind,.int .i64 c.day,.int .i64 c.tranche,.int .i64 c.amount,.int .i64 c.ref]] w λe w'=>∃v,e= .returned v/\Fr w w' v (packN c.nums):=by
 obtain⟨i0,hi,hi0,hi1,hi2⟩:=info_parts Ez;obtain⟨N,hN⟩:∃N,c.nums=N:=⟨_,rfl⟩;have hNl:N.length=5:=by rw [<-hN];rfl
 obtain⟨ki,da,tr,am,re⟩:=c;obtain⟨w2,hw2⟩:∃x,x=(w.alloc (.cells #[.int .i64 ki,.int .i64 da,.int .i64 tr,.int .i64 am,.int .i64 re] 23)).alloc (.cells #[.int .i64 ki,.int .i64 da,.int .i64 tr,.int .i64 am,.int .i64 re] 2):=⟨_,rfl⟩;have hk2:Keeps (λ_=>False) w w2:=by rw [hw2];(repeat (first|exact Keeps.refl _ _|exact Keeps.alloc _ _|exact Keeps.drew _|exact Keeps.drewN _ _|refine Keeps.Am ?_|refine Keeps.Ak ?_|refine Keeps.Af ?_))
 have hb2:w2.heap[w.heap.size+1]?=some (.cells (N.map (Value.int .i64)).toArray 2 (0,0)):=by rw [hw2,<-hN];exact Av _ _ (by simp)
 have hfr2:Fr w w2 (.slice none 0 0) []:=(Fr.nil w).keep hk2;rw [hN];clear hN;obtain⟨Hi,Hi0,Hi1,Hi2,Hk2,Hb2,Hfr2,HNl,Hw2⟩:=hid9 hi hi0 hi1 hi2 hk2 hb2 hfr2 hNl hw2;clear hw2 hNl hfr2 hb2 hk2 hi2 hi1 hi0 hi;go_enter Tryz.func16,Tryz.ntmps16
 go_upto_region 3 with fail
 rw [<-Hw2.out]
 go_loopw [3,18] (λa i wr=>∃(j:Nat) (va:Value),j<=5/\i= .int .i64 (j:Nat)/\a=va/\Fr w wr va (packN (N.take j))/\wr.heap[w.heap.size+1]?=some (.cells (N.map (Value.int .i64)).toArray 2 (0,0))) (λ_ i _=>5-(intOf i).toNat)
 case atStart=>exact⟨0,_,by omega,rfl,rfl,Hfr2.out,Hb2.out⟩
 case round=>
  obtain⟨j,va,hj,rfl,rfl,hf,hb⟩:=hrel;by_cases hj5:j<5
  ·have hjI:(j:Int)<5:=j8;obtain⟨x,hx⟩:=Aq (L:=N) (k:=j) (by rw [HNl.out];exact hj5)
   have hc:wr.cell? ⟨w.heap.size+1,j,none⟩=some (.int .i64 x):=by
    rw [Aa hb];simp [hx]
   have hl:=lt_of_block hb;have hrow:=hf.row;obtain⟨av,cv,rfl,_,_⟩:=Ae hrow;obtain⟨E,hE⟩:∃E,packN (N.take j)=E:=⟨_,rfl⟩;have hEl:E.length<=40:=by rw [<-hE,Kk,List.length_take,HNl.out];omega
   have hE2:packN (N.take (j+1))=E++eight x:=by rw [take_snoc' hx,Kl,hE];simp [packN]
   rw [hE] at hf hrow⊢;obtain⟨Hf,Hb,Hx,HE,Hrow,HE2⟩:=hid6 hf hb hx hE hrow hE2;clear hE2 hrow hE hx hb hf;go_wp2_with fail;refine(Vu x wr).mono ?_;rintro e w4 ⟨v4,rfl,h4⟩;obtain⟨a4,c4,h4s,_,_⟩:=Ae h4.row;rw [Bu] at h4s;subst h4s;have hf4:=Hf.out.keep h4.kp;have hb4:=Ad Hb.out h4.kp (by simp);have hr4:=Reads.Az h4.row;rw [Bu] at hr4;clear h4 hc hl;obtain⟨Hf4,Hb4,Hr4⟩:=hid3 hf4 hb4 hr4;clear hr4 hb4 hf4
   go_wp2_with (at_builtin;refine Ao rfl (.tmp 22) (.tmp 24) 24 rfl 0 5 i0 _ 1 1 Tryz.underlying24 Hi.out Hi0.out Hi1.out Hi2.out rfl j7 (.slice av E.length cv) E.length _ rfl Hf4.out.row _ 8 _ rfl Hr4.out (Xn _) jd j6 (Nat.zero_le _) ?_;intro v5 w5 ho5 hk5 hf5;have hfr5:=Lib.hid (Fr.grow Hf4.out (C':=E++eight x) ⟨by rw [List.length_append,Bu,List.flatMap_append];exact ho5,hk5,hf5⟩);have hb5:=Lib.hid (Ad Hb4.out hk5 (λe=>Ai Hf4.out.row Hb4.out j7 e));clear ho5 hk5 hf5)
   go_roundw
   case rel=>exact⟨j+1,_,by omega,by go_num,rfl,by rw [HE2.out];exact hfr5.out,hb5.out⟩
   case measure=>simp [intOf];omega
  ·obtain rfl:j=5:=by omega
   rw [List.take_of_length_le (by rw [HNl.out];exact Nat.le_refl _)] at hf;obtain⟨Hf,Hb⟩:=hid2 hf hb;clear hb hf;go_wp2;go_ret;exact⟨_,rfl,Hf.out⟩
theorem Abz{c:Cmd}(h:c.wf):takeC (packN c.nums)=c/\takeE (packN c.nums)=0:=by
 obtain⟨ki,da,tr,am,re⟩:=c;obtain⟨h0,h1,h2,h3,h4⟩:=h;have b0:=wf_i64 h0;have b1:=wf_i64 h1;have b2:=wf_i64 h2;have b3:=wf_i64 h3;have b4:=wf_i64 h4;have hl:(packN (Cmd.nums ⟨ki,da,tr,am,re⟩)).length=40:=Fz _ _ _ _ _
 have hn:∀{i v},(Cmd.nums ⟨ki,da,tr,am,re⟩)[i]?=some v->numAt (packN (Cmd.nums ⟨ki,da,tr,am,re⟩)) i=v:=fun {i v} hi=>by
  have:=Aal (L:=Cmd.nums ⟨ki,da,tr,am,re⟩) (λz hz=>by
   simp only [Cmd.nums,List.mem_cons,List.not_mem_nil,or_false] at hz
   rcases hz with rfl|rfl|rfl|rfl|rfl<;>simp only at *<;>omega) hi []
  rwa [List.append_nil] at this
 refine⟨?_, ?_⟩
 ·unfold takeC;rw [if_pos hl,hn (i:=0) rfl,hn (i:=1) rfl,hn (i:=2) rfl,hn (i:=3) rfl,hn (i:=4) rfl]
 ·unfold takeE;rw [hl];rfl
theorem Acc{B:List Int}(hl:B.length=40)(hB:∀z∈B,0<=z/\z<=255):packN (takeC B).nums=B:=by
 have:=Aae hB 5 j6;rw [List.take_of_length_le j6] at this;unfold takeC;rw [if_pos hl];exact this
def spS(m n k:Nat)(X Y Z:Array Value)(w:World):Prop:=w.heap[m]?=some (.cells X 23 (0,0))/\w.heap[n]?=some (.cells Y 23 (0,0))/\w.heap[k]?=some (.cells Z 23 (0,0))
theorem spS.keep{m n k:Nat}{X Y Z:Array Value}{w w':World}(h:spS m n k X Y Z w)(hk:Keeps (λ_=>False) w w'):spS m n k X Y Z w':=⟨Ad h.1 hk (by simp),Ad h.2.1 hk (by simp),Ad h.2.2 hk (by simp)⟩
theorem Ns(w:World)(c:Cmd)(hc:c.wf)(ad:Option Addr)(cap:Nat)(B:List Int)(hr:Reads w 1 (.slice ad B.length cap) B.length (B.flatMap λz=> [Value.int .u8 z]))(hpb:∀a∈B,(Lit.int .u8 a).wf=true)(hm:B.length<=maxLen):
  Calls Tryz.prog 3 #[.agg #[.int .i64 c.kind,.int .i64 c.day,.int .i64 c.tranche,.int .i64 c.amount,.int .i64 c.ref],.slice ad B.length cap] w λe w'=>e= .returned (.bool true)/\Below w.heap.size w w':=by
 have hr':Reads w 1 (.slice ad B.length cap) B.length (B.flatMap u8c):=hr;clear hr;have hB:∀z∈B,0<=z/\z<=255:=λz hz=>wf_u8 (hpb z hz);clear hpb;obtain⟨n,hn⟩:∃n,B.length=n:=⟨_,rfl⟩;unfold maxLen at hm;rw [hn] at hm hr'⊢;obtain⟨htc,hte⟩:=Abz hc;have hpk:=λW=>Nq c W;unfold Px at hpk;rw [show(packN c.nums).length=40 from Fz _ _ _ _ _] at hpk;have hp25:=λW=>Tu c W
 have ht1:∀(W:World) (a:Option Addr) (cp:Nat),W.ownsRow 0 5 1 (.slice a 40 cp) 40 ((packN c.nums).flatMap u8c)->Calls Tryz.prog 13 #[.slice a 40 cp] W λe w'=>e= .returned (.tuple #[.agg #[.int .i64 c.kind,.int .i64 c.day,.int .i64 c.tranche,.int .i64 c.amount,.int .i64 c.ref],.int .i64 0])/\Keeps (λ_=>False) W w':=λW a cp h=>by
  have hl40:(packN c.nums).length=40:=Fz _ _ _ _ _;have:=Tc a cp (packN c.nums) W (by rw [hl40];exact Reads.Az h) (Qh _) (by rw [hl40];decide) (λ_ g hg=>by rw [hl40] at hg;exact Cj h hg);rw [htc,hte,hl40] at this;exact this
 obtain⟨KB,hKB⟩:∃KB,packN c.nums=KB:=⟨_,rfl⟩;have hKBl:KB.length=40:=by rw [<-hKB];exact Fz _ _ _ _ _
 rw [hKB] at hpk hp25 ht1;obtain⟨ki,da,tr,am,re⟩:=c;simp only at hpk hp25 ht1⊢;by_cases h200:200<n
 ·have hI:(200:Int)<(n:Int):=j8;obtain⟨Hr',HB,Hn,Hpk,Hp25,Ht1,Hc,Htc,Hte⟩:=hid9 hr' hB hn hpk hp25 ht1 hc htc hte;clear hte htc hc ht1 hp25 hpk hn hB hr';have HKB:=Lib.hid hKB;clear hKB;go_enter Tryz.func3,Tryz.ntmps3;go_wp2_with fail;refine(Gp _).mono ?_;rintro e w1 ⟨rfl,hk1⟩;have hkf:=(Keeps.alloc (S:=λ_=>False) w (.cells #[.int .i64 ki,.int .i64 da,.int .i64 tr,.int .i64 am,.int .i64 re] 23)).nt hk1;clear hk1;exact j20
 have hI:¬(200:Int)<(n:Int):=j8;have hb1:=j4q;have hk1:Keeps (λ_=>False) w (w.alloc (.cells #[.int .i64 ki,.int .i64 da,.int .i64 tr,.int .i64 am,.int .i64 re] 23)):=Keeps.alloc _ _;have hown:=Aag (w.alloc (.cells #[.int .i64 ki,.int .i64 da,.int .i64 tr,.int .i64 am,.int .i64 re] 23)) ad cap B 71 (by rw [hn];exact hr'.keeps hk1 (λ_ _ h=>h)) j6;rw [hn] at hown;obtain⟨Hr',HB,Hn,Hpk,Hp25,Ht1,Hc,Htc,Hte⟩:=hid9 hr' hB hn hpk hp25 ht1 hc htc hte;clear hte htc hc ht1 hp25 hpk hn hB hr';obtain⟨HKB,Hb1,Hk1,Hown⟩:=hid4 hKB hb1 hk1 hown;clear hown hk1 hb1 hKB;go_enter Tryz.func3,Tryz.ntmps3;go_wp2_with fail;refine Hown.out.mono ?_;rintro e w2 ⟨rfl,ho2,hk2⟩;obtain⟨g,hg⟩:∃g,g=(w.alloc (.cells #[.int .i64 ki,.int .i64 da,.int .i64 tr,.int .i64 am,.int .i64 re] 23)).heap.size:=⟨_,rfl⟩;rw [<-hg] at ho2⊢;have hgl:w.heap.size<g:=by rw [hg];simp
 have hk02:=Hk1.out.nt hk2;have hb2:=Ad Hb1.out hk2 (by simp);have c0:=Aa hb2 0;have c1:=Aa hb2 1;have c2:=Aa hb2 2;have c3:=Aa hb2 3;have c4:=Aa hb2 4;have cl:=lt_of_block hb2
 have hro2:Reads w2 1 (.slice (some ⟨g,0,none⟩) n (n+3)) n (B.flatMap u8c):=by
  have hl:=Hn.out;have:=ho2.reads (n+3) j6 n j6 j6;rw [List.take_append_of_le_length j6,List.take_of_length_le j6] at this;exact this
 clear hk2;obtain⟨Ho2,Hk02,Hb2,Hg,Hro2⟩:=hid5 ho2 hk02 hb2 hg hro2;clear hro2 hg hb2 hk02 ho2;go_wp2_with fail;refine(Hpk.out w2).mono ?_;rintro e w3 ⟨v3,rfl,hrow3,hk3,_⟩;obtain⟨a3,e3,rfl,_,_⟩:=Ae hrow3;have ht3:=Ht1.out w3 a3 e3 hrow3;clear hrow3 c0 c1 c2 c3 c4 cl;obtain⟨Hk3,Ht3⟩:=hid2 hk3 ht3;clear ht3 hk3;go_wp2_with fail;refine Ht3.out.mono ?_;rintro e w4 ⟨rfl,hk4⟩;have hk24:=Hk3.out.nt hk4;have hput6:=setRow_heap (w4.alloc (.cells #[.int .i64 0,.int .i64 0,.int .i64 0,.int .i64 0,.int .i64 0] 23)) w4.heap.size #[.int .i64 0,.int .i64 0,.int .i64 0,.int .i64 0,.int .i64 0] #[.int .i64 ki,.int .i64 da,.int .i64 tr,.int .i64 am,.int .i64 re] 23 _ (heap_alloc_new w4 _);clear hk4;obtain⟨Hk24,Hput6⟩:=hid2 hk24 hput6;clear hput6 hk24
 go_upto_region 5 with(refine wpList_store_row rfl 23 (.tmp 6) (.tmp 21) rfl w4.heap.size #[.int .i64 ki,.int .i64 da,.int .i64 tr,.int .i64 am,.int .i64 re] rfl rfl 23 z5 (heap_alloc_new w4 _) Ce rfl jg ?_)
 refine Qx λw5 hw5=> ?_;rw [<-hw5] at Hput6;have hk45:Keeps (λ_=>False) w4 w5:=by rw [hw5];exact(Keeps.alloc w4 _).trans ((Co _ _ _).mono λi _ e=> .inr (by have e':i=w4.heap.size:=e;omega))
 obtain⟨m6,hm6⟩:∃m,w4.heap.size=m:=⟨_,rfl⟩;rw [hm6] at Hput6⊢;have hk25:=Hk24.out.nt hk45;have hb5:=Ad Hb2.out hk25 (by simp);have hb6:=Hput6.out;have hy:=Tc (some ⟨g,0,none⟩) (n+3) B w5 (by rw [Hn.out];exact Hro2.out.keeps hk25 (by simp)) HB.out jE (λ_ g' hg'=>by have e:g=g':=Option.some.inj hg';have:=lt_of_block Ho2.out.blk;have:=hk25.size;omega);rw [Hn.out] at hy;obtain⟨y0,hy0⟩:∃z,(takeC B).kind=z:=⟨_,rfl⟩;obtain⟨y1,hy1⟩:∃z,(takeC B).day=z:=⟨_,rfl⟩;obtain⟨y2,hy2⟩:∃z,(takeC B).tranche=z:=⟨_,rfl⟩;obtain⟨y3,hy3⟩:∃z,(takeC B).amount=z:=⟨_,rfl⟩;obtain⟨y4,hy4⟩:∃z,(takeC B).ref=z:=⟨_,rfl⟩;obtain⟨f,hf⟩:∃z,takeE B=z:=⟨_,rfl⟩;rw [hy0,hy1,hy2,hy3,hy4,hf] at hy;clear hw5 Hput6;obtain⟨Hk45,Hk25,Hb5,Hb6,Hy,Hy0,Hy1,Hy2,Hy3⟩:=hid9 hk45 hk25 hb5 hb6 hy hy0 hy1 hy2 hy3;clear hy3 hy2 hy1 hy0 hy hb6 hb5 hk25 hk45;obtain⟨Hy4,Hf,Hm6⟩:=hid3 hy4 hf hm6;clear hm6 hf hy4;go_wp2_with fail;refine Hy.out.mono ?_;rintro e w6 ⟨rfl,hk6⟩;have hk26:=Hk25.out.nt hk6;have hb56:=Ad Hb5.out hk6 (by simp);have hb66:=Ad Hb6.out hk6 (by simp);have hput8:=setRow_heap (w6.alloc (.cells #[.int .i64 0,.int .i64 0,.int .i64 0,.int .i64 0,.int .i64 0] 23)) w6.heap.size #[.int .i64 0,.int .i64 0,.int .i64 0,.int .i64 0,.int .i64 0] #[.int .i64 y0,.int .i64 y1,.int .i64 y2,.int .i64 y3,.int .i64 y4] 23 _ (heap_alloc_new w6 _);clear hk6;obtain⟨Hk26,Hb56,Hb66,Hput8⟩:=hid4 hk26 hb56 hb66 hput8;clear hput8 hb66 hb56 hk26
 go_upto_region 6 with(refine wpList_store_row rfl 23 (.tmp 8) (.tmp 26) rfl w6.heap.size #[.int .i64 y0,.int .i64 y1,.int .i64 y2,.int .i64 y3,.int .i64 y4] rfl rfl 23 z5 (heap_alloc_new w6 _) Ce rfl jg ?_)
 refine Qx λw7 hw7=> ?_;rw [<-hw7] at Hput8;have hk67:Keeps (λ_=>False) w6 w7:=by rw [hw7];exact(Keeps.alloc w6 _).trans ((Co _ _ _).mono λi _ e=> .inr (by have e':i=w6.heap.size:=e;omega))
 obtain⟨m8,hm8⟩:∃m,w6.heap.size=m:=⟨_,rfl⟩;rw [hm8] at Hput8⊢;have hk27:=Hk26.out.nt hk67;have hs7:spS w.heap.size m6 m8 #[.int .i64 ki,.int .i64 da,.int .i64 tr,.int .i64 am,.int .i64 re] #[.int .i64 ki,.int .i64 da,.int .i64 tr,.int .i64 am,.int .i64 re] #[.int .i64 y0,.int .i64 y1,.int .i64 y2,.int .i64 y3,.int .i64 y4] w7:=⟨Ad Hb56.out hk67 (by simp),Ad Hb66.out hk67 (by simp),Hput8.out⟩;have hkw7:=Hk02.out.nt hk27;have hr7:=Hr'.out.keeps hkw7 (λ_ _ h=>h);have ho7:OwnAt u8c 5 w7 g B 71:=⟨Ad Ho2.out.blk hk27 (by simp)⟩;have hkept:=λW (hW:Keeps (λ_=>False) w7 W)=>Yb g ad cap B 71 W ⟨Ad ho7.blk hW (by simp)⟩ (by rw [Hn.out];exact hr7.keeps hW (by simp)) jE;rw [Hn.out] at hkept;clear hw7 Hput8;obtain⟨Hk67,Hk27,Hs7,Hkw7,Hr7,Ho7,Hkept,Hm8⟩:=hid8 hk67 hk27 hs7 hkw7 hr7 ho7 hkept hm8;clear hm8 hkept ho7 hr7 hkw7 hs7 hk27 hk67;rcases Nat.lt_trichotomy n 40 with h40|h40|h40
 ·have hf3:f=3:=by rw [<-Hf.out];unfold takeE;rw [Hn.out,if_pos h40]
  have hC0:takeC B=⟨0,0,0,0,0⟩:=by unfold takeC;rw [Hn.out,if_neg j6]
  have hn40:(n:Int)<40:=j8;exact j4r
 ·have hf3:f=0:=by rw [<-Hf.out];unfold takeE;rw [Hn.out,if_neg j6,if_neg j6]
  have hn40:(n:Int)=40:=j8
  have hYB:packN (Cmd.nums ⟨y0,y1,y2,y3,y4⟩)=B:=by
   have:=Acc (by rw [Hn.out];exact h40) HB.out;rw [<-Hy0.out,<-Hy1.out,<-Hy2.out,<-Hy3.out,<-Hy4.out];exact this
  subst hf3;subst h40;have hp25y:=λW=>Tu ⟨y0,y1,y2,y3,y4⟩ W;rw [hYB] at hp25y;simp only at hp25y;obtain⟨Hp25y,HYB⟩:=hid2 hp25y hYB;clear hYB hp25y
  go_upto_region 11 with fail
  refine Al (spS w.heap.size m6 m8 #[.int .i64 ki,.int .i64 da,.int .i64 tr,.int .i64 am,.int .i64 re] #[.int .i64 ki,.int .i64 da,.int .i64 tr,.int .i64 am,.int .i64 re] #[.int .i64 y0,.int .i64 y1,.int .i64 y2,.int .i64 y3,.int .i64 y4]) (.move 0 (.take 1 (.take 2 (.take 4 (.move 3 (.move 5 (.move 6 (.take 7 (.take 8 (.take 9 (.take 10 (.take 11 (.take 12 (.take 13 (.take 14 (.take 15 (.take 16 (.take 17 (.take 18 (.take 19 (.take 20 (.take 21 (.take 22 (.take 23 (.take 24 (.take 25 (.take 26 (.take 27 (.take 28 (.take 29 (.take 30 (.take 31 (.take 32 (.take 33 (.take 34 (.take 36 (.move 35 (.move 37 (.take 38 (.take 39 (.take 40 (.take 41 (.take 42 (.take 43 (.move 44 (.take 45 (.take 46 .done))))))))))))))))))))))))))))))))))))))))))))))) j9 j9 ?_ ?_
  ·exact Hs7.out.keep (Keeps.drew _)
  intro wa hsa hka;refine jc ?_;intro K hK
  go_at_call 11
  ((with_reducible refine(Gp wa).mono ?_);rintro e wb ⟨rfl,hkb⟩)
  refine hK.out _ _ (by exact hsa.keep hkb) ?_;clear hK K;refine ja ?_;have hsb:=hsa.keep hkb;have hk7b:=hka.nt hkb;have Hsb:=Lib.hid hsb;clear hsa hsb hka hkb;refine j0t ?_;refine j0t ?_;refine je ?_;intro K hK
  go_at_call 14
  ((with_reducible refine(Hpk.out wb).mono ?_);rintro e wc ⟨v5,rfl,hrow5,hkc,_⟩)
  obtain⟨a5,c5,rfl,_,_⟩:=Ae hrow5;dsimp only;refine hK.out _ _ (by exact Hsb.out.keep hkc) ?_;clear hK K;refine ja ?_;have hsc:=Hsb.out.keep hkc;have hrc:=Reads.Az hrow5;refine je ?_;intro K hK
  go_at_call 16
  ((with_reducible refine(Hp25.out wc).mono ?_);rintro e wd ⟨v6,rfl,hf6⟩)
  obtain⟨a6,c6,h6s,_,_⟩:=Ae hf6.row;rw [hKBl] at h6s;subst h6s;dsimp only;refine hK.out _ _ (by exact hsc.keep hf6.kp) ?_;clear hK K;refine ja ?_;have hsd:=hsc.keep hf6.kp;have hrd:=Reads.Az hf6.row;have hk7d:=(hk7b.nt hkc).nt hf6.kp;have hrc':=hrc.keeps hf6.kp (by simp);have Hsd:=Lib.hid hsd;have Hk7d:=Lib.hid hk7d;clear hsc hsd hk7d hk7b hkc hf6 hrow5 hrc;refine je ?_;intro K hK
  go_at_call 15
  ((with_reducible refine((Gs KB _ _ wd (by rw [hKBl];exact hrc') hrd)).mono ?_);rintro e we ⟨rfl,hwe⟩)
  refine hK.out _ _ (by rw [<-hwe];exact Hsd.out) ?_;clear hK K;refine ja ?_;subst hwe;clear hrc' hrd;refine j4s ?_;refine Bz rfl (by rfl) m8 rfl 23 #[.int .i64 y0,.int .i64 y1,.int .i64 y2,.int .i64 y3,.int .i64 y4] _ _ (λw h=>h.2.2) Tryz.underlying23 rfl Ce ?_;refine je ?_;intro K hK
  go_at_call 16
  ((with_reducible refine(Hp25y.out wd).mono ?_);rintro e we ⟨v6,rfl,hf6⟩)
  obtain⟨a6,c6,h6s,_,_⟩:=Ae hf6.row;rw [Hn.out] at h6s;subst h6s;dsimp only;refine hK.out _ _ (by exact Hsd.out.keep hf6.kp) ?_;clear hK K;refine ja ?_;have hkde:=hf6.kp;have hre:=Reads.Az hf6.row;refine je ?_;intro K hK
  go_at_call 15
  ((with_reducible refine((Gs B _ _ we hre (by rw [Hn.out];exact Hr7.out.keeps (Hk7d.out.nt hkde) (by simp)))).mono ?_);rintro e wf ⟨rfl,hwf⟩)
  refine hK.out _ _ (by rw [<-hwf];exact Hsd.out.keep hkde) ?_;clear hK K;refine ja ?_;subst hwf;refine je ?_;intro K hK
  go_at_call 17
  ((with_reducible refine(Hkept.out we (Hk7d.out.nt hkde)).mono ?_);rintro e wz ⟨rfl,hkz⟩)
  refine hK.out _ _ (by exact(Hsd.out.keep hkde).keep hkz) ?_;clear hK K;refine jj ?_;have hkf:=(Hkw7.out.nt (Hk7d.out.nt hkde)).nt hkz;clear hkz hkde hre hf6;exact j20
 ·have hf3:f=4:=by rw [<-Hf.out];unfold takeE;rw [Hn.out,if_neg j6,if_pos h40]
  have hC0:takeC B=⟨0,0,0,0,0⟩:=by unfold takeC;rw [Hn.out,if_neg j6]
  have hn40:(40:Int)<(n:Int):=j8;have hn41:¬(n:Int)<40:=j8;exact j4r
end Go.Proofs.YtgbgmadkmabeeaaGreat
