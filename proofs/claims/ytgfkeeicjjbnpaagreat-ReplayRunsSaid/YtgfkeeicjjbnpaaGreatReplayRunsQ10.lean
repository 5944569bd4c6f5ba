/- Part 10 of the proof of ReplayRuns: walks and plain laws. -/
import Derived.Test.YtgfkeeicjjbnpaaGreatReplayRunsQ9
set_option maxRecDepth 100000
set_option maxHeartbeats 3200000
namespace Go.Proofs.YtgfkeeicjjbnpaaGreat
open Go.RowKit
theorem Xp{w0 Z:World}{B:Nat}{p:Ps}{R:List Int}{E:Nat->List (List Int)}{vb vr vo vp:Value}{vs:Nat->Value}{F:Nat->List SI}{P:List SV}{m:Nat}{Q:List Value}{W:World}(h:DocV w0 Z B p R E vb vr vo vp vs F P m Q W)(n:Nat)(hn:n<=1000)(hbn:p.bal.length=n)(hrn:R.length=n)(hen:∀a,a<3->(E a).length=n)
  (hlr:∀a,a<3->∀r∈E a,r.length<=4000000):
  Calls Tryz.prog 115 #[(.pointer (some ⟨B,0,none⟩))] W λe W'=>e= .returned (.tuple #[])/\∃E' F',DocV w0 Z B p R E' vb vr vo vp vs F' P m Q W'/\E' 0=extL (E 0) p.bal n/\E' 1=extL (E 1) p.bal n/\E' 2=extL (E 2) R n:=by
 obtain⟨i0,hi,hi0,hi1,hi2⟩:=info_parts Ca;obtain⟨ab,cb,rfl⟩:∃a c,vb= .slice a n c:=by obtain⟨a,c,h,_⟩:=Ad h.bal;exact⟨a,c,by rw [h,hbn]⟩
 obtain⟨ar,cr,rfl⟩:∃a c,vr= .slice a n c:=by obtain⟨a,c,h,_⟩:=Ad h.rts;exact⟨a,c,by rw [h,hrn]⟩
 have hle0:(E 0).length=n:=hen 0 j2;have hle1:(E 1).length=n:=hen 1 j2;have hle2:(E 2).length=n:=hen 2 j2;have hl0:p.bal.length=(E 0).length:=by rw [hle0,hbn]
 have hl1:p.bal.length=(E 1).length:=by rw [hle1,hbn]
 have hl2:R.length=(E 2).length:=by rw [hle2,hrn]
 obtain⟨H,Hi,Hi0,Hi1,Hi2,Hbn,Hrn,Hen,Hlr⟩:=hid9 h hi hi0 hi1 hi2 hbn hrn hen hlr;clear hlr hen hrn hbn hi2 hi1 hi0 hi h;obtain⟨Hle0,Hle1,Hle2,Hl0,Hl1,Hl2⟩:=hid6 hle0 hle1 hle2 hl0 hl1 hl2;clear hl2 hl1 hl0 hle2 hle1 hle0;go_enter Tryz.func115,Tryz.ntmps115;go_wp2
 go_loopw [2] (λx wx=>∃(k:Nat) (E':Nat->List (List Int)) (F':Nat->List SI),x= .int .i64 (k:Nat)/\k<=n/\DocV w0 Z B p R E' (.slice ab n cb) (.slice ar n cr) vo vp vs F' P m Q wx/\E' 0=extL (E 0) p.bal k/\E' 1=extL (E 1) p.bal k/\E' 2=extL (E 2) R k) (λx _=>n-(intOf x).toNat)
 case atStart=>exact⟨0,E,F,rfl,Nat.zero_le _,H.out,(Em _ _).symm,(Em _ _).symm,(Em _ _).symm⟩
 case round=>
  obtain⟨k,E1,F1,rfl,hkn,hd,q0,q1,q2⟩:=hrel;refine jc ?_;intro wq hwq;subst hwq;have c3:=Aa hd.blk 3;have bl:=lt_of_block hd.blk;by_cases hlt:k<n
  ·have hltI:(k:Int)<(n:Int):=j3;obtain⟨r0,hr0⟩:=Aj (L:=E 0) (k:=k) (by rw [Hle0.out];exact hlt);obtain⟨r1,hr1⟩:=Aj (L:=E 1) (k:=k) (by rw [Hle1.out];exact hlt);obtain⟨r2,hr2⟩:=Aj (L:=E 2) (k:=k) (by rw [Hle2.out];exact hlt);obtain⟨v0,hv0⟩:=Aj (L:=p.bal) (k:=k) (by rw [Hbn.out];exact hlt);obtain⟨v1,hv1⟩:=Aj (L:=R) (k:=k) (by rw [Hrn.out];exact hlt);have hbal:=hd.bal;rw [Hbn.out] at hbal;have hrts:=hd.rts;rw [Hrn.out] at hrts;obtain⟨gb,ob,heb,_⟩:=(Reads.Ay hbal).int (k:= .i64) hv0;obtain⟨gr,or,her,_⟩:=(Reads.Ay hrts).int (k:= .i64) hv1;subst heb her;have hF0:(F1 0).length=n:=by rw [<-List.length_map (f:=SI.L),hd.l 0 j2,q0,Dz Hl0.out (by rw [Hle0.out];omega)];exact Hle0.out
   have hF1:(F1 1).length=n:=by rw [<-List.length_map (f:=SI.L),hd.l 1 j2,q1,Dz Hl1.out (by rw [Hle1.out];omega)];exact Hle1.out
   have hF2:(F1 2).length=n:=by rw [<-List.length_map (f:=SI.L),hd.l 2 j2,q2,Dz Hl2.out (by rw [Hle2.out];omega)];exact Hle2.out
   obtain⟨g0,c0,hvs0⟩:=Pw (hd.o 0 j2) (by rw [hF0];omega);obtain⟨g1,c1,hvs1⟩:=Pw (hd.o 1 j2) (by rw [hF1];omega);obtain⟨g2,c2,hvs2⟩:=Pw (hd.o 2 j2) (by rw [hF2];omega);rw [hF0] at hvs0;rw [hF1] at hvs1;rw [hF2] at hvs2;clear hF0 hF1 hF2 hbal hrts;have Hr0:=Lib.hid hr0;have Hr1:=Lib.hid hr1;have Hr2:=Lib.hid hr2;have Hv0:=Lib.hid hv0;have Hv1:=Lib.hid hv1;have Hd:=Lib.hid hd;have q0:=Lib.hid q0;have q1:=Lib.hid q1;have q2:=Lib.hid q2;have Hvs0:=Lib.hid hvs0;have Hvs1:=Lib.hid hvs1;have Hvs2:=Lib.hid hvs2;clear hr0 hr1 hr2 hv0 hv1 hd hvs0 hvs1 hvs2;have hF_:(F1 1).length=n:=by rw [<-List.length_map (f:=SI.L),(Hd).out.l 1 j2,q1.out,Dz Hl1.out (by rw [Hle1.out];omega)];exact Hle1.out
   obtain⟨⟨ax,cx,Lx⟩,hx⟩:=Aj (L:=F1 1) (k:=k) (by rw [hF_];exact hlt)
   have hxL:Lx=r1:=by
    have h1:=congrArg (λl=>l[k]?) ((Hd).out.l 1 j2);simp only [List.getElem?_map,hx,Option.map_some] at h1;rw [q1.out,Fs Hl1.out Hr1.out] at h1
    simpa using h1
   obtain⟨m0,hm⟩:∃m,Lx.length=m:=⟨_,rfl⟩;have hm1:m0<=4000000:=by rw [<-hm,hxL];exact Hlr.out 1 j2 _ (List.mem_of_getElem? Hr1.out)
   have hxv0:(⟨ax,cx,Lx⟩:SI).v= .slice ax m0 cx:=by simp only [SI.v,hm]
   have hxm:=List.mem_of_getElem? hx;have hrx:=(Hd).out.i 1 j2 _ hxm;rw [hxv0] at hrx;simp only [hm] at hrx;have hob:=(Hd).out.o 1 j2;rw [Hvs1.out,hF_] at hob;have hcx:(wq).cell? ⟨g1,k,none⟩=some (.slice ax m0 cx):=(hob.cellAt k j1).trans j2E;have hbq:=(Hd).out.blk;rw [Hvs0.out,Hvs1.out,Hvs2.out] at hbq;have hvr:=(Hd).out.bal;rw [Hbn.out] at hvr;obtain⟨g',o',he',cb0⟩:=(Reads.Ay hvr).int (k:= .i64) Hv0.out;simp only [Option.some.injEq,Addr.mk.injEq,and_true] at he';obtain⟨rfl,rfl⟩:=he';have hS3:enS B 7 g1 k (.slice (some ⟨g1,0,none⟩) n c1) (.slice ax m0 cx) 0 (.slice (some ⟨gb,ob,none⟩) n cb) gb (ob+k) v0 (wq).drew:=(show enS B 7 g1 k (.slice (some ⟨g1,0,none⟩) n c1) (.slice ax m0 cx) 0 (.slice (some ⟨gb,ob,none⟩) n cb) gb (ob+k) v0 (wq) from⟨Aa hbq 7,hcx,Aa hbq 0,cb0⟩).keep (S:=λ_=>False) (Keeps.drew _) (by simp) (by simp) (by simp);have hdb:=(Hd).out.db 1 j2 _ hxm;rw [hxv0] at hdb;have cbl:=Ai cb0;clear cb0 hcx hvr;obtain⟨Hx,HxL,Hm,Hxv0,Hxm,Hrx,HS3,Hdb,Hob⟩:=hid9 hx hxL hm hxv0 hxm hrx hS3 hdb hob;clear hob hdb hS3 hrx hxm hxv0 hm hxL hx;obtain⟨Hbq,HF_⟩:=hid2 hbq hF_;clear hF_ hbq;go_wp2_with fail;refine Bj (enS B 7 g1 k (.slice (some ⟨g1,0,none⟩) n c1) (.slice ax m0 cx) 0 (.slice (some ⟨gb,ob,none⟩) n cb) gb (ob+k) v0) 23 (.take 0 (.take 1 (.take 2 (.take 3 (.take 4 (.take 5 (.take 6 (.take 7 (.take 8 (.take 9 (.take 10 (.take 11 (.take 12 (.take 13 (.take 14 (.take 15 (.take 16 (.take 17 (.take 18 (.take 19 (.move 20 (.move 21 (.take 22 (.move 23 .done)))))))))))))))))))))))) j4 j4 ?_ ?_
   ·exact HS3.out
   clear c3 bl;intro w8 hs8 hk8;refine jB ?_;have hk8a:=hk8.nt j2F;refine Ae rfl (λK hK=> ?_);refine Ah rfl (.tmp 23) (.tmp 32) 33 rfl 0 2 i0 _ 1 8 Tryz.underlying33 Hi.out Hi0.out Hi1.out Hi2.out rfl j2 (.slice ax m0 cx) m0 _ rfl (Hrx.out.of_keeps hk8a) _ 1 _ rfl (Reads.litAt _ _ _ 1 1 _ jd rfl) j9 j6 j1 (Nat.zero_le _) ?_;intro v9 w9 hown9 hk9 hf9;obtain⟨a9,c9,rfl,_,_⟩:=Ad hown9;have hrx8:=Hrx.out.of_keeps hk8a;have hob8:=Hob.out.of_keeps hk8a;have hbq8:=Ac Hbq.out hk8a (by simp);have hsg:¬(Value.slice ax m0 cx).ownBlock=some g1:=λe=>Cm hob8 hrx8 j2 rfl e;refine j2G ?_;intro o9 hsb;have hsv:¬(Value.slice ax m0 cx).ownBlock=some gb:=λe=>(Hdb.out gb e).1 (rfl);have hlen:(Lx++ [v0]).length=m0+1:=by rw [List.length_append,Hm.out];rfl
   have hxv:(⟨a9,c9,Lx++ [v0]⟩:SI).v= .slice a9 (m0+1) c9:=j0u;have hext:=(Hd).out.ext (a:=1) j2 (by rw [Hvs1.out,HF_.out]) (x':=⟨a9,c9,Lx++ [v0]⟩) Hx.out hk8a j0v j2H rfl j0w;rw [hxv] at hext;obtain⟨E2,hE2⟩:∃Y,Y=upd E1 1 ((E1 1).set k (Lx++ [v0])):=⟨_,rfl⟩;obtain⟨F2,hF2⟩:∃Y,Y=upd F1 1 ((F1 1).set k ⟨a9,c9,Lx++ [v0]⟩):=⟨_,rfl⟩;rw [<-hE2,<-hF2] at hext;have p0:E2 0=extL (E 0) p.bal k:=by rw [hE2,upd_ne j2];exact q0.out
   have p1:E2 1=extL (E 1) p.bal (k+1):=by rw [hE2,Cw,q1.out,HxL.out,Fq Hl1.out Hr1.out Hv0.out]
   have p2:E2 2=extL (E 2) R k:=by rw [hE2,upd_ne j2];exact q2.out
   have p0:=Lib.hid p0;have p1:=Lib.hid p1;have p2:=Lib.hid p2;have of9:=o9.frozenAt k;have oc9:w9.cell? ⟨g1,k,none⟩=some (.slice ax m0 cx):=(o9.cellAt k j1).trans j2I;have ol9:g1<w9.heap.size:=Bh o9 rfl;refine j05 ?_;clear hK K;refine j5 ?_;clear hown9 hk9 hk8a hk8 hrx8 hob8 hbq8 hF2 hE2;obtain⟨O9,Hsb,Hsg,Hsv,Hlen,Hxv,Hext⟩:=hid7 o9 hsb hsg hsv hlen hxv hext;clear hext hxv hlen hsv hsg hsb o9;clear hs8 hf9;refine jR ?_;refine jh ?_;clear of9 oc9 ol9 cbl;obtain⟨W2,hW2⟩:∃x,x=w9.setCell ⟨g1,k,none⟩ (.slice a9 (m0+1) c9):=⟨_,rfl⟩;rw [<-hW2] at Hext⊢;have Hd2:=Hext;clear hW2 Hext Hx HxL Hm Hxv0 Hxm Hrx HS3 Hdb Hob Hbq HF_ O9 Hsb Hsg Hsv Hlen Hxv hm1;clear q0 q1 q2;have hF_:(F2 2).length=n:=by rw [<-List.length_map (f:=SI.L),(Hd2).out.l 2 j2,p2.out,Dz Hl2.out (by rw [Hle2.out];omega)];exact Hle2.out
   obtain⟨⟨ax,cx,Lx⟩,hx⟩:=Aj (L:=F2 2) (k:=k) (by rw [hF_];exact hlt)
   have hxL:Lx=r2:=by
    have h1:=congrArg (λl=>l[k]?) ((Hd2).out.l 2 j2);simp only [List.getElem?_map,hx,Option.map_some] at h1;rw [p2.out,Fs Hl2.out Hr2.out] at h1
    simpa using h1
   obtain⟨m0,hm⟩:∃m,Lx.length=m:=⟨_,rfl⟩;have hm1:m0<=4000000:=by rw [<-hm,hxL];exact Hlr.out 2 j2 _ (List.mem_of_getElem? Hr2.out)
   have hxv0:(⟨ax,cx,Lx⟩:SI).v= .slice ax m0 cx:=by simp only [SI.v,hm]
   have hxm:=List.mem_of_getElem? hx;have hrx:=(Hd2).out.i 2 j2 _ hxm;rw [hxv0] at hrx;simp only [hm] at hrx;have hob:=(Hd2).out.o 2 j2;rw [Hvs2.out,hF_] at hob;have hcx:(W2).cell? ⟨g2,k,none⟩=some (.slice ax m0 cx):=(hob.cellAt k j1).trans j2E;have hbq:=(Hd2).out.blk;rw [Hvs0.out,Hvs1.out,Hvs2.out] at hbq;have hvr:=(Hd2).out.rts;rw [Hrn.out] at hvr;obtain⟨g',o',he',cb0⟩:=(Reads.Ay hvr).int (k:= .i64) Hv1.out;simp only [Option.some.injEq,Addr.mk.injEq,and_true] at he';obtain⟨rfl,rfl⟩:=he';have hS3:enS B 8 g2 k (.slice (some ⟨g2,0,none⟩) n c2) (.slice ax m0 cx) 3 (.slice (some ⟨gr,or,none⟩) n cr) gr (or+k) v1 (W2).drew:=(show enS B 8 g2 k (.slice (some ⟨g2,0,none⟩) n c2) (.slice ax m0 cx) 3 (.slice (some ⟨gr,or,none⟩) n cr) gr (or+k) v1 (W2) from⟨Aa hbq 8,hcx,Aa hbq 3,cb0⟩).keep (S:=λ_=>False) (Keeps.drew _) (by simp) (by simp) (by simp);have hdb:=(Hd2).out.db 2 j2 _ hxm;rw [hxv0] at hdb;have cbl:=Ai cb0;clear cb0 hcx hvr;obtain⟨Hx,HxL,Hm,Hxv0,Hxm,Hrx,HS3,Hdb,Hob⟩:=hid9 hx hxL hm hxv0 hxm hrx hS3 hdb hob;clear hob hdb hS3 hrx hxm hxv0 hm hxL hx;obtain⟨Hbq,HF_⟩:=hid2 hbq hF_;clear hF_ hbq;go_wp2_with fail;refine Bj (enS B 8 g2 k (.slice (some ⟨g2,0,none⟩) n c2) (.slice ax m0 cx) 3 (.slice (some ⟨gr,or,none⟩) n cr) gr (or+k) v1) 22 (.take 0 (.take 1 (.take 2 (.take 3 (.take 4 (.take 5 (.take 6 (.take 7 (.take 8 (.take 9 (.take 10 (.take 11 (.take 12 (.take 13 (.take 14 (.take 15 (.take 16 (.take 17 (.take 18 (.move 19 (.move 20 (.take 21 (.move 22 .done))))))))))))))))))))))) j4 j4 ?_ ?_
   ·exact HS3.out
   intro w8 hs8 hk8;refine jB ?_;have hk8a:=hk8.nt (Keeps.alloc w8 (.cells #[.int .i64 v1] 2));refine Ae rfl (λK hK=> ?_);refine Ah rfl (.tmp 46) (.tmp 54) 33 rfl 0 2 i0 _ 1 8 Tryz.underlying33 Hi.out Hi0.out Hi1.out Hi2.out rfl j2 (.slice ax m0 cx) m0 _ rfl (Hrx.out.of_keeps hk8a) _ 1 _ rfl (Reads.litAt _ _ _ 1 1 _ jd rfl) j9 j6 j1 (Nat.zero_le _) ?_;intro v9 w9 hown9 hk9 hf9;obtain⟨a9,c9,rfl,_,_⟩:=Ad hown9;have hrx8:=Hrx.out.of_keeps hk8a;have hob8:=Hob.out.of_keeps hk8a;have hbq8:=Ac Hbq.out hk8a (by simp);have hsg:¬(Value.slice ax m0 cx).ownBlock=some g2:=λe=>Cm hob8 hrx8 j2 rfl e;refine j2G ?_;intro o9 hsb;have hsv:¬(Value.slice ax m0 cx).ownBlock=some gr:=λe=>(Hdb.out gr e).2 (rfl);have hlen:(Lx++ [v1]).length=m0+1:=by rw [List.length_append,Hm.out];rfl
   have hxv:(⟨a9,c9,Lx++ [v1]⟩:SI).v= .slice a9 (m0+1) c9:=j0u;have hext:=(Hd2).out.ext (a:=2) j2 (by rw [Hvs2.out,HF_.out]) (x':=⟨a9,c9,Lx++ [v1]⟩) Hx.out hk8a j0v j5B rfl j0w;rw [hxv] at hext;obtain⟨E3,hE2⟩:∃Y,Y=upd E2 2 ((E2 2).set k (Lx++ [v1])):=⟨_,rfl⟩;obtain⟨F3,hF2⟩:∃Y,Y=upd F2 2 ((F2 2).set k ⟨a9,c9,Lx++ [v1]⟩):=⟨_,rfl⟩;rw [<-hE2,<-hF2] at hext;have q0:E3 0=extL (E 0) p.bal k:=by rw [hE2,upd_ne j2];exact p0.out
   have q1:E3 1=extL (E 1) p.bal (k+1):=by rw [hE2,upd_ne j2];exact p1.out
   have q2:E3 2=extL (E 2) R (k+1):=by rw [hE2,Cw,p2.out,HxL.out,Fq Hl2.out Hr2.out Hv1.out]
   have q0:=Lib.hid q0;have q1:=Lib.hid q1;have q2:=Lib.hid q2;have of9:=o9.frozenAt k;have oc9:w9.cell? ⟨g2,k,none⟩=some (.slice ax m0 cx):=(o9.cellAt k j1).trans j2I;have ol9:g2<w9.heap.size:=Bh o9 rfl;refine j05 ?_;clear hK K;refine j5 ?_;clear hown9 hk9 hk8a hk8 hrx8 hob8 hbq8 hF2 hE2;obtain⟨O9,Hsb,Hsg,Hsv,Hlen,Hxv,Hext⟩:=hid7 o9 hsb hsg hsv hlen hxv hext;clear hext hxv hlen hsv hsg hsb o9;clear hs8 hf9;refine jR ?_;refine jh ?_;clear of9 oc9 ol9 cbl;obtain⟨W3,hW2⟩:∃x,x=w9.setCell ⟨g2,k,none⟩ (.slice a9 (m0+1) c9):=⟨_,rfl⟩;rw [<-hW2] at Hext⊢;have Hd3:=Hext;clear hW2 Hext Hx HxL Hm Hxv0 Hxm Hrx HS3 Hdb Hob Hbq HF_ O9 Hsb Hsg Hsv Hlen Hxv hm1;clear p0 p1 p2;have hF_:(F3 0).length=n:=by rw [<-List.length_map (f:=SI.L),(Hd3).out.l 0 j2,q0.out,Dz Hl0.out (by rw [Hle0.out];omega)];exact Hle0.out
   obtain⟨⟨ax,cx,Lx⟩,hx⟩:=Aj (L:=F3 0) (k:=k) (by rw [hF_];exact hlt)
   have hxL:Lx=r0:=by
    have h1:=congrArg (λl=>l[k]?) ((Hd3).out.l 0 j2);simp only [List.getElem?_map,hx,Option.map_some] at h1;rw [q0.out,Fs Hl0.out Hr0.out] at h1
    simpa using h1
   obtain⟨m0,hm⟩:∃m,Lx.length=m:=⟨_,rfl⟩;have hm1:m0<=4000000:=by rw [<-hm,hxL];exact Hlr.out 0 j2 _ (List.mem_of_getElem? Hr0.out)
   have hxv0:(⟨ax,cx,Lx⟩:SI).v= .slice ax m0 cx:=by simp only [SI.v,hm]
   have hxm:=List.mem_of_getElem? hx;have hrx:=(Hd3).out.i 0 j2 _ hxm;rw [hxv0] at hrx;simp only [hm] at hrx;have hob:=(Hd3).out.o 0 j2;rw [Hvs0.out,hF_] at hob;have hcx:(W3).cell? ⟨g0,k,none⟩=some (.slice ax m0 cx):=(hob.cellAt k j1).trans j2E;have hbq:=(Hd3).out.blk;rw [Hvs0.out,Hvs1.out,Hvs2.out] at hbq;have hvr:=(Hd3).out.bal;rw [Hbn.out] at hvr;obtain⟨g',o',he',cb0⟩:=(Reads.Ay hvr).int (k:= .i64) Hv0.out;simp only [Option.some.injEq,Addr.mk.injEq,and_true] at he';obtain⟨rfl,rfl⟩:=he';have hS3:enS B 5 g0 k (.slice (some ⟨g0,0,none⟩) n c0) (.slice ax m0 cx) 0 (.slice (some ⟨gb,ob,none⟩) n cb) gb (ob+k) v0 (W3).drew:=(show enS B 5 g0 k (.slice (some ⟨g0,0,none⟩) n c0) (.slice ax m0 cx) 0 (.slice (some ⟨gb,ob,none⟩) n cb) gb (ob+k) v0 (W3) from⟨Aa hbq 5,hcx,Aa hbq 0,cb0⟩).keep (S:=λ_=>False) (Keeps.drew _) (by simp) (by simp) (by simp);have hdb:=(Hd3).out.db 0 j2 _ hxm;rw [hxv0] at hdb;have cbl:=Ai cb0;clear cb0 hcx hvr;obtain⟨Hx,HxL,Hm,Hxv0,Hxm,Hrx,HS3,Hdb,Hob⟩:=hid9 hx hxL hm hxv0 hxm hrx hS3 hdb hob;clear hob hdb hS3 hrx hxm hxv0 hm hxL hx;obtain⟨Hbq,HF_⟩:=hid2 hbq hF_;clear hF_ hbq;go_wp2_with fail;refine Bj (enS B 5 g0 k (.slice (some ⟨g0,0,none⟩) n c0) (.slice ax m0 cx) 0 (.slice (some ⟨gb,ob,none⟩) n cb) gb (ob+k) v0) 23 (.take 0 (.take 1 (.take 2 (.take 3 (.take 4 (.take 5 (.take 6 (.take 7 (.take 8 (.take 9 (.take 10 (.take 11 (.take 12 (.take 13 (.take 14 (.take 15 (.take 16 (.take 17 (.take 18 (.take 19 (.move 20 (.move 21 (.take 22 (.move 23 .done)))))))))))))))))))))))) j4 j4 ?_ ?_
   ·exact HS3.out
   intro w8 hs8 hk8;refine jB ?_;have hk8a:=hk8.nt j2F;refine Ae rfl (λK hK=> ?_);refine Ah rfl (.tmp 68) (.tmp 77) 33 rfl 0 2 i0 _ 1 8 Tryz.underlying33 Hi.out Hi0.out Hi1.out Hi2.out rfl j2 (.slice ax m0 cx) m0 _ rfl (Hrx.out.of_keeps hk8a) _ 1 _ rfl (Reads.litAt _ _ _ 1 1 _ jd rfl) j9 j6 j1 (Nat.zero_le _) ?_;intro v9 w9 hown9 hk9 hf9;obtain⟨a9,c9,rfl,_,_⟩:=Ad hown9;have hrx8:=Hrx.out.of_keeps hk8a;have hob8:=Hob.out.of_keeps hk8a;have hbq8:=Ac Hbq.out hk8a (by simp);have hsg:¬(Value.slice ax m0 cx).ownBlock=some g0:=λe=>Cm hob8 hrx8 j2 rfl e;refine j2G ?_;intro o9 hsb;have hsv:¬(Value.slice ax m0 cx).ownBlock=some gb:=λe=>(Hdb.out gb e).1 (rfl);have hlen:(Lx++ [v0]).length=m0+1:=by rw [List.length_append,Hm.out];rfl
   have hxv:(⟨a9,c9,Lx++ [v0]⟩:SI).v= .slice a9 (m0+1) c9:=j0u;have hext:=(Hd3).out.ext (a:=0) j2 (by rw [Hvs0.out,HF_.out]) (x':=⟨a9,c9,Lx++ [v0]⟩) Hx.out hk8a j0v j2H rfl j0w;rw [hxv] at hext;obtain⟨E4,hE2⟩:∃Y,Y=upd E3 0 ((E3 0).set k (Lx++ [v0])):=⟨_,rfl⟩;obtain⟨F4,hF2⟩:∃Y,Y=upd F3 0 ((F3 0).set k ⟨a9,c9,Lx++ [v0]⟩):=⟨_,rfl⟩;rw [<-hE2,<-hF2] at hext;have p0:E4 0=extL (E 0) p.bal (k+1):=by rw [hE2,Cw,q0.out,HxL.out,Fq Hl0.out Hr0.out Hv0.out]
   have p1:E4 1=extL (E 1) p.bal (k+1):=by rw [hE2,upd_ne j2];exact q1.out
   have p2:E4 2=extL (E 2) R (k+1):=by rw [hE2,upd_ne j2];exact q2.out
   have p0:=Lib.hid p0;have p1:=Lib.hid p1;have p2:=Lib.hid p2;have of9:=o9.frozenAt k;have oc9:w9.cell? ⟨g0,k,none⟩=some (.slice ax m0 cx):=(o9.cellAt k j1).trans j2I;have ol9:g0<w9.heap.size:=Bh o9 rfl;refine j05 ?_;clear hK K;refine j5 ?_;clear hown9 hk9 hk8a hk8 hrx8 hob8 hbq8 hF2 hE2;obtain⟨O9,Hsb,Hsg,Hsv,Hlen,Hxv,Hext⟩:=hid7 o9 hsb hsg hsv hlen hxv hext;clear hext hxv hlen hsv hsg hsb o9;clear hs8 hf9;refine jR ?_;refine jh ?_;clear of9 oc9 ol9 cbl;obtain⟨W4,hW2⟩:∃x,x=w9.setCell ⟨g0,k,none⟩ (.slice a9 (m0+1) c9):=⟨_,rfl⟩;rw [<-hW2] at Hext⊢;have Hd4:=Hext;clear hW2 Hext Hx HxL Hm Hxv0 Hxm Hrx HS3 Hdb Hob Hbq HF_ O9 Hsb Hsg Hsv Hlen Hxv hm1;go_wp2_with fail;go_roundw
   case rel=>exact⟨k+1,_,_,by go_num,by omega,Hd4.out,p0.out,p1.out,p2.out⟩
   case measure=>simp [intOf];omega
  ·obtain rfl:n=k:=by omega
   have hq0:=q0;have hq1:=q1;have hq2:=q2;clear q0 q1 q2;obtain⟨Hd,Hq0,Hq1,Hq2⟩:=hid4 hd hq0 hq1 hq2;clear hq2 hq1 hq0 hd;go_wp2;go_end0;exact⟨rfl,_,_,Hd.out,Hq0.out,Hq1.out,Hq2.out⟩
section
variable {w0 Z:World} {B:Nat} {p:Ps} {R:List Int} {E:Nat->List (List Int)} {vb vr vo vp:Value} {vs:Nat->Value} {F:Nat->List SI} {P:List SV} {m:Nat} {Q:List Value} {W W2 W':World}
theorem DocV.rowk(h:DocV w0 Z B p R E vb vr vo vp vs F P m Q W)(hk0:Keeps (λ_=>False) W W2)(hk:Keeps (λi=>i=B\/vo.ownBlock=some i\/vp.ownBlock=some i) W2 W'){e:TypeId}{sz k:Nat}{v:Value}{xs:List Value}(hr:W2.ownsRow 0 e sz v k xs)(n1:e≠115)(n2:e≠58)(n3:e≠97):W'.ownsRow 0 e sz v k xs:=by
 have h2:=h.keep0 hk0;refine hk.row hr λi hi e'=> ?_;rcases e' with rfl|e'|e'
 ·exact Ag hr h2.blk (λe=>n1 e.symm) hi
 ·exact Cm hr h2.out n2 hi e'
 ·exact Cm hr h2.pst n3 hi e'
theorem DocV.put(h:DocV w0 Z B p R E vb vr vo vp vs F P m Q W){p':Ps}{R':List Int}{vb' vr' vo' vp':Value}{P':List SV}{m':Nat}{Q':List Value}(hk0:Keeps (λ_=>False) W W2)(hk:Keeps (λi=>i=B\/vo.ownBlock=some i\/vp.ownBlock=some i) W2 W')
  (hb:W'.heap[B]?=some (.cells #[vb',.int .i64 p'.cr,.int .i64 p'.du,vr',vo',vs 0,vp',vs 1,vs 2] 115 (0,0)))
  (hvb:W'.ownsRow 0 2 1 vb' p'.bal.length (p'.bal.flatMap i64c)) (hvr:W'.ownsRow 0 2 1 vr' R'.length (R'.flatMap i64c)) (hvo:W'.ownsRow 0 58 9 vo' P'.length (P'.flatMap SV.cells))
  (hln:∀x∈P',W'.ownsRow 0 92 3 x.v x.s.lines.length (x.s.lines.flatMap Ln.cells)) (hvp:W'.ownsRow 0 97 2 vp' m' Q')
  (qb:∀b,vb'.ownBlock=some b->vb.ownBlock=some b\/W.heap.size<=b) (qr:∀b,vr'.ownBlock=some b->vr.ownBlock=some b\/W.heap.size<=b) (qo:∀b,vo'.ownBlock=some b->vo.ownBlock=some b\/W.heap.size<=b)
  (qp:∀b,vp'.ownBlock=some b->vp.ownBlock=some b\/W.heap.size<=b) (ql:∀x∈P',∀b,x.v.ownBlock=some b->w0.heap.size<=b):
  DocV w0 Z B p' R' E vb' vr' vo' vp' vs F P' m' Q' W':=by
 have h2:=h.keep0 hk0;have hs:=h.kp.size
 exact { h2 with
  blk:=hb
  bal:=hvb
  rts:=hvr
  out:=hvo
  ln:=hln
  pst:=hvp
  o:=λa ha=>h.rowk hk0 hk (h2.o a ha) j2 j2 j2
  i:=λa ha x hx=>h.rowk hk0 hk (h2.i a ha x hx) j2 j2 j2
  db:=λa ha x hx g hg=>⟨λe=>(qb g e).elim (h.db a ha x hx g hg).1 (λh1=>by have:=Bh (h.i a ha x hx) hg;omega),λe=>(qr g e).elim (h.db a ha x hx g hg).2 (λh1=>by have:=Bh (h.i a ha x hx) hg;omega)⟩
  wb:=λg e=>(qb g e).elim (h.wb g) (λh1=>by omega)
  wr:=λg e=>(qr g e).elim (h.wr g) (λh1=>by omega)
  wo:=λg e=>(qo g e).elim (h.wo g) (λh1=>by omega)
  wp:=λg e=>(qp g e).elim (h.wp g) (λh1=>by omega)
  wl:=ql
  kp:=h2.kp.trans (hk.mono λi _ e=> .inr (by
   rcases e with e|e|e
   ·rw [e];exact h.wB
   ·exact h.wo i e
   ·exact h.wp i e))
  fz:=h2.fz.step hk (λi e=>by
   rcases e with rfl|e|e
   ·exact⟨_,_,_,h2.blk,.inl rfl⟩
   ·obtain⟨c,fz,hc⟩:=Dm h2.out e;exact⟨c,_,fz,hc,.inr (.inr (.inr (.inl rfl)))⟩
   ·obtain⟨c,fz,hc⟩:=Dm h2.pst e;exact⟨c,_,fz,hc,.inr (.inr (.inr (.inr rfl)))⟩) }
theorem DocV.addPst(h:DocV w0 Z B p R E vb vr vo vp vs F P m Q W){w5:World}{vp':Value}{m':Nat}{Q':List Value}(hk0:Keeps (λ_=>False) W W2)(hk5:Keeps (λi=>vp.ownBlock=some i) W2 w5)
  (hr:w5.ownsRow 0 97 2 vp' m' Q') (hf:∀b,vp'.ownBlock=some b->vp.ownBlock=some b\/W.heap.size<=b):
  DocV w0 Z B p R E vb vr vo vp' vs F P m' Q' (w5.setCell ⟨B,6,none⟩ vp'):=by
 have h2:=h.keep0 hk0;have nB:¬vp.ownBlock=some B:=Ag h2.pst h2.blk j2;have h5b:=Ac h2.blk hk5 nB;have k:Keeps (λi=>i=B) w5 (w5.setCell ⟨B,6,none⟩ vp'):=Keeps.setCell _ _ _ rfl;have h6:=(heap_setCell_same _ _ 6 _ _ vp' h5b).trans rfl;have hs:=hk0.size;have hkk:Keeps (λi=>i=B\/vo.ownBlock=some i\/vp.ownBlock=some i) W2 (w5.setCell ⟨B,6,none⟩ vp'):=(hk5.mono λi _ e=> .inr (.inr e)).trans (k.mono λi _ e=> .inl (.inl e))
 have ho:(w5.setCell ⟨B,6,none⟩ vp').ownsRow 0 58 9 vo P.length (P.flatMap SV.cells):=by
  have h5:=hk5.row h2.out (λb hb e=>Cm h2.out h2.pst j2 hb e);exact k.row h5 (λi hi e=>by have e':i=B:=e;subst e';exact Ag h5 h5b j2 hi)
 exact h.put hk0 hkk h6 (h.rowk hk0 hkk h2.bal j2 j2 j2) (h.rowk hk0 hkk h2.rts j2 j2 j2) ho (λx hx=>h.rowk hk0 hkk (h2.ln x hx) j2 j2 j2)
  (k.row hr (λi hi e=>by have e':i=B:=e;subst e';exact Ag hr h5b j2 hi)) (λb e=> .inl e) (λb e=> .inl e) (λb e=> .inl e) hf h.wl
theorem DocV.Ky(h:DocV w0 Z B p R E vb vr vo vp vs F P m Q W){w5:World}{x:SV}{vo':Value}(hk0:Keeps (λ_=>False) W W2)(hk5:Keeps (λi=>vo.ownBlock=some i) W2 w5)
  (hr:w5.ownsRow 0 58 9 vo' (P.length+1) ((P++ [x]).flatMap SV.cells)) (hx:W2.ownsRow 0 92 3 x.v x.s.lines.length (x.s.lines.flatMap Ln.cells)) (hxn:∀b,x.v.ownBlock=some b->w0.heap.size<=b) (hf:∀b,vo'.ownBlock=some b->vo.ownBlock=some b\/W.heap.size<=b):
  DocV w0 Z B p R E vb vr vo' vp vs F (P++ [x]) m Q (w5.setCell ⟨B,4,none⟩ vo'):=by
 have h2:=h.keep0 hk0;have nB:¬vo.ownBlock=some B:=Ag h2.out h2.blk j2;have h5b:=Ac h2.blk hk5 nB;have k:Keeps (λi=>i=B) w5 (w5.setCell ⟨B,4,none⟩ vo'):=Keeps.setCell _ _ _ rfl;have h6:=(heap_setCell_same _ _ 4 _ _ vo' h5b).trans rfl;have hs:=hk0.size;have hkk:Keeps (λi=>i=B\/vo.ownBlock=some i\/vp.ownBlock=some i) W2 (w5.setCell ⟨B,4,none⟩ vo'):=(hk5.mono λi _ e=> .inr (.inl e)).trans (k.mono λi _ e=> .inl (.inl e))
 have ho:(w5.setCell ⟨B,4,none⟩ vo').ownsRow 0 97 2 vp m Q:=by
  have h5:=hk5.row h2.pst (λb hb e=>Cm h2.pst h2.out j2 hb e);exact k.row h5 (λi hi e=>by have e':i=B:=e;subst e';exact Ag h5 h5b j2 hi)
 exact h.put hk0 hkk h6 (h.rowk hk0 hkk h2.bal j2 j2 j2) (h.rowk hk0 hkk h2.rts j2 j2 j2)
  (by rw [List.length_append];exact k.row hr (λi hi e=>by have e':i=B:=e;subst e';exact Ag hr h5b j2 hi))
  (λy hy=>by
   rcases List.mem_append.1 hy with hy|hy
   ·exact h.rowk hk0 hkk (h2.ln y hy) j2 j2 j2
   ·rw [List.mem_singleton.1 hy];exact h.rowk hk0 hkk hx (by decide) (by decide) (by decide))
  ho (λb e=> .inl e) (λb e=> .inl e) hf (λb e=> .inl e) (λy hy=>by
   rcases List.mem_append.1 hy with hy|hy
   ·exact h.wl y hy
   ·rw [List.mem_singleton.1 hy];exact hxn)
theorem DocV.setP(h:DocV w0 Z B p R E vb vr vo vp vs F P m Q W){p':Ps}{vb':Value}(hk0:Keeps (λ_=>False) W W2)
  (hvb:W2.ownsRow 0 2 1 vb' p'.bal.length (p'.bal.flatMap i64c)) (qb:∀b,vb'.ownBlock=some b->W.heap.size<=b):
  DocV w0 Z B p' R E vb' vr vo vp vs F P m Q (((W2.setCell ⟨B,0,none⟩ vb').setCell ⟨B,1,none⟩ (.int .i64 p'.cr)).setCell ⟨B,2,none⟩ (.int .i64 p'.du)):=by
 have h2:=h.keep0 hk0;have h10:=(heap_setCell_same _ _ 0 _ _ vb' h2.blk).trans rfl;have h11:=(heap_setCell_same _ _ 1 _ _ (.int .i64 p'.cr) h10).trans rfl;have h12:=(heap_setCell_same _ _ 2 _ _ (.int .i64 p'.du) h11).trans rfl
 have k:Keeps (λi=>i=B) W2 (((W2.setCell ⟨B,0,none⟩ vb').setCell ⟨B,1,none⟩ (.int .i64 p'.cr)).setCell ⟨B,2,none⟩ (.int .i64 p'.du)):=
  ((Keeps.setCell (S:=λi=>i=B) _ _ _ rfl).trans (Keeps.setCell _ _ _ (.inl rfl))).trans (Keeps.setCell _ _ _ (.inl rfl))
 have hne:∀{e:TypeId} {sz j:Nat} {v:Value} {xs:List Value},W2.ownsRow 0 e sz v j xs->115≠e->∀i,v.ownBlock=some i->¬i=B:=λhr hne i hi e=>by subst e;exact Ag hr h2.blk hne hi
 exact h.put hk0 (k.mono λi _ e=> .inl e) h12 (k.row hvb (hne hvb j2)) (k.row h2.rts (hne h2.rts j2)) (k.row h2.out (hne h2.out j2)) (λx hx=>k.row (h2.ln x hx) (hne (h2.ln x hx) j2)) (k.row h2.pst (hne h2.pst j2))
  (λb e=> .inr (qb b e)) (λb e=> .inl e) (λb e=> .inl e) (λb e=> .inl e) h.wl
end
theorem and_one(x:Int)(h0:0<=x)(h1:x<18446744073709551616):bits .and .u64 x 1=x % 2:=by
 obtain⟨m,rfl⟩:=Int.eq_ofNat_of_zero_le h0;have hm:((m:Int) % 18446744073709551616).toNat=m:=j3;have hand:m&&&1=m % 2:=Nat.and_two_pow_sub_one_eq_mod m 1;refine j3G ?_;rw [hm,show((1:Int) % 18446744073709551616).toNat=1 by decide,hand];simp [IntKind.wrap,IntKind.signed,IntKind.bits];omega
theorem or_two(a c:Int)(h0:0<=a)(h1:a*2<18446744073709551616)(c0:0<=c)(c1:c<2):bits .or .u64 (a*2) c=a*2+c:=by
 have h:=or_pow 1 a c h0 (by simpa using h1) c0 (by simpa using c1) j1;rw [show((2 ^ 1:Nat):Int)=2 by rfl] at h;rw [h];omega
theorem Ry(b:Int)(k:Nat):b / 2 ^ k=2*(b / 2 ^ (k+1))+b / 2 ^ k % 2:=by
 have h0:(0:Int)<=2 ^ k:=Int.pow_nonneg j2;rw [Int.pow_succ,<-Int.ediv_ediv_of_nonneg h0];omega
theorem u64w{x:Int}(h0:0<=x)(h1:x<18446744073709551616):IntKind.u64.wrap x=x:=by rw [IntKind.wrap_u64];omega
theorem Qc(a b:Int)(a0:0<=a)(a1:a<18446744073709551616)(b0:0<=b)(b1:b<18446744073709551616)(w:World):
  Calls Tryz.prog 161 #[.int .u64 a,.int .u64 b] w λe w'=>e= .returned (.tuple #[.int .u64 (a*b / 18446744073709551616),.int .u64 (a*b % 18446744073709551616)])/\w=w':=by
 go_enter Tryz.func161,Tryz.ntmps161;go_wp2
 go_loopw [6,7,8] (λx y z wx=>∃(k:Nat) (h l:Int),x= .int .u64 h/\y= .int .u64 l/\z= .int .i64 ((k:Int)-1)/\k<=64/\0<=h/\0<=l/\l<18446744073709551616/\h*18446744073709551616+l=a*(b / 2 ^ k)/\w=wx) (λ_ _ z _=>(intOf z+1).toNat)
 case atStart=>
  refine⟨64,0,0,rfl,rfl,rfl,by decide,by decide,by decide,by decide, ?_,rfl⟩
  have:b / 2 ^ 64=0:=by
   rw [show(2:Int) ^ 64=18446744073709551616 by rfl];omega
  rw [this];simp
 case round=>
  obtain⟨k,h,l,rfl,rfl,rfl,hk,h0,l0,l1,hm,hkp⟩:=hrel;have hq0:0<=b / 2 ^ k:=Int.ediv_nonneg b0 (Int.pow_nonneg j2);have hq1:b / 2 ^ k<=b:=Int.ediv_le_self _ b0;rcases k with _|k
  ·have hz:b / 2 ^ 0=b:=by rw [Int.pow_zero,Int.ediv_one]
   rw [hz] at hm;have e1:a*b / 18446744073709551616=h:=j3;have e2:a*b % 18446744073709551616=l:=j3;have hneg:¬(0:Int)<=((0:Nat):Int)-1:=j3;obtain⟨Hm,Hkp,Hz,E1,E2⟩:=hid5 hm hkp hz e1 e2;clear e2 e1 hz hkp hm;go_wp2;exact bodyPost_ret (v:= .tuple #[.int .u64 h,.int .u64 l]) (by simp [results,Tryz.results161,go_sem]) rfl ⟨by rw [E1.out,E2.out],Hkp.out⟩
  ·have hd:=Ry b k;have p0:0<=b / 2 ^ k:=Int.ediv_nonneg b0 (Int.pow_nonneg j2);have p1:b / 2 ^ k<=b:=Int.ediv_le_self _ b0;obtain⟨c,hc⟩:∃c,b / 2 ^ k % 2=c:=⟨_,rfl⟩;have hand:bits .and .u64 (b / 2 ^ k) 1=c:=by rw [and_one _ p0 j1];exact hc
   rw [hc] at hd;obtain⟨q,hq⟩:∃q,b / 2 ^ (k+1)=q:=⟨_,rfl⟩;rw [hq] at hd hm hq0 hq1;have hbd:a*q<=a*9223372036854775807:=Int.mul_le_mul_of_nonneg_left j1 a0;have hmul:a*(2*q+c)=2*(a*q)+a*c:=by rw [Int.mul_add,<-Int.mul_assoc,Int.mul_comm a 2,Int.mul_assoc]
   have hn2:0<=a*q:=Int.mul_nonneg a0 hq0;have hh:h<9223372036854775808:=j3;have e1:IntKind.u64.wrap (h*2)=h*2:=u64w j1 j1;have e2:bits .or .u64 (h*2) (l / 9223372036854775808)=h*2+l / 9223372036854775808:=or_two _ _ h0 j1 j1 j1;obtain⟨L,hL⟩:∃L,IntKind.u64.wrap (l*2)=L:=⟨_,rfl⟩;have hL2:L=l*2 % 18446744073709551616:=by rw [<-hL,IntKind.wrap_u64]
   obtain⟨H,hH⟩:∃H,h*2+l / 9223372036854775808=H:=⟨_,rfl⟩;rw [hH] at e2;obtain⟨M,hM⟩:∃M,IntKind.u64.wrap (L+a)=M:=⟨_,rfl⟩;have hM2:M=(L+a) % 18446744073709551616:=by rw [<-hM,IntKind.wrap_u64]
   have hki:((k:Nat):Int)+1-1=k:=j3;have hge:(0:Int)<=k:=j3;have hc2:c=0\/c=1:=j3;have hV:H*18446744073709551616+L=2*(a*q):=j3;have H0:0<=H:=j3;have hwH:IntKind.u64.wrap (H+1)=H+1:=u64w j1 j1;have hw2:w=wr:=hkp;rcases hc2 with rfl|rfl
   ·have hfin:H*18446744073709551616+L=a*(b / 2 ^ k):=by rw [hd,hmul,hV];omega
    have L0:0<=L:=j3;have L1:L<18446744073709551616:=j3;obtain⟨Hm,Hkp,Hd,Hc,Hq,Hbd,Hmul,HL2,HH⟩:=hid9 hm hkp hd hc hq hbd hmul hL2 hH;clear hH hL2 hmul hbd hq hc hd hkp hm;obtain⟨HM2,HV,Hw2,Hfin,Hn2,Hq0,Hq1,Hh⟩:=hid8 hM2 hV hw2 hfin hn2 hq0 hq1 hh;clear hh hq1 hq0 hn2 hfin hw2 hV hM2;go_wp2;go_roundw
    case rel=>exact⟨k,H,L,rfl,rfl,rfl,by omega,H0,L0,L1,Hfin.out,Hw2.out⟩
    case measure=>simp [intOf]
   ·by_cases hlt:M<L
    ·have hfin:(H+1)*18446744073709551616+M=a*(b / 2 ^ k):=by rw [hd,hmul,Int.add_mul,hV.symm] at *;omega
     have M0:0<=M:=j3;have M1:M<18446744073709551616:=j3;obtain⟨Hm,Hkp,Hd,Hc,Hq,Hbd,Hmul,HL2,HH⟩:=hid9 hm hkp hd hc hq hbd hmul hL2 hH;clear hH hL2 hmul hbd hq hc hd hkp hm;obtain⟨HM2,HV,Hw2,Hfin,Hn2,Hq0,Hq1,Hh⟩:=hid8 hM2 hV hw2 hfin hn2 hq0 hq1 hh;clear hh hq1 hq0 hn2 hfin hw2 hV hM2;go_wp2;go_roundw
     case rel=>exact⟨k,H+1,M,rfl,rfl,rfl,by omega,by omega,M0,M1,Hfin.out,Hw2.out⟩
     case measure=>simp [intOf]
    ·have hfin:H*18446744073709551616+M=a*(b / 2 ^ k):=by rw [hd,hmul];omega
     have M0:0<=M:=j3;have M1:M<18446744073709551616:=j3;obtain⟨Hm,Hkp,Hd,Hc,Hq,Hbd,Hmul,HL2,HH⟩:=hid9 hm hkp hd hc hq hbd hmul hL2 hH;clear hH hL2 hmul hbd hq hc hd hkp hm;obtain⟨HM2,HV,Hw2,Hfin,Hn2,Hq0,Hq1,Hh⟩:=hid8 hM2 hV hw2 hfin hn2 hq0 hq1 hh;clear hh hq1 hq0 hn2 hfin hw2 hV hM2;go_wp2;go_roundw
     case rel=>exact⟨k,H,M,rfl,rfl,rfl,by omega,H0,M0,M1,Hfin.out,Hw2.out⟩
     case measure=>simp [intOf]
theorem low_bit(hi lo:Int)(k:Nat)(hk:k<64)(_:0<=hi)(_:0<=lo):(hi*18446744073709551616+lo) / 2 ^ k % 2=lo / 2 ^ k % 2:=by
 obtain⟨j,hj⟩:∃j,64=k+1+j:=⟨64-k-1,by omega⟩
 have hp:(18446744073709551616:Int)=2 ^ k*(2*2 ^ j):=by
  rw [show(18446744073709551616:Int)=2 ^ 64 by rfl,hj,Int.pow_add,Int.pow_succ,Int.mul_assoc]
 have hpk:(2:Int) ^ k≠0:=Int.ne_of_gt (Int.pow_pos j2);rw [hp,show hi*(2 ^ k*(2*2 ^ j))+lo=lo+2 ^ k*(hi*(2*2 ^ j)) by rw [Int.add_comm,Int.mul_left_comm],Int.add_mul_ediv_left _ _ hpk,show hi*(2*2 ^ j)=2*(hi*2 ^ j) by rw [Int.mul_left_comm]];omega
theorem Np(hi lo D N:Int)(hD:0<D)(hD2:D<4294967296)(hN:hi*18446744073709551616+lo=N)(h0:0<=hi)(h1:hi<D)(l0:0<=lo)(l1:lo<18446744073709551616)(hq:N / D<1000000000000000000)(w:World):
  Calls Tryz.prog 271 #[.int .u64 hi,.int .u64 lo,.int .u64 D] w λe w'=>e= .returned (.tuple #[.int .u64 (evenI N D),.bool true])/\Keeps (λ_=>False) w w':=by
 have hDI:(D==0)=false:=beq_eq_false_iff_ne.2 j1;have hge:decide (D<=hi)=false:=by rw [decide_eq_false_iff_not];omega
 have hND:N<1000000000000000000*D:=by
  have:=Int.lt_mul_ediv_self_add (x:=N) (k:=D) hD
  have h3:D*(N / D)+D<=D*1000000000000000000:=by
   have:D*(N / D+1)<=D*1000000000000000000:=Int.mul_le_mul_of_nonneg_left j1 j1;rw [Int.mul_add,Int.mul_one] at this;exact this
  omega
 obtain⟨Hq,HND⟩:=hid2 hq hND;clear hND hq;go_enter Tryz.func271,Tryz.ntmps271;go_wp2
 go_loopw [8,9,10] (λx y z wx=>∃(k:Nat) (q r:Int),x= .int .u64 q/\y= .int .u64 r/\z= .int .i64 ((k:Int)-1)/\k<=64/\0<=q/\0<=r/\r<D/\q*D+r=N / 2 ^ k/\Keeps (λ_=>False) w wx) (λ_ _ z _=>(intOf z+1).toNat)
 case atStart=>
  refine⟨64,0,hi,rfl,rfl,rfl,by decide,by decide,h0,h1, ?_,Keeps.refl _ _⟩;rw [show(2:Int) ^ 64=18446744073709551616 by rfl];omega
 case round=>
  obtain⟨k,q,r,rfl,rfl,rfl,hk,q0,r0,r1,hm,hkp⟩:=hrel;rcases k with _|k
  ·rw [Int.pow_zero,Int.ediv_one] at hm
   have hqN:N / D=q:=by
    rw [<-hm,Int.add_comm,Int.add_mul_ediv_right _ _ j1,Int.ediv_eq_zero_of_lt r0 r1];omega
   have hrN:N % D=r:=by
    have:=Int.mul_ediv_add_emod N D;rw [hqN,Int.mul_comm] at this;omega
   obtain⟨Z,hZ⟩:∃Z,evenI N D=Z:=⟨_,rfl⟩;have hZ2:=hZ;unfold evenI at hZ2;rw [hqN,hrN] at hZ2;have hq1:=Hq.out;rw [hqN] at hq1;have hneg:¬(0:Int)<=((0:Nat):Int)-1:=j3;have e1:IntKind.u64.wrap (D-r)=D-r:=u64w j1 j1;have e2:bits .and .u64 q 1=q % 2:=and_one _ q0 j1;have e3:(q==18446744073709551615)=false:=beq_eq_false_iff_ne.2 j1;have e4:IntKind.u64.wrap (q+1)=q+1:=u64w j1 j1;rcases Int.lt_trichotomy r (D-r) with c1|c1|c1
   ·have c2:decide (D-r<r)=false:=by rw [decide_eq_false_iff_not];omega
    have c3:(r==D-r)=false:=beq_eq_false_iff_ne.2 j1;rw [if_pos j1] at hZ2;exact j5C
   ·have c2:decide (D-r<r)=false:=by rw [decide_eq_false_iff_not];omega
    have c3:(r==D-r)=true:=by rw [beq_iff_eq];exact c1
    rcases(by omega:q % 2=0\/q % 2=1) with c4|c4
    ·rw [if_pos j1] at hZ2;rw [c4] at e2;clear c4 c1;exact j5C
    ·rw [if_neg j1] at hZ2;rw [c4] at e2;clear c4 c1;exact j5D
   ·have c2:decide (D-r<r)=true:=by rw [decide_eq_true_iff];omega
    rw [if_neg j1] at hZ2;exact j5D
  ·have hd:=Ry N k;have hlb:=low_bit hi lo k j1 h0 l0;rw [hN] at hlb;rw [hlb] at hd;have p0:0<=lo / 2 ^ k:=Int.ediv_nonneg l0 (Int.pow_nonneg j2);have p1:lo / 2 ^ k<=lo:=Int.ediv_le_self _ l0;obtain⟨c,hc⟩:∃c,lo / 2 ^ k % 2=c:=⟨_,rfl⟩;have hand:bits .and .u64 (lo / 2 ^ k) 1=c:=by rw [and_one _ p0 j1];exact hc
   rw [hc] at hd;have hc2:0<=c/\c<2:=j3;have hN2:N / 2 ^ k<=N:=Int.ediv_le_self _ j1;have e1:IntKind.u64.wrap (r*2)=r*2:=u64w j1 j1;have e2:bits .or .u64 (r*2) c=r*2+c:=or_two _ _ r0 j1 hc2.1 hc2.2;have e3:r / 9223372036854775808=0:=j3
   have hq2:q<1000000000000000000:=by
    have h5:q*D<=N:=j3;have h6:q*D<1000000000000000000*D:=by have:=HND.out;omega
    exact Int.lt_of_mul_lt_mul_right h6 j1
   have e4:IntKind.u64.wrap (q*2)=q*2:=u64w j1 j1;have e5:bits .or .u64 (q*2) 1=q*2+1:=or_two _ _ q0 j1 j2 j2;have hki:((k:Nat):Int)+1-1=k:=j3;have hge:(0:Int)<=k:=j3;obtain⟨R,hR⟩:∃R,r*2+c=R:=⟨_,rfl⟩;rw [hR] at e2;by_cases hlt:D<=R
   ·have hltI:decide (D<=R)=true:=decide_eq_true hlt;have e6:IntKind.u64.wrap (R-D)=R-D:=u64w j1 j1;have hfin:(q*2+1)*D+(R-D)=N / 2 ^ k:=by rw [hd,<-hm,Int.add_mul,Int.mul_right_comm];omega
    have b1:R-D<D:=j3;have b2:0<=R-D:=j3;obtain⟨Hm,Hkp,Hd,Hlb,Hc,HN2,HR,Hfin,Hq2⟩:=hid9 hm hkp hd hlb hc hN2 hR hfin hq2;clear hq2 hfin hR hN2 hc hlb hd hkp hm;have HN:=Lib.hid hN;clear hN;go_wp2;go_roundw
    case rel=>exact⟨k,q*2+1,R-D,rfl,rfl,rfl,by omega,by omega,b2,b1,Hfin.out,Hkp.out⟩
    case measure=>simp [intOf]
   ·have hltI:decide (D<=R)=false:=decide_eq_false hlt;have hfin:q*2*D+R=N / 2 ^ k:=by rw [hd,<-hm,Int.mul_right_comm];omega
    have b1:R<D:=j3;have b2:0<=R:=j3;have b3:0<=q*2:=j3;obtain⟨Hm,Hkp,Hd,Hlb,Hc,HN2,HR,Hfin,Hq2⟩:=hid9 hm hkp hd hlb hc hN2 hR hfin hq2;clear hq2 hfin hR hN2 hc hlb hd hkp hm;obtain⟨HN,Hlt⟩:=hid2 hN hlt;clear hlt hN;go_wp2;go_roundw
    case rel=>exact⟨k,q*2,R,rfl,rfl,rfl,by omega,b3,b2,b1,Hfin.out,Hkp.out⟩
    case measure=>simp [intOf]
theorem Tu(X Y:List Int)(ad1 ad2:Option Addr)(c1 c2 n:Nat)(w:World)(hr1:Reads w 1 (.slice ad1 n c1) n (X.flatMap i64c))(hX:X.length=n)(hr2:Reads w 1 (.slice ad2 n c2) n (Y.flatMap i64c))(hY:Y.length=n)(hn:n<=40000)
  (hXb:∀x∈X,0<=x/\x<=1000000000000000) (hYb:∀y∈Y,0<=y/\y<=10000000):
  Calls Tryz.prog 98 #[.slice ad1 n c1,.slice ad2 n c2] w λe w'=>e= .returned (.tuple #[.int .u64 (dotI X Y / 18446744073709551616),.int .u64 (dotI X Y % 18446744073709551616),.int .i64 0])/\Keeps (λ_=>False) w w':=by
 obtain⟨R,hR⟩:∃R,dotI X Y=R:=⟨_,rfl⟩;rw [hR];have hnI:(n:Int)<=40000:=j3;have hne:((n:Int)==(n:Int))=true:=by simp
 obtain⟨Hr1,HX,Hr2,HY,HXb,HYb,HR⟩:=hid7 hr1 hX hr2 hY hXb hYb hR;clear hR hYb hXb hY hr2 hX hr1;go_enter Tryz.func98,Tryz.ntmps98;go_wp2
 go_loopw [7,8] (λx y wx=>∃k:Nat,x= .bool true/\y= .int .i64 (k:Nat)/\k<=n/\Keeps (λ_=>False) w wx) (λ_ y _=>n-(intOf y).toNat)
 case atStart=>exact⟨0,rfl,rfl,Nat.zero_le _,Keeps.refl _ _⟩
 case round=>
  obtain⟨k,rfl,rfl,hkn,hk⟩:=hrel;refine jc ?_;intro wq hwq;subst hwq;by_cases hlt:k<n
  ·have hltI:(k:Int)<(n:Int):=j3;refine j1U ?_;intro x hx y hy g1 o1 he1 x0 g2 o2 he2 y0;subst he1;subst he2;obtain⟨xb0,xb1⟩:=HXb.out x (List.mem_of_getElem? hx);obtain⟨yb0,yb1⟩:=HYb.out y (List.mem_of_getElem? hy);have lx:=Ai x0;have ly:=Ai y0;obtain⟨Hk,Hx,Hy⟩:=hid3 hk hx hy;clear hy hx hk;go_wp2;exact j5t
  ·obtain rfl:n=k:=by omega
   have Hk0:=Lib.hid hk;clear hk;go_wp2
   go_loopw [9,10,11] (λx y z wx=>∃(k:Nat) (N:Int),x= .int .u64 (N / 18446744073709551616)/\y= .int .u64 (N % 18446744073709551616)/\z= .int .i64 (k:Nat)/\k<=n/\dotI (X.take k) (Y.take k)=N/\Keeps (λ_=>False) w wx) (λ_ _ z _=>n-(intOf z).toNat)
   case atStart=>exact⟨0,0,rfl,rfl,rfl,Nat.zero_le _,rfl,Hk0.out⟩
   case round=>
    obtain⟨k,N,rfl,rfl,rfl,hkn,hN,hk⟩:=hrel;have hbd:=j3L;rw [hN,List.length_take,HX.out] at hbd;obtain⟨N0,N1⟩:=hbd
    have N2:N<=400000000000000000000000000:=by
     have:min k n<=40000:=j3;omega
    clear N1;by_cases hlt:k<n
    ·have hltI:(k:Int)<(n:Int):=j3;refine j1U ?_;intro x hx y hy g1 o1 he1 x0 g2 o2 he2 y0;subst he1;subst he2;have hS:exS g1 (o1+k) g2 (o2+k) x y wr.drew:=⟨x0,y0⟩;have xb:=HXb.out x (List.mem_of_getElem? hx);have yb:=HYb.out y (List.mem_of_getElem? hy);have pb:=Tx xb yb;have hsn:=Sc (by rw [HX.out,HY.out]) hx hy;rw [hN] at hsn;have hmul:=λW=>Qc x y xb.1 j1 yb.1 j1 W;obtain⟨p,hp⟩:∃p,x*y=p:=⟨_,rfl⟩;rw [hp] at pb hmul hsn;refine j3M ?_;intro lx ly A hA B hB Hi hHi Lo hLo;rw [hA,hB] at hmul;refine j3N ?_;intro b1 b2 b3 b4;have s1:IntKind.u64.wrap (Hi+A)=Hi+A:=u64w j1 j1;have s2:IntKind.u64.wrap (Hi+A+1)=Hi+A+1:=u64w j1 j1;obtain⟨M,hM⟩:∃M,IntKind.u64.wrap (Lo+B)=M:=⟨_,rfl⟩;have hM2:M=(Lo+B) % 18446744073709551616:=by rw [<-hM,IntKind.wrap_u64]
     have hM3:(N+p) % 18446744073709551616=M:=j3;obtain⟨xb0,xb1⟩:=xb;obtain⟨yb0,yb1⟩:=yb;have q1:IntKind.u64.wrap x=x:=u64w j1 j1;have q2:IntKind.u64.wrap y=y:=u64w j1 j1;by_cases hlo:M<Lo
     ·have hM4:(N+p) / 18446744073709551616=Hi+A+1:=j3;exact j5E
     ·have hM4:(N+p) / 18446744073709551616=Hi+A:=j3;exact j5E
    ·obtain rfl:n=k:=by omega
     rw [List.take_of_length_le (by rw [HX.out];exact Nat.le_refl _),List.take_of_length_le (by rw [HY.out];exact Nat.le_refl _),HR.out] at hN;subst hN;have Hk:=Lib.hid hk;clear hk;go_wp2;exact bodyPost_ret (v:= .tuple #[.int .u64 (R / 18446744073709551616),.int .u64 (R % 18446744073709551616),.int .i64 0]) (by simp [results,Tryz.results98,go_sem]) rfl ⟨rfl,Hk.out⟩
theorem r13Of_any(X Y:List Int)(ad1 ad2:Option Addr)(c1 c2 n:Nat)(w:World)(hr1:Reads w 1 (.slice ad1 n c1) n (X.flatMap i64c))(hX:X.length=n)(hr2:Reads w 1 (.slice ad2 n c2) n (Y.flatMap i64c))(hY:Y.length=n)(hn:n<=40000)
  (hXb:∀x∈X,0<=x/\x<=1000000000000000) (hYb:∀y∈Y,0<=y/\y<=10000000):
  Calls Tryz.prog 230 #[.slice ad1 n c1,.slice ad2 n c2] w λe w'=>e= .returned (.tuple #[.int .i64 (ofR X Y).1,.int .i64 (ofR X Y).2])/\Keeps (λ_=>False) w w':=by
 have hex:=Tu X Y ad1 ad2 c1 c2 n w hr1 hX hr2 hY hn hXb hYb;obtain⟨R,hR⟩:∃R,dotI X Y=R:=⟨_,rfl⟩;have hbd:=Ma X Y hXb hYb;rw [hR] at hbd hex;have hR2:R<=400000000000000000000000000:=by rw [hX] at hbd;omega
 obtain⟨R0,_⟩:=hbd;have hev:=λW=>Np (R / 18446744073709551616) (R % 18446744073709551616) 1000000000 R j2 j2 j1 j1 j1 j1 j1 j1 W;obtain⟨E,hE⟩:∃E,evenI R 1000000000=E:=⟨_,rfl⟩;have hEb:0<=E/\E<=400000000000000001:=by rw [<-hE];unfold evenI;split<;>omega
 rw [hE] at hev;have ho:ofR X Y=if 1000000000000000<E then(0,5) else(E,0):=by unfold ofR;rw [hR,hE]
 obtain⟨E0,E1⟩:=hEb;by_cases hc:1000000000000000<E
 ·rw [ho,if_pos hc];obtain⟨Hex,Hev,HR,HE,Ho⟩:=hid5 hex hev hR hE ho;clear ho hE hR hev hex;go_enter Tryz.func230,Tryz.ntmps230
  go_wp2_with (first|(go_at_call 98;(with_reducible refine Hex.out.mono ?_);rintro e w1 ⟨rfl,hk1⟩;have Hk1:=Lib.hid hk1;clear hk1)|(go_at_call 271;(with_reducible refine(Hev.out _).mono ?_);rintro e w2 ⟨rfl,hk2⟩;have Hk2:=Lib.hid (Hk1.out.nt hk2);clear hk2))
  exact bodyPost_ret (v:= .tuple #[.int .i64 0,.int .i64 5]) (by simp [results,Tryz.results230,go_sem]) rfl ⟨rfl,Hk2.out⟩
 ·rw [ho,if_neg hc];obtain⟨Hex,Hev,HR,HE,Ho⟩:=hid5 hex hev hR hE ho;clear ho hE hR hev hex;go_enter Tryz.func230,Tryz.ntmps230
  go_wp2_with (first|(go_at_call 98;(with_reducible refine Hex.out.mono ?_);rintro e w1 ⟨rfl,hk1⟩;have Hk1:=Lib.hid hk1;clear hk1)|(go_at_call 271;(with_reducible refine(Hev.out _).mono ?_);rintro e w2 ⟨rfl,hk2⟩;have Hk2:=Lib.hid (Hk1.out.nt hk2);clear hk2))
  exact bodyPost_ret (v:= .tuple #[.int .i64 E,.int .i64 0]) (by simp [results,Tryz.results230,go_sem]) rfl ⟨rfl,Hk2.out⟩
def IntrOwn(o:Option (List Int))(n:Nat)(w:World)(e:Ending)(w':World):Prop:=match o with
 |none=>e= .returned (.tuple #[.slice none 0 0,.int .i64 5])/\Keeps (λ_=>False) w w'
 |some V=>∃v,e= .returned (.tuple #[v,.int .i64 0])/\V.length=n/\w'.ownsRow 0 2 1 v n (V.flatMap i64c)/\Fresh w w' v
def r18R(w:World)(T:List Tn)(B R:List (List Int))(g:Bool)(n:Nat)(O:Option (List Int))(o c:Value)(wr:World):Prop:=∃(k:Nat) (P:List Int) (a:Option Addr) (cv:Nat),k<=n/\c= .int .i64 (k:Nat)/\o= .slice a k cv/\P.length=k/\(intrO g (T.drop k) (B.drop k) (R.drop k)).map (λl=>P++l)=O/\wr.ownsRow 0 2 1 (.slice a k cv) k (P.flatMap i64c)/\Fresh w wr (.slice a k cv)
theorem Ny(t:Tm)(v:Value)(SB SR:List SI)(adB adR:Option Addr)(cB cR n:Nat)(g:Bool)(w:World)(hz:t.err=0)(hn:t.trs.length=n)(hr:Reads w 2 v n (t.trs.flatMap Tn.cells))
  (hB:Reads w 1 (.slice adB n cB) n (SB.flatMap SI.cells)) (hBl:SB.length=n) (hBs:SIs w SB) (hR:Reads w 1 (.slice adR n cR) n (SR.flatMap SI.cells)) (hRl:SR.length=n) (hRs:SIs w SR)
  (hm:∀(k:Nat) (x y:SI),SB[k]?=some x->SR[k]?=some y->x.L.length=y.L.length/\x.L.length<=40000) (hBb:∀x∈SB,∀y∈x.L,0<=y/\y<=1000000000000000) (hRb:∀x∈SR,∀y∈x.L,0<=y/\y<=10000000):
  Calls Tryz.prog 179 #[.agg #[.int .i64 t.limit,v,.int .i64 t.cyc,.int .i64 t.due,.int .i64 t.minFixed,.int .i64 t.minPart,.int .i64 t.start],.slice adB n cB,.slice adR n cR,.bool g] w (IntrOwn (intrO g t.trs (SB.map SI.L) (SR.map SI.L)) n w):=by
 obtain⟨i0,hi,hi0,hi1,hi2⟩:=info_parts Ca;have hnum:=Ck hz;rw [hn] at hnum;obtain⟨⟨l0,l1⟩,_⟩:=hnum;have htm:=λW (hW:Keeps (λ_=>False) w W)=>Fy t v W hz jN j1;obtain⟨li,cy,du,mf,mp,st,L⟩:=t;dsimp only at hn hr htm⊢;obtain⟨adT,cT,rfl⟩:∃a c,v= .slice a n c:=by obtain⟨a,c,h,_⟩:=hr;exact⟨a,c,h⟩
 refine j4d ?_;intro hbx O hO hnn;have hstart:(intrO g (L.drop 0) ((SB.map SI.L).drop 0) ((SR.map SI.L).drop 0)).map (λl=> []++l)=O:=by rw [List.drop_zero,List.drop_zero,List.drop_zero,Uz];exact hO
 have hlL:L.length=n:=hn;have hlB:(SB.map SI.L).length=n:=by rw [List.length_map];exact hBl
 have hlR:(SR.map SI.L).length=n:=by rw [List.length_map];exact hRl
 obtain⟨Hz,Hn,Hr,HB,HBl,HBs,HR,HRl,HRs⟩:=hid9 hz hn hr hB hBl hBs hR hRl hRs;clear hRs hRl hR hBs hBl hB hr hn hz;obtain⟨Hm,HBb,HRb,Htm,Hbx,HO,Hi,Hi0,Hi1⟩:=hid9 hm hBb hRb htm hbx hO hi hi0 hi1;clear hi1 hi0 hi hO hbx htm hRb hBb hm;obtain⟨Hi2,Hstart,HlL,HlB,HlR⟩:=hid5 hi2 hstart hlL hlB hlR;clear hlR hlB hlL hstart hi2;go_enter Tryz.func179,Tryz.ntmps179;go_wp2_with fail;refine jX ?_;rintro e w1 ⟨rfl,hk1⟩;have hb1:=Hbx.out _ hk1;have hkw1:=(Keeps.alloc w _).nt hk1;have b1:=Aa hb1 1;have bl:=lt_of_block hb1;obtain⟨Hk1,Hb1,Hkw1⟩:=hid3 hk1 hb1 hkw1;clear hkw1 hb1 hk1;go_wp2;clear b1 bl
 go_loopw [10,11] (λo c wr=>r18R w L (SB.map SI.L) (SR.map SI.L) g n O o c wr/\wr.heap[w.heap.size]?=some (.cells #[.int .i64 li,.slice adT n cT,.int .i64 cy,.int .i64 du,.int .i64 mf,.int .i64 mp,.int .i64 st] 24 (0,0))) (λ_ c _=>n-(intOf c).toNat)
 case atStart=>
  unfold r18R;exact⟨⟨0, [],none,0,Nat.zero_le _,rfl,rfl,rfl,Hstart.out,World.ownsRow_nil _ _ _ _,Hkw1.out,by simp [Value.ownBlock]⟩,Hb1.out⟩
 case round=>
  unfold r18R at hrel;obtain⟨⟨k,P,a,cv,hkn,rfl,rfl,hPl,hO2,hrow,hfr⟩,hb⟩:=hrel;refine jc ?_;intro wq hwq;subst hwq;have hkw:=hfr.1;have b1:=Aa hb 1;have bl:=lt_of_block hb;by_cases hlt:k<n
  ·have hltI:(k:Int)<(n:Int):=j3;obtain⟨⟨ra,gr⟩,hx⟩:=Aj (L:=L) (k:=k) (by rw [HlL.out];exact hlt);obtain⟨gT,oT,c,he,hc⟩:=(Hr.out.keeps hkw (by simp)).elem Tn.Aq hx j2;simp only [Value.slice.injEq,true_and] at he;obtain⟨rfl,rfl⟩:=he;have x0:wq.cell? ⟨gT,oT+k*2,none⟩=some (.int .i64 ra):=hc 0 j2;have x1:wq.cell? ⟨gT,oT+k*2+1,none⟩=some (.bool gr):=hc 1 j2;have xl:=Ai x0;clear hc;obtain⟨⟨adb,cb,Lb⟩,hsb⟩:=Aj (L:=SB) (k:=k) (by rw [HBl.out];exact hlt);obtain⟨⟨adr,cr,Lr⟩,hsr⟩:=Aj (L:=SR) (k:=k) (by rw [HRl.out];exact hlt);obtain⟨g1,o1,c1,he1,hc1⟩:=(HB.out.keeps hkw (by simp)).elem SI.Aq hsb j2;obtain⟨g2,o2,c2,he2,hc2⟩:=(HR.out.keeps hkw (by simp)).elem SI.Aq hsr j2;simp only [Value.slice.injEq,true_and] at he1 he2;obtain⟨rfl,rfl⟩:=he1;obtain⟨rfl,rfl⟩:=he2;obtain⟨hm1,hm2⟩:=Hm.out k _ _ hsb hsr;simp only at hm1 hm2;refine j4e ?_;intro y1 y2;clear hc1 hc2;have hrb:=(HBs.out _ (List.mem_of_getElem? hsb)).1;have hrr:=(HRs.out _ (List.mem_of_getElem? hsr)).1;simp only [SI.v] at hrb hrr;refine j4f ?_;intro hdr m hmm;rw [hm1] at hrb y1 hm2;rw [hmm] at hrb hrr y1 y2 hm2;have hof:=λW (hW:Keeps (λ_=>False) w W)=>r13Of_any Lb Lr adb adr cb cr m W (hrb.keeps hW (by simp)) (by rw [hm1,hmm]) (hrr.keeps hW (by simp)) hmm hm2 (HBb.out _ (List.mem_of_getElem? hsb)) (HRb.out _ (List.mem_of_getElem? hsr));by_cases hsk:(g&&gr)=true
   ·rw [if_pos hsk] at hdr;refine j4g ?_;intro hO3;obtain⟨rfl,rfl⟩:g=true/\gr=true:=by simpa using hsk
    clear y1 y2;obtain⟨HO2,Hdr,HO3,Hrow,Hfr,Hkw,Hb,Hx,Hsb⟩:=hid9 hO2 hdr hO3 hrow hfr hkw hb hx hsb;clear hsb hx hb hkw hfr hrow hO3 hdr hO2;obtain⟨Hsr,Hrb,Hrr,Hof,Hm1,Hmm,HPl,Hsk⟩:=hid8 hsr hrb hrr hof hm1 hmm hPl hsk;clear hsk hPl hmm hm1 hof hrr hrb hsr
    go_wp2_with (at_builtin;refine Ba rfl (.tmp 66) (.tmp 68) 33 rfl 0 2 i0 _ 1 8 Tryz.underlying33 Hi.out Hi0.out Hi1.out Hi2.out rfl j2 (.slice a k cv) k _ rfl ((Hrow.out).alloc _) _ 1 _ rfl (Reads.litAt _ _ _ 1 1 _ jd rfl) j9 j6 j1 (Nat.zero_le _) ?_;intro v4 w4 hown4 hk4 hf4;refine haltG ?_)
    refine Lib.hid ?_;have hfr4:=((Hfr.out).keep (Keeps.alloc _ _)).app hk4 hf4;have hkk4:=Ac (Ap Hb.out _) hk4 (λe=>Ag (Hrow.out) Hb.out j2 e);obtain⟨ad4,c4,rfl,_,_⟩:=Ad hown4;have Hown4:=Lib.hid hown4;have Hfr4:=Lib.hid hfr4;have Hkk4:=Lib.hid hkk4;clear hown4 hk4 hf4 hfr4 hkk4;go_wp2;go_roundw
    case rel=>
     unfold r18R;exact⟨⟨k+1,P++ [0],ad4,c4,by omega,by go_num,rfl,by rw [List.length_append,HPl.out];rfl,HO3.out,by rw [List.flatMap_append];exact Hown4.out,Hfr4.out⟩,Hkk4.out⟩
    case measure=>simp [intOf];omega
   ·rw [if_neg hsk] at hdr;have hgg:¬(g=true/\gr=true):=by simpa using hsk
    have hS:ciS g1 (o1+k) g2 (o2+k) (.slice adb m cb) (.slice adr m cr) wq:=⟨y1,y2⟩;clear y1 y2;have hgx:g=false\/gr=false:=by cases g<;>cases gr<;>simp_all
    obtain⟨HO2,Hdr,Hrow,Hfr,Hkw,Hb,Hx,Hsb,Hsr⟩:=hid9 hO2 hdr hrow hfr hkw hb hx hsb hsr;clear hsr hsb hx hb hkw hfr hrow hdr hO2;obtain⟨Hrb,Hrr,Hof,Hm1,Hmm,HPl,Hsk,HS,Hgg⟩:=hid9 hrb hrr hof hm1 hmm hPl hsk hS hgg;clear hgg hS hsk hPl hmm hm1 hof hrr hrb;rcases Mq Lb Lr with h5|⟨h5,h51⟩
    ·have hdr2:=Hdr.out;rw [if_pos h5] at hdr2;obtain⟨z,hzv⟩:∃z,(ofR Lb Lr).1=z:=⟨_,rfl⟩;have hof2:=Hof.out;rw [hzv,h5] at hof2;rw [hzv] at hdr2
     have hO3:(intrO g (L.drop (k+1)) ((SB.map SI.L).drop (k+1)) ((SR.map SI.L).drop (k+1))).map (λl=>(P++ [z])++l)=O:=by
      exact j26
     obtain⟨H5,Hdr2,Hzv,Hof2,HO3⟩:=hid5 h5 hdr2 hzv hof2 hO3;clear hO3 hof2 hzv hdr2 h5;rcases hgx with rfl|rfl
     ·cases gr
      all_goals
       go_upto_region 11 with fail
       refine Ak (ciS g1 (o1+k) g2 (o2+k) (.slice adb m cb) (.slice adr m cr)) (.take 0 (.take 1 (.take 2 (.take 3 (.take 4 (.take 5 (.take 6 (.take 7 (.move 8 (.take 9 (.take 10 (.take 11 (.take 12 (.take 13 .done)))))))))))))) j4 j4 ?_ ?_
       ·exact j08
       intro w3 hs3 hk3;refine jR ?_;refine Ae rfl (λK hK=> ?_);go_simp
       go_at_call 230
       ((with_reducible refine(Hof2.out _ (Hkw.out.nt hk3)).mono ?_);rintro e w5 ⟨rfl,hk5⟩;dsimp only)
       refine hK.out _ _ (by exact hs3.keep hk5) ?_;clear hK K
       try simp only [aps]
       refine jR ?_;refine Ao ?_;have hkq:=hk3.nt hk5;have hrowq:=Hrow.out.of_keeps hkq;have hfrq:=Hfr.out.keep hkq;clear hs3 hk3 hk5 b1 bl x0 x1 xl;have hbq:=Ac Hb.out hkq (by simp);have b1:=Aa hbq 1;have bl:=lt_of_block hbq;obtain⟨Hkq,Hrowq,Hfrq,Hbq⟩:=hid4 hkq hrowq hfrq hbq;clear hbq hfrq hrowq hkq
       go_wp2_with (at_builtin;refine Ba rfl (.tmp 66) (.tmp 68) 33 rfl 0 2 i0 _ 1 8 Tryz.underlying33 Hi.out Hi0.out Hi1.out Hi2.out rfl j2 (.slice a k cv) k _ rfl ((Hrowq.out).alloc _) _ 1 _ rfl (Reads.litAt _ _ _ 1 1 _ jd rfl) j9 j6 j1 (Nat.zero_le _) ?_;intro v4 w4 hown4 hk4 hf4;refine haltG ?_)
       refine Lib.hid ?_;have hfr4:=((Hfrq.out).keep (Keeps.alloc _ _)).app hk4 hf4;have hkk4:=Ac (Ap Hbq.out _) hk4 (λe=>Ag (Hrowq.out) Hbq.out j2 e);obtain⟨ad4,c4,rfl,_,_⟩:=Ad hown4;have Hown4:=Lib.hid hown4;have Hfr4:=Lib.hid hfr4;have Hkk4:=Lib.hid hkk4;clear hown4 hk4 hf4 hfr4 hkk4;go_wp2;go_roundw
       case rel=>
        exact j5F
       case measure=>simp [intOf];omega
     ·cases g
      all_goals
       go_upto_region 11 with fail
       refine Ak (ciS g1 (o1+k) g2 (o2+k) (.slice adb m cb) (.slice adr m cr)) (.take 0 (.take 1 (.take 2 (.take 3 (.take 4 (.take 5 (.take 6 (.take 7 (.move 8 (.take 9 (.take 10 (.take 11 (.take 12 (.take 13 .done)))))))))))))) j4 j4 ?_ ?_
       ·exact j08
       intro w3 hs3 hk3;refine jR ?_;refine Ae rfl (λK hK=> ?_);go_simp
       go_at_call 230
       ((with_reducible refine(Hof2.out _ (Hkw.out.nt hk3)).mono ?_);rintro e w5 ⟨rfl,hk5⟩;dsimp only)
       refine hK.out _ _ (by exact hs3.keep hk5) ?_;clear hK K
       try simp only [aps]
       refine jR ?_;refine Ao ?_;have hkq:=hk3.nt hk5;have hrowq:=Hrow.out.of_keeps hkq;have hfrq:=Hfr.out.keep hkq;clear hs3 hk3 hk5 b1 bl x0 x1 xl;have hbq:=Ac Hb.out hkq (by simp);have b1:=Aa hbq 1;have bl:=lt_of_block hbq;obtain⟨Hkq,Hrowq,Hfrq,Hbq⟩:=hid4 hkq hrowq hfrq hbq;clear hbq hfrq hrowq hkq
       go_wp2_with (at_builtin;refine Ba rfl (.tmp 66) (.tmp 68) 33 rfl 0 2 i0 _ 1 8 Tryz.underlying33 Hi.out Hi0.out Hi1.out Hi2.out rfl j2 (.slice a k cv) k _ rfl ((Hrowq.out).alloc _) _ 1 _ rfl (Reads.litAt _ _ _ 1 1 _ jd rfl) j9 j6 j1 (Nat.zero_le _) ?_;intro v4 w4 hown4 hk4 hf4;refine haltG ?_)
       refine Lib.hid ?_;have hfr4:=((Hfrq.out).keep (Keeps.alloc _ _)).app hk4 hf4;have hkk4:=Ac (Ap Hbq.out _) hk4 (λe=>Ag (Hrowq.out) Hbq.out j2 e);obtain⟨ad4,c4,rfl,_,_⟩:=Ad hown4;have Hown4:=Lib.hid hown4;have Hfr4:=Lib.hid hfr4;have Hkk4:=Lib.hid hkk4;clear hown4 hk4 hf4 hfr4 hkk4;go_wp2;go_roundw
       case rel=>
        exact j5F
       case measure=>simp [intOf];omega
    ·have hdr2:=Hdr.out;rw [if_neg (by rw [h5];decide)] at hdr2;have hO3:O=none:=by rw [<-HO2.out,hdr2];rfl
     subst hO3;have hof2:=Hof.out;rw [h5,h51] at hof2;obtain⟨H5,H51,Hdr2,Hof2⟩:=hid4 h5 h51 hdr2 hof2;clear hof2 hdr2 h51 h5;rcases hgx with rfl|rfl
     ·cases gr
      all_goals
       go_upto_region 11 with fail
       refine Ak (ciS g1 (o1+k) g2 (o2+k) (.slice adb m cb) (.slice adr m cr)) (.take 0 (.take 1 (.take 2 (.take 3 (.take 4 (.take 5 (.take 6 (.take 7 (.move 8 (.take 9 (.take 10 (.take 11 (.take 12 (.take 13 .done)))))))))))))) j4 j4 ?_ ?_
       ·exact j08
       intro w3 hs3 hk3;refine jR ?_;refine Ae rfl (λK hK=> ?_);go_simp
       go_at_call 230
       ((with_reducible refine(Hof2.out _ (Hkw.out.nt hk3)).mono ?_);rintro e w5 ⟨rfl,hk5⟩;dsimp only)
       refine hK.out _ _ (by exact hs3.keep hk5) ?_;clear hK K
       try simp only [aps]
       refine jR ?_;refine Ao ?_;have hkq:=hk3.nt hk5;have hrowq:=Hrow.out.of_keeps hkq;have hfrq:=Hfr.out.keep hkq;clear hs3 hk3 hk5 b1 bl x0 x1 xl;have hbq:=Ac Hb.out hkq (by simp);have b1:=Aa hbq 1;have bl:=lt_of_block hbq;obtain⟨Hkq,Hrowq,Hfrq,Hbq⟩:=hid4 hkq hrowq hfrq hbq;clear hbq hfrq hrowq hkq;go_wp2
       go_ret2
       exact⟨rfl,Hfrq.out.1⟩
     ·cases g
      all_goals
       go_upto_region 11 with fail
       refine Ak (ciS g1 (o1+k) g2 (o2+k) (.slice adb m cb) (.slice adr m cr)) (.take 0 (.take 1 (.take 2 (.take 3 (.take 4 (.take 5 (.take 6 (.take 7 (.move 8 (.take 9 (.take 10 (.take 11 (.take 12 (.take 13 .done)))))))))))))) j4 j4 ?_ ?_
       ·exact j08
       intro w3 hs3 hk3;refine jR ?_;refine Ae rfl (λK hK=> ?_);go_simp
       go_at_call 230
       ((with_reducible refine(Hof2.out _ (Hkw.out.nt hk3)).mono ?_);rintro e w5 ⟨rfl,hk5⟩;dsimp only)
       refine hK.out _ _ (by exact hs3.keep hk5) ?_;clear hK K
       try simp only [aps]
       refine jR ?_;refine Ao ?_;have hkq:=hk3.nt hk5;have hrowq:=Hrow.out.of_keeps hkq;have hfrq:=Hfr.out.keep hkq;clear hs3 hk3 hk5 b1 bl x0 x1 xl;have hbq:=Ac Hb.out hkq (by simp);have b1:=Aa hbq 1;have bl:=lt_of_block hbq;obtain⟨Hkq,Hrowq,Hfrq,Hbq⟩:=hid4 hkq hrowq hfrq hbq;clear hbq hfrq hrowq hkq;go_wp2
       go_ret2
       exact⟨rfl,Hfrq.out.1⟩
  ·obtain rfl:k=n:=by omega
   have hge:¬(k:Int)<(k:Int):=j3;rw [List.drop_eq_nil_of_le (by rw [HlL.out];exact Nat.le_refl _)] at hO2;have hO3:O=some P:=by rw [<-hO2];simp [intrO]
   subst hO3;obtain⟨Hrow,Hfr,HPl⟩:=hid3 hrow hfr hPl;clear hPl hfr hrow;go_wp2
   go_ret2
   exact⟨_,rfl,HPl.out,Hrow.out,Hfr.out⟩
theorem r01May_in(v:Int)(w:World)(h: -1000000000000000<=v/\v<=1000000000000000):Calls Tryz.prog 290 #[.int .i64 v] w λe w'=>e= .returned (.bool true)/\w=w':=by
 obtain⟨h0,h1⟩:=h;have q1:decide (-1000000000000000<=v)=true:=by simp [h0]
 have q2:decide (v<=1000000000000000)=true:=by simp [h1]
 go_enter Tryz.func290,Tryz.ntmps290;exact jE
theorem Vt(a p:Int)(h0:0<=a)(h1:a<=1000000000000000)(p0:0<=p)(p1:p<=1000)(w:World):
  Calls Tryz.prog 272 #[.int .i64 a,.int .i64 p,.int .i64 1000] w λe w'=>e= .returned (.tuple #[.int .i64 (evenI (a*p) 1000),.int .i64 0])/\Keeps (λ_=>False) w w':=by
 have hbd:=Jq (N:=a*p) (D:=1000) (M:=1000000000000000) j2 (Int.mul_nonneg h0 p0) (Int.mul_le_mul h1 p1 p0 j2);have hmul:=λW=>Qc a p h0 j1 p0 j1 W;have hN0:0<=a*p:=Int.mul_nonneg h0 p0;have hN1:a*p<=1000000000000000*1000:=Int.mul_le_mul h1 p1 p0 j2;obtain⟨N,hN⟩:∃N,a*p=N:=⟨_,rfl⟩;rw [hN] at hmul hbd hN0 hN1;rw [hN];have hev:=λW=>Np 0 N 1000 N j2 j2 j1 j1 j1 hN0 j1 j1 W;have e1:N / 18446744073709551616=0:=j3;have e2:N % 18446744073709551616=N:=j3;rw [e1,e2] at hmul;obtain⟨q,hq⟩:∃q,evenI N 1000=q:=⟨_,rfl⟩;rw [hq] at hev hbd⊢;obtain⟨q0,q1⟩:=hbd;have hmay:=λW=>r01May_in a W ⟨by omega,h1⟩;have n0:decide (p<0)=false:=by rw [decide_eq_false_iff_not];omega
 have n1:decide (a<0)=false:=by rw [decide_eq_false_iff_not];omega
 have n2:decide (1000000000000000<q)=false:=by rw [decide_eq_false_iff_not];omega
 have u1:IntKind.u64.wrap a=a:=by rw [IntKind.wrap_u64];omega
 have u2:IntKind.u64.wrap p=p:=by rw [IntKind.wrap_u64];omega
 have u3:IntKind.i64.wrap q=q:=IntWalk.i64_in _ ⟨by omega,by omega⟩;clear e1 e2 hN0 hN1;obtain⟨Hmul,HN,Hev,Hq,Hmay⟩:=hid5 hmul hN hev hq hmay;clear hmay hq hev hN hmul;go_enter Tryz.func272,Tryz.ntmps272
 go_wp2_with (first|(go_at_call 290;(with_reducible refine(Hmay.out _).mono ?_);rintro e w1 ⟨rfl,rfl⟩)|(go_at_call 161;(with_reducible refine(Hmul.out _).mono ?_);rintro e w2 ⟨rfl,rfl⟩)|(go_at_call 271;(with_reducible refine(Hev.out _).mono ?_);rintro e w3 ⟨rfl,hk3⟩;have Hk3:=Lib.hid hk3;clear hk3))
 go_ret2
 exact⟨rfl,Hk3.out⟩
theorem r15Of_any(t:Tm)(v:Value)(total:Int)(w:World)(hz:t.err=0)(hr:Reads w 2 v t.trs.length (t.trs.flatMap Tn.cells))(h0:0<=total)(h1:total<=1000000000000000):
  Calls Tryz.prog 232 #[.agg #[.int .i64 t.limit,v,.int .i64 t.cyc,.int .i64 t.due,.int .i64 t.minFixed,.int .i64 t.minPart,.int .i64 t.start],.int .i64 total] w λe w'=>e= .returned (.tuple #[.int .i64 (Et t.minFixed t.minPart total),.int .i64 0])/\Keeps (λ_=>False) w w':=by
 obtain⟨⟨l0,l1⟩,_,_,_,⟨f0,f1⟩,⟨p0,p1⟩,_⟩:=Ck hz;have htm:=λW (hW:Keeps (λ_=>False) w W)=>Fy t v W hz (hr.keeps hW (by simp)) j1;have hsh:=λW=>Vt total t.minPart h0 h1 p0 p1 W;have hbd:=Jq (N:=total*t.minPart) (D:=1000) (M:=1000000000000000) j2 (Int.mul_nonneg h0 p0) (Int.mul_le_mul h1 p1 p0 j2);obtain⟨li,cy,du,mf,mp,st,L⟩:=t;simp only at *;unfold Et;obtain⟨q,hq⟩:∃q,evenI (total*mp) 1000=q:=⟨_,rfl⟩;rw [hq] at hsh hbd⊢;obtain⟨ad,c,rfl,_⟩:=id hr;obtain⟨q0,q1⟩:=hbd;refine j3X ?_;intro b0;have tn:decide (total<0)=false:=by rw [decide_eq_false_iff_not];omega
 have tn2:decide (1000000000000000<total)=false:=by rw [decide_eq_false_iff_not];omega
 obtain⟨n,hn⟩:∃n,L.length=n:=⟨_,rfl⟩;rw [hn] at hr htm b0⊢
 have key:∀z:Int,minI total (maxI mf q)=z->Calls Tryz.prog 232 #[.agg #[.int .i64 li,.slice ad n c,.int .i64 cy,.int .i64 du,.int .i64 mf,.int .i64 mp,.int .i64 st],.int .i64 total] w λe w'=>e= .returned (.tuple #[.int .i64 z,.int .i64 0])/\Keeps (λ_=>False) w w':=by
  intro z hzz;rcases Int.lt_trichotomy mf q with m1|m1|m1
  ·rw [show maxI mf q=q by unfold maxI;rw [if_pos j1]] at hzz;rcases Int.lt_trichotomy total q with m2|m2|m2
   ·rw [show minI total q=total by unfold minI;rw [if_pos j1]] at hzz;exact j0x
   ·exact j5G
   ·rw [show minI total q=q by unfold minI;rw [if_neg j1]] at hzz;exact j0x
  ·subst m1;rw [show maxI mf mf=mf by unfold maxI;rw [if_pos j1]] at hzz;exact j5H
  ·rw [show maxI mf q=mf by unfold maxI;rw [if_neg j1]] at hzz;exact j5H
 exact key _ rfl
structure P11(w:World)(T R g c n:Nat)(L:List Int)(cr du:Int)(W:World):Prop where
 box:W.heap[T]?=some (.cells #[.slice (some ⟨g,0,none⟩) n c,.int .i64 cr,.int .i64 du] 35 (0,0))
 res:W.heap[R]?=some (.cells #[.slice none 0 0,.int .i64 0,.int .i64 0] 35 (0,0))
 row:RowZ W 2 g n c L
 kp:Keeps (λ_=>False) w W
 hT:w.heap.size<=T
 hR:w.heap.size<=R
 hg:w.heap.size<=g
 tr:¬T=R
 tg:¬T=g
 rg:¬R=g
theorem own_ne{g g' n c:Nat}(h:(Value.slice (some ⟨g,0,none⟩) n c).ownBlock=some g'):g'=g:=by simp only [Value.ownBlock,Option.some.injEq] at h;exact h.symm
theorem P11.keep{w:World}{T R g c n:Nat}{L:List Int}{cr du:Int}{W W':World}(h:P11 w T R g c n L cr du W)(hk:Keeps (λ_=>False) W W'):P11 w T R g c n L cr du W':=
 ⟨Ac h.box hk (by simp),Ac h.res hk (by simp),h.row.keep hk,h.kp.nt hk,h.hT,h.hR,h.hg,h.tr,h.tg,h.rg⟩
theorem P11.setcr{w:World}{T R g c n:Nat}{L:List Int}{cr du:Int}{W:World}(h:P11 w T R g c n L cr du W)(v:Int):P11 w T R g c n L v du (W.setCell ⟨T,1,none⟩ (.int .i64 v)):=
 have k:Keeps (λi=>i=T) W (W.setCell ⟨T,1,none⟩ (.int .i64 v)):=Keeps.setCell _ _ _ rfl
 ⟨(heap_setCell_same _ _ 1 _ _ _ h.box).trans rfl,Ac h.res k (λe=>h.tr e.symm),⟨k.row h.row.1 (λg' hg e=>h.tg ((own_ne hg)▸e.symm)),h.row.2⟩,h.kp.trans (k.mono λi _ e=> .inr (by subst e;exact h.hT)),h.hT,h.hR,h.hg,h.tr,h.tg,h.rg⟩
theorem P11.setrow{w:World}{T R g c n i:Nat}{L:List Int}{cr du:Int}{W:World}(h:P11 w T R g c n L cr du W)(hi:i<n)(v:Int):P11 w T R g c n (L.set i v) cr du (W.setCell ⟨g,i,none⟩ (.int .i64 v)):=
 have k:Keeps (λi=>i=g) W (W.setCell ⟨g,i,none⟩ (.int .i64 v)):=Keeps.setCell _ _ _ rfl
 ⟨Ac h.box k h.tg,Ac h.res k h.rg,h.row.set hi v,h.kp.trans (k.mono λi _ e=> .inr (by subst e;exact h.hg)),h.hT,h.hR,h.hg,h.tr,h.tg,h.rg⟩
theorem P11.ok{w:World}{T R g c n:Nat}{L:List Int}{cr du:Int}{W:World}(h:P11 w T R g c n L cr du W):
  (((W.setCell ⟨R,0,none⟩ (.slice (some ⟨g,0,none⟩) n c)).setCell ⟨R,1,none⟩ (.int .i64 cr)).setCell ⟨R,2,none⟩ (.int .i64 du)).heap[R]?=some (.cells #[.slice (some ⟨g,0,none⟩) n c,.int .i64 cr,.int .i64 du] 35 (0,0))
  /\Di ⟨L,cr,du⟩ 0 w (.returned (.tuple #[.agg #[.slice (some ⟨g,0,none⟩) n c,.int .i64 cr,.int .i64 du],.int .i64 0])) (((W.setCell ⟨R,0,none⟩ (.slice (some ⟨g,0,none⟩) n c)).setCell ⟨R,1,none⟩ (.int .i64 cr)).setCell ⟨R,2,none⟩ (.int .i64 du)):=by
 obtain⟨h1,k⟩:=Bb h.res (.slice (some ⟨g,0,none⟩) n c) (.int .i64 cr) (.int .i64 du);refine⟨h1,_,rfl, ?_, ?_, ?_⟩
 ·show World.ownsRow _ 0 _ 1 _ L.length _;rw [h.row.2];exact k.row h.row.1 (λg' hg e=>h.rg ((own_ne hg)▸e.symm))
 ·exact h.kp.trans (k.mono λi _ e=> .inr (by subst e;exact h.hR))
 ·intro g' hg;rw [own_ne hg];exact h.hg
theorem P11.bad{w:World}{R:Nat}{W:World}(z:Int)(hres:W.heap[R]?=some (.cells #[.slice none 0 0,.int .i64 0,.int .i64 0] 35 (0,0)))(kp:Keeps (λ_=>False) w W)(hR:w.heap.size<=R):
  (((W.setCell ⟨R,0,none⟩ (.slice none 0 0)).setCell ⟨R,1,none⟩ (.int .i64 0)).setCell ⟨R,2,none⟩ (.int .i64 0)).heap[R]?=some (.cells #[.slice none 0 0,.int .i64 0,.int .i64 0] 35 (0,0))
  /\Di ps0 z w (.returned (.tuple #[.agg #[.slice none 0 0,.int .i64 0,.int .i64 0],.int .i64 z])) (((W.setCell ⟨R,0,none⟩ (.slice none 0 0)).setCell ⟨R,1,none⟩ (.int .i64 0)).setCell ⟨R,2,none⟩ (.int .i64 0)):=by
 obtain⟨h1,k⟩:=Bb hres (.slice none 0 0) (.int .i64 0) (.int .i64 0);exact⟨h1,_,rfl,World.ownsRow_nil _ _ _ _,kp.trans (k.mono λi _ e=> .inr (by subst e;exact hR)),by simp [Value.ownBlock]⟩
theorem P11.mk0{w w1:World}{ad:Option Addr}{cap n g c:Nat}{L:List Int}{cr du:Int}(hN:L.length=n)
  (hown:w1.ownsRow 0 2 1 (.slice (some ⟨g,0,none⟩) n c) n (L.flatMap i64c)) (hf:Fresh ((w.alloc (.cells #[.slice ad n cap,.int .i64 cr,.int .i64 du] 35)).alloc (.cells #[.slice none 0 0,.int .i64 0,.int .i64 0] 35)) w1 (.slice (some ⟨g,0,none⟩) n c)):
  P11 w w.heap.size (w.heap.size+1) g c n L cr du (((w1.setCell ⟨w.heap.size,0,none⟩ (.slice (some ⟨g,0,none⟩) n c)).setCell ⟨w.heap.size,1,none⟩ (.int .i64 cr)).setCell ⟨w.heap.size,2,none⟩ (.int .i64 du)):=by
 have hb:=j5I;have hrs:w1.heap[w.heap.size+1]?=some (.cells #[.slice none 0 0,.int .i64 0,.int .i64 0] 35 (0,0)):=Ac (Av _ _ (by simp)) hf.1 (by simp);have hg:=hf.2 g rfl;simp only [World.size_alloc] at hg;obtain⟨h1,k⟩:=Bb hb (.slice (some ⟨g,0,none⟩) n c) (.int .i64 cr) (.int .i64 du);have kp:Keeps (λ_=>False) w w1:=((Keeps.alloc w _).nt (Keeps.alloc _ _)).nt hf.1;exact⟨h1,Ac hrs k j1,⟨k.row hown (λg' hg' e=>by have:=own_ne hg';omega),hN⟩,kp.trans (k.mono λi _ e=> .inr j1),by omega,by omega,by omega,by omega,by omega,by omega⟩
def p11S(T:Nat)(vr:Value)(g i:Nat)(x:Int)(W:World):Prop:=W.cell? ⟨T,0,none⟩=some vr/\W.cell? ⟨g,i,none⟩=some (.int .i64 x)
theorem P11.s{w:World}{T R g c n i:Nat}{L:List Int}{cr du x:Int}{W:World}(h:P11 w T R g c n L cr du W)(hx:L[i]?=some x):p11S T (.slice (some ⟨g,0,none⟩) n c) g i x W:=⟨Aa h.box 0,h.row.cell hx⟩
theorem Qa(L:List Int)(cr du k a:Int)(ad:Option Addr)(cap n:Nat)(w:World)(hr:Reads w 1 (.slice ad n cap) n (L.flatMap i64c))(hN:L.length=n)(hl:n<=1000)(hright:Ps.Ar ⟨L,cr,du⟩=true)(hk:1<=k/\k<=n)(hmon:Az a=true):
  Calls Tryz.prog 222 #[.agg #[.slice ad n cap,.int .i64 cr,.int .i64 du],.int .i64 k,.int .i64 a] w (Di (if(Cg ⟨L,cr,du⟩ k a).Ar=true then(Cg ⟨L,cr,du⟩ k a,(0:Int)) else(ps0,5)).1 (if(Cg ⟨L,cr,du⟩ k a).Ar=true then(Cg ⟨L,cr,du⟩ k a,(0:Int)) else(ps0,5)).2 w):=by
 obtain⟨hbal,⟨cr0,cr1⟩,hdu,hn1,hn8⟩:=Cc hright;simp only at hbal cr0 cr1 hdu hn1 hn8;rw [hN] at hn1 hn8;obtain⟨a0,a1⟩:=(Aw a).1 hmon;obtain⟨k1,k2⟩:=hk;obtain⟨m,hm⟩:∃m,minI a cr=m:=⟨_,rfl⟩;have hm2:0<=m/\m<=a/\m<=cr:=by rw [<-hm];unfold minI;split<;>omega
 obtain⟨m0,m1,m2⟩:=hm2;obtain⟨i,hi⟩:∃i:Nat,(i:Int)=k-1:=⟨(k-1).toNat,by omega⟩;have hin:i<n:=j3;have hiN:(k-1).toNat=i:=j3;obtain⟨x,hx⟩:=Aj (L:=L) (k:=i) j1;obtain⟨x0,x1⟩:=hbal x (List.mem_of_getElem? hx)
 have hq:Cg ⟨L,cr,du⟩ k a=⟨L.set i (x+a-m),cr-m,du⟩:=by
  unfold Cg;simp only;rw [hm,hiN,List.getD_eq_getElem?_getD,hx];simp only [Option.getD_some];rw [show x+(a-m)=x+a-m by omega]
 rw [hq];obtain⟨G,hG⟩:∃G:Ps×Int,(if Ps.Ar ⟨L.set i (x+a-m),cr-m,du⟩=true then((⟨L.set i (x+a-m),cr-m,du⟩:Ps),(0:Int)) else(ps0,5))=G:=⟨_,rfl⟩;rw [hG];have hcopy:=j5J;have hri:=λW g c (hW:RowZ W 2 g n c (L.set i (x+a-m))) b (hb:Ps.Ar ⟨L.set i (x+a-m),cr-m,du⟩=b)=>Ct _ (cr-m) du (some ⟨g,0,none⟩) c n W hW.reads (by rw [List.length_set];exact hN) hl b hb;refine j1R ?_;intro q1 q2 q4;have q5:IntKind.i64.wrap (x+a)=x+a:=IntWalk.i64_in _ ⟨by omega,by omega⟩;have q6:IntKind.i64.wrap (x+a-m)=x+a-m:=IntWalk.i64_in _ ⟨by omega,by omega⟩;have q7:IntKind.i64.wrap (cr-m)=cr-m:=IntWalk.i64_in _ ⟨by omega,by omega⟩;obtain⟨Hr,HN,Hright,Hbal,Hdu,Hm,Hi,Hx,Hq⟩:=hid9 hr hN hright hbal hdu hm hi hx hq;clear hq hx hi hm hdu hbal hright hN hr;obtain⟨Hcopy,Hri,Hmon,HG⟩:=hid4 hcopy hri hmon hG;clear hG hmon hri hcopy;go_enter Tryz.func222,Tryz.ntmps222;go_wp2_with fail;refine(Hcopy.out _ j8).mono ?_;rintro e w1 ⟨v1,rfl,hown,hf⟩;obtain⟨g,c,rfl⟩:=Co hown hn1;refine j5K ?_;intro hp hbb b0 b1 b2 bf0 bf1 bf2 bl;obtain⟨Hown,Hf,Hp,Hbb⟩:=hid4 hown hf hp hbb;clear hbb hp hf hown
 go_upto_region 2 with fail
 refine j5L ?_;intro W2 hW2 hp2;rw [<-hW2] at hp2⊢;clear b0 b1 b2 bf0 bf1 bf2 bl hW2 Hp;have b1:=Aa hp2.box 1;have bf1:=Ab hp2.box 1;have bl:=lt_of_block hp2.box;have hp3:=hp2.setcr (cr-m);have Hp2:=Lib.hid hp2;clear hp2
 go_cut [8] (λy wx=>y= .int .i64 m/\W2=wx)
 case first=>
  have hmn:=Hm.out;unfold minI at hmn;rcases Int.lt_trichotomy cr a with hle|hle|hle
  ·rw [if_neg j1] at hmn;have Hmn:=Lib.hid hmn;clear hmn;clear hp3;exact j0y
  ·rw [if_pos j1] at hmn;have Hmn:=Lib.hid hmn;clear hmn;clear hp3;subst hle;exact j0y
  ·rw [if_pos j1] at hmn;have Hmn:=Lib.hid hmn;clear hmn;clear hp3;exact j0y
 obtain⟨rfl,rfl⟩:=hcut;have Hp3:=Lib.hid hp3;clear hp3
 go_upto_region 4 with fail
 obtain⟨W3,hW3⟩:∃y,y=W2.setCell ⟨w.heap.size,1,none⟩ (.int .i64 (cr-m)):=⟨_,rfl⟩;have hp4:=Hp3.out;rw [<-hW3] at hp4⊢;clear hW3 Hp3 Hp2 b1 bf1 bl;have hs4:p11S w.heap.size (.slice (some ⟨g,0,none⟩) n c) g i x W3.drew:=(hp4.keep (Keeps.drew _)).s Hx.out;obtain⟨Hp4,Hs4⟩:=hid2 hp4 hs4;clear hs4 hp4;go_wp2_with fail;refine Bj (p11S w.heap.size (.slice (some ⟨g,0,none⟩) n c) g i x) 15 (.take 0 (.take 1 (.take 2 (.take 3 (.take 4 (.take 5 (.take 6 (.take 7 (.take 8 (.take 9 (.take 10 (.take 11 (.take 12 (.take 13 (.take 14 (.move 15 .done)))))))))))))))) j4 j4 ?_ ?_
 ·exact Hs4.out
 intro w5 hs5 hk5;have hp5:=Hp4.out.keep hk5;have c5:=hp5.row.cell Hx.out;have f5:=hp5.row.free i;have l5:=hp5.row.lt;have hiT:(k-1).toNat=i:=j3;obtain⟨Hs5,Hk5,Hp5⟩:=hid3 hs5 hk5 hp5;clear hp5 hk5 hs5;refine jR ?_;refine jh ?_;have hp6:=Hp5.out.setrow hin (x+a-m);obtain⟨W6,hW6⟩:∃y,y=w5.setCell ⟨g,i,none⟩ (.int .i64 (x+a-m)):=⟨_,rfl⟩;rw [<-hW6] at hp6⊢;clear hW6 c5 f5 l5 Hp5 Hp4;have b0:=Aa hp6.box 0;have b1:=Aa hp6.box 1;have b2:=Aa hp6.box 2;have bl:=lt_of_block hp6.box;have Hp6:=Lib.hid hp6;clear hp6;rcases hb:Ps.Ar ⟨L.set i (x+a-m),cr-m,du⟩ with _|_
 ·have h:=HG.out;rw [hb,if_neg j2] at h;subst h;have Hb:=Lib.hid hb;clear hb;go_wp2_with fail;refine(Hri.out _ _ _ Hp6.out.row _ Hb.out).mono ?_;rintro e w7 ⟨rfl,hk7⟩;have hp7:=Hp6.out.keep hk7;have hres:=hp7.res;have hend:=P11.bad 5 hres hp7.kp hp7.hR;clear b0 b1 b2 bl;obtain⟨Hk7,Hp7⟩:=hid2 hk7 hp7;clear hp7 hk7;refine js ?_;intro r0 r1 r2 rf0 rf1 rf2 rl sr0 sr1 sr2 hgv;obtain⟨Hres,Hend,Sr0,Sr1,Sr2,Hgv⟩:=hid6 hres hend sr0 sr1 sr2 hgv;clear hgv sr2 sr1 sr0 hend hres;go_wp2;refine ja ?_;intro R0' R1' R2';clear r0 r1 r2;exact bodyPost_ret (v:= .tuple #[.agg #[.slice none 0 0,.int .i64 0,.int .i64 0],.int .i64 5]) (by simp [results,Tryz.results222,go_sem,R0',R1',R2']) rfl Hgv.out
 ·have h:=HG.out;rw [hb,if_pos rfl] at h;subst h;have Hb:=Lib.hid hb;clear hb;go_wp2_with fail;refine(Hri.out _ _ _ Hp6.out.row _ Hb.out).mono ?_;rintro e w7 ⟨rfl,hk7⟩;have hp7:=Hp6.out.keep hk7;have hres:=hp7.res;have hend:=hp7.ok;clear b0 b1 b2 bl;have b0:=Aa hp7.box 0;have b1:=Aa hp7.box 1;have b2:=Aa hp7.box 2;have bl:=lt_of_block hp7.box;obtain⟨Hk7,Hp7⟩:=hid2 hk7 hp7;clear hp7 hk7;refine js ?_;intro r0 r1 r2 rf0 rf1 rf2 rl sr0 sr1 sr2 hgv;obtain⟨Hres,Hend,Sr0,Sr1,Sr2,Hgv⟩:=hid6 hres hend sr0 sr1 sr2 hgv;clear hgv sr2 sr1 sr0 hend hres;go_wp2;refine ja ?_;intro R0' R1' R2';clear r0 r1 r2;exact bodyPost_ret (v:= .tuple #[.agg #[.slice (some ⟨g,0,none⟩) n c,.int .i64 (cr-m),.int .i64 du],.int .i64 0]) (by simp [results,Tryz.results222,go_sem,R0',R1',R2']) rfl Hgv.out
theorem Sq:∀{L:List Int},(∀x∈L,0<=x)->0<=sumI L
 | [],_=>Int.le_refl _
 |x::L,h=>by
  have h1:=h x (List.mem_cons_self ..);have h2:=Sq (L:=L) λy hy=>h y (List.mem_cons_of_mem _ hy);simp only [sumI];omega
theorem le_sumI:∀{L:List Int},(∀x∈L,0<=x)->∀x∈L,x<=sumI L
 |y::L,h,x,hx=>by
  have h1:=h y (List.mem_cons_self ..);have hL:=λz hz=>h z (List.mem_cons_of_mem y hz);have h2:=Sq (L:=L) hL;simp only [sumI];rcases List.mem_cons.1 hx with rfl|hx
  ·omega
  ·have:=le_sumI hL x hx;omega
theorem Ux:∀(L:List Int) (k:Nat) (x v:Int),L[k]?=some x->sumI (L.set k v)=sumI L-x+v
 |y::L,0,x,v,h=>by simp at h;subst h;simp only [List.set_cons_zero,sumI];omega
 |y::L,k+1,x,v,h=>by
  simp only [List.getElem?_cons_succ] at h;simp only [List.set_cons_succ,sumI,Ux L k x v h];omega
structure BInv(q:Ps)(n:Nat)(du:Int):Prop where
 nn:∀x∈q.bal,0<=x
 cr:0<=q.cr/\q.cr<=1000000000000000
 cz:q.cr=0\/sumI q.bal=0
 ln:q.bal.length=n
 du:q.du=du
theorem BInv.right{q:Ps}{n:Nat}{du:Int}(h:BInv q n du)(hn:1<=n/\n<=8)(hd:0<=du/\du<=1000000000000000):q.Ar=true↔sumI q.bal<=1000000000000000:=by
 have h0:=Sq h.nn;have hc:=h.cr;have hl:=h.ln;have hu:=h.du;have hz:=h.cz
 constructor
 ·intro hr;simp only [Ps.Ar,scanB,Bool.and_eq_true] at hr;exact((Aw _).1 hr.1.2).2
 ·intro hs;have h1:q.bal.all Az=true:=List.all_eq_true.2 λx hx=>(Aw x).2 ⟨h.nn x hx,by have:=le_sumI h.nn x hx;omega⟩;have h2:Az (sumI q.bal)=true:=(Aw _).2 ⟨h0,hs⟩;have h3:Az q.cr=true:=(Aw _).2 hc;have h4:Az q.du=true:=(Aw _).2 j1;simp only [Ps.Ar,scanB,h1,h2,h3,h4,Bool.and_self,Bool.true_and,Bool.and_eq_true,decide_eq_true_eq,Bool.or_eq_true];omega
theorem BInv.of{q:Ps}(h:q.Ar=true):BInv q q.bal.length q.du:=by
 obtain⟨h1,h2,h3,h4,h5⟩:=Cc h;refine⟨λx hx=>(h1 x hx).1,h2, ?_,rfl,rfl⟩;simp only [Ps.Ar,Bool.and_eq_true,decide_eq_true_eq,Bool.or_eq_true] at h;exact h.2.2.2.2.2
theorem BInv.step{q:Ps}{n i:Nat}{du a:Int}(h:BInv q n du)(hi:i<n)(ha:0<=a):BInv (Cg q ((i:Int)+1) a) n du/\sumI q.bal<=sumI (Cg q ((i:Int)+1) a).bal:=by
 obtain⟨x,hx⟩:=Aj (L:=q.bal) (k:=i) (by rw [h.ln];exact hi);have hx0:=h.nn x (List.mem_of_getElem? hx);have hg:q.bal.getD i 0=x:=by rw [List.getD_eq_getElem?_getD,hx];rfl
 have hm:0<=minI a q.cr/\minI a q.cr<=a/\minI a q.cr<=q.cr/\(minI a q.cr=a\/minI a q.cr=q.cr):=by have:=h.cr;unfold minI;split<;>omega
 obtain⟨m,hm'⟩:∃m,minI a q.cr=m:=⟨_,rfl⟩;rw [hm'] at hm
 have hb:(Cg q ((i:Int)+1) a)=⟨q.bal.set i (x+(a-m)),q.cr-m,q.du⟩:=by
  unfold Cg;rw [show((i:Int)+1-1).toNat=i by omega,hg,hm']
 have hs:=Ux q.bal i x (x+(a-m)) hx;have hc:=h.cr;have hz:=h.cz;rw [hb];refine⟨⟨λy hy=> ?_,by show 0<=q.cr-m/\q.cr-m<=_;omega, ?_,by show(q.bal.set i _).length=n;rw [List.length_set];exact h.ln,h.du⟩,by show sumI q.bal<=sumI (q.bal.set i _);rw [hs];omega⟩
 ·have hy':y∈q.bal.set i (x+(a-m)):=hy;rcases List.mem_or_eq_of_mem_set hy' with h1|h1
  ·exact h.nn y h1
  ·omega
 ·show q.cr-m=0\/sumI (q.bal.set i _)=0;rw [hs];omega
theorem Gp{X:List Int}{p:Ps}(hX:∀x∈X,0<=x)(hp:p.Ar=true):∀i,i<=p.bal.length->BInv (bearS X p i) p.bal.length p.du
 |0,_=>BInv.of hp
 |i+1,h=>by
  have:=Gp hX hp i (by omega)
  have h0:0<=X.getD i 0:=by
   rw [List.getD_eq_getElem?_getD];rcases e:X[i]? with _|x
   ·simp
   ·exact hX x (List.mem_of_getElem? e)
  exact(this.step (by omega) h0).1
theorem Xc{X:List Int}{p:Ps}(hX:∀x∈X,0<=x)(hp:p.Ar=true)(i:Nat):∀d,i+d<=p.bal.length->sumI (bearS X p i).bal<=sumI (bearS X p (i+d)).bal
 |0,_=>Int.le_refl _
 |d+1,h=>by
  have h1:=Xc hX hp i d (by omega)
  have h0:0<=X.getD (i+d) 0:=by
   rw [List.getD_eq_getElem?_getD];rcases e:X[i+d]? with _|x
   ·simp
   ·exact hX x (List.mem_of_getElem? e)
  have h2:=((Gp hX hp (i+d) (by omega)).step (i:=i+d) (by omega) h0).2;exact Int.le_trans h1 h2
theorem bear_bad{X:List Int}{p:Ps}(hX:X.all Az=true)(hl:X.length=p.bal.length)(hp:p.Ar=true){i:Nat}(hi:i<=X.length)(h:¬(bearS X p i).Ar=true):bearR p X=(ps0,5):=by
 have hX0:∀x∈X,0<=x:=λx hx=>((Aw x).1 (List.all_eq_true.1 hX x hx)).1;obtain⟨_,_,h3,h4,h5⟩:=Cc hp
 have hb:¬(bearS X p X.length).Ar=true:=by
  rw [(Gp hX0 hp i j1).right ⟨h4,h5⟩ h3] at h;rw [(Gp hX0 hp X.length j1).right ⟨h4,h5⟩ h3];have:=Xc hX0 hp i (X.length-i) j1;rw [show i+(X.length-i)=X.length by omega] at this;omega
 unfold bearR;rw [if_pos ⟨hp,hl,hX⟩,if_neg hb]
theorem Nk(L Q:List Int)(cr du x:Int)(ad adQ:Option Addr)(cap cQ n:Nat)(w:World)(hr:Reads w 1 (.slice ad n cap) n (L.flatMap i64c))(hN:L.length=n)(hl:n<=1000)(hn1:1<=n)(hQ:Reads w 1 (.slice adQ n cQ) n (Q.flatMap i64c))(hQn:Q.length=n)
  (hbal:∀x∈L,0<=x/\x<=1000000000000000) (hQb:∀x∈Q,0<=x/\x<=2000000000000000) (hcr:0<=cr/\cr<=1000000000000000) (hxb:0<=x/\x<=1000000000000000):
  Calls Tryz.prog 224 #[.agg #[.slice ad n cap,.int .i64 cr,.int .i64 du],.slice adQ n cQ,.int .i64 x] w (Di (if Ps.Ar ⟨List.zipWith (λx y=>x-y) L Q,cr+x,du⟩=true then((⟨List.zipWith (λx y=>x-y) L Q,cr+x,du⟩:Ps),(0:Int)) else(ps0,5)).1 (if Ps.Ar ⟨List.zipWith (λx y=>x-y) L Q,cr+x,du⟩=true then((⟨List.zipWith (λx y=>x-y) L Q,cr+x,du⟩:Ps),(0:Int)) else(ps0,5)).2 w):=by
 obtain⟨cr0,cr1⟩:=hcr;obtain⟨x0,x1⟩:=hxb;obtain⟨Z,hZ⟩:∃Z,List.zipWith (λx y:Int=>x-y) L Q=Z:=⟨_,rfl⟩;have hZl:Z.length=n:=by rw [<-hZ,List.length_zipWith];omega
 rw [hZ];obtain⟨G,hG⟩:∃G:Ps×Int,(if Ps.Ar ⟨Z,cr+x,du⟩=true then((⟨Z,cr+x,du⟩:Ps),(0:Int)) else(ps0,5))=G:=⟨_,rfl⟩;rw [hG];have hcopy:=j5J;have hri:=λW g c (hW:RowZ W 2 g n c Z) b (hb:Ps.Ar ⟨Z,cr+x,du⟩=b)=>Ct _ (cr+x) du (some ⟨g,0,none⟩) c n W hW.reads hZl hl b hb;have q7:IntKind.i64.wrap (cr+x)=cr+x:=IntWalk.i64_in _ ⟨by omega,by omega⟩;obtain⟨Hr,HN,Hbal,HQ,HQn,HQb,Hcopy,Hri,HG⟩:=hid9 hr hN hbal hQ hQn hQb hcopy hri hG;clear hG hri hcopy hQb hQn hQ hbal hN hr;obtain⟨HZ,HZl⟩:=hid2 hZ hZl;clear hZl hZ;go_enter Tryz.func224,Tryz.ntmps224;go_wp2_with fail;refine(Hcopy.out _ j8).mono ?_;rintro e w1 ⟨v1,rfl,hown,hf⟩;obtain⟨g,c,rfl⟩:=Co hown hn1;refine j5K ?_;intro hp hbb b0 b1 b2 bf0 bf1 bf2 bl;obtain⟨Hown,Hf,Hp,Hbb⟩:=hid4 hown hf hp hbb;clear hbb hp hf hown
 go_upto_region 2 with fail
 refine j5L ?_;intro W2 hW2 hp2;rw [<-hW2] at hp2⊢;clear b0 b1 b2 bf0 bf1 bf2 bl hW2 Hp;have Hp2:=Lib.hid hp2;clear hp2;go_wp2
 go_loopw [8] (λy wx=>∃i:Nat,y= .int .i64 (i:Nat)/\i<=n/\P11 w w.heap.size (w.heap.size+1) g c n (stepL (λx y=>x-y) L Q i) cr du wx) (λy _=>n-(intOf y).toNat)
 case atStart=>exact⟨0,rfl,Nat.zero_le _,by rw [Dw];exact Hp2.out⟩
 case round=>
  obtain⟨i,rfl,hin,hpi⟩:=hrel;obtain⟨wq,hwq⟩:∃y,y=wr:=⟨_,rfl⟩;subst hwq;by_cases hlt:i<n
  ·have hltI:(i:Int)<(n:Int):=j3;obtain⟨a,ha⟩:=Aj (L:=L) (k:=i) jw;obtain⟨b,hb⟩:=Aj (L:=Q) (k:=i) (by rw [HQn.out];exact hlt);obtain⟨a0,a1⟩:=Hbal.out a (List.mem_of_getElem? ha);obtain⟨b0,b1⟩:=HQb.out b (List.mem_of_getElem? hb);obtain⟨gQ,oQ,he,cQ0⟩:=(HQ.out.keeps hpi.kp (by simp)).int (k:= .i64) hb;subst he;have hex:=El (f:=λx y=>x-y) (P:=Q) (by rw [HQn.out,HN.out]) ha;have hst:=Ej (f:=λx y=>x-y) (P:=Q) (by rw [HQn.out,HN.out]) ha hb;have hS:r10S w.heap.size (.slice (some ⟨g,0,none⟩) n c) g i gQ (oQ+i) a b wq:=⟨Aa hpi.box 0,hpi.row.cell hex,cQ0⟩;have hSd:=hS.keep (S:=λ_=>False) (Keeps.drew wq) (by simp) (by simp) (by simp);have hq1:IntKind.i64.wrap (a-b)=a-b:=IntWalk.i64_in _ ⟨by omega,by omega⟩
   have hnew:∀W,Keeps (λ_=>False) wq W->P11 w w.heap.size (w.heap.size+1) g c n (stepL (λx y=>x-y) L Q (i+1)) cr du (W.setCell ⟨g,i,none⟩ (.int .i64 (a-b))):=λW h=>by
    have:=(hpi.keep h).setrow hlt (a-b)
    rwa [hst] at this
   clear cQ0;obtain⟨Hpi,Ha,Hb,Hex,Hst,HS,HSd,Hnew⟩:=hid8 hpi ha hb hex hst hS hSd hnew;clear hnew hSd hS hst hex hb ha hpi;go_wp2_with fail;refine Bj (r10S w.heap.size (.slice (some ⟨g,0,none⟩) n c) g i gQ (oQ+i) a b) 14 (.take 0 (.take 1 (.take 2 (.take 3 (.take 4 (.take 5 (.take 6 (.take 7 (.take 8 (.take 9 (.take 10 (.take 11 (.take 12 (.take 13 (.move 14 .done))))))))))))))) j4 j4 ?_ ?_
   ·exact HSd.out
   intro w8 hs8 hk8;have r8:=(Hpi.out.keep hk8).row;have c8:=r8.cell Hex.out;have f8:=r8.free i;have l8:=r8.lt;obtain⟨Hs8,Hk8,R8⟩:=hid3 hs8 hk8 r8;clear r8 hk8 hs8;refine jR ?_;refine jh ?_;have hn8:=Hnew.out _ Hk8.out;clear c8 f8 l8;have Hn8:=Lib.hid hn8;clear hn8;go_wp2;go_roundw
   case rel=>exact⟨i+1,by go_num,by omega,Hn8.out⟩
   case measure=>simp [intOf];omega
  ·obtain rfl:i=n:=by omega
   rw [Dx (by rw [HQn.out,HN.out]) HN.out,HZ.out] at hpi;have b1:=Aa hpi.box 1;have bf1:=Ab hpi.box 1;have bl:=lt_of_block hpi.box;have hp3:=hpi.setcr (cr+x);obtain⟨Hpi,Hp3⟩:=hid2 hpi hp3;clear hp3 hpi
   go_upto_region 7 with fail
   obtain⟨W6,hW6⟩:∃y,y=wq.setCell ⟨w.heap.size,1,none⟩ (.int .i64 (cr+x)):=⟨_,rfl⟩;have hp6:=Hp3.out;rw [<-hW6] at hp6⊢;clear hW6 Hp3 b1 bf1 bl;have b0:=Aa hp6.box 0;have b1:=Aa hp6.box 1;have b2:=Aa hp6.box 2;have bl:=lt_of_block hp6.box;have Hp6:=Lib.hid hp6;clear hp6;rcases hb:Ps.Ar ⟨Z,cr+x,du⟩ with _|_
   ·have h:=HG.out;rw [hb,if_neg j2] at h;subst h;have Hb:=Lib.hid hb;clear hb;go_wp2_with fail;refine(Hri.out _ _ _ Hp6.out.row _ Hb.out).mono ?_;rintro e w7 ⟨rfl,hk7⟩;have hp7:=Hp6.out.keep hk7;have hres:=hp7.res;have hend:=P11.bad 5 hres hp7.kp hp7.hR;clear b0 b1 b2 bl;obtain⟨Hk7,Hp7⟩:=hid2 hk7 hp7;clear hp7 hk7;refine js ?_;intro r0 r1 r2 rf0 rf1 rf2 rl sr0 sr1 sr2 hgv;obtain⟨Hres,Hend,Sr0,Sr1,Sr2,Hgv⟩:=hid6 hres hend sr0 sr1 sr2 hgv;clear hgv sr2 sr1 sr0 hend hres;go_wp2;refine ja ?_;intro R0' R1' R2';clear r0 r1 r2;exact bodyPost_ret (v:= .tuple #[.agg #[.slice none 0 0,.int .i64 0,.int .i64 0],.int .i64 5]) (by simp [results,Tryz.results224,go_sem,R0',R1',R2']) rfl Hgv.out
   ·have h:=HG.out;rw [hb,if_pos rfl] at h;subst h;have Hb:=Lib.hid hb;clear hb;go_wp2_with fail;refine(Hri.out _ _ _ Hp6.out.row _ Hb.out).mono ?_;rintro e w7 ⟨rfl,hk7⟩;have hp7:=Hp6.out.keep hk7;have hres:=hp7.res;have hend:=hp7.ok;clear b0 b1 b2 bl;have b0:=Aa hp7.box 0;have b1:=Aa hp7.box 1;have b2:=Aa hp7.box 2;have bl:=lt_of_block hp7.box;obtain⟨Hk7,Hp7⟩:=hid2 hk7 hp7;clear hp7 hk7;refine js ?_;intro r0 r1 r2 rf0 rf1 rf2 rl sr0 sr1 sr2 hgv;obtain⟨Hres,Hend,Sr0,Sr1,Sr2,Hgv⟩:=hid6 hres hend sr0 sr1 sr2 hgv;clear hgv sr2 sr1 sr0 hend hres;go_wp2;refine ja ?_;intro R0' R1' R2';clear r0 r1 r2;exact bodyPost_ret (v:= .tuple #[.agg #[.slice (some ⟨g,0,none⟩) i c,.int .i64 (cr+x),.int .i64 du],.int .i64 0]) (by simp [results,Tryz.results224,go_sem,R0',R1',R2']) rfl Hgv.out
theorem Di.up{w W W':World}{R:Nat}{p:Ps}{z:Int}{e:Ending}(h:Di p z W e W')(hk:Keeps (λ_=>False) w W)(hres:W.heap[R]?=some (.cells #[.slice none 0 0,.int .i64 0,.int .i64 0] 35 (0,0)))(hR:w.heap.size<=R):
  ∃a n c,e= .returned (.tuple #[.agg #[.slice a n c,.int .i64 p.cr,.int .i64 p.du],.int .i64 z])/\W'.heap[R]?=some (.cells #[.slice none 0 0,.int .i64 0,.int .i64 0] 35 (0,0))/\
   (((W'.setCell ⟨R,0,none⟩ (.slice a n c)).setCell ⟨R,1,none⟩ (.int .i64 p.cr)).setCell ⟨R,2,none⟩ (.int .i64 p.du)).heap[R]?=some (.cells #[.slice a n c,.int .i64 p.cr,.int .i64 p.du] 35 (0,0))/\
   Di p z w (.returned (.tuple #[.agg #[.slice a n c,.int .i64 p.cr,.int .i64 p.du],.int .i64 z])) (((W'.setCell ⟨R,0,none⟩ (.slice a n c)).setCell ⟨R,1,none⟩ (.int .i64 p.cr)).setCell ⟨R,2,none⟩ (.int .i64 p.du)):=by
 obtain⟨v,rfl,hrow,hf⟩:=h;obtain⟨ad,c,rfl,_,_⟩:=Ad hrow;have hlt:=lt_of_block hres;have hres':=Ac hres hf.1 (by simp);obtain⟨h1,k⟩:=Bb hres' (.slice ad p.bal.length c) (.int .i64 p.cr) (.int .i64 p.du);refine⟨ad,_,c,rfl,hres',h1,_,rfl, ?_, ?_, ?_⟩
 ·exact k.row hrow (λg hg e=>by have:=hf.2 g hg;omega)
 ·exact(hk.nt hf.1).trans (k.mono λi _ e=> .inr (by subst e;exact hR))
 ·intro g hg;have:=hf.2 g hg;have:=hk.size;omega
theorem Kh(L:List Int)(cr du k a:Int)(ad:Option Addr)(cap n:Nat)(w:World)(hr:Reads w 1 (.slice ad n cap) n (L.flatMap i64c))(hN:L.length=n)(hl:n<=1000):
  Calls Tryz.prog 174 #[.agg #[.slice ad n cap,.int .i64 cr,.int .i64 du],.int .i64 k,.int .i64 a] w (Di (Dp ⟨L,cr,du⟩ k a).1 (Dp ⟨L,cr,du⟩ k a).2 w):=by
 obtain⟨z,hz⟩:∃z,askE ⟨L,cr,du⟩ [k] a=z:=⟨_,rfl⟩;refine j2J ?_;intro hask;rw [hz] at hask;unfold Dp;rw [hz];by_cases h0:z=0
 ·subst h0;rw [if_pos rfl];obtain⟨hright,htr,hmon⟩:=Gq hz;have hkk:1<=k/\k<=n:=by simpa [trB,hN] using htr
  have hadd:=λW (hW:Keeps (λ_=>False) w W)=>Qa L cr du k a ad cap n W (hr.keeps hW (by simp)) hN hl hright hkk hmon;obtain⟨⟨q,z⟩,hG⟩:∃G:Ps×Int,(if(Cg ⟨L,cr,du⟩ k a).Ar=true then(Cg ⟨L,cr,du⟩ k a,(0:Int)) else(ps0,5))=G:=⟨_,rfl⟩;rw [hG] at hadd⊢;simp only at hadd⊢;obtain⟨Hr,Hask,Hadd,Hz,Hright,Htr,Hmon,Hkk,HG⟩:=hid9 hr hask hadd hz hright htr hmon hkk hG;clear hG hkk hmon htr hright hz hadd hask hr;go_enter Tryz.func174,Tryz.ntmps174;go_wp2_with fail;refine(Hask.out _ j8).mono ?_;rintro e w1 ⟨rfl,hk1⟩;refine j1s ?_;intro hbx hrs hkw;have b0:=Aa hbx 0;have b1:=Aa hbx 1;have b2:=Aa hbx 2;have bl:=lt_of_block hbx;obtain⟨Hbx,Hrs,Hkw,Hk1⟩:=hid4 hbx hrs hkw hk1;clear hk1 hkw hrs hbx;go_wp2_with fail;refine(Hadd.out _ Hkw.out).mono ?_;intro e w2 hg;obtain⟨a2,n2,c2,rfl,hres,hend⟩:=hg.up Hkw.out Hrs.out j1;clear hg b0 b1 b2 bl;refine js ?_;intro r0 r1 r2 rf0 rf1 rf2 rl sr0 sr1 sr2 hgv;obtain⟨Hres,Hend,Sr0,Sr1,Sr2,Hgv⟩:=hid6 hres hend sr0 sr1 sr2 hgv;clear hgv sr2 sr1 sr0 hend hres;go_wp2;refine ja ?_;intro R0' R1' R2';clear r0 r1 r2;exact bodyPost_ret (v:= .tuple #[.agg #[.slice a2 n2 c2,.int .i64 q.cr,.int .i64 q.du],.int .i64 z]) (by simp [results,Tryz.results174,go_sem,R0',R1',R2']) rfl Hgv.out
 ·rw [if_neg h0];have hne:decide (z=0)=false:=by rw [decide_eq_false_iff_not];exact h0
  obtain⟨Hr,Hask,Hz⟩:=hid3 hr hask hz;clear hz hask hr;go_enter Tryz.func174,Tryz.ntmps174;go_wp2_with fail;refine(Hask.out _ j8).mono ?_;rintro e w1 ⟨rfl,hk1⟩;refine j1t ?_;intro hres hkw;have hend:=P11.bad z hres hkw j1;obtain⟨Hkw,Hk1⟩:=hid2 hkw hk1;clear hk1 hkw;refine js ?_;intro r0 r1 r2 rf0 rf1 rf2 rl sr0 sr1 sr2 hgv;obtain⟨Hres,Hend,Sr0,Sr1,Sr2,Hgv⟩:=hid6 hres hend sr0 sr1 sr2 hgv;clear hgv sr2 sr1 sr0 hend hres;go_wp2;refine ja ?_;intro R0' R1' R2';clear r0 r1 r2;exact bodyPost_ret (v:= .tuple #[.agg #[.slice none 0 0,.int .i64 0,.int .i64 0],.int .i64 z]) (by simp [results,Tryz.results174,go_sem,R0',R1',R2']) rfl Hgv.out
theorem Xu(L R:List Int)(cr du a:Int)(ad adR:Option Addr)(cap cR n:Nat)(w:World)(hr:Reads w 1 (.slice ad n cap) n (L.flatMap i64c))(hN:L.length=n)(hl:n<=1000)(hR:Reads w 1 (.slice adR n cR) n (R.flatMap i64c))(hRn:R.length=n):
  Calls Tryz.prog 175 #[.agg #[.slice ad n cap,.int .i64 cr,.int .i64 du],.slice adR n cR,.int .i64 a] w (Di (payR ⟨L,cr,du⟩ R a).1 (payR ⟨L,cr,du⟩ R a).2 w):=by
 rcases hb:Ps.Ar ⟨L,cr,du⟩ with _|_
 ·refine j1p ?_;intro hri;have hz:payR ⟨L,cr,du⟩ R a=(ps0,1):=by unfold payR askE;simp [hb]
  rw [hz];simp only;obtain⟨Hr,HR,Hri,Hb,Hz⟩:=hid5 hr hR hri hb hz;clear hz hb hri hR hr;go_enter Tryz.func175,Tryz.ntmps175;go_wp2_with fail;refine(Hri.out _ j8).mono ?_;rintro e w1 ⟨rfl,hk1⟩;refine j1t ?_;intro hres hkw;have hend:=P11.bad 1 hres hkw j1;obtain⟨Hkw,Hk1⟩:=hid2 hkw hk1;clear hk1 hkw;refine js ?_;intro r0 r1 r2 rf0 rf1 rf2 rl sr0 sr1 sr2 hgv;obtain⟨Hres,Hend,Sr0,Sr1,Sr2,Hgv⟩:=hid6 hres hend sr0 sr1 sr2 hgv;clear hgv sr2 sr1 sr0 hend hres;go_wp2;refine ja ?_;intro R0' R1' R2';clear r0 r1 r2;exact bodyPost_ret (v:= .tuple #[.agg #[.slice none 0 0,.int .i64 0,.int .i64 0],.int .i64 1]) j2K rfl Hgv.out
 ·refine j1p ?_;intro hri;rcases hmon:Az a with _|_
  ·have hz:payR ⟨L,cr,du⟩ R a=(ps0,8):=by unfold payR askE;simp [hb,hmon]
   rw [hz];simp only;obtain⟨Hr,HR,Hri,Hb,Hz⟩:=hid5 hr hR hri hb hz;clear hz hb hri hR hr;go_enter Tryz.func175,Tryz.ntmps175;go_wp2_with fail;refine(Hri.out _ j8).mono ?_;rintro e w1 ⟨rfl,hk1⟩;refine j1t ?_;intro hres hkw;have hend:=P11.bad 8 hres hkw j1;obtain⟨Hkw,Hk1⟩:=hid2 hkw hk1;clear hk1 hkw;go_wp2_with fail;refine(Bl hmon _).mono ?_;rintro e w2 ⟨rfl,rfl⟩;refine js ?_;intro r0 r1 r2 rf0 rf1 rf2 rl sr0 sr1 sr2 hgv;obtain⟨Hres,Hend,Sr0,Sr1,Sr2,Hgv⟩:=hid6 hres hend sr0 sr1 sr2 hgv;clear hgv sr2 sr1 sr0 hend hres;go_wp2;refine ja ?_;intro R0' R1' R2';clear r0 r1 r2;exact bodyPost_ret (v:= .tuple #[.agg #[.slice none 0 0,.int .i64 0,.int .i64 0],.int .i64 8]) j2K rfl Hgv.out
  ·obtain⟨hbal,hcr,hdu,hn1,hn8⟩:=Cc hb;simp only at hbal hcr hdu hn1 hn8;rw [hN] at hn1 hn8;have ham:=(Aw a).1 hmon;have hall:L.all Az=true:=List.all_eq_true.2 λx hx=>(Aw x).2 (hbal x hx);have hpay:=λW (hW:Keeps (λ_=>False) w W)=>Xx L R cr du a ad adR cap cR n W (hr.keeps hW (by simp)) hN (hR.keeps hW (by simp)) hRn hall ((Aw cr).2 hcr) ((Aw du).2 hdu) hmon hn8;have hpb:=payL_bd (R:=R) hbal hdu ham j1;have hz:payR ⟨L,cr,du⟩ R a=if Ps.Ar (payP ⟨L,cr,du⟩ R a)=true then(payP ⟨L,cr,du⟩ R a,0) else(ps0,5):=by unfold payR askE;simp [hb,hmon]
   rw [hz];unfold payP;simp only;obtain⟨⟨p,m,rest⟩,hp⟩:∃p,payL L R du a=p:=⟨_,rfl⟩;rw [hp] at hpay hpb⊢;simp only at hpay hpb⊢;obtain⟨hpe,⟨m0,m1⟩,ht,hpl⟩:=hpb;rw [hN] at hpl;obtain⟨cr0,cr1⟩:=id hcr;obtain⟨du0,du1⟩:=hdu
   have hpm:∀x∈p,0<=x/\x<=2000000000000000:=λx hx=>by
    obtain⟨j,hj⟩:=List.getElem?_of_mem hx;exact hpe j x hj
   have hless:=λW g (hW:Keeps (λ_=>False) w W) (hg:RowZ W 2 g n n p)=>Nk L p cr (du-m) rest ad (some ⟨g,0,none⟩) cap n n W (hr.keeps hW (by simp)) hN hl hn1 hg.reads hpl hbal hpm hcr ht;obtain⟨⟨q,z⟩,hG⟩:∃G:Ps×Int,(if Ps.Ar ⟨List.zipWith (λx y=>x-y) L p,cr+rest,du-m⟩=true then((⟨List.zipWith (λx y=>x-y) L p,cr+rest,du-m⟩:Ps),(0:Int)) else(ps0,5))=G:=⟨_,rfl⟩;rw [hG] at hless⊢;simp only at hless⊢;have q7:IntKind.i64.wrap (du-m)=du-m:=IntWalk.i64_in _ ⟨by omega,by omega⟩;obtain⟨Hr,HR,Hri,Hb,Hz,Hbal,Hcr,Hall,Hpay⟩:=hid9 hr hR hri hb hz hbal hcr hall hpay;clear hpay hall hcr hbal hz hb hri hR hr;obtain⟨Hless,Hpe,Ht,Hpl,Hpm,HG,Hp⟩:=hid7 hless hpe ht hpl hpm hG hp;clear hp hG hpm hpl ht hpe hless;go_enter Tryz.func175,Tryz.ntmps175;go_wp2_with fail;refine(Hri.out _ j8).mono ?_;rintro e w1 ⟨rfl,hk1⟩;refine j1s ?_;intro hbx hrs hkw;have b0:=Aa hbx 0;have b1:=Aa hbx 1;have b2:=Aa hbx 2;have bl:=lt_of_block hbx;obtain⟨Hbx,Hrs,Hkw,Hk1⟩:=hid4 hbx hrs hkw hk1;clear hk1 hkw hrs hbx;go_wp2_with fail;refine(Bl hmon _).mono ?_;rintro e w2 ⟨rfl,rfl⟩;go_wp2_with fail;refine(Hpay.out _ Hkw.out).mono ?_;rintro e w3 ⟨g,rfl,hrow,hk3,hg3⟩;have hbx3:=Ac Hbx.out hk3 (by simp);have hrs3:=Ac Hrs.out hk3 (by simp);have hkw3:=Hkw.out.nt hk3;have hgT:¬w.heap.size=g:=by have:=lt_of_block Hrs.out;omega
   clear b0 b1 b2 bl;have b2:=Aa hbx3 2;have bf2:=Ab hbx3 2;have bl:=lt_of_block hbx3;obtain⟨Hbx3,Hrs3,Hkw3,Hrow,Hk3,Hg3,HgT⟩:=hid7 hbx3 hrs3 hkw3 hrow hk3 hg3 hgT;clear hgT hg3 hk3 hrow hkw3 hrs3 hbx3
   go_upto_region 9 with fail
   have k4:Keeps (λi=>i=w.heap.size) w3 (w3.setCell ⟨w.heap.size,2,none⟩ (.int .i64 (du-m))):=Keeps.setCell _ _ _ rfl;obtain⟨w4,hw4⟩:∃y,y=w3.setCell ⟨w.heap.size,2,none⟩ (.int .i64 (du-m)):=⟨_,rfl⟩;have hbx4:w4.heap[w.heap.size]?=some (.cells #[.slice ad n cap,.int .i64 cr,.int .i64 (du-m)] 35 (0,0)):=by rw [hw4];exact(heap_setCell_same _ _ 2 _ _ _ Hbx3.out).trans rfl
   rw [<-hw4] at k4⊢;have hrs4:=Ac Hrs3.out k4 j1;have hkw4:=Hkw3.out.trans (k4.mono λi _ e=> .inr j1);have hrow4:RowZ w4 2 g n n p:=⟨k4.row Hrow.out.1 (λg' hg' e=>by have:=own_ne hg';have:=HgT.out;omega),Hrow.out.2⟩;clear b2 bf2 bl hw4 k4;have b0:=Aa hbx4 0;have b1:=Aa hbx4 1;have b2:=Aa hbx4 2;have bl:=lt_of_block hbx4;obtain⟨Hbx4,Hrs4,Hkw4,Hrow4⟩:=hid4 hbx4 hrs4 hkw4 hrow4;clear hrow4 hkw4 hrs4 hbx4;go_wp2_with fail;refine(Hless.out _ _ Hkw4.out Hrow4.out).mono ?_;intro e w5 hg;obtain⟨a2,n2,c2,rfl,hres,hend⟩:=hg.up Hkw4.out Hrs4.out j1;clear hg b0 b1 b2 bl;refine js ?_;intro r0 r1 r2 rf0 rf1 rf2 rl sr0 sr1 sr2 hgv;obtain⟨Hres,Hend,Sr0,Sr1,Sr2,Hgv⟩:=hid6 hres hend sr0 sr1 sr2 hgv;clear hgv sr2 sr1 sr0 hend hres;go_wp2;refine ja ?_;intro R0' R1' R2';clear r0 r1 r2;exact bodyPost_ret (v:= .tuple #[.agg #[.slice a2 n2 c2,.int .i64 q.cr,.int .i64 q.du],.int .i64 z]) j2K rfl Hgv.out
def br11(B g o:Nat)(v:Value)(cr du x:Int)(W:World):Prop:=W.cell? ⟨B,0,none⟩=some v/\W.cell? ⟨B,1,none⟩=some (.int .i64 cr)/\W.cell? ⟨B,2,none⟩=some (.int .i64 du)/\W.cell? ⟨g,o,none⟩=some (.int .i64 x)
theorem br11.keep{B g o:Nat}{v:Value}{cr du x:Int}{W W':World}(h:br11 B g o v cr du x W)(hk:Keeps (λ_=>False) W W'):br11 B g o v cr du x W':=by
 exact j5A
def Br11R(w:World)(X:List Int)(p:Ps)(n:Nat)(c:Value)(wr:World):Prop:=∃(i:Nat) (q:Ps) (a:Option Addr) (cv:Nat),i<=n/\c= .int .i64 (i:Nat)/\bearS X p i=q/\q.Ar=true/\wr.heap[w.heap.size]?=some (.cells #[.slice a n cv,.int .i64 q.cr,.int .i64 q.du] 35 (0,0))/\wr.heap[w.heap.size+1]?=some (.cells #[.slice none 0 0,.int .i64 0,.int .i64 0] 35 (0,0))/\Reads wr 1 (.slice a n cv) n (q.bal.flatMap i64c)/\Keeps (λ_=>False) w wr
end Go.Proofs.YtgfkeeicjjbnpaaGreat
