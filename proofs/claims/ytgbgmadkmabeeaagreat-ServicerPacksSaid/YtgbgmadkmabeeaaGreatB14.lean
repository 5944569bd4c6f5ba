/- Part 14 of what the laws of this seat share: walks of functions, and plain laws. -/
import Derived.Test.YtgbgmadkmabeeaaGreatB13
set_option maxRecDepth 100000
set_option maxHeartbeats 3200000
namespace Go.Proofs.YtgbgmadkmabeeaaGreat
open Go.RowKit Go.IntWalk
section
theorem Mx(t:Tm)(ad:Option Addr)(cap:Nat)(w:World)(hr:Reads w 2 (.slice ad t.trs.length cap) t.trs.length (t.trs.flatMap Tn.cells))(hl:t.trs.length<=1000000):
  Calls Tryz.prog 56 #[t.val (.slice ad t.trs.length cap)] w λe w'=>∃v,e= .returned (.tuple #[v,.int .i64 t.err])/\NB w w' v (if t.err=0 then Ee t else []):=by
 obtain⟨n,hn⟩:∃n,t.trs.length=n:=⟨_,rfl⟩;obtain⟨w1,hw1⟩:∃W,W=w.alloc (.cells #[.int .i64 t.limit,.slice ad n cap,.int .i64 t.cyc,.int .i64 t.due,.int .i64 t.minFixed,.int .i64 t.minPart,.int .i64 t.start] 44):=⟨_,rfl⟩;have hk1:Keeps (λ_=>False) w w1:=by rw [hw1];exact Keeps.alloc _ _
 have hb1:w1.heap[w.heap.size]?=some (.cells #[.int .i64 t.limit,.slice ad n cap,.int .i64 t.cyc,.int .i64 t.due,.int .i64 t.minFixed,.int .i64 t.minPart,.int .i64 t.start] 44 (0,0)):=by rw [hw1];exact heap_alloc_new w _
 have hright:=Jd t ad cap w1 (hr.keeps hk1 (λ_ _ h=>h)) hl;rw [hn] at hr hl hright⊢;simp only [Tm.val] at hright⊢;by_cases he:t.err=0
 ·obtain⟨l1,l2⟩:=Zo he;rw [hn] at l1 l2;rw [if_pos he,he];rw [he] at hright
  have hhead:∀w2,Keeps (λ_=>False) w w2->Calls Tryz.prog 53 #[.slice none 0 0,.slice (some ⟨w2.heap.size,0,none⟩) 7 7] (w2.alloc (.cells #[.int .i64 t.limit,.int .i64 t.cyc,.int .i64 t.due,.int .i64 t.minFixed,.int .i64 t.minPart,.int .i64 t.start,.int .i64 n] 2)) λe w'=>∃v',e= .returned v'/\NB w w' v' (packN t.nums)/\Keeps (λ_=>False) w2 w':=by
   intro w2 hk2;have h7:=Reads.lit w2 #[.int .i64 t.limit,.int .i64 t.cyc,.int .i64 t.due,.int .i64 t.minFixed,.int .i64 t.minPart,.int .i64 t.start,.int .i64 n] 2 1 7 rfl;have hp:=Ld (.slice none 0 0) [] (some ⟨w2.heap.size,0,none⟩) 7 t.nums (w2.alloc (.cells #[.int .i64 t.limit,.int .i64 t.cyc,.int .i64 t.due,.int .i64 t.minFixed,.int .i64 t.minPart,.int .i64 t.start,.int .i64 n] 2)) (World.ownsRow_nil _ _ _ _) (by simpa [Tm.nums,i64c,hn] using h7) (by simp [Value.ownBlock]) (by simp [Tm.nums]);refine hp.mono ?_;rintro e w' ⟨v',rfl,hg⟩;rw [List.nil_append] at hg;exact⟨v',rfl,NB.put (B:= []) ⟨World.ownsRow_nil _ _ _ _,Keeps.nt hk2 (Keeps.alloc _ _),by simp [Value.ownBlock]⟩ hg,Keeps.nt (Keeps.alloc _ _) (hg.kp.mono λk _ e=>by simp [Value.ownBlock] at e)⟩
  obtain⟨i0,hi,hi0,hi1,hi2⟩:=info_parts Ez;obtain⟨H0,hH⟩:∃H,packN t.nums=H:=⟨_,rfl⟩;have hHl:H0.length=56:=by rw [<-hH,Kk];rfl
  rw [hH] at hhead;have htp:Ee t=H0++t.trs.flatMap tnB:=by unfold Ee;rw [hH]
  obtain⟨Hw1,Hk1,Hb1,Hright,Hr,Hn,Hhead,Hi,Hi0⟩:=hid9 hw1 hk1 hb1 hright hr hn hhead hi hi0;clear hi0 hi hhead hn hr hright hb1 hk1 hw1;obtain⟨Hi1,Hi2,HH,HHl,Htp⟩:=hid5 hi1 hi2 hH hHl htp;clear htp hHl hH hi2 hi1;go_enter Tryz.func56,Tryz.ntmps56
  go_wp2_with (first|(go_at_call 99;rw [<-Hw1.out];(with_reducible refine Hright.out.mono ?_);rintro e w2 ⟨rfl,hk2⟩;have hb2:=Ad Hb1.out hk2 (by simp);have c0:=Aa hb2 0;have c1:=Aa hb2 1;have c2:=Aa hb2 2;have c3:=Aa hb2 3;have c4:=Aa hb2 4;have c5:=Aa hb2 5;have c6:=Aa hb2 6;have l2':=lt_of_block hb2;have Hkw2:=Lib.hid (Keeps.nt Hk1.out hk2);have Hb2:=Lib.hid hb2;clear hb2 hk2)|(go_at_call 53;(with_reducible refine(Hhead.out _ Hkw2.out).mono ?_);rintro e w3 ⟨v3,rfl,hnb3,hk3⟩;have d1:=Aa (Ad Hb2.out hk3 (by simp)) 1;have l3':=lt_of_block (Ad Hb2.out hk3 (by simp));clear hk3;have Hnb3:=Lib.hid hnb3;clear hnb3))
  go_loopw [5,33] (λb c wr=>∃(k:Nat) (v:Value),k<=n/\c= .int .i64 k/\b=v/\NB w wr v (H0++(t.trs.take k).flatMap tnB)) (λ_ c _=>n-(intOf c).toNat)
  case atStart=>exact⟨0,v3,Nat.zero_le _,rfl,rfl,by simpa using Hnb3.out⟩
  case round=>
   obtain⟨k,v,hk,rfl,hbv,hnb⟩:=hrel;obtain rfl:=hbv.symm;by_cases hkn:k<n
   ·have hknI:(k:Int)<(n:Int):=j8;obtain⟨⟨xr,xg⟩,hx⟩:=Aq (L:=t.trs) (k:=k) (by rw [Hn.out];exact hkn);obtain⟨g,o,c,he',hc⟩:=(Hr.out.keeps hnb.kp (by simp)).elem Tn.Aj hx j7;simp only [Value.slice.injEq,true_and] at he';obtain⟨rfl,rfl⟩:=he';have x0:wr.cell? ⟨g,o+k*2,none⟩=some (.int .i64 xr):=hc 0 j7;have x1:wr.cell? ⟨g,o+k*2+1,none⟩=some (.bool xg):=hc 1 j7;have hgl:=Ah x0;clear hc;obtain⟨C,hC⟩:∃C,H0++(t.trs.take k).flatMap tnB=C:=⟨_,rfl⟩
    have hCl:C.length<=1000:=by
     rw [<-hC,List.length_append,HHl.out,tnB_len,List.length_take];omega
    have hC2:H0++(t.trs.take (k+1)).flatMap tnB=C++eight xr++ [if xg then 1 else 0]:=by
     rw [take_snoc' hx,List.flatMap_append,<-List.append_assoc,hC];simp [tnB]
    rw [hC] at hnb
    have hpw:∀W,Keeps (λ_=>False) wr W->Calls Tryz.prog 53 #[v,.slice (some ⟨W.heap.size,0,none⟩) 1 1] (W.alloc (.cells #[.int .i64 xr] 2)) λe w'=>∃a' c',e= .returned (.slice a' (C.length+8) c')/\NB w w' (.slice a' (C.length+8) c') (C++eight xr)/\Keeps (λi=>v.ownBlock=some i) W w':=by
     intro W hW;have h1:=Reads.lit W #[.int .i64 xr] 2 1 1 rfl;have hnW:=(hnb.keep hW).keep (Keeps.alloc W (.cells #[.int .i64 xr] 2))
     have hp:=Ld v C (some ⟨W.heap.size,0,none⟩) 1 [xr] (W.alloc (.cells #[.int .i64 xr] 2)) hnW.row (by simpa [i64c] using h1) (by
      intro g hg e;have hg':W.heap.size=g:=Option.some.inj hg;have:=(hnb.row.lt g e).2;have:=hW.size
      omega) (by simp;omega)
     refine hp.mono ?_;rintro e w' ⟨v',rfl,hg⟩;have hnn:=hnW.put hg;rw [show packN [xr]=eight xr by simp [packN]] at hnn;obtain⟨a',c',rfl,_⟩:=Ae hnn.row;rw [List.length_append,Bu] at *;exact⟨a',c',rfl,hnn,(Keeps.alloc (S:=λi=>v.ownBlock=some i) _ _).trans (hg.kp.mono λi _ e=> .inl e)⟩
    have hpw2:=hpw (wr.alloc (.cells #[.int .i64 xr,.bool xg] 120)) (Keeps.alloc _ _);rw [show(wr.alloc (.cells #[.int .i64 xr,.bool xg] 120)).heap.size=wr.heap.size+1 by simp] at hpw2;have hbx:=heap_alloc_new wr (.cells #[.int .i64 xr,.bool xg] 120);clear hpw;have hvb:∀i,v.ownBlock=some i->¬i=wr.heap.size:=λi hi e=>by have:=(hnb.row.lt i hi).2;omega
    obtain⟨Hnb,Hx,HC,HC2,Hpw2,Hbx,Hvb⟩:=hid7 hnb hx hC hC2 hpw2 hbx hvb;clear hvb hbx hpw2 hC2 hC hx hnb
    cases xg
    ·
     go_wp2_with (first|(go_at_call 53;(with_reducible refine Hpw2.out.mono ?_);rintro e w4 ⟨a4,cp4,rfl,hnb4,hk4⟩;have hb4:=Aa ((hk4.block _ (by simp) (λe=>Hvb.out _ e rfl)).trans Hbx.out) 1;have l4:wr.heap.size<w4.heap.size:=(by have:=hk4.size;simp at this;omega);have Hnb4:=Lib.hid hnb4;clear hnb4 hk4)|(at_builtin;refine Ao rfl (.tmp 47) (.tmp 48) 24 rfl 0 5 i0 _ 1 1 Tryz.underlying24 Hi.out Hi0.out Hi1.out Hi2.out rfl j7 (.slice a4 (C.length+8) cp4) (C.length+8) _ rfl ((Hnb4.out.keep (Keeps.alloc _ _)).row' (by simp [Bu])) _ 1 _ rfl (Reads.lit _ _ _ _ _ rfl) jg jd j6 j6 ?_;intro v5 w5 hown5 hk5 hf5))
     have hg5:=(Grown.refl Hnb4.out.row).app (z:=0) rfl (by simp [Bu]) hown5 hk5 (by simpa using hf5);exact j4o
    ·
     go_wp2_with (first|(go_at_call 53;(with_reducible refine Hpw2.out.mono ?_);rintro e w4 ⟨a4,cp4,rfl,hnb4,hk4⟩;have hb4:=Aa ((hk4.block _ (by simp) (λe=>Hvb.out _ e rfl)).trans Hbx.out) 1;have l4:wr.heap.size<w4.heap.size:=(by have:=hk4.size;simp at this;omega);have Hnb4:=Lib.hid hnb4;clear hnb4 hk4)|(at_builtin;refine Ao rfl (.tmp 44) (.tmp 45) 24 rfl 0 5 i0 _ 1 1 Tryz.underlying24 Hi.out Hi0.out Hi1.out Hi2.out rfl j7 (.slice a4 (C.length+8) cp4) (C.length+8) _ rfl ((Hnb4.out.keep (Keeps.alloc _ _)).row' (by simp [Bu])) _ 1 _ rfl (Reads.lit _ _ _ _ _ rfl) jg jd j6 j6 ?_;intro v5 w5 hown5 hk5 hf5))
     have hg5:=(Grown.refl Hnb4.out.row).app (z:=1) rfl (by simp [Bu]) hown5 hk5 (by simpa using hf5);exact j4o
   ·obtain rfl:k=n:=by omega
    rw [<-Hn.out,List.take_length,<-Htp.out] at hnb;have Hnb:=Lib.hid hnb;clear hnb;go_wp2;exact bodyPost_ret (v:= .tuple #[v,.int .i64 0]) (by simp [results,Tryz.results56,go_sem]) rfl ⟨v,rfl,Hnb.out⟩
 ·have hz:(t.err !=0)=true:=by simp [he]
  obtain⟨z,hze⟩:∃z,t.err=z:=⟨_,rfl⟩;rw [if_neg he];rw [hze] at hz he hright⊢;obtain⟨Hw1,Hk1,Hb1,Hright,Hr,Hze,Hn⟩:=hid7 hw1 hk1 hb1 hright hr hze hn;clear hn hze hr hright hb1 hk1 hw1;go_enter Tryz.func56,Tryz.ntmps56
  go_wp2_with (go_at_call 99;rw [<-Hw1.out];(with_reducible refine Hright.out.mono ?_);rintro e w2 ⟨rfl,hk2⟩;have Hk2:=Lib.hid hk2;clear hk2)
  exact bodyPost_ret (v:= .tuple #[.slice none 0 0,.int .i64 z]) (by simp [results,Tryz.results56,go_sem]) rfl ⟨_,rfl,World.ownsRow_nil _ _ _ _,Keeps.nt Hk1.out Hk2.out,by simp [Value.ownBlock]⟩
open Go.RowKit
def inkP(u:Nat)(B:List Int)(p:Pd):Pd:={ p with l:=(inkL u (chunks B.length) B 0 (List.range (chunks B.length)) p.l).map dryL }
theorem Qh(L:List Int):∀z∈packN L,0<=z/\z<=255:=by
 intro z hz;obtain⟨x,_,hx⟩:=List.mem_flatMap.1 hz;exact Ri x z hx
def SvNew(w:World)(P:Nat)(v:Value)(p':Pd)(fl:Int)(u:Nat)(a:Ac)(e:Ending)(w':World):Prop:=∃q R',e= .returned (.tuple #[(.pointer (some ⟨q.S,0,none⟩)),.int .i64 0])/\q.P=P/\q.v=v/\SvAt w' q p' fl u 1 R' a/\Keeps (PFoot P v) w w'/\(∀b,SvF q b->PFoot P v b\/w.heap.size<=b)/\(∀b,q.x.rd b->w.heap.size<=b)
theorem tnB_ok{L:List Tn}:∀z∈L.flatMap tnB,0<=z/\z<=255:=by
 intro z hz;obtain⟨x,_,hx⟩:=List.mem_flatMap.1 hz;unfold tnB at hx;rcases List.mem_append.1 hx with h|h
 ·exact Ri _ z h
 ·have:z=if x.grace then 1 else 0:=by simpa using h
  rw [this]
  split<;>omega
theorem tpack_ok(t:Tm):∀z∈Ee t,0<=z/\z<=255:=by
 intro z hz;unfold Ee at hz;rcases List.mem_append.1 hz with h|h
 ·exact Qh _ z h
 ·exact tnB_ok z h
theorem tpack_len(t:Tm):(Ee t).length=56+9*t.trs.length:=by
 unfold Ee;rw [List.length_append,tnB_len];simp [packN,Tm.nums,Bu]
theorem Xo(t:Tm)(ad:Option Addr)(cap:Nat)(P:Nat)(v:Value)(p:Pd)(w:World)(hr:Reads w 2 (.slice ad t.trs.length cap) t.trs.length (t.trs.flatMap Tn.cells))(hsp:∀g,(Value.slice ad t.trs.length cap).ownBlock=some g->¬PFoot P v g)(hre:Dl t [] t.start=0)(hp:PadAt w P v p)(hd:p.dn=false)(hs:p.sn=0)(hb:∀x∈p.l,x.is=0)(hf:p.fl+1<=1000000)(hroom:chunks (Ee t).length<=p.l.length):
  Calls Tryz.prog 20 #[(.pointer (some ⟨P,0,none⟩)),t.val (.slice ad t.trs.length cap)] w (SvNew w P v (inkP 0 (Ee t) p) p.fl (chunks (Ee t).length) (acNew t)):=by
 have hz:=(Ea hre).tm;have hl8:=Zo hz;have hlen:=tpack_len t;have hpk:=λW (hW:Keeps (λ_=>False) w W)=>Mx t ad cap W (hr.keeps hW (λ_ _ h=>h)) j6;rw [hz] at hpk;simp only [if_true] at hpk;have hnew:=λW (hW:Reads W 2 (.slice ad t.trs.length cap) t.trs.length (t.trs.flatMap Tn.cells))=>accNew_ok t _ W hW hre;obtain⟨B,hB⟩:∃B,Ee t=B:=⟨_,rfl⟩;have hBok:=tpack_ok t;obtain⟨A,hA⟩:∃A,acNew t=A:=⟨_,rfl⟩;rw [hB] at hlen hroom hpk hBok;rw [hB,hA];unfold NewAc at hnew;rw [hA] at hnew;obtain⟨li,cy,du,mf,mp,st,trs⟩:=t;simp only [Tm.val] at hr hsp hpk hnew hl8 hlen⊢;obtain⟨n,hn⟩:∃n,trs.length=n:=⟨_,rfl⟩;rw [hn] at hr hsp hpk hnew hl8 hlen⊢;clear hB hA;obtain⟨Hr,Hsp,Hpk,Hnew,Hp,Hb,HBok,Hlen,Hroom⟩:=hid9 hr hsp hpk hnew hp hb hBok hlen hroom;clear hroom hlen hBok hb hp hnew hpk hsp hr;obtain⟨Hn,Hz,Hre⟩:=hid3 hn hz hre;clear hre hz hn;go_enter Tryz.func20,Tryz.ntmps20;go_wp2_with fail;refine Ay 0 rfl ?_;go_wp2_with fail;refine(Hpk.out _ (Keeps.alloc _ _)).mono ?_;rintro e w1 ⟨vb,rfl,hnb⟩;have hrow1:=hnb.row;have hkw1:=Keeps.nt (Keeps.alloc (S:=λ_=>False) w (.cells #[.int .i64 li,.slice ad n cap,.int .i64 cy,.int .i64 du,.int .i64 mf,.int .i64 mp,.int .i64 st] 44)) hnb.kp;have hT1:=Ad (heap_alloc_new w (.cells #[.int .i64 li,.slice ad n cap,.int .i64 cy,.int .i64 du,.int .i64 mf,.int .i64 mp,.int .i64 st] 44)) hnb.kp (by simp);have hnw:∀g,vb.ownBlock=some g->w.heap.size<=g:=λg hg=>by have:=hnb.nw g hg;simp at this;omega
 obtain⟨ab,cb,rfl,_,_⟩:=Ae hrow1;have hjo:=λW (hW:Keeps (λ_=>False) w W)=>Aau P v p W (Hp.out.keeps hW (by simp)) hf hd (by rw [hs];decide) Hb.out
 have hst:Df p=p:=by
  obtain⟨l0,sn0,fl0,dn0⟩:=p;simp only at hs;subst hs;rfl
 rw [hst] at hjo
 have hfw:∀k,PFoot P v k->k<w.heap.size:=by
  rintro k (rfl|hk)
  ·exact lt_of_block Hp.out.blk
  ·exact(Hp.out.row.lt k hk).2
 have hlt1:=lt_of_block hT1;clear hnb hst;obtain⟨Hrow1,Hkw1,HT1,Hnw,Hjo⟩:=hid5 hrow1 hkw1 hT1 hnw hjo;clear hjo hnw hT1 hkw1 hrow1;go_wp2_with fail;have hS2:=heap_alloc_new w1 (.cells #[(.pointer (some ⟨P,0,none⟩)),.pointer none,.pointer none] 112);have hkw2:=Keeps.nt Hkw1.out j4p;refine(Hjo.out _ hkw2).mono ?_;rintro e w3 ⟨J,rfl,hJl,hj3,hp3,hk3⟩;obtain⟨S,hS⟩:∃S,S=w1.heap.size:=⟨_,rfl⟩;rw [<-hS] at hS2⊢;have hSl:w.heap.size<S:=j8;have hJS:S<J:=by simp at hJl;omega
 have nS:¬PFoot P v S:=λe=>by have:=hfw _ e;omega
 have hS3:=Ad hS2 hk3 nS;have hkw3:Keeps (PFoot P v) w w3:=(hkw2.mono (by simp)).trans (hk3.mono λi _ e=> .inl e);have hT3:=Ad (Ad HT1.out j4p (by simp)) hk3 (λe=>by have:=hfw _ e;omega);have hrow3:=hk3.row ((Keeps.alloc (S:=λ_=>False) w1 (.cells #[(.pointer (some ⟨P,0,none⟩)),.pointer none,.pointer none] 112)).row Hrow1.out (by simp)) (λk hk e=>by have:=Hnw.out k hk;have:=hfw k e;omega);have s1:=Aa hS3 1;have f1:=Ab hS3 1;have sl:=lt_of_block hS3;clear hS2 hk3 hJl hkw2;obtain⟨Hj3,Hp3,HS3,Hkw3,HT3,Hrow3,HS⟩:=hid7 hj3 hp3 hS3 hkw3 hT3 hrow3 hS;clear hS hrow3 hT3 hkw3 hS3 hp3 hj3
 go_upto_region 8 with fail
 refine Qx λw4 hw4=> ?_;have hk4:Keeps (λi=>i=S) w3 w4:=by rw [hw4];exact Keeps.setCell _ _ _ rfl
 have hS4:w4.heap[S]?=some (.cells #[(.pointer (some ⟨P,0,none⟩)),(.pointer (some ⟨J,0,none⟩)),.pointer none] 112 (0,0)):=by rw [hw4];exact(heap_setCell_same _ _ 1 _ _ (.pointer (some ⟨J,0,none⟩)) HS3.out).trans rfl
 have hT4:=Ad HT3.out hk4 (by show¬w.heap.size=S;omega);have hj4:JrnAt w4 J P p.fl (.slice none 0 0) 0:=⟨Ad Hj3.out.blk hk4 (by show¬J=S;omega)⟩;have hp4:=Hp3.out.keeps hk4 (λk hk e=>by have e':k=S:=e;exact nS (e'▸hk));have hrow4:=hk4.row Hrow3.out (λk hk e=>by have e':k=S:=e;exact Ai Hrow3.out HS3.out j7 (e'▸hk));have hkw4:Keeps (PFoot P v) w w4:=Hkw3.out.trans (hk4.mono λi _ e=> .inr j6);have hrd4:Reads w4 2 (.slice ad n cap) n (trs.flatMap Tn.cells):=Hr.out.keepB hkw4 (λg hg _ e=>Hsp.out g hg e);have t0:=Aa hT4 0;have t1:=Aa hT4 1;have t2:=Aa hT4 2;have t3:=Aa hT4 3;have t4:=Aa hT4 4;have t5:=Aa hT4 5;have t6:=Aa hT4 6;have tl:=lt_of_block hT4;clear s1 f1 sl hw4;obtain⟨Hk4,HS4,HT4,Hj4,Hp4,Hrow4,Hkw4,Hrd4⟩:=hid8 hk4 hS4 hT4 hj4 hp4 hrow4 hkw4 hrd4;clear hrd4 hkw4 hrow4 hp4 hj4 hT4 hS4 hk4;go_wp2_with fail;refine(Hnew.out w4 Hrd4.out).mono ?_;rintro e w5 ⟨Ba,x,rfl,hA5,hk5,hf5⟩;have hS5:=Ad HS4.out hk5 (by simp);have s2:=Aa hS5 2;have f2:=Ab hS5 2;have sl:=lt_of_block hS5;clear t0 t1 t2 t3 t4 t5 t6 tl;obtain⟨HA5,Hk5,Hf5,HS5⟩:=hid4 hA5 hk5 hf5 hS5;clear hS5 hf5 hk5 hA5
 go_upto_region 10 with fail
 refine Qx λw6 hw6=> ?_;have hk6:Keeps (λi=>i=S) w5 w6:=by rw [hw6];exact Keeps.setCell _ _ _ rfl
 have hS6:w6.heap[S]?=some (.cells #[(.pointer (some ⟨P,0,none⟩)),(.pointer (some ⟨J,0,none⟩)),(.pointer (some ⟨Ba,0,none⟩))] 112 (0,0)):=by rw [hw6];exact(heap_setCell_same _ _ 2 _ _ (.pointer (some ⟨Ba,0,none⟩)) HS5.out).trans rfl
 have hk46:Keeps (λi=>i=S) w4 w6:=(Hk5.out.mono (by simp)).trans (hk6.mono λi _ e=> .inl e);have hj6:JrnAt w6 J P p.fl (.slice none 0 0) 0:=⟨Ad Hj4.out.blk hk46 (by show¬J=S;omega)⟩;have hp6:=Hp4.out.keeps hk46 (λk hk e=>by have e':k=S:=e;exact nS (e'▸hk));have hrow6:=hk46.row Hrow4.out (λk hk e=>by have e':k=S:=e;exact Ai Hrow4.out HS4.out j7 (e'▸hk));have hkw6:Keeps (PFoot P v) w w6:=Hkw4.out.trans (hk46.mono λi _ e=> .inr j6)
 have hA6:=HA5.out.keeps hk6 λb hb e=>by
  have e':b=S:=e;have hy:TyAt w5 b 112:=by rw [e'];exact⟨_,_,HS5.out⟩
  exact absurd (HA5.out.ty hb hy) j7
 have hjr:=Yd J P p.fl 0 w6 hj6
 have hadd:=jAdd_ok J P 0 B.length 0 v p p.fl (.slice none 0 0) [] ab cb B w6 hj6 (World.ownsRow_nil _ _ _ _) j7 hp6 hd rfl hs rfl (Reads.Az hrow6) (λk hk e=>by have:=Hnw.out k hk;have:=hfw k e;omega) HBok.out (by have:=Hlen.out;omega) (by have:=Hlen.out;omega) (by have:=Hroom.out;omega) hf (λi _ hi=>by
  obtain⟨y,hy⟩:=Aq (show i<p.l.length by have:=Hroom.out;omega)
  exact⟨y,hy,Hb.out y (List.mem_of_getElem? hy)⟩)
 have s1:=Aa hS6 1;have sl6:=lt_of_block hS6;clear s2 f2 sl hw6;obtain⟨Hk6,HS6,Hk46,Hj6,Hp6,Hrow6,Hkw6,HA6,Hjr⟩:=hid9 hk6 hS6 hk46 hj6 hp6 hrow6 hkw6 hA6 hjr;clear hjr hA6 hkw6 hrow6 hp6 hj6 hk46 hS6 hk6;have Hadd:=Lib.hid hadd;clear hadd;go_wp2_with fail;refine Hjr.out.mono ?_;rintro e w6' ⟨rfl,hw6'⟩;subst hw6';go_wp2_with fail;refine Hadd.out.mono ?_;rintro e w7 ⟨rfl,vl',R',hj7,hr7,hp7,hk7,hv7⟩
 have hty:∀k,(k=J\/PFoot P v k\/(Value.slice none 0 0).ownBlock=some k)->∃t∈ [168,106,149],TyAt w6' k t:=by
  rintro k (rfl|(rfl|hk)|hk)
  ·exact⟨_,by decide,_,_,Hj6.out.blk⟩
  ·exact⟨_,by decide,_,_,Hp6.out.blk⟩
  ·exact⟨_,by decide,.row Hp6.out.row hk⟩
  ·simp [Value.ownBlock] at hk
 have hS7:=Ad HS6.out hk7 (λe=>by
  obtain⟨t,ht,hy⟩:=hty S e;have:=hy.eq ⟨_,_,HS6.out⟩;subst this
  exact absurd ht (by decide))
 have hA7:=HA6.out.keeps hk7 λb hb e=>by
  obtain⟨t,ht,hy⟩:=hty b e;have hm:=HA6.out.ty hb hy;simp only [List.mem_cons,List.not_mem_nil,or_false] at ht;rcases ht with rfl|rfl|rfl<;>exact absurd hm j7
 have hkw7:Keeps (PFoot P v) w w7:=Hkw6.out.trans (hk7.mono λi _ e=>by
  rcases e with e|e|e
  ·exact .inr j6
  ·exact .inl e
  ·simp [Value.ownBlock] at e)
 have hs4:=Hkw4.out.size;have hs6:=Hkw6.out.size
 have hfin:SvNew w P v (inkP 0 B p) p.fl (chunks B.length) A (.returned (.tuple #[(.pointer (some ⟨S,0,none⟩)),.int .i64 0])) w7:=⟨⟨S,P,J,Ba,v,vl',x⟩,R',rfl,rfl,rfl,⟨hS7,hp7,by rw [Nat.zero_add] at hj7;exact hj7,hr7,hA7⟩,hkw7,λb hb=>by
  rcases hb with e|(e|e|e)|e
  ·exact .inr (by have e':b=S:=e;omega)
  ·exact .inr (by have e':b=J:=e;omega)
  ·exact .inl e
  ·rcases hv7 b e with e2|e2
   ·simp [Value.ownBlock] at e2
   ·exact .inr j6
  ·have:=Hf5.out b (.inl e);exact .inr (by omega),λb hb=>by have:=Hf5.out b (.inr hb);omega⟩
 clear hty hS7 hA7 hkw7 hj7 hr7 hp7 hk7 hv7 s1 sl6;have Hfin:=Lib.hid hfin;clear hfin;go_wp2;refine Bq ?_;exact bodyPost_ret (v:= .tuple #[(.pointer (some ⟨S,0,none⟩)),.int .i64 0]) (by simp [results,Tryz.results20,go_sem]) rfl Hfin.out
end
section
open Go.RowKit
theorem Ua(u c:Nat)(B:List Int)(l:List Lf)(i:Nat):∀n,(inkL u c B 0 (List.range n) l)[i]?=if u<=i/\i<u+n then(l[i]?).map (λ_=>⟨1,pgR i (i-u==0) (i-u+1==c) ((B.drop ((i-u)*41)).take 41)⟩) else l[i]?
 |0=>by rw [if_neg (by omega)];rfl
 |n+1=>by
  rw [List.range_succ,Mo,List.length_range,Nat.zero_add,List.getElem?_set,Ua u c B l i n,Lu];by_cases h:u+n=i
  ·subst h;rw [if_pos rfl,if_pos (show u<=u+n/\u+n<u+(n+1) by omega),show u+n-u=n by omega];by_cases hl:u+n<l.length
   ·rw [if_pos hl,List.getElem?_eq_getElem hl];rfl
   ·rw [if_neg hl,List.getElem?_eq_none (by omega)];rfl
  ·rw [if_neg h];by_cases h2:u<=i/\i<u+n
   ·rw [if_pos h2,if_pos (by omega)]
   ·rw [if_neg h2,if_neg (by omega)]
theorem Aaz(u:Nat)(B:List Int)(p:Pd):(inkP u B p).l.length=p.l.length:=by simp [inkP,Lu]
theorem inkP_get(u:Nat)(B:List Int)(p:Pd)(i:Nat):(inkP u B p).l[i]?=if u<=i/\i<u+chunks B.length then(p.l[i]?).map (λ_=>⟨2,pgR i (i-u==0) (i-u+1==chunks B.length) ((B.drop ((i-u)*41)).take 41)⟩) else(p.l[i]?).map dryL:=by
 unfold inkP;simp only [List.getElem?_map,Ua]
 split
 ·rw [Option.map_map];rfl
 ·rfl
def Used(p:Pd)(u:Nat):Prop:=∀i x,p.l[i]?=some x->(i<u->x.is=2)/\(u<=i->x.is=0)
theorem Used.ink{p:Pd}{u:Nat}(h:Used p u)(B:List Int):Used (inkP u B p) (u+chunks B.length):=by
 intro i x hx;rw [inkP_get] at hx
 split at hx
 ·rename_i hi;rcases hy:p.l[i]? with _|y
  ·rw [hy] at hx;cases hx
  ·rw [hy] at hx;simp only [Option.map_some,Option.some.injEq] at hx;subst hx;exact⟨λ_=>rfl,λh=>by omega⟩
 ·rename_i hi;rcases hy:p.l[i]? with _|y
  ·rw [hy] at hx;cases hx
  ·rw [hy] at hx;simp only [Option.map_some,Option.some.injEq] at hx;subst hx;have:=h i y hy;unfold dryL;refine⟨λhlt=> ?_,λhle=> ?_⟩
   ·have h2:=this.1 j6;rw [if_neg j6];exact h2
   ·have h2:=this.2 j6;rw [if_neg j6];exact h2
theorem used_new(n:Nat):Used ⟨List.replicate n lf0,0,0,false⟩ 0:=by
 intro i x hx;have:x=lf0:=List.eq_of_mem_replicate (List.mem_of_getElem? hx);subst this;exact⟨λh=>by omega,λ_=>rfl⟩
theorem Used.free{p:Pd}{u:Nat}(h:Used p u){i:Nat}(h1:u<=i)(h2:i<p.l.length):∃x,p.l[i]?=some x/\x.is=0:=by
 obtain⟨x,hx⟩:=Aq h2;exact⟨x,hx,(h i x hx).2 h1⟩
theorem Uk:chunks 40=1:=by decide
theorem svDo_ok(q:SvV)(p:Pd)(fl:Int)(u nr:Nat)(RL:List Value)(a:Ac)(c:Cmd)(w:World)(h:SvAt w q p fl u nr RL a)(hs:a.seq<=100000)(hc:chB c=true)(hd:p.dn=false/\p.fl=fl)(hsn:p.sn=0)(hf:p.fl+1<=1000000)(hu:Used p u)(hroom:u+1<=p.l.length)(hnr:nr<=1000000)(hz:a.dz c=0):
  Calls Tryz.prog 28 #[(.pointer (some ⟨q.S,0,none⟩)),.agg #[.int .i64 c.kind,.int .i64 c.day,.int .i64 c.tranche,.int .i64 c.amount,.int .i64 c.ref]] w (SvChg w q (inkP u (packN c.nums) p) fl (u+1) (nr+1) (a.act c) 0 (a.dr c) (a.dc c)):=by
 have hl:(packN c.nums).length=40:=Fz _ _ _ _ _
 have:=svDo_add q p (inkP u (packN c.nums) p) fl 0 u nr (u+1) (nr+1) RL a c w h hs hc hd hz (λV ad cap hj hr hp hrd hsep=>by
  refine(jAdd_ok q.J q.P u 40 nr q.v p fl q.vl RL ad cap (packN c.nums) V hj hr hnr hp hd.1 hd.2 hsn hl hrd hsep (Qh _) j7 j7 (by rw [Uk];exact hroom) hf (λi h1 h2=>hu.free h1 (by rw [Uk] at h2;omega))).mono ?_;rintro e w' ⟨he,vl',R',h1,h2,h3,h4,h5⟩;rw [Uk] at h1;refine⟨he,vl',R',h1,h2, ?_,h4,h5⟩;unfold inkP;rw [hl]
  exact h3)
 simpa using this
def svT:List TypeId:= [112,168,106,149,24,136,60,90]
theorem SvAt.ty{W:World}{q:SvV}{p:Pd}{fl:Int}{u nr:Nat}{RL:List Value}{a:Ac}(h:SvAt W q p fl u nr RL a){b:Nat}(hb:SvF q b){t:TypeId}(ht:TyAt W b t):t∈svT:=by
 rcases hb with rfl|hb|rfl|hb|hb
 ·rw [ht.eq h.tyS];decide
 ·obtain⟨t',ht',hy⟩:=h.tyJ hb;rw [ht.eq hy];simp only [List.mem_cons,List.not_mem_nil,or_false] at ht';rcases ht' with rfl|rfl|rfl|rfl<;>decide
 ·rw [ht.eq ⟨_,_,h.acc.blk⟩];decide
 ·rw [ht.eq (.row h.acc.iss hb)];decide
 ·rw [ht.eq (.row h.acc.adj hb)];decide
structure SvL(w0 W:World)(q:SvV)(p:Pd)(fl:Int)(u nr:Nat)(a:Ac):Prop where
 is:∃RL,SvAt W q p fl u nr RL a
 lo:∀b,SvF q b->w0.heap.size<=b
 kp:Keeps (λ_=>False) w0 W
section
variable {w0 W W':World} {q q':SvV} {p p':Pd} {fl:Int} {u nr u' nr':Nat} {a a':Ac}
theorem SvL.keep(h:SvL w0 W q p fl u nr a)(hk:Keeps (λ_=>False) W W'):SvL w0 W' q p fl u nr a:=by
 obtain⟨RL,h1⟩:=h.is;exact⟨⟨RL,h1.keep0 hk⟩,h.lo,h.kp.nt hk⟩
theorem SvL.box(h:SvL w0 W q p fl u nr a)(hk:Keeps (SvF q) W W'){i:Nat}{C:Array Value}{t:TypeId}{fz:Nat×Nat}(hb:W.heap[i]?=some (.cells C t fz))(ht:t∉svT):W'.heap[i]?=some (.cells C t fz):=by
 obtain⟨RL,h1⟩:=h.is;exact Ad hb hk λe=>ht (h1.ty e ⟨_,_,hb⟩)
theorem SvL.row(h:SvL w0 W q p fl u nr a)(hk:Keeps (SvF q) W W'){base size n:Nat}{e:TypeId}{v:Value}{xs:List Value}(hb:W.ownsRow base e size v n xs)(ht:e∉svT):W'.ownsRow base e size v n xs:=by
 obtain⟨RL,h1⟩:=h.is;exact hk.row hb λk hk e=>ht (h1.ty e (.row hb hk))
theorem SvL.next(h:SvL w0 W q p fl u nr a){R':List Value}(hs:SvAt W' q' p' fl u' nr' R' a')(hn:Newer W q q')(hk:Keeps (SvF q) W W'):SvL w0 W' q' p' fl u' nr' a':=
 ⟨⟨R',hs⟩,λb hb=>(hn.2.2.2.1 b hb).elim (h.lo b) λe=>Nat.le_trans h.kp.size e,h.kp.trans (hk.mono λi _ e=> .inr (h.lo i e))⟩
end
def t25:Tm:=⟨1000,1,20,25,20,10957, [⟨500000,true⟩]⟩
theorem rep25:Dl t25 [] t25.start=0:=by decide+kernel
theorem Qw(w:World):Calls Tryz.prog 21 #[] w λe w'=>∃g,e= .returned (.agg #[.int .i64 1000,.slice (some ⟨g,0,none⟩) 1 1,.int .i64 1,.int .i64 20,.int .i64 25,.int .i64 20,.int .i64 10957])/\w'.ownsRow 0 120 2 (.slice (some ⟨g,0,none⟩) 1 1) 1 (t25.trs.flatMap Tn.cells)/\Keeps (λ_=>False) w w'/\w.heap.size<=g:=by
 go_enter Tryz.func21,Tryz.ntmps21;go_wp2_with fail;have hb:((w.alloc (Obj.cells #[.int .i64 1000,.slice (some ⟨w.heap.size+1,0,none⟩) 1 1,.int .i64 1,.int .i64 20,.int .i64 25,.int .i64 20,.int .i64 10957] 44)).alloc (Obj.cells #[Value.int IntKind.i64 500000,Value.bool true] 120)).ownsRow 0 120 2 (.slice (some ⟨w.heap.size+1,0,none⟩) 1 1) 1 (t25.trs.flatMap Tn.cells):=⟨rfl,.inr ⟨_,1,_,rfl,Nat.zero_le _,Jb w _ _,Nat.le_refl _,by unfold maxLen;omega,rfl,rfl⟩⟩;exact bodyPost_ret (v:= .agg #[.int .i64 1000,.slice (some ⟨w.heap.size+1,0,none⟩) 1 1,.int .i64 1,.int .i64 20,.int .i64 25,.int .i64 20,.int .i64 10957]) (by simp [results,Tryz.results21,go_sem]) rfl ⟨_,rfl,hb,by(repeat (first|exact Keeps.refl _ _|exact Keeps.alloc _ _|exact Keeps.drew _|exact Keeps.drewN _ _|refine Keeps.Am ?_|refine Keeps.Ak ?_|refine Keeps.Af ?_)),Nat.le_succ _⟩
theorem open25{w0 W:World}{P n g gt:Nat}(hk0:Keeps (λ_=>False) w0 W)(hp:PadAt W P (.slice (some ⟨g,0,none⟩) n n) ⟨List.replicate n lf0,0,0,false⟩)(hP:w0.heap.size<=P)(hg:w0.heap.size<=g)(hn:2<=n)(ht:W.ownsRow 0 120 2 (.slice (some ⟨gt,0,none⟩) 1 1) 1 (t25.trs.flatMap Tn.cells)):
  Calls Tryz.prog 20 #[(.pointer (some ⟨P,0,none⟩)),.agg #[.int .i64 1000,.slice (some ⟨gt,0,none⟩) 1 1,.int .i64 1,.int .i64 20,.int .i64 25,.int .i64 20,.int .i64 10957]] W λe W'=>∃q,e= .returned (.tuple #[(.pointer (some ⟨q.S,0,none⟩)),.int .i64 0])/\q.P=P/\SvL w0 W' q (inkP 0 (Ee t25) ⟨List.replicate n lf0,0,0,false⟩) 0 2 1 (acNew t25)/\Keeps (λi=>w0.heap.size<=i) W W':=by
 have hl:chunks (Ee t25).length=2:=by decide+kernel
 have:=Xo t25 (some ⟨gt,0,none⟩) 1 P _ _ W (Reads.Az ht) (λb hb=>by
  rintro(e|e)
  ·exact Ai ht hp.blk j7 (e▸hb)
  ·exact Eu ht hp.row (by decide) hb e) rep25 hp rfl rfl (λx hx=>by rw [List.eq_of_mem_replicate hx];rfl) (by show(0:Int)+1<=1000000;decide) (by rw [hl];simpa using hn)
 refine this.mono ?_;rintro e W' ⟨q,R',rfl,hqP,hqv,hS,hk,hf,hr⟩;rw [hl] at hS
 have hlo:∀b,PFoot P (.slice (some ⟨g,0,none⟩) n n) b->w0.heap.size<=b:=by
  rintro b (rfl|e)
  ·exact hP
  ·have:g=b:=Option.some.inj e;omega
 have hs:=hk0.size;refine⟨q,rfl,hqP,⟨⟨R',hS⟩,λb hb=>(hf b hb).elim (hlo b) λe=>by omega,hk0.trans (hk.mono λi _ e=> .inr (hlo i e))⟩,hk.mono λi _ e=>hlo i e⟩
theorem aw25:(acNew t25).dz ⟨1,0,1,5,0⟩=0/\(acNew t25).dr ⟨1,0,1,5,0⟩=0/\(acNew t25).dc ⟨1,0,1,5,0⟩=0/\((acNew t25).act ⟨1,0,1,5,0⟩).seq=1/\((acNew t25).act ⟨1,0,1,5,0⟩).s.p.bal= [5]:=by decide+kernel
end
open Go.RowKit
theorem Gp(w:World):Calls Tryz.prog 11 #[] w λe w'=>e= .returned (.bool true)/\Keeps (λ_=>False) w w':=by
 have hnew:=Aar 100 w j7 j7;rw [show(((100:Nat):Int))=100 from rfl] at hnew;obtain⟨A,hA⟩:∃A,acNew t25=A:=⟨_,rfl⟩;obtain⟨A5,hA5⟩:∃A5,A.act ⟨1,0,1,5,0⟩=A5:=⟨_,rfl⟩;have haw:=aw25;rw [hA,hA5] at haw;obtain⟨p1,p2,p3,p4,p5⟩:=haw;have hsq:A.seq=0:=by rw [<-hA];rfl
 obtain⟨Hnew,HA,HA5,P1,P2,P3,P4,P5,Hsq⟩:=hid9 hnew hA hA5 p1 p2 p3 p4 p5 hsq;clear hsq p5 p4 p3 p2 p1 hA5 hA hnew;go_enter Tryz.func11,Tryz.ntmps11;go_wp2_with fail;refine Hnew.out.mono ?_;rintro e w1 ⟨g,rfl,hp1,hk1,hg⟩;obtain⟨Hp1,Hk1,Hg⟩:=hid3 hp1 hk1 hg;clear hg hk1 hp1;go_wp2_with fail;refine(Qw w1).mono ?_;rintro e w2 ⟨gt,rfl,ht2,hk2,_⟩;have hop:=open25 (w0:=w) (Hk1.out.nt hk2) (Hp1.out.keeps hk2 (by simp)) (Nat.le_succ _) (by rw [Hg.out];exact Nat.le_refl _) j7 ht2;rw [HA.out] at hop;clear ht2;obtain⟨Hop,Hk2⟩:=hid2 hop hk2;clear hk2 hop;go_wp2_with fail;refine Hop.out.mono ?_;rintro e w3 ⟨q,rfl,hqP,hL3,hk3⟩;obtain⟨p,hp⟩:∃p,inkP 0 (Ee t25) ⟨List.replicate 100 lf0,0,0,false⟩=p:=⟨_,rfl⟩
 have hus:Used p 2:=by
  have:=(used_new 100).ink (Ee t25);rw [show chunks (Ee t25).length=2 by decide+kernel,hp] at this;exact this
 have hpl:p.l.length=100:=by rw [<-hp,Aaz,List.length_replicate]
 have hpd:p.dn=false/\p.fl=0:=by rw [<-hp];exact⟨rfl,rfl⟩
 have hps:p.sn=0:=by rw [<-hp];rfl
 rw [hp] at hL3;obtain⟨RL,hS3⟩:=hL3.is;have hdo:=svDo_ok q p 0 2 1 RL A ⟨1,0,1,5,0⟩ w3 hS3 (by rw [Hsq.out];decide) j7 hpd hps (by rw [hpd.2];decide) hus (by rw [hpl];decide) j7 P1.out;rw [P2.out,P3.out,HA5.out] at hdo;simp only at hdo;obtain⟨p',hp'⟩:∃p',inkP 2 (packN (Cmd.nums ⟨1,0,1,5,0⟩)) p=p':=⟨_,rfl⟩;rw [hp'] at hdo;clear hk3 hqP hus hpl hpd hps hS3;obtain⟨HL3,Hdo,Hp,Hp'⟩:=hid4 hL3 hdo hp hp';clear hp' hp hdo hL3;go_wp2_with fail;refine Hdo.out.mono ?_;rintro e w4 ⟨rfl,q4,R4,hS4,hn4,hk4⟩;have hL4:=HL3.out.next hS4 hn4 hk4;have hqS:=hn4.1;have hput:=setRow_heap (w4.alloc (.cells #[.int .i64 0,.int .i64 0,.int .i64 0,.int .i64 0,.int .i64 0,.slice none 0 0,.int .i64 0,.int .i64 0,.slice none 0 0,.slice none 0 0,.int .i64 0,.int .i64 0,.int .i64 0,.int .i64 0,.int .i64 0,.slice none 0 0,.int .i64 0,.int .i64 0,.int .i64 0,.bool false] 62)) w4.heap.size #[.int .i64 0,.int .i64 0,.int .i64 0,.int .i64 0,.int .i64 0,.slice none 0 0,.int .i64 0,.int .i64 0,.slice none 0 0,.slice none 0 0,.int .i64 0,.int .i64 0,.int .i64 0,.int .i64 0,.int .i64 0,.slice none 0 0,.int .i64 0,.int .i64 0,.int .i64 0,.bool false] #[.int .i64 0,.int .i64 0,.int .i64 0,.int .i64 0,.int .i64 0,.slice none 0 0,.int .i64 0,.int .i64 0,.slice none 0 0,.slice none 0 0,.int .i64 0,.int .i64 0,.int .i64 0,.int .i64 0,.int .i64 0,.slice none 0 0,.int .i64 0,.int .i64 0,.int .i64 0,.bool false] 62 _ (heap_alloc_new w4 _);clear hS4 hn4 hk4;obtain⟨HL4,Hput⟩:=hid2 hL4 hput;clear hput hL4
 go_upto_region 5 with(refine wpList_store_row rfl 62 (.tmp 3) (.tmp 18) rfl w4.heap.size #[.int .i64 0,.int .i64 0,.int .i64 0,.int .i64 0,.int .i64 0,.slice none 0 0,.int .i64 0,.int .i64 0,.slice none 0 0,.slice none 0 0,.int .i64 0,.int .i64 0,.int .i64 0,.int .i64 0,.int .i64 0,.slice none 0 0,.int .i64 0,.int .i64 0,.int .i64 0,.bool false] rfl rfl 62 #[.int .i64 0,.int .i64 0,.int .i64 0,.int .i64 0,.int .i64 0,.slice none 0 0,.int .i64 0,.int .i64 0,.slice none 0 0,.slice none 0 0,.int .i64 0,.int .i64 0,.int .i64 0,.int .i64 0,.int .i64 0,.slice none 0 0,.int .i64 0,.int .i64 0,.int .i64 0,.bool false] (heap_alloc_new w4 _) Aw rfl (Dr _ _ _) ?_)
 refine Qx λw5 hw5=> ?_;rw [<-hw5] at Hput;have hk5:Keeps (λ_=>False) w4 w5:=by rw [hw5];exact(Keeps.alloc w4 _).trans ((Co _ _ _).mono λi _ e=> .inr (by have e':i=w4.heap.size:=e;omega))
 have hb5:=Hput.out;have t0:=Aa hb5 0;have tl:=lt_of_block hb5;have hL5:=HL4.out.keep hk5;clear hw5 Hput;obtain⟨R5,hS5⟩:=hL5.is;have hac:=λW (hW:Keeps (λ_=>False) w5 W)=>Ve q4 p' 0 (2+1) (1+1) R5 A5 W (hS5.keep0 hW) (by rw [P4.out];decide);rw [hqS] at hac;clear hS5;obtain⟨Hk5,Hb5,HL5,Hac⟩:=hid4 hk5 hb5 hL5 hac;clear hac hL5 hb5 hk5;go_wp2_with fail;refine(Hac.out w5 (Keeps.refl _ _)).mono ?_;rintro e w6 ⟨F,x6,rfl,hA6,hk6,_⟩;clear t0 tl hA6;have Hk6:=Lib.hid hk6;clear hk6;go_wp2_with fail;refine(Hac.out w6 Hk6.out).mono ?_;rintro e w7 ⟨F7,x7,rfl,hA7,hk7,_⟩;obtain⟨td,htd⟩:∃x,A5.today=x:=⟨_,rfl⟩;obtain⟨cy,hcy⟩:∃x,A5.cyc A5.today=x:=⟨_,rfl⟩;obtain⟨cr,hcr⟩:∃x,A5.s.p.cr=x:=⟨_,rfl⟩;obtain⟨du,hdu⟩:∃x,A5.s.p.du=x:=⟨_,rfl⟩;obtain⟨n1,hn1⟩:∃x,A5.s.p.bal.length=x:=⟨_,rfl⟩;obtain⟨m,hm⟩:∃x,A5.s.R.length=x:=⟨_,rfl⟩;obtain⟨k,hk⟩:∃x,A5.D.length=x:=⟨_,rfl⟩;have hst:=at_st hA7 htd hcy P4.out hcr hdu hn1 hm hk;unfold StL at hst;clear hA7;obtain⟨Hk7,Hst,Htd,Hcy,Hcr,Hdu,Hn1,Hm,Hk⟩:=hid9 hk7 hst htd hcy hcr hdu hn1 hm hk;clear hk hm hn1 hdu hcr hcy htd hst hk7;go_wp2_with fail;refine Hst.out.mono ?_;rintro e w8 ⟨a1,c1,a2,c2,a3,c3,rfl,_,_,_,hk8,_⟩;have hfi:∀W,(Instr.field 55 (.agg #[.int .i64 td,.int .i64 cy,.slice a1 n1 c1,.int .i64 cr,.int .i64 du,.slice a2 m c2,.slice a3 k c3,.int .i64 1]) 5).run Tryz.prog W= .ok (.int .i64 1) W:=λ_=>by kernel_rfl
 have hpk:=Nq ⟨0,0,0,0,0⟩ w8;unfold Px at hpk;rw [show(packN (Cmd.nums ⟨0,0,0,0,0⟩)).length=40 by decide+kernel] at hpk;simp only at hpk;obtain⟨Hk8,Hpk⟩:=hid2 hk8 hpk;clear hpk hk8;go_wp2_with fail;refine Hpk.out.mono ?_;rintro e w9 ⟨vb,rfl,hrow,hk9,_⟩;obtain⟨ab,cb,rfl,_,_⟩:=Ae hrow;have hkf:=HL5.out.kp.nt (((Hk6.out.nt Hk7.out).nt Hk8.out).nt hk9);clear hrow hk9 hfi;have Hkf:=Lib.hid hkf;clear hkf;go_wp2;go_ret;exact⟨rfl,Hkf.out⟩
theorem Vh(td cy cr du sq:Int)(L M:List Int)(D:List Disp)(n m q:Nat)(a1 a2 a3 b1 b2 b3:Option Addr)(c1 c2 c3 d1 d2 d3:Nat)(w:World)(hn:L.length=n)(hm:M.length=m)(hq:D.length=q)(hl:n<=1000000/\m<=1000000/\q<=1000000)
  (h1:Reads w 1 (.slice a1 n c1) n (L.flatMap i64c)) (h2:Reads w 1 (.slice a2 m c2) m (M.flatMap i64c)) (h3:Reads w 5 (.slice a3 q c3) q (D.flatMap Disp.cells)) (k1:Reads w 1 (.slice b1 n d1) n (L.flatMap i64c)) (k2:Reads w 1 (.slice b2 m d2) m (M.flatMap i64c)) (k3:Reads w 5 (.slice b3 q d3) q (D.flatMap Disp.cells)):
  Calls Tryz.prog 29 #[.agg #[.int .i64 td,.int .i64 cy,.slice a1 n c1,.int .i64 cr,.int .i64 du,.slice a2 m c2,.slice a3 q c3,.int .i64 sq],.agg #[.int .i64 td,.int .i64 cy,.slice b1 n d1,.int .i64 cr,.int .i64 du,.slice b2 m d2,.slice b3 q d3,.int .i64 sq]] w
   λe w'=>e= .returned (.bool true)/\Keeps (λ_=>False) w w':=by
 obtain⟨l1,l2,l3⟩:=hl;have hp:=λW (hW:Keeps (λ_=>False) w W)=>Zz L n a1 b1 c1 d1 cr du W hn (h1.keeps hW (by simp)) (k1.keeps hW (by simp)) j6;have hr:=λW (hW:Keeps (λ_=>False) w W)=>Nb M (.slice a2 m c2) (.slice b2 m d2) W (by rw [hm];exact h2.keeps hW (by simp)) (by rw [hm];exact k2.keeps hW (by simp)) j6;have hd:=λW (hW:Keeps (λ_=>False) w W)=>Tk D (.slice a3 q c3) (.slice b3 q d3) W (by rw [hq];exact h3.keeps hW (by simp)) (by rw [hq];exact k3.keeps hW (by simp)) j6;obtain⟨W0,hW0⟩:∃x,x=(w.alloc (.cells #[.int .i64 td,.int .i64 cy,.slice a1 n c1,.int .i64 cr,.int .i64 du,.slice a2 m c2,.slice a3 q c3,.int .i64 sq] 55)).alloc (.cells #[.int .i64 td,.int .i64 cy,.slice b1 n d1,.int .i64 cr,.int .i64 du,.slice b2 m d2,.slice b3 q d3,.int .i64 sq] 55):=⟨_,rfl⟩;have hx:∀W,Keeps (λ_=>False) W0 W->W.heap[w.heap.size]?=some (.cells #[.int .i64 td,.int .i64 cy,.slice a1 n c1,.int .i64 cr,.int .i64 du,.slice a2 m c2,.slice a3 q c3,.int .i64 sq] 55 (0,0)):=λW hW=>Ad (by rw [hW0];exact Ar (heap_alloc_new w _) _) hW (by simp);have hy:∀W,Keeps (λ_=>False) W0 W->W.heap[w.heap.size+1]?=some (.cells #[.int .i64 td,.int .i64 cy,.slice b1 n d1,.int .i64 cr,.int .i64 du,.slice b2 m d2,.slice b3 q d3,.int .i64 sq] 55 (0,0)):=λW hW=>Ad (by rw [hW0];exact Av _ _ (by simp)) hW (by simp);have hk0:Keeps (λ_=>False) w W0:=by rw [hW0];(repeat (first|exact Keeps.refl _ _|exact Keeps.alloc _ _|exact Keeps.drew _|exact Keeps.drewN _ _|refine Keeps.Am ?_|refine Keeps.Ak ?_|refine Keeps.Af ?_))
 obtain⟨Hn,Hm,Hq,H1,H2,H3,K1,K2,K3⟩:=hid9 hn hm hq h1 h2 h3 k1 k2 k3;clear k3 k2 k1 h3 h2 h1 hq hm hn;obtain⟨Hp,Hr,Hd,Hx,Hy,Hk0⟩:=hid6 hp hr hd hx hy hk0;clear hk0 hy hx hd hr hp;go_enter Tryz.func29,Tryz.ntmps29;go_wp2_with fail;rw [<-hW0];clear hW0;refine(Hp.out W0 Hk0.out).mono ?_;rintro e w1 ⟨rfl,hk1⟩;have x5:=Aa (Hx.out w1 hk1) 5;have y5:=Aa (Hy.out w1 hk1) 5;have xl:=lt_of_block (Hx.out w1 hk1);have yl:=lt_of_block (Hy.out w1 hk1);have Hk1:=Lib.hid hk1;clear hk1;go_wp2_with fail;refine(Hr.out w1 (Hk0.out.nt Hk1.out)).mono ?_;rintro e w2 ⟨rfl,hk2⟩;clear x5 y5 xl yl;have hk12:=Hk1.out.nt hk2;have x6:=Aa (Hx.out w2 hk12) 6;have y6:=Aa (Hy.out w2 hk12) 6;have xl:=lt_of_block (Hx.out w2 hk12);have yl:=lt_of_block (Hy.out w2 hk12);have Hk12:=Lib.hid hk12;clear hk12 hk2;go_wp2_with fail;refine(Hd.out w2 (Hk0.out.nt Hk12.out)).mono ?_;rintro e w3 ⟨rfl,hk3⟩;clear x6 y6 xl yl;have hk13:=Hk12.out.nt hk3;have x7:=Aa (Hx.out w3 hk13) 7;have y7:=Aa (Hy.out w3 hk13) 7;have xl:=lt_of_block (Hx.out w3 hk13);have yl:=lt_of_block (Hy.out w3 hk13);have Hk13:=Lib.hid hk13;clear hk13 hk3;go_wp2;go_ret;exact⟨rfl,Hk0.out.nt Hk13.out⟩
theorem Aa0(z:Int)(a1 a2 a3 a4:Option Addr)(c1 c2 c3 c4:Nat)(w:World)(h1:Reads w 1 (.slice a1 0 c1) 0 [])(h2:Reads w 1 (.slice a2 0 c2) 0 [])(h3:Reads w 5 (.slice a3 0 c3) 0 [])(h4:Reads w 3 (.slice a4 0 c4) 0 []):
  Calls Tryz.prog 27 #[.agg #[.int .i64 z,.int .i64 0,.int .i64 0,.int .i64 0,.int .i64 0,.slice a1 0 c1,.int .i64 0,.int .i64 0,.slice a2 0 c2,.slice a3 0 c3,.int .i64 0,.int .i64 0,.int .i64 0,.int .i64 0,.int .i64 0,.slice a4 0 c4,.int .i64 0,.int .i64 0,.int .i64 0,.bool false],.agg #[.int .i64 z,.int .i64 0,.int .i64 0,.int .i64 0,.int .i64 0,.slice none 0 0,.int .i64 0,.int .i64 0,.slice none 0 0,.slice none 0 0,.int .i64 0,.int .i64 0,.int .i64 0,.int .i64 0,.int .i64 0,.slice none 0 0,.int .i64 0,.int .i64 0,.int .i64 0,.bool false]] w
   λe w'=>e= .returned (.bool true)/\Keeps (λ_=>False) w w':=by
 have hs:=λW (hW:Keeps (λ_=>False) w W)=>Vh 0 0 0 0 0 [] [] [] 0 0 0 a1 a2 a3 none none none c1 c2 c3 0 0 0 W rfl rfl rfl j7 (h1.keeps hW (by simp)) (h2.keeps hW (by simp)) (h3.keeps hW (by simp)) (Reads.nil _ _) (Reads.nil _ _) (Reads.nil _ _);have hp:=λW (hW:Keeps (λ_=>False) w W)=>Zy stm00 (.slice a4 0 c4) (.slice none 0 0) W (h4.keeps hW (by simp)) (Reads.nil _ _) j7;simp only [stm00,Stm.val] at hp;obtain⟨W0,hW0⟩:∃x,x=(w.alloc (.cells #[.int .i64 z,.int .i64 0,.int .i64 0,.int .i64 0,.int .i64 0,.slice a1 0 c1,.int .i64 0,.int .i64 0,.slice a2 0 c2,.slice a3 0 c3,.int .i64 0,.int .i64 0,.int .i64 0,.int .i64 0,.int .i64 0,.slice a4 0 c4,.int .i64 0,.int .i64 0,.int .i64 0,.bool false] 62)).alloc (.cells #[.int .i64 z,.int .i64 0,.int .i64 0,.int .i64 0,.int .i64 0,.slice none 0 0,.int .i64 0,.int .i64 0,.slice none 0 0,.slice none 0 0,.int .i64 0,.int .i64 0,.int .i64 0,.int .i64 0,.int .i64 0,.slice none 0 0,.int .i64 0,.int .i64 0,.int .i64 0,.bool false] 62):=⟨_,rfl⟩;have hx:∀W,Keeps (λ_=>False) W0 W->W.heap[w.heap.size]?=some (.cells #[.int .i64 z,.int .i64 0,.int .i64 0,.int .i64 0,.int .i64 0,.slice a1 0 c1,.int .i64 0,.int .i64 0,.slice a2 0 c2,.slice a3 0 c3,.int .i64 0,.int .i64 0,.int .i64 0,.int .i64 0,.int .i64 0,.slice a4 0 c4,.int .i64 0,.int .i64 0,.int .i64 0,.bool false] 62 (0,0)):=λW hW=>Ad (by rw [hW0];exact Ar (heap_alloc_new w _) _) hW (by simp);have hy:∀W,Keeps (λ_=>False) W0 W->W.heap[w.heap.size+1]?=some (.cells #[.int .i64 z,.int .i64 0,.int .i64 0,.int .i64 0,.int .i64 0,.slice none 0 0,.int .i64 0,.int .i64 0,.slice none 0 0,.slice none 0 0,.int .i64 0,.int .i64 0,.int .i64 0,.int .i64 0,.int .i64 0,.slice none 0 0,.int .i64 0,.int .i64 0,.int .i64 0,.bool false] 62 (0,0)):=λW hW=>Ad (by rw [hW0];exact Av _ _ (by simp)) hW (by simp);have hk0:Keeps (λ_=>False) w W0:=by rw [hW0];(repeat (first|exact Keeps.refl _ _|exact Keeps.alloc _ _|exact Keeps.drew _|exact Keeps.drewN _ _|refine Keeps.Am ?_|refine Keeps.Ak ?_|refine Keeps.Af ?_))
 obtain⟨H1,H2,H3,H4,Hs,Hp,Hx,Hy,Hk0⟩:=hid9 h1 h2 h3 h4 hs hp hx hy hk0;clear hk0 hy hx hp hs h4 h3 h2 h1;go_enter Tryz.func27,Tryz.ntmps27;go_wp2_with fail;rw [<-hW0];clear hW0;refine(Hs.out W0 Hk0.out).mono ?_;rintro e w1 ⟨rfl,hk1⟩;have hx1:=Hx.out w1 hk1;have hy1:=Hy.out w1 hk1;have xl:=lt_of_block hx1;have yl:=lt_of_block hy1;have x11:=Aa hx1 11;have x12:=Aa hx1 12;have x13:=Aa hx1 13;have x14:=Aa hx1 14;have x15:=Aa hx1 15;have x16:=Aa hx1 16;have x17:=Aa hx1 17;have x18:=Aa hx1 18;have x19:=Aa hx1 19;have y11:=Aa hy1 11;have y12:=Aa hy1 12;have y13:=Aa hy1 13;have y14:=Aa hy1 14;have y15:=Aa hy1 15;have y16:=Aa hy1 16;have y17:=Aa hy1 17;have y18:=Aa hy1 18;have y19:=Aa hy1 19;obtain⟨Hk1,Hx1,Hy1⟩:=hid3 hk1 hx1 hy1;clear hy1 hx1 hk1;go_wp2_with fail;refine(Hp.out w1 (Hk0.out.nt Hk1.out)).mono ?_;rintro e w2 ⟨rfl,hk2⟩;have hkf:=(Hk0.out.nt Hk1.out).nt hk2;clear hk2;have Hkf:=Lib.hid hkf;clear hkf;go_wp2;go_ret;exact⟨rfl,Hkf.out⟩
end Go.Proofs.YtgbgmadkmabeeaaGreat
