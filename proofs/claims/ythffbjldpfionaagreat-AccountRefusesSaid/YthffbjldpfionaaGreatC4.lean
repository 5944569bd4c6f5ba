/- Part 4 of what the laws of this seat share: walks of functions, and plain laws. -/
import Derived.Test.YthffbjldpfionaaGreatC3
namespace Go.Proofs.YthffbjldpfionaaGreat
open Go.RowKit
theorem jZ23{P:Prop}(h:P:=by
 have hfx:=hrow4.free k
 have hnew:=hrow4.set hlt z
 rw [zeros_set HPl.out hlt] at hnew
 have hkn4:Keeps (fun i=>i=g0) W2 (w4.setCell ⟨g0,k,none⟩ (.int .i64 z)):=hkg4.trans (Keeps.setCell _ _ _ (.inl rfl))
 obtain⟨old,hold⟩:=Av (L:=zeros n k P) (k:=k) (by rw [hrow4.2];exact hlt)
 have hcx:=hrow4.cell hold
 have hlx:=hrow4.lt
 clear hs3
 obtain⟨Hk3,Hk4,Hkx4,Hkg4,Hrow4,H5,Hdr2,Hzv,HO3⟩:=hid9 hk3 hk4 hkx4 hkg4 hrow4 h5 hdr2 hzv hO3;clear hO3 hzv hdr2 h5 hrow4 hkg4 hkx4 hk4 hk3;obtain⟨Hnew,Hkn4,Hold⟩:=hid3 hnew hkn4 hold;clear hold hkn4 hnew
 go_wp2
 go_roundw
 case rel=>exact⟨k+1,P++ [z],by go_num,by omega,by rw [List.length_append,HPl.out];rfl,HO3.out,Hnew.out,Hkn4.out⟩
 case measure=>simp [intOf];omega):P:=h
theorem jZ36{P:Prop}(h:P:=by
 have hdr2:=Hdr.out
 rw [if_neg (by rw [h5];decide)] at hdr2
 have hO3:O=none:=by rw [←HO2.out,hdr2];rfl
 subst hO3
 rw [h5]
 clear hs3
 obtain⟨Hk3,Hk4,Hkx4,Hkg4,Hrow4,H5,H51,Hdr2⟩:=hid8 hk3 hk4 hkx4 hkg4 hrow4 h5 h51 hdr2;clear hdr2 h51 h5 hrow4 hkg4 hkx4 hk4 hk3
 go_wp2
 exact bodyPost_ret (v:= .tuple #[.slice none 0 0,.int .i64 5]) (by simp [results,Tryz.results104,go_sem]) rfl ⟨rfl,Hkx4.out⟩):P:=h
theorem jZ102{P:Prop}(h:P:=by
 go_wp2_with fail
 go_roundw
 case rel=>exact⟨k+1,_,by go_num,by omega,Happ.out⟩
 case measure=>simp [intOf];omega):P:=h
theorem jZ92{P:Prop}(h:P:=by
 have Hf:=Lib.hid hf;clear hf
 go_enter Tryz.func141,Tryz.ntmps141
 exact jZ26):P:=h
theorem jZ2{P:Prop}(h:P:=by
 rw [hq] at hcall
 simp only at hA hcall
 have p0:=Aa Hpb4.out 0
 have p1:=Aa Hpb4.out 1
 have p2:=Aa Hpb4.out 2
 have pl4:=lt_of_block Hpb4.out
 have e0:=Aa Hab4.out.e 0
 have e2:=Aa Hab4.out.e 2
 have e3:=Aa Hab4.out.e 3
 have el4:=lt_of_block Hab4.out.e
 obtain⟨Hq,Hcall⟩:=hid2 hq hcall;clear hcall hq
 go_wp2_with fail
 refine(Hcall.out _ (Keeps.refl _ _)).mono ?_
 rintro e w5 ⟨v5,rfl,hrow5,hf5⟩
 obtain⟨a5,m5,rfl⟩:∃a c,v5= .slice a q.bal.length c:=by obtain⟨a,c,h,_⟩:=Aj hrow5;exact⟨a,c,h⟩
 clear e0 e2 e3 el4 p0 p1 p2 pl4
 have hab5:=Hab4.out.keep0 hf5.1
 have hpb5:=Ad Hpb4.out hf5.1 (by simp)
 have hrr5:=Hrr4.out.of_keeps hf5.1
 obtain⟨hpb6,k6⟩:=store3 hpb5 (.slice a5 q.bal.length m5) (.int .i64 q.cr) (.int .i64 q.du)
 have hab6:=hab5.keep k6
 have hg5:∀i,(Value.slice a5 q.bal.length m5).ownBlock=some i→w.heap.size+1+1<i:=fun i e=>by have:=hf5.2 i e;have:=lt_of_block Hab4.out.r;omega
 have hrow6:=k6.row hrow5 (fun i hi e=>by have e':i=w.heap.size:=e;have:=hg5 i hi;omega)
 have hrr6:=k6.row hrr5 (fun i hi e=>by have e':i=w.heap.size:=e;have:=Hg2.out i hi;omega)
 have p0:=Aa hpb5 0
 have p1:=Aa hpb5 1
 have p2:=Aa hpb5 2
 have q0:=Ab hpb5 0
 have q1:=Ab hpb5 1
 have q2:=Ab hpb5 2
 have pl:=lt_of_block hpb5
 have r0:=Aa hab5.r 0
 have r1:=Aa hab5.r 1
 have r2:=Aa hab5.r 2
 have rf0:=Ab hab5.r 0
 have rf1:=Ab hab5.r 1
 have rf2:=Ab hab5.r 2
 have rl:=lt_of_block hab5.r
 by_cases hz0:z=0
 ·subst hz0
  rw [if_pos rfl] at hA
  subst hA
  have hS3:=store3 hab6.r (.slice a5 q.bal.length m5) (.int .i64 q.cr) (.int .i64 q.du)
  obtain⟨hb9,k9⟩:=hS3
  have hkf:=hab6.kp.trans (k9.mono fun i _ e=> .inr (by have e':i=w.heap.size+1+1:=e;omega))
  have hrow9:=k9.row hrow6 (fun i hi e=>by have e':i=w.heap.size+1+1:=e;have:=hg5 i hi;omega)
  have hrr9:=k9.row hrr6 (fun i hi e=>by have e':i=w.heap.size+1+1:=e;have:=Hg2.out i hi;omega)
  have sr0:=Aa hb9 0
  have sr1:=Aa hb9 1
  have sr2:=Aa hb9 2
  obtain⟨Hrow5,Hf5,Hab5,Hpb5,Hrr5,Hpb6,K6,Hab6,Hg5⟩:=hid9 hrow5 hf5 hab5 hpb5 hrr5 hpb6 k6 hab6 hg5;clear hg5 hab6 k6 hpb6 hrr5 hpb5 hab5 hf5 hrow5;obtain⟨Hrow6,Hrr6,Hb9,K9,Hkf,Hrow9,Hrr9,Sr0,Sr1⟩:=hid9 hrow6 hrr6 hb9 k9 hkf hrow9 hrr9 sr0 sr1;clear sr1 sr0 hrr9 hrow9 hkf k9 hb9 hrr6 hrow6;have Sr2:=Lib.hid sr2;clear sr2
  go_wp2
  have R0':=Sr0.out
  have R1':=Sr1.out
  have R2':=Sr2.out
  clear r0 r1 r2 p0 p1 p2
  exact bodyPost_ret (v:= .tuple #[.agg #[.slice a5 q.bal.length m5,.int .i64 q.cr,.int .i64 q.du],.slice (some ⟨gr,0,none⟩) m cr2,.int .i64 0]) (by simp [results,Tryz.results102,go_sem,R0',R1',R2']) rfl ⟨_,_,rfl,Hrow9.out,by rw [HRm.out];exact Hrr9.out,Hkf.out,fun i hi=>by have:=Hg5.out i hi;omega,fun i hi=>by have:=Hg2.out i hi;omega⟩
 ·rw [if_neg hz0] at hA
  subst hA
  have hz1:(z !=0)=true:=by simp [hz0]
  have hS3:=store3 hab6.r (.slice none 0 0) (.int .i64 0) (.int .i64 0)
  obtain⟨hb9,k9⟩:=hS3
  have hkf:=hab6.kp.trans (k9.mono fun i _ e=> .inr (by have e':i=w.heap.size+1+1:=e;omega))
  have sr0:=Aa hb9 0
  have sr1:=Aa hb9 1
  have sr2:=Aa hb9 2
  obtain⟨Hrow5,Hf5,Hab5,Hpb5,Hrr5,Hpb6,K6,Hab6,Hg5⟩:=hid9 hrow5 hf5 hab5 hpb5 hrr5 hpb6 k6 hab6 hg5;clear hg5 hab6 k6 hpb6 hrr5 hpb5 hab5 hf5 hrow5;obtain⟨Hrow6,Hrr6,Hb9,K9,Hkf,Sr0,Sr1,Sr2,Hz0⟩:=hid9 hrow6 hrr6 hb9 k9 hkf sr0 sr1 sr2 hz0;clear hz0 sr2 sr1 sr0 hkf k9 hb9 hrr6 hrow6
  go_wp2
  have R0':=Sr0.out
  have R1':=Sr1.out
  have R2':=Sr2.out
  clear r0 r1 r2 p0 p1 p2
  exact bodyPost_ret (v:= .tuple #[.agg #[.slice none 0 0,.int .i64 0,.int .i64 0],.slice none 0 0,.int .i64 z]) (by simp [results,Tryz.results102,go_sem,R0',R1',R2']) rfl ⟨_,_,rfl,World.ownsRow_nil _ _ _ _,World.ownsRow_nil _ _ _ _,Hkf.out,by simp [Value.ownBlock],by simp [Value.ownBlock]⟩):P:=h
theorem jZ47{P:Prop}(h:P:=by
 skip
 have hA:=HA.out
 clear HA
 simp [applyQ,applyRt] at hA
 obtain⟨⟨q,z⟩,hq⟩:∃q,chargeR ⟨L,cr,du⟩ tr am=q:=⟨_,rfl⟩
 rw [hq] at hA
 have hcall:=fun W (hW:Keeps (fun _=>False) W4 W)=>poolCharge_any L cr du tr am (some ⟨gb,0,none⟩) cb m W ((Reads.Bh Hrb4.out).keeps hW (by simp)) HN.out hl
 exact jZ2):P:=h
theorem jZ37{P:Prop}(h:P:=by
 skip
 have hA:=HA.out
 clear HA
 simp [applyQ,applyRt] at hA
 obtain⟨⟨q,z⟩,hq⟩:∃q,giveR ⟨L,cr,du⟩ R tr am=q:=⟨_,rfl⟩
 rw [hq] at hA
 have hcall:=fun W (hW:Keeps (fun _=>False) W4 W)=>poolGive_any L R cr du tr am (some ⟨gb,0,none⟩) (some ⟨gr,0,none⟩) cb cr2 m W ((Reads.Bh Hrb4.out).keeps hW (by simp)) HN.out hl ((Reads.Bh Hrr4.out).keeps hW (by simp)) HRm.out
 exact jZ2):P:=h
set_option maxRecDepth 100000
set_option maxHeartbeats 3200000
theorem poolGive_any(L R:List Int)(cr du k a:Int)(ad adR:Option Addr)(cap cR n:Nat)(w:World)(hr:Reads w 1 (.slice ad n cap) n (L.flatMap i64c))(hN:L.length=n)(hl:n≤1000)(hR:Reads w 1 (.slice adR n cR) n (R.flatMap i64c))(hRn:R.length=n):
  Calls Tryz.prog 124 #[.agg #[.slice ad n cap,.int .i64 cr,.int .i64 du],.slice adR n cR,.int .i64 k,.int .i64 a] w (GivesP (giveR ⟨L,cr,du⟩ R k a).1 (giveR ⟨L,cr,du⟩ R k a).2 w):=by
 obtain⟨i0,hi,hi0,hi1,hi2⟩:=info_parts info_tInt
 obtain⟨z,hz⟩:∃z,askE ⟨L,cr,du⟩ [k] a=z:=⟨_,rfl⟩
 have hask:=fun(W:World) (g:Nat) (hW:Keeps (fun _=>False) w W) (hT:Reads W 1 (.slice (some ⟨g,0,none⟩) 1 1) 1 ([k].flatMap i64c))=>poolAsked_any L cr du a [k] ad (some ⟨g,0,none⟩) cap 1 n 1 W (hr.keeps hW (by simp)) hN hl hT rfl (by decide)
 rw [hz] at hask
 unfold giveR
 rw [hz]
 by_cases h0:z=0
 ·subst h0
  rw [if_pos rfl]
  obtain⟨hright,htr,hmon⟩:=askE_zero hz
  obtain⟨hbal,hcr,hdu,hn1,hn8⟩:=Cz hright
  simp only at hbal hcr hdu hn1 hn8
  rw [hN] at hn1 hn8
  have hkk:1≤k∧k≤n:=by simpa [trB,hN] using htr
  have hall:L.all moneyP=true:=List.all_eq_true.2 fun x hx=>(Bg x).2 (hbal x hx)
  have hord:=giveO_ok (rank_ok true hRn) hkk
  obtain⟨q,hq⟩:∃q,giveP ⟨L,cr,du⟩ R k a=q:=⟨_,rfl⟩
  rw [hq]
  obtain⟨G,hG⟩:∃G:Ps×Int,(if q.rightB=true then(q,0) else(ps0,5))=G:=⟨_,rfl⟩
  rw [hG]
  have hhigh:=fun W (hW:Keeps (fun _=>False) w W)=>rankHigh_any R adR cR W (by rw [hRn];exact hR.keeps hW (by simp)) (by omega)
  rw [hRn] at hhigh
  have hown:=fun W (hW:Keeps (fun _=>False) w W)=>poolOwn_any L cr du (.slice ad n cap) n W (hr.keeps hW (by simp)) hl
  have hcr0:=hcr
  obtain⟨Hr,HR,Hask,Hz,Hi,Hi0,Hi1,Hi2,Hright⟩:=hid9 hr hR hask hz hi hi0 hi1 hi2 hright;clear hright hi2 hi1 hi0 hi hz hask hR hr;obtain⟨Htr,Hmon,Hbal,Hcr,Hdu,Hkk,Hall,Hord,Hq⟩:=hid9 htr hmon hbal hcr hdu hkk hall hord hq;clear hq hord hall hkk hdu hcr hbal hmon htr;obtain⟨HG,Hhigh,Hown,HN,HRn⟩:=hid5 hG hhigh hown hN hRn;clear hRn hN hown hhigh hG
  go_enter Tryz.func124,Tryz.ntmps124
  go_wp2_with fail
  all_goals
   refine(Hask.out _ _ (by(repeat (first|exact Keeps.refl _ _|exact Keeps.alloc _ _|exact Keeps.drew _|exact Keeps.drewN _ _|refine Keeps.Ap ?_|refine Keeps.Al ?_|refine Keeps.Ae ?_))) (Reads.litAt _ _ _ 1 1 _ (by simp) rfl)).mono ?_
   rintro e w1 ⟨rfl,hk1⟩
   have hkw:Keeps (fun _=>False) w w1:=(by(repeat (first|exact Keeps.refl _ _|exact Keeps.alloc _ _|exact Keeps.drew _|exact Keeps.drewN _ _|refine Keeps.Ap ?_|refine Keeps.Al ?_|refine Keeps.Ae ?_)):Keeps (fun _=>False) w (((w.alloc (.cells #[.slice ad n cap,.int .i64 cr,.int .i64 du] 34)).alloc (.cells #[.slice none 0 0,.int .i64 0,.int .i64 0] 34)).alloc (.cells #[.int .i64 k] 3))).nt hk1
   have hbx:w1.heap[w.heap.size]?=some (.cells #[.slice ad n cap,.int .i64 cr,.int .i64 du] 34 (0,0)):=Ad (Au (Au (heap_alloc_new w _) _) _) hk1 (by simp)
   have hrs:w1.heap[w.heap.size+1]?=some (.cells #[.slice none 0 0,.int .i64 0,.int .i64 0] 34 (0,0)):=Ad (Au (Ay _ _ (by simp)) _) hk1 (by simp)
   have b0:=Aa hbx 0
   have b1:=Aa hbx 1
   have b2:=Aa hbx 2
   have bl:=lt_of_block hbx
   obtain⟨Hk1,Hkw,Hbx,Hrs⟩:=hid4 hk1 hkw hbx hrs;clear hrs hbx hkw hk1
   go_wp2_with fail
   refine(Hown.out _ Hkw.out).mono ?_
   rintro e w2 ⟨v1,rfl,hrow,hk2,hnew⟩
   obtain⟨g,c,rfl⟩:=Df hrow hn1
   have hgn:w1.heap.size≤g:=hnew g rfl
   clear b0 b1 b2 bl
   have hb3:=Ad Hbx.out hk2 (by simp)
   have hrs3:=Ad Hrs.out hk2 (by simp)
   have hgB:g≠w.heap.size:=by have:=lt_of_block Hbx.out;omega
   have hgR:g≠w.heap.size+1:=by have:=lt_of_block Hrs.out;omega
   obtain⟨hb4,k4⟩:=store3 hb3 (.slice (some ⟨g,0,none⟩) n c) (.int .i64 cr) (.int .i64 du)
   have hS:∃W4,W4=(((w2.setCell ⟨w.heap.size,0,none⟩ (.slice (some ⟨g,0,none⟩) n c)).setCell ⟨w.heap.size,1,none⟩ (.int .i64 cr)).setCell ⟨w.heap.size,2,none⟩ (.int .i64 du)):=⟨_,rfl⟩
   obtain⟨W4,hW4⟩:=hS
   rw [←hW4] at hb4 k4
   have hrow4:RowZ W4 2 g n c L:=⟨k4.row hrow (fun g' hg e=>by simp only [Value.ownBlock,Option.some.injEq] at hg;subst hg;exact hgB e),HN.out⟩
   have hrs4:=Ad hrs3 k4 (by simp)
   have hkk4:Keeps (fun _=>False) w W4:=(Hkw.out.nt hk2).trans (k4.mono fun i _ e=> .inr (by have e':i=w.heap.size:=e;omega))
   have hgw:w.heap.size≤g:=by have:=Hkw.out.size;omega
   have c0:=Aa hb3 0
   have c1:=Aa hb3 1
   have c2:=Aa hb3 2
   have f0:=Ab hb3 0
   have f1:=Ab hb3 1
   have f2:=Ab hb3 2
   have bl3:=lt_of_block hb3
   obtain⟨Hrow,Hk2,Hnew,Hgn,Hb3,Hrs3,HgB,HgR,Hb4⟩:=hid9 hrow hk2 hnew hgn hb3 hrs3 hgB hgR hb4;clear hb4 hgR hgB hrs3 hb3 hgn hnew hk2 hrow;obtain⟨K4,Hrow4,Hrs4,Hkk4,Hgw⟩:=hid5 k4 hrow4 hrs4 hkk4 hgw;clear hgw hkk4 hrs4 hrow4 k4
   go_wp2_with fail
   rw [←hW4]
   have HW4:=Lib.hid hW4
   clear hW4 c0 c1 c2 f0 f1 f2 bl3
   refine(Hhigh.out _ (Hkk4.out.trans (Keeps.alloc _ _))).mono ?_
   rintro e w5 ⟨v5,rfl,hrow5,hf5⟩
   obtain⟨ad5,c5,rfl⟩:=Df hrow5 hn1
   have hlit:=(owns_lit1 W4 k).of_keeps hf5.1
   have hne5:¬ad5=W4.heap.size:=by have:=hf5.2 ad5 rfl;simp at this;omega
   have hfr5:Fresh W4 w5 (.slice (some ⟨W4.heap.size,0,none⟩) 1 1):=⟨(Keeps.alloc _ _).nt hf5.1,fun g' hg=>by simp only [Value.ownBlock,Option.some.injEq] at hg;omega⟩
   have hs4:W4.heap.size=w2.heap.size:=by rw [HW4.out];simp
   rw [hs4] at hlit hfr5 hne5
   obtain⟨H,hH⟩:∃H,rankL true R=H:=⟨_,rfl⟩
   have hHl:H.length=n:=by rw [←hH,rankL_length,HRn.out]
   have hord:=Hord.out
   rw [hH] at hrow5 hord
   obtain⟨Hrow5,Hf5,Hlit,Hne5,Hfr5,HH,HHl,Hord⟩:=hid8 hrow5 hf5 hlit hne5 hfr5 hH hHl hord;clear hord hHl hH hfr5 hne5 hlit hf5 hrow5
   go_wp2
   go_loopw [11,42] (fun x y wx=>∃i:Nat,y= .int .i64 (i:Nat)∧i≤n∧wx.ownsRow 0 3 1 x (giveO k (H.take i)).length ((giveO k (H.take i)).flatMap i64c)∧Fresh W4 wx x∧(∀b,x.ownBlock=some b→¬ad5=b)∧wx.ownsRow 0 3 1 (.slice (some ⟨ad5,0,none⟩) n c5) n (H.flatMap i64c)) (fun _ y _=>n-(intOf y).toNat)
   case atStart=>exact⟨0,rfl,Nat.zero_le _,Hlit.out,Hfr5.out,fun b hb=>by simp only [Value.ownBlock,Option.some.injEq] at hb;subst hb;exact Hne5.out,Hrow5.out⟩
   case round=>
    obtain⟨i,rfl,hin,hrowx,hfrx,hnx,hrowH⟩:=hrel
    obtain⟨wq,hwq⟩:∃x,x=wr:=⟨_,rfl⟩
    subst hwq
    by_cases hlt:i<n
    ·have hltI:(i:Int)<(n:Int):=by omega
     obtain⟨y,hy⟩:=Av (L:=H) (k:=i) (by rw [HHl.out];exact hlt)
     have hsn:=giveO_snoc (k:=k) hy
     obtain⟨g5,o5,he,cy⟩:=(Reads.Bh hrowH).int (k:= .i64) hy
     simp only [Option.some.injEq,Addr.mk.injEq,and_true] at he
     obtain⟨rfl,rfl⟩:=he
     rw [Nat.zero_add] at cy
     have ly:=Ag cy
     by_cases hyk:y=k
     ·subst hyk
      rw [if_pos rfl] at hsn
      obtain⟨Hrowx,Hfrx,Hnx,HrowH,Hy,Hsn⟩:=hid6 hrowx hfrx hnx hrowH hy hsn;clear hsn hy hrowH hnx hfrx hrowx
      go_wp2
      go_roundw
      case rel=>exact⟨i+1,by go_num,by omega,by rw [Hsn.out];exact Hrowx.out,Hfrx.out,Hnx.out,HrowH.out⟩
      case measure=>simp [intOf];omega
     ·rw [if_neg hyk] at hsn
      obtain⟨M,hM⟩:∃M,(giveO k (H.take i)).length=M:=⟨_,rfl⟩
      have hM1:M≤1000:=by
       rw [←hM]
       have h1:=List.length_filter_le (fun x=>decide (x≠k)) (H.take i)
       rw [List.length_take] at h1
       simp only [giveO,List.length_cons]
       omega
      rw [hM] at hrowx
      obtain⟨Hrowx,Hfrx,Hnx,HrowH,Hy,Hsn,HM⟩:=hid7 hrowx hfrx hnx hrowH hy hsn hM;clear hM hsn hy hrowH hnx hfrx hrowx
      go_wp2_with (at_builtin;refine Ba rfl (.tmp 49) (.tmp 51) 212 rfl 0 3 i0 _ 1 8 Tryz.underlying212 Hi.out Hi0.out Hi1.out Hi2.out rfl (by decide) _ M _ rfl (Hrowx.out.alloc _) _ 1 _ rfl (Reads.litAt _ _ _ 1 1 _ (by first|rfl|simp) rfl) (by simp [Value.oneCell']) (by unfold maxLen;omega) (by omega) (Nat.zero_le _) ?_;intro v4 w4 hown4 hk4 hf4;refine haltG ?_)
      refine Lib.hid ?_
      have hfr4:=(Hfrx.out.keep (Keeps.alloc _ _)).app hk4 hf4
      have hH4:=hk4.row (HrowH.out.alloc (.cells #[.int .i64 y] 3)) (fun b hb e=>by simp only [Value.ownBlock,Option.some.injEq] at hb;exact Hnx.out b e hb)
      have hl5:ad5<(wq.alloc (.cells #[.int .i64 y] 3)).heap.size:=Bu (HrowH.out.alloc (.cells #[.int .i64 y] 3)) rfl
      have hnx4:∀b,v4.ownBlock=some b→¬ad5=b:=fun b hb=>by
       rcases hf4 with h|⟨g6,h,hg6⟩
       ·exact Hnx.out b (h▸hb)
       ·rw [h] at hb;simp only [Option.some.injEq] at hb;omega
      have hown6:w4.ownsRow 0 3 1 v4 (giveO k (H.take (i+1))).length ((giveO k (H.take (i+1))).flatMap i64c):=by
       rw [Hsn.out,List.length_append,HM.out,List.flatMap_append];exact hown4
      obtain⟨Hown4,Hk4,Hf4,Hfr4,HH4,Hnx4,Hown6⟩:=hid7 hown4 hk4 hf4 hfr4 hH4 hnx4 hown6;clear hown6 hnx4 hH4 hfr4 hf4 hk4 hown4
      go_wp2
      go_roundw
      case rel=>exact⟨i+1,by go_num,by omega,Hown6.out,Hfr4.out,Hnx4.out,HH4.out⟩
      case measure=>simp [intOf];omega
    ·obtain rfl:i=n:=by omega
     rw [List.take_of_length_le (by rw [HHl.out];exact Nat.le_refl _)] at hrowx
     obtain⟨M,hM⟩:∃M,(giveO k H).length=M:=⟨_,rfl⟩
     have hM1:M≤1000:=by
      rw [←hM]
      have h1:=List.length_filter_le (fun x=>decide (x≠k)) H
      have h2:=HHl.out
      simp only [giveO,List.length_cons]
      omega
     rw [hM] at hrowx
     obtain⟨ado,co,rfl,hco,hnone⟩:=Aj hrowx
     have hbq:=Ad Hb4.out hfrx.1 (by simp)
     have hrowq:=Hrow4.out.keep hfrx.1
     have hrs5:=Ad Hrs4.out hfrx.1 (by simp)
     have hkk5:=Hkk4.out.nt hfrx.1
     have hpay:=fallInto_any L (giveO k H) a (some ⟨g,0,none⟩) ado c co i M wq hrowq.reads HN.out (Reads.Bh hrowx) hM Hall.out Hmon.out Hord.out hl hM1
     have ham:=(Bg a).1 Hmon.out
     have hib:=intoL_bd (B:=L) (O:=giveO k H) (a:=a) (fun x hx=>(Hbal.out x hx).1) ham.1 (fun x hx=>by have:=Hord.out.ok x hx;rw [HN.out];exact this)
     have hpl:=Cj L (giveO k H) a
     have hq:=Hq.out
     clear Hq
     unfold giveP at hq
     simp only at hq
     rw [HH.out] at hq
     obtain⟨⟨p,rest⟩,hp⟩:∃p,intoL L (giveO k H) a=p:=⟨_,rfl⟩
     rw [hp] at hpay hib hpl hq
     simp only at hpay hib hpl hq
     obtain⟨t0,t1,hpe⟩:=hib
     have hpb:∀(j:Nat) (x:Int),p[j]?=some x→0≤x∧x≤1000000000000000:=fun j x hx=>p1bd hpe Hbal.out hx
     have t2:rest≤1000000000000000:=by omega
     have b0:=Aa hbq 0
     have bl:=lt_of_block hbq
     obtain⟨cr0,cr1⟩:=hcr0
     obtain⟨Hrowx,Hfrx,Hnx,HrowH,HM,Hbq,Hrowq,Hrs5,Hkk5⟩:=hid9 hrowx hfrx hnx hrowH hM hbq hrowq hrs5 hkk5;clear hkk5 hrs5 hrowq hbq hM hrowH hnx hfrx hrowx;obtain⟨Hpay,Ham,Hpl,Hq,Hp,Hpe,Hpb,Hco,Hnone⟩:=hid9 hpay ham hpl hq hp hpe hpb hco hnone;clear hnone hco hpb hpe hp hq hpl ham hpay
     go_wp2_with fail
     refine Hpay.out.mono ?_
     rintro e w6 ⟨g1,rfl,hrp6,hk6,hg1⟩
     clear b0 bl
     have hg1g:¬g1=g:=by have:=Hrowq.out.lt;omega
     have hb6:=Ad Hbq.out hk6 (by simp)
     have hrow6:=Hrowq.out.keep hk6
     have hrs6:=Ad Hrs5.out hk6 (by simp)
     have hkk6:=Hkk5.out.nt hk6
     obtain⟨Hrp6,Hk6,Hg1,Hg1g,Hb6,Hrow6,Hrs6,Hkk6⟩:=hid8 hrp6 hk6 hg1 hg1g hb6 hrow6 hrs6 hkk6;clear hkk6 hrs6 hrow6 hb6 hg1g hg1 hk6 hrp6
     go_wp2
     go_loopw [69] (fun x wx=>∃j:Nat,x= .int .i64 (j:Nat)∧j≤i∧RowZ wx 2 g i c (stepL (fun x y=>x-y) L p j)∧Keeps (fun k=>k=g) w6 wx) (fun x _=>i-(intOf x).toNat)
     case atStart=>exact⟨0,rfl,Nat.zero_le _,by rw [stepL_zero];exact Hrow6.out,Keeps.refl _ _⟩
     case round=>
      obtain⟨j,rfl,hjn,hrow,hk⟩:=hrel
      obtain⟨wz,hwz⟩:∃x,x=wr:=⟨_,rfl⟩
      subst hwz
      have hrp:RowZ wz 2 g1 i i p:=⟨hk.row Hrp6.out.1 (fun g' hg e=>by simp only [Value.ownBlock,Option.some.injEq] at hg;subst hg;exact Hg1g.out e),Hrp6.out.2⟩
      have hbz:=Ad Hb6.out hk (fun e=>HgB.out e.symm)
      have b0:=Aa hbz 0
      have b1:=Aa hbz 1
      have b2:=Aa hbz 2
      have f1:=Ab hbz 1
      have bl:=lt_of_block hbz
      by_cases hlt2:j<i
      ·have hltI2:(j:Int)<(i:Int):=by omega
       obtain⟨x,hx⟩:=Av (L:=L) (k:=j) (by rw [HN.out];exact hlt2)
       obtain⟨y,hy⟩:=Av (L:=p) (k:=j) (by rw [Hpl.out,HN.out];exact hlt2)
       obtain⟨x0,x1⟩:=Hbal.out x (List.mem_of_getElem? hx)
       obtain⟨y0,y1⟩:=Hpb.out j y hy
       have ex:=stepL_get (f:=fun x y=>x-y) (P:=p) Hpl.out hx
       have cx:=hrow.cell ex
       have fx:=hrow.free j
       have cy:=hrp.cell hy
       have lx:=hrow.lt
       have ly:=hrp.lt
       have hst:=stepL_set (f:=fun x y=>x-y) (P:=p) Hpl.out hx hy
       have hnew:=hrow.set hlt2 (x-y)
       rw [hst] at hnew
       have hkn:Keeps (fun k=>k=g) w6 (wz.setCell ⟨g,j,none⟩ (.int .i64 (x-y))):=hk.trans (Keeps.setCell _ _ _ (.inl rfl))
       obtain⟨Hrow,Hk,Hrp,Hx,Hy,Ex,Hst,Hnew,Hkn⟩:=hid9 hrow hk hrp hx hy ex hst hnew hkn;clear hkn hnew hst ex hy hx hrp hk hrow;have Hbz:=Lib.hid hbz;clear hbz
       exact jZ107
      ·obtain rfl:j=i:=by omega
       rw [stepL_full Hpl.out HN.out] at hrow
       have hrs7:=Ad Hrs6.out hk (fun e=>HgR.out e.symm)
       have hkk7:Keeps (fun _=>False) w wz:=Hkk6.out.trans (hk.mono fun k _ e=> .inr (by subst e;exact Hgw.out))
       obtain⟨L2,hL2⟩:∃x,List.zipWith (fun x y=>x-y) L p=x:=⟨_,rfl⟩
       have hq:=Hq.out
       clear Hq
       rw [hL2] at hq hrow
       subst hq
       have hb8:(wz.setCell ⟨w.heap.size,1,none⟩ (.int .i64 (cr+rest))).heap[w.heap.size]?=some (.cells #[.slice (some ⟨g,0,none⟩) j c,.int .i64 (cr+rest),.int .i64 du] 34 (0,0)):=(heap_setCell_same _ _ 1 _ _ _ hbz).trans rfl
       have k8:Keeps (fun i=>i=w.heap.size) wz (wz.setCell ⟨w.heap.size,1,none⟩ (.int .i64 (cr+rest))):=Keeps.setCell (S:=fun i=>i=w.heap.size) _ _ _ rfl
       have hrow8:RowZ (wz.setCell ⟨w.heap.size,1,none⟩ (.int .i64 (cr+rest))) 2 g j c L2:=⟨k8.row hrow.1 (fun g' hg e=>by simp only [Value.ownBlock,Option.some.injEq] at hg;subst hg;exact HgB.out e),hrow.2⟩
       have hrs8:=Ad hrs7 k8 (by simp)
       have hkk8:=hkk7.trans (k8.mono fun k _ e=> .inr (by have e':k=w.heap.size:=e;omega))
       have hjud:=poolJudged_any L2 (cr+rest) du (some ⟨g,0,none⟩) c j _ hrow8.reads hrow8.2 hl
       rcases hrt:Ps.rightB ⟨L2,cr+rest,du⟩ with _|_
       ·skip
        rw [hrt,if_neg (by decide),if_neg (by decide)] at hjud
        have hG:=HG.out
        clear HG
        rw [hrt,if_neg (by decide)] at hG
        subst hG
        obtain⟨HL2,Hrow,Hk,Hrp,Hb8,K8,Hrow8,Hrs7,Hrs8⟩:=hid9 hL2 hrow hk hrp hb8 k8 hrow8 hrs7 hrs8;clear hrs8 hrs7 hrow8 k8 hb8 hrp hk hrow hL2;obtain⟨Hkk7,Hkk8,Hjud,Hrt,Hbz⟩:=hid5 hkk7 hkk8 hjud hrt hbz;clear hbz hrt hjud hkk8 hkk7
        go_wp2_with fail
        refine Hjud.out.mono ?_
        rintro e w9 ⟨rfl,hk9⟩
        clear b0 b1 b2 f1 bl
        have hrs9:=Ad Hrs8.out hk9 (by simp)
        have hS3:=store3 hrs9 (.slice none 0 0) (.int .i64 (0)) (.int .i64 (0))
        obtain⟨hb9,k9⟩:=hS3
        have r0:=Aa hrs9 0
        have r1:=Aa hrs9 1
        have r2:=Aa hrs9 2
        have rf0:=Ab hrs9 0
        have rf1:=Ab hrs9 1
        have rf2:=Ab hrs9 2
        have rl:=lt_of_block hrs9
        have sr0:=Aa hb9 0
        have sr1:=Aa hb9 1
        have sr2:=Aa hb9 2
        obtain⟨Hrs9,Hb9,K9,Sr0,Sr1,Sr2⟩:=hid6 hrs9 hb9 k9 sr0 sr1 sr2;clear sr2 sr1 sr0 k9 hb9 hrs9
        have Hk9:=Lib.hid hk9;clear hk9
        go_wp2
        have R0':=Sr0.out
        have R1':=Sr1.out
        have R2':=Sr2.out
        clear r0 r1 r2
        exact bodyPost_ret (v:= .tuple #[.agg #[.slice none 0 0,.int .i64 (0),.int .i64 (0)],.int .i64 5]) (by simp [results,Tryz.results124,go_sem,R0',R1',R2']) rfl ⟨_,rfl,⟨by simp [ps0],.inl ⟨rfl,rfl⟩⟩,(Hkk8.out.nt Hk9.out).trans (K9.out.mono fun i _ e=> .inr (by have e':i=w.heap.size+1:=e;omega)),fun g hg=>by simp [Value.ownBlock] at hg⟩
       ·skip
        rw [hrt,if_pos rfl,if_pos rfl] at hjud
        have hG:=HG.out
        clear HG
        rw [hrt,if_pos rfl] at hG
        subst hG
        obtain⟨HL2,Hrow,Hk,Hrp,Hb8,K8,Hrow8,Hrs7,Hrs8⟩:=hid9 hL2 hrow hk hrp hb8 k8 hrow8 hrs7 hrs8;clear hrs8 hrs7 hrow8 k8 hb8 hrp hk hrow hL2;obtain⟨Hkk7,Hkk8,Hjud,Hrt,Hbz⟩:=hid5 hkk7 hkk8 hjud hrt hbz;clear hbz hrt hjud hkk8 hkk7
        go_wp2_with fail
        refine Hjud.out.mono ?_
        rintro e w9 ⟨rfl,hk9⟩
        clear b0 b1 b2 f1 bl
        have hrs9:=Ad Hrs8.out hk9 (by simp)
        have hS3:=store3 hrs9 (.slice (some ⟨g,0,none⟩) j c) (.int .i64 (cr+rest)) (.int .i64 du)
        obtain⟨hb9,k9⟩:=hS3
        have r0:=Aa hrs9 0
        have r1:=Aa hrs9 1
        have r2:=Aa hrs9 2
        have rf0:=Ab hrs9 0
        have rf1:=Ab hrs9 1
        have rf2:=Ab hrs9 2
        have rl:=lt_of_block hrs9
        have sr0:=Aa hb9 0
        have sr1:=Aa hb9 1
        have sr2:=Aa hb9 2
        obtain⟨Hrs9,Hb9,K9,Sr0,Sr1,Sr2⟩:=hid6 hrs9 hb9 k9 sr0 sr1 sr2;clear sr2 sr1 sr0 k9 hb9 hrs9
        have Hk9:=Lib.hid hk9;clear hk9
        go_wp2
        have R0':=Sr0.out
        have R1':=Sr1.out
        have R2':=Sr2.out
        clear r0 r1 r2
        have hrow7:=K9.out.row (Hrow8.out.1.of_keeps Hk9.out) (fun g' hg e=>by simp only [Value.ownBlock,Option.some.injEq] at hg;subst hg;exact HgR.out e)
        have hlen2:=Hrow8.out.2
        exact bodyPost_ret (v:= .tuple #[.agg #[.slice (some ⟨g,0,none⟩) j c,.int .i64 (cr+rest),.int .i64 du],.int .i64 0]) (by simp [results,Tryz.results124,go_sem,R0',R1',R2']) rfl ⟨_,rfl,(by rw [hlen2];exact hrow7),(Hkk8.out.nt Hk9.out).trans (K9.out.mono fun i _ e=> .inr (by have e':i=w.heap.size+1:=e;omega)),fun g' hg=>by simp only [Value.ownBlock,Option.some.injEq] at hg;subst hg;exact Hgw.out⟩
 ·rw [if_neg h0]
  obtain⟨Hr,Hask,Hz,Hi,Hi0,Hi1,Hi2⟩:=hid7 hr hask hz hi hi0 hi1 hi2;clear hi2 hi1 hi0 hi hz hask hr
  go_enter Tryz.func124,Tryz.ntmps124
  go_wp2_with fail
  all_goals
   refine(Hask.out _ _ (by(repeat (first|exact Keeps.refl _ _|exact Keeps.alloc _ _|exact Keeps.drew _|exact Keeps.drewN _ _|refine Keeps.Ap ?_|refine Keeps.Al ?_|refine Keeps.Ae ?_))) (Reads.litAt _ _ _ 1 1 _ (by simp) rfl)).mono ?_
   rintro e w1 ⟨rfl,hk1⟩
   have hkw:Keeps (fun _=>False) w w1:=(by(repeat (first|exact Keeps.refl _ _|exact Keeps.alloc _ _|exact Keeps.drew _|exact Keeps.drewN _ _|refine Keeps.Ap ?_|refine Keeps.Al ?_|refine Keeps.Ae ?_)):Keeps (fun _=>False) w (((w.alloc (.cells #[.slice ad n cap,.int .i64 cr,.int .i64 du] 34)).alloc (.cells #[.slice none 0 0,.int .i64 0,.int .i64 0] 34)).alloc (.cells #[.int .i64 k] 3))).nt hk1
   have hrs:w1.heap[w.heap.size+1]?=some (.cells #[.slice none 0 0,.int .i64 0,.int .i64 0] 34 (0,0)):=Ad (Au (Ay _ _ (by simp)) _) hk1 (by simp)
   have hS3:=store3 hrs (.slice none 0 0) (.int .i64 0) (.int .i64 0)
   obtain⟨hb9,k9⟩:=hS3
   have r0:=Aa hrs 0
   have r1:=Aa hrs 1
   have r2:=Aa hrs 2
   have rf0:=Ab hrs 0
   have rf1:=Ab hrs 1
   have rf2:=Ab hrs 2
   have rl:=lt_of_block hrs
   have sr0:=Aa hb9 0
   have sr1:=Aa hb9 1
   have sr2:=Aa hb9 2
   obtain⟨Hrs,Hb9,K9,Sr0,Sr1,Sr2⟩:=hid6 hrs hb9 k9 sr0 sr1 sr2;clear sr2 sr1 sr0 k9 hb9 hrs
   obtain⟨Hk1,Hkw⟩:=hid2 hk1 hkw;clear hkw hk1
   go_wp2
   have R0':=Sr0.out
   have R1':=Sr1.out
   have R2':=Sr2.out
   clear r0 r1 r2
   exact bodyPost_ret (v:= .tuple #[.agg #[.slice none 0 0,.int .i64 0,.int .i64 0],.int .i64 z]) (by simp [results,Tryz.results124,go_sem,R0',R1',R2']) rfl ⟨_,rfl,⟨by simp [ps0],.inl ⟨rfl,rfl⟩⟩,Hkw.out.trans (K9.out.mono fun i _ e=> .inr (by have e':i=w.heap.size+1:=e;omega)),fun g hg=>by simp [Value.ownBlock] at hg⟩
def intrO(g:Bool):List Tn→List (List Int)→List (List Int)→Option (List Int)
 |x::T,b::B,r::R=>if(g&&x.grace)=true then(intrO g T B R).map (fun l=>0::l) else if(ofR b r).2=0 then(intrO g T B R).map (fun l=>(ofR b r).1::l) else none
 |_,_,_=>some []
def IntrPost(o:Option (List Int))(n:Nat)(w:World)(e:Ending)(w':World):Prop:=match o with
 |none=>e= .returned (.tuple #[.slice none 0 0,.int .i64 5])∧Keeps (fun _=>False) w w'
 |some V=>∃g,e= .returned (.tuple #[.slice (some ⟨g,0,none⟩) n n,.int .i64 0])∧RowZ w' 2 g n n V∧Keeps (fun _=>False) w w'∧w.heap.size≤g
def ciS(g1 o1 g2 o2:Nat)(v1 v2:Value)(W:World):Prop:=W.cell? ⟨g1,o1,none⟩=some v1∧W.cell? ⟨g2,o2,none⟩=some v2
theorem ciS.keep{g1 o1 g2 o2:Nat}{v1 v2:Value}{W W':World}(h:ciS g1 o1 g2 o2 v1 v2 W)(hk:Keeps (fun _=>False) W W'):ciS g1 o1 g2 o2 v1 v2 W':=
 ⟨(hk.cell (Ag h.1) (by simp)).trans h.1,(hk.cell (Ag h.2) (by simp)).trans h.2⟩
theorem ofR_cases(X Y:List Int):((ofR X Y).2=0)∨((ofR X Y).2=5∧(ofR X Y).1=0):=by unfold ofR;split<;>simp
theorem some_eta{α:Type}(o:Option (List α)):o.map (fun l=> []++l)=o:=by cases o<;>simp
def zeros(n k:Nat)(P:List Int):List Int:=P++List.replicate (n-k) 0
theorem zeros_set{n k:Nat}{P:List Int}(hP:P.length=k)(hk:k<n)(v:Int):(zeros n k P).set k v=zeros n (k+1) (P++ [v]):=by
 unfold zeros
 obtain⟨m,hm⟩:∃m,n-k=m+1:=⟨n-k-1,by omega⟩
 have hm2:n-(k+1)=m:=by omega
 rw [hm,hm2,List.set_append_right _ _ (by omega),hP,Nat.sub_self,List.replicate_succ]
 simp
theorem zeros_skip{n k:Nat}{P:List Int}(hk:k<n):zeros n k P=zeros n (k+1) (P++ [0]):=by
 unfold zeros
 obtain⟨m,hm⟩:∃m,n-k=m+1:=⟨n-k-1,by omega⟩
 have hm2:n-(k+1)=m:=by omega
 rw [hm,hm2,List.replicate_succ]
 simp
theorem cloInterest_any(t:Tm)(v:Value)(SB SR:List SI)(adB adR:Option Addr)(cB cR n:Nat)(g:Bool)(w:World)(hz:t.err=0)(hn:t.trs.length=n)(hr:Reads w 2 v n (t.trs.flatMap Tn.cells))
  (hB:Reads w 1 (.slice adB n cB) n (SB.flatMap SI.cells)) (hBl:SB.length=n) (hBs:SIs w SB) (hR:Reads w 1 (.slice adR n cR) n (SR.flatMap SI.cells)) (hRl:SR.length=n) (hRs:SIs w SR)
  (hm:∀(k:Nat) (x y:SI),SB[k]?=some x→SR[k]?=some y→x.L.length=y.L.length∧x.L.length≤40000) (hBb:∀x∈SB,∀y∈x.L,0≤y∧y≤1000000000000000) (hRb:∀x∈SR,∀y∈x.L,0≤y∧y≤10000000):
  Calls Tryz.prog 104 #[.agg #[.int .i64 t.limit,v,.int .i64 t.cyc,.int .i64 t.due,.int .i64 t.minFixed,.int .i64 t.minPart,.int .i64 t.start],.slice adB n cB,.slice adR n cR,.bool g] w (IntrPost (intrO g t.trs (SB.map SI.L) (SR.map SI.L)) n w):=by
 obtain⟨i0,hi,hi0,hi1,hi2⟩:=info_parts info_tInt64
 have hnum:=tm_nums hz
 rw [hn] at hnum
 obtain⟨⟨l0,l1⟩,_⟩:=hnum
 have htm:=fun W (hW:Keeps (fun _=>False) w W)=>tmRight_at t v W hz (by rw [hn];exact hr.keeps hW (by simp)) (by omega)
 obtain⟨li,cy,du,mf,mp,st,L⟩:=t
 dsimp only at hn hr htm⊢
 obtain⟨adT,cT,rfl⟩:∃a c,v= .slice a n c:=by obtain⟨a,c,h,_⟩:=hr;exact⟨a,c,h⟩
 have hbx:∀W,Keeps (fun _=>False) (w.alloc (.cells #[.int .i64 li,.slice adT n cT,.int .i64 cy,.int .i64 du,.int .i64 mf,.int .i64 mp,.int .i64 st] 29)) W→W.heap[w.heap.size]?=some (.cells #[.int .i64 li,.slice adT n cT,.int .i64 cy,.int .i64 du,.int .i64 mf,.int .i64 mp,.int .i64 st] 29 (0,0)):=fun W hW=>Ad (heap_alloc_new w _) hW (by simp)
 obtain⟨O,hO⟩:∃O,intrO g L (SB.map SI.L) (SR.map SI.L)=O:=⟨_,rfl⟩
 rw [hO]
 have hnn:((n:Int) !=(n:Int))=false:=by simp
 have hmk:=fun(W:World)=>run_makeSlice (P:=Tryz.prog) W 32 2 i0 (.int .i64 0) Tryz.underlying32 hi hi0 .i64 .i64 (n:Int) (n:Int) (by omega) (by omega) (by rw [hi1];omega) (by rw [hi2];omega) (by omega)
 simp only [Int.toNat_natCast,hi1,Nat.mul_one] at hmk
 obtain⟨Z,hZ⟩:∃Z,Z=madeCells (Value.int .i64 0).cells n:=⟨_,rfl⟩
 rw [←hZ] at hmk
 have hstart:(intrO g (L.drop 0) ((SB.map SI.L).drop 0) ((SR.map SI.L).drop 0)).map (fun l=> []++l)=O:=by rw [List.drop_zero,List.drop_zero,List.drop_zero,some_eta];exact hO
 obtain⟨Hz,Hn,Hr,HB,HBl,HBs,HR,HRl,HRs⟩:=hid9 hz hn hr hB hBl hBs hR hRl hRs;clear hRs hRl hR hBs hBl hB hr hn hz;obtain⟨Hm,HBb,HRb,Htm,Hbx,HO,HZ,Hi,Hi0⟩:=hid9 hm hBb hRb htm hbx hO hZ hi hi0;clear hi0 hi hZ hO hbx htm hRb hBb hm;obtain⟨Hi1,Hi2,Hstart⟩:=hid3 hi1 hi2 hstart;clear hstart hi2 hi1
 go_enter Tryz.func104,Tryz.ntmps104
 go_wp2_with fail
 refine(Htm.out _ (Keeps.alloc _ _)).mono ?_
 rintro e w1 ⟨rfl,hk1⟩
 have hb1:=Hbx.out _ hk1
 have hkw1:=(Keeps.alloc w _).nt hk1
 have b1:=Aa hb1 1
 have bl:=lt_of_block hb1
 obtain⟨Hk1,Hb1,Hkw1⟩:=hid3 hk1 hb1 hkw1;clear hkw1 hb1 hk1
 go_wp2
 obtain⟨g0,hg0⟩:∃g0,g0=w1.heap.size:=⟨_,rfl⟩
 obtain⟨W2,hW2⟩:∃W2,W2=w1.alloc (.cells Z 2):=⟨_,rfl⟩
 have hrow2:RowZ W2 2 g0 n n (zeros n 0 []):=by
  rw [hW2,HZ.out,hg0]
  have:=RowZ.made w1 2 n (by unfold maxLen;omega)
  simpa [zeros] using this
 have hk2:Keeps (fun _=>False) w1 W2:=by rw [hW2];exact Keeps.alloc _ _
 have hkw2:=Hkw1.out.nt hk2
 have hbk2:=Hk1.out.nt hk2
 have hgw:(w.alloc (.cells #[.int .i64 li,.slice adT n cT,.int .i64 cy,.int .i64 du,.int .i64 mf,.int .i64 mp,.int .i64 st] 29)).heap.size≤g0:=by rw [hg0];exact Hk1.out.size
 have hgw1:w.heap.size≤g0:=by have:=hgw;simp at this;omega
 rw [←hg0]
 try rw [←hW2]
 obtain⟨Hg0,HW2,Hrow2,Hk2,Hkw2,Hbk2,Hgw,Hgw1⟩:=hid8 hg0 hW2 hrow2 hk2 hkw2 hbk2 hgw hgw1;clear hgw1 hgw hbk2 hkw2 hk2 hrow2 hW2 hg0
 clear b1 bl
 go_loopw [42] (fun x wx=>∃(k:Nat) (P:List Int),x= .int .i64 (k:Nat)∧k≤n∧P.length=k∧(intrO g (L.drop k) ((SB.map SI.L).drop k) ((SR.map SI.L).drop k)).map (fun l=>P++l)=O∧RowZ wx 2 g0 n n (zeros n k P)∧Keeps (fun i=>i=g0) W2 wx) (fun x _=>n-(intOf x).toNat)
 case atStart=>exact⟨0, [],rfl,Nat.zero_le _,rfl,Hstart.out,Hrow2.out,Keeps.refl _ _⟩
 case round=>
  obtain⟨k,P,rfl,hkn,hPl,hO2,hrow,hk⟩:=hrel
  obtain⟨wq,hwq⟩:∃x,x=wr:=⟨_,rfl⟩
  subst hwq
  have hkw:Keeps (fun _=>False) w wq:=Hkw2.out.trans (hk.mono fun i _ e=> .inr (by subst e;exact Hgw1.out))
  have hkb:=Hbk2.out.trans (hk.mono fun i _ e=> .inr (by subst e;exact Hgw.out))
  have hb:=Hbx.out wq hkb
  have b1:=Aa hb 1
  have bl:=lt_of_block hb
  by_cases hlt:k<n
  ·have hltI:(k:Int)<(n:Int):=by omega
   obtain⟨⟨ra,gr⟩,hx⟩:=Av (L:=L) (k:=k) (by rw [Hn.out];exact hlt)
   obtain⟨gT,oT,c,he,hc⟩:=(Hr.out.keeps hkw (by simp)).elem Tn.Am hx (by decide)
   simp only [Value.slice.injEq,true_and] at he
   obtain⟨rfl,rfl⟩:=he
   have x0:wq.cell? ⟨gT,oT+k*2,none⟩=some (.int .i64 ra):=hc 0 (by decide)
   have x1:wq.cell? ⟨gT,oT+k*2+1,none⟩=some (.bool gr):=hc 1 (by decide)
   have xl:=Ag x0
   clear hc
   obtain⟨⟨adb,cb,Lb⟩,hsb⟩:=Av (L:=SB) (k:=k) (by rw [HBl.out];exact hlt)
   obtain⟨⟨adr,cr,Lr⟩,hsr⟩:=Av (L:=SR) (k:=k) (by rw [HRl.out];exact hlt)
   obtain⟨g1,o1,c1,he1,hc1⟩:=(HB.out.keeps hkw (by simp)).elem SI.Am hsb (by decide)
   obtain⟨g2,o2,c2,he2,hc2⟩:=(HR.out.keeps hkw (by simp)).elem SI.Am hsr (by decide)
   simp only [Value.slice.injEq,true_and] at he1 he2
   obtain⟨rfl,rfl⟩:=he1
   obtain⟨rfl,rfl⟩:=he2
   obtain⟨hm1,hm2⟩:=Hm.out k _ _ hsb hsr
   simp only at hm1 hm2
   have y1:wq.cell? ⟨g1,o1+k,none⟩=some (.slice adb Lb.length cb):=by simpa [SI.cells,SI.v] using hc1 0 (by decide)
   have y2:wq.cell? ⟨g2,o2+k,none⟩=some (.slice adr Lr.length cr):=by simpa [SI.cells,SI.v] using hc2 0 (by decide)
   clear hc1 hc2
   have hrb:=(HBs.out _ (List.mem_of_getElem? hsb)).1
   have hrr:=(HRs.out _ (List.mem_of_getElem? hsr)).1
   simp only [SI.v] at hrb hrr
   have hdr:intrO g (L.drop k) ((SB.map SI.L).drop k) ((SR.map SI.L).drop k)=if(g&&gr)=true then(intrO g (L.drop (k+1)) ((SB.map SI.L).drop (k+1)) ((SR.map SI.L).drop (k+1))).map (fun l=>0::l) else if(ofR Lb Lr).2=0 then(intrO g (L.drop (k+1)) ((SB.map SI.L).drop (k+1)) ((SR.map SI.L).drop (k+1))).map (fun l=>(ofR Lb Lr).1::l) else none:=by
    rw [Cn hx,Cn (show(SB.map SI.L)[k]?=some Lb by rw [List.getElem?_map,hsb];rfl),Cn (show(SR.map SI.L)[k]?=some Lr by rw [List.getElem?_map,hsr];rfl)]
    rfl
   obtain⟨m,hmm⟩:∃m,Lr.length=m:=⟨_,rfl⟩
   rw [hm1] at hrb y1 hm2
   rw [hmm] at hrb hrr y1 y2 hm2
   have hof:=fun W (hW:Keeps (fun _=>False) w W)=>intOf_any Lb Lr adb adr cb cr m W (hrb.keeps hW (by simp)) (by rw [hm1,hmm]) (hrr.keeps hW (by simp)) hmm hm2 (HBb.out _ (List.mem_of_getElem? hsb)) (HRb.out _ (List.mem_of_getElem? hsr))
   have hkx:=hkw.trans (Keeps.alloc wq (.cells #[.int .i64 ra,.bool gr] 83))
   have hkg:=hk.trans (Keeps.alloc wq (.cells #[.int .i64 ra,.bool gr] 83))
   have hrowx:=hrow.keep (Keeps.alloc wq (.cells #[.int .i64 ra,.bool gr] 83))
   have hS:ciS g1 (o1+k) g2 (o2+k) (.slice adb m cb) (.slice adr m cr) ((wq.alloc (.cells #[.int .i64 ra,.bool gr] 83)).drew):=ciS.keep ⟨y1,y2⟩ ((Keeps.alloc _ _).trans (Keeps.drew _))
   clear y1 y2
   by_cases hsk:(g&&gr)=true
   ·rw [if_pos hsk] at hdr
    have hO3:(intrO g (L.drop (k+1)) ((SB.map SI.L).drop (k+1)) ((SR.map SI.L).drop (k+1))).map (fun l=>(P++ [0])++l)=O:=by
     rw [←hO2,hdr,Option.map_map]
     congr 1
     funext l
     simp
    rw [zeros_skip hlt] at hrowx
    obtain⟨rfl,rfl⟩:g=true∧gr=true:=by simpa using hsk
    obtain⟨HO2,Hdr,HO3,Hrow,Hrowx,Hk,Hkw,Hkb,Hb⟩:=hid9 hO2 hdr hO3 hrow hrowx hk hkw hkb hb;clear hb hkb hkw hk hrowx hrow hO3 hdr hO2;obtain⟨Hx,Hsb,Hsr,Hrb,Hrr,Hof,Hkx,Hkg,HS⟩:=hid9 hx hsb hsr hrb hrr hof hkx hkg hS;clear hS hkg hkx hof hrr hrb hsr hsb hx;obtain⟨Hm1,Hmm,HPl,Hsk⟩:=hid4 hm1 hmm hPl hsk;clear hsk hPl hmm hm1
    go_wp2
    go_roundw
    case rel=>exact⟨k+1,P++ [0],by go_num,by omega,by rw [List.length_append,HPl.out];rfl,HO3.out,Hrowx.out,Hkg.out⟩
    case measure=>simp [intOf];omega
   ·rw [if_neg hsk] at hdr
    rcases g with _|_
    ·obtain⟨HO2,Hdr,Hrow,Hrowx,Hk,Hkw,Hkb,Hb,Hx⟩:=hid9 hO2 hdr hrow hrowx hk hkw hkb hb hx;clear hx hb hkb hkw hk hrowx hrow hdr hO2;obtain⟨Hsb,Hsr,Hrb,Hrr,Hof,Hkx,Hkg,HS,Hm1⟩:=hid9 hsb hsr hrb hrr hof hkx hkg hS hm1;clear hm1 hS hkg hkx hof hrr hrb hsr hsb;obtain⟨Hmm,HPl,Hsk⟩:=hid3 hmm hPl hsk;clear hsk hPl hmm
     go_wp2_with fail
     refine Ao (ciS g1 (o1+k) g2 (o2+k) (.slice adb m cb) (.slice adr m cr)) (.take 0 (.take 1 (.take 2 (.take 3 (.take 4 (.take 5 (.take 6 (.take 7 (.move 8 (.take 9 (.take 10 (.take 11 (.take 12 (.take 13 .done)))))))))))))) (by kernel_rfl) (by kernel_rfl) ?_ ?_
     ·exact HS.out
     intro w3 hs3 hk3
     repeat ((first|refine Ai rfl (by rfl) ?_|refine Af rfl (by rfl) ?_|(refine Ah (v:= ?_) rfl (by rfl) ?_ ?_;rotate_left;(· intro w' hSw;unfold ciS at hSw;go_simp;(try with_reducible rfl));rotate_right));try simp only [aps])
     refine Ak rfl (fun K hK=> ?_)
     go_simp
     go_at_call 126
     ((with_reducible refine(Hof.out _ (Hkx.out.nt hk3)).mono ?_);rintro e w4 ⟨rfl,hk4⟩;dsimp only)
     refine hK.out _ _ (by exact hs3.keep hk4) ?_
     clear hK K
     try simp only [aps]
     repeat ((first|refine Ai rfl (by rfl) ?_|refine Af rfl (by rfl) ?_|(refine Ah (v:= ?_) rfl (by rfl) ?_ ?_;rotate_left;(· intro w' hSw;unfold ciS at hSw;go_simp;(try with_reducible rfl));rotate_right));try simp only [aps])
     refine Aw ?_
     have hkx4:=(Hkx.out.nt hk3).nt hk4
     have hkg4:=(Hkg.out.trans (hk3.mono (by simp))).trans (hk4.mono (by simp))
     have hrow4:=(Hrowx.out.keep hk3).keep hk4
     rcases ofR_cases Lb Lr with h5|⟨h5,h51⟩
     ·have hdr2:=Hdr.out
      rw [if_pos h5] at hdr2
      obtain⟨z,hzv⟩:∃z,(ofR Lb Lr).1=z:=⟨_,rfl⟩
      rw [hzv] at hdr2⊢
      rw [h5]
      have hO3:(intrO false (L.drop (k+1)) ((SB.map SI.L).drop (k+1)) ((SR.map SI.L).drop (k+1))).map (fun l=>(P++ [z])++l)=O:=by
       rw [←HO2.out,hdr2,Option.map_map]
       congr 1
       funext l
       simp
      exact jZ23
     ·exact jZ36
    ·obtain rfl:gr=false:=by simpa using hsk
     obtain⟨HO2,Hdr,Hrow,Hrowx,Hk,Hkw,Hkb,Hb,Hx⟩:=hid9 hO2 hdr hrow hrowx hk hkw hkb hb hx;clear hx hb hkb hkw hk hrowx hrow hdr hO2;obtain⟨Hsb,Hsr,Hrb,Hrr,Hof,Hkx,Hkg,HS,Hm1⟩:=hid9 hsb hsr hrb hrr hof hkx hkg hS hm1;clear hm1 hS hkg hkx hof hrr hrb hsr hsb;obtain⟨Hmm,HPl,Hsk⟩:=hid3 hmm hPl hsk;clear hsk hPl hmm
     go_wp2_with fail
     refine Ao (ciS g1 (o1+k) g2 (o2+k) (.slice adb m cb) (.slice adr m cr)) (.take 0 (.take 1 (.take 2 (.take 3 (.take 4 (.take 5 (.take 6 (.take 7 (.move 8 (.take 9 (.take 10 (.take 11 (.take 12 (.take 13 .done)))))))))))))) (by kernel_rfl) (by kernel_rfl) ?_ ?_
     ·exact HS.out
     intro w3 hs3 hk3
     repeat ((first|refine Ai rfl (by rfl) ?_|refine Af rfl (by rfl) ?_|(refine Ah (v:= ?_) rfl (by rfl) ?_ ?_;rotate_left;(· intro w' hSw;unfold ciS at hSw;go_simp;(try with_reducible rfl));rotate_right));try simp only [aps])
     refine Ak rfl (fun K hK=> ?_)
     go_simp
     go_at_call 126
     ((with_reducible refine(Hof.out _ (Hkx.out.nt hk3)).mono ?_);rintro e w4 ⟨rfl,hk4⟩;dsimp only)
     refine hK.out _ _ (by exact hs3.keep hk4) ?_
     clear hK K
     try simp only [aps]
     repeat ((first|refine Ai rfl (by rfl) ?_|refine Af rfl (by rfl) ?_|(refine Ah (v:= ?_) rfl (by rfl) ?_ ?_;rotate_left;(· intro w' hSw;unfold ciS at hSw;go_simp;(try with_reducible rfl));rotate_right));try simp only [aps])
     refine Aw ?_
     have hkx4:=(Hkx.out.nt hk3).nt hk4
     have hkg4:=(Hkg.out.trans (hk3.mono (by simp))).trans (hk4.mono (by simp))
     have hrow4:=(Hrowx.out.keep hk3).keep hk4
     rcases ofR_cases Lb Lr with h5|⟨h5,h51⟩
     ·have hdr2:=Hdr.out
      rw [if_pos h5] at hdr2
      obtain⟨z,hzv⟩:∃z,(ofR Lb Lr).1=z:=⟨_,rfl⟩
      rw [hzv] at hdr2⊢
      rw [h5]
      have hO3:(intrO true (L.drop (k+1)) ((SB.map SI.L).drop (k+1)) ((SR.map SI.L).drop (k+1))).map (fun l=>(P++ [z])++l)=O:=by
       rw [←HO2.out,hdr2,Option.map_map]
       congr 1
       funext l
       simp
      exact jZ23
     ·exact jZ36
  ·obtain rfl:k=n:=by omega
   rw [List.drop_eq_nil_of_le (by rw [Hn.out];exact Nat.le_refl _)] at hO2
   simp only [intrO,Option.map_some,List.append_nil] at hO2
   subst hO2
   have hrow':RowZ wq 2 g0 k k P:=by simpa [zeros] using hrow
   obtain⟨Hrow',Hrow,Hk,Hkw,Hkb,Hb⟩:=hid6 hrow' hrow hk hkw hkb hb;clear hb hkb hkw hk hrow hrow'
   go_wp2
   exact bodyPost_ret (v:= .tuple #[.slice (some ⟨g0,0,none⟩) k k,.int .i64 0]) (by simp [results,Tryz.results104,go_sem]) rfl ⟨g0,rfl,Hrow'.out,Hkw.out,Hgw1.out⟩
def lnL:List Int→List Int→List Int→List Ln
 |b::B,x::X,r::R=>⟨b,x,r⟩::lnL B X R
 |_,_,_=> []
theorem lnL_get:∀{B X R:List Int} {k:Nat} {b x r:Int},B[k]?=some b→X[k]?=some x→R[k]?=some r→(lnL B X R)[k]?=some ⟨b,x,r⟩:=by
 intro B
 induction B with
 |nil=>intro X R k b x r h;simp at h
 |cons a B ih=>
  intro X R k b x r h1 h2 h3
  rcases X with _|⟨y,X⟩
  ·simp at h2
  rcases R with _|⟨z,R⟩
  ·simp at h3
  cases k with
  |zero=>
   simp only [List.getElem?_cons_zero,Option.some.injEq] at h1 h2 h3
   subst h1 h2 h3
   rfl
  |succ k=>
   simp only [List.getElem?_cons_succ] at h1 h2 h3
   simpa [lnL] using ih h1 h2 h3
theorem lnL_length:∀(B X R:List Int) {n:Nat},B.length=n→X.length=n→R.length=n→(lnL B X R).length=n:=by
 intro B
 induction B with
 |nil=>intro X R n h1 _ _;simp only [List.length_nil] at h1;subst h1;rfl
 |cons a B ih=>
  intro X R n h1 h2 h3
  rcases X with _|⟨y,X⟩
  ·simp only [List.length_nil] at h2;simp only [List.length_cons] at h1;omega
  rcases R with _|⟨z,R⟩
  ·simp only [List.length_nil] at h3;simp only [List.length_cons] at h1;omega
  simp only [List.length_cons,lnL] at h1 h2 h3⊢
  rw [ih X R (n:=n-1) (by omega) (by omega) (by omega)]
  omega
def closeR(t:Tm)(cy fr te:Int)(p:Ps)(R X:List Int)(g:Bool):Option (Stm×Ps):=
 if(bearR p X).2=0 then some (⟨cy,fr,te,te+t.due,sumI (bearR p X).1.bal,(bearR p X).1.cr,leastI t.minFixed t.minPart (sumI (bearR p X).1.bal),g,lnL (bearR p X).1.bal X R⟩,⟨(bearR p X).1.bal,(bearR p X).1.cr,leastI t.minFixed t.minPart (sumI (bearR p X).1.bal)⟩) else none
def Dn(o:Option (Stm×Ps))(w:World)(e:Ending)(w':World):Prop:=match o with
 |none=>e= .returned (.tuple #[.agg #[.int .i64 0,.int .i64 0,.int .i64 0,.int .i64 0,.slice none 0 0,.int .i64 0,.int .i64 0,.int .i64 0,.bool false],.agg #[.slice none 0 0,.int .i64 0,.int .i64 0],.int .i64 5])∧Keeps (fun _=>False) w w'
 |some (s,q)=>∃vl vb,e= .returned (.tuple #[.agg #[.int .i64 s.cycle,.int .i64 s.fr,.int .i64 s.te,.int .i64 s.due,vl,.int .i64 s.total,.int .i64 s.credit,.int .i64 s.min,.bool s.grace],.agg #[vb,.int .i64 q.cr,.int .i64 q.du],.int .i64 0])∧
  w'.ownsRow 0 102 3 vl s.lines.length (s.lines.flatMap Ln.cells)∧w'.ownsRow 0 2 1 vb q.bal.length (q.bal.flatMap i64c)∧Keeps (fun _=>False) w w'∧(∀g,vl.ownBlock=some g→w.heap.size≤g)∧(∀g,vb.ownBlock=some g→w.heap.size≤g)
theorem bearR_err{p:Ps}{X:List Int}(hp:p.rightB=true)(hl:X.length=p.bal.length)(hX:X.all moneyP=true):((bearR p X).2=0∧(bearR p X).1.rightB=true∧(bearR p X).1.bal.length=p.bal.length)∨((bearR p X).2=5∧(bearR p X).1=ps0):=by
 unfold bearR
 rw [if_pos ⟨hp,hl,hX⟩]
 split
 ·rename_i h
  exact .inl ⟨rfl,h,bearS_len X p _⟩
 ·exact .inr ⟨rfl,rfl⟩
theorem minI_bd{a b:Int}(ha:0≤a)(hb:0≤b):0≤minI a b∧minI a b≤a:=by unfold minI;split<;>omega
theorem leastI_bd{mf mp total:Int}(h0:0≤total)(hf:0≤mf):0≤leastI mf mp total∧leastI mf mp total≤total:=by
 unfold leastI
 refine minI_bd h0 ?_
 unfold maxI
 split<;>omega
set_option maxHeartbeats 400000
theorem cloDay_ok(n:Int)(w:World)(h0: -135140≤n)(h1:n≤2932896):Calls Tryz.prog 127 #[.int .i64 n] w fun e w'=>e= .returned (.bool true)∧w=w':=by
 have h0':decide (-135140≤n)=true:=by simp [h0]
 have h1':decide (n≤2932896)=true:=by simp [h1]
 go_enter Tryz.func127,Tryz.ntmps127
 go_wp2
 go_ret
 exact⟨rfl,rfl⟩
theorem store9{W:World}{R:Nat}{t:TypeId}{a0 a1 a2 a3 a4 a5 a6 a7 a8:Value}(h:W.heap[R]?=some (.cells #[a0,a1,a2,a3,a4,a5,a6,a7,a8] t (0,0)))(v0 v1 v2 v3 v4 v5 v6 v7 v8:Value):
  (((((((((W.setCell ⟨R,0,none⟩ v0).setCell ⟨R,1,none⟩ v1).setCell ⟨R,2,none⟩ v2).setCell ⟨R,3,none⟩ v3).setCell ⟨R,4,none⟩ v4).setCell ⟨R,5,none⟩ v5).setCell ⟨R,6,none⟩ v6).setCell ⟨R,7,none⟩ v7).setCell ⟨R,8,none⟩ v8).heap[R]?=some (.cells #[v0,v1,v2,v3,v4,v5,v6,v7,v8] t (0,0))∧Keeps (fun i=>i=R) W (((((((((W.setCell ⟨R,0,none⟩ v0).setCell ⟨R,1,none⟩ v1).setCell ⟨R,2,none⟩ v2).setCell ⟨R,3,none⟩ v3).setCell ⟨R,4,none⟩ v4).setCell ⟨R,5,none⟩ v5).setCell ⟨R,6,none⟩ v6).setCell ⟨R,7,none⟩ v7).setCell ⟨R,8,none⟩ v8):=by
 have h0:(W.setCell ⟨R,0,none⟩ v0).heap[R]?=some (.cells #[v0,a1,a2,a3,a4,a5,a6,a7,a8] t (0,0)):=(heap_setCell_same _ _ 0 _ _ _ h).trans rfl
 have h1:((W.setCell ⟨R,0,none⟩ v0).setCell ⟨R,1,none⟩ v1).heap[R]?=some (.cells #[v0,v1,a2,a3,a4,a5,a6,a7,a8] t (0,0)):=(heap_setCell_same _ _ 1 _ _ _ h0).trans rfl
 have h2:(((W.setCell ⟨R,0,none⟩ v0).setCell ⟨R,1,none⟩ v1).setCell ⟨R,2,none⟩ v2).heap[R]?=some (.cells #[v0,v1,v2,a3,a4,a5,a6,a7,a8] t (0,0)):=(heap_setCell_same _ _ 2 _ _ _ h1).trans rfl
 have h3:((((W.setCell ⟨R,0,none⟩ v0).setCell ⟨R,1,none⟩ v1).setCell ⟨R,2,none⟩ v2).setCell ⟨R,3,none⟩ v3).heap[R]?=some (.cells #[v0,v1,v2,v3,a4,a5,a6,a7,a8] t (0,0)):=(heap_setCell_same _ _ 3 _ _ _ h2).trans rfl
 have h4:(((((W.setCell ⟨R,0,none⟩ v0).setCell ⟨R,1,none⟩ v1).setCell ⟨R,2,none⟩ v2).setCell ⟨R,3,none⟩ v3).setCell ⟨R,4,none⟩ v4).heap[R]?=some (.cells #[v0,v1,v2,v3,v4,a5,a6,a7,a8] t (0,0)):=(heap_setCell_same _ _ 4 _ _ _ h3).trans rfl
 have h5:((((((W.setCell ⟨R,0,none⟩ v0).setCell ⟨R,1,none⟩ v1).setCell ⟨R,2,none⟩ v2).setCell ⟨R,3,none⟩ v3).setCell ⟨R,4,none⟩ v4).setCell ⟨R,5,none⟩ v5).heap[R]?=some (.cells #[v0,v1,v2,v3,v4,v5,a6,a7,a8] t (0,0)):=(heap_setCell_same _ _ 5 _ _ _ h4).trans rfl
 have h6:(((((((W.setCell ⟨R,0,none⟩ v0).setCell ⟨R,1,none⟩ v1).setCell ⟨R,2,none⟩ v2).setCell ⟨R,3,none⟩ v3).setCell ⟨R,4,none⟩ v4).setCell ⟨R,5,none⟩ v5).setCell ⟨R,6,none⟩ v6).heap[R]?=some (.cells #[v0,v1,v2,v3,v4,v5,v6,a7,a8] t (0,0)):=(heap_setCell_same _ _ 6 _ _ _ h5).trans rfl
 have h7:((((((((W.setCell ⟨R,0,none⟩ v0).setCell ⟨R,1,none⟩ v1).setCell ⟨R,2,none⟩ v2).setCell ⟨R,3,none⟩ v3).setCell ⟨R,4,none⟩ v4).setCell ⟨R,5,none⟩ v5).setCell ⟨R,6,none⟩ v6).setCell ⟨R,7,none⟩ v7).heap[R]?=some (.cells #[v0,v1,v2,v3,v4,v5,v6,v7,a8] t (0,0)):=(heap_setCell_same _ _ 7 _ _ _ h6).trans rfl
 have h8:(((((((((W.setCell ⟨R,0,none⟩ v0).setCell ⟨R,1,none⟩ v1).setCell ⟨R,2,none⟩ v2).setCell ⟨R,3,none⟩ v3).setCell ⟨R,4,none⟩ v4).setCell ⟨R,5,none⟩ v5).setCell ⟨R,6,none⟩ v6).setCell ⟨R,7,none⟩ v7).setCell ⟨R,8,none⟩ v8).heap[R]?=some (.cells #[v0,v1,v2,v3,v4,v5,v6,v7,v8] t (0,0)):=(heap_setCell_same _ _ 8 _ _ _ h7).trans rfl
 have k0:Keeps (fun i=>i=R) W (W.setCell ⟨R,0,none⟩ v0):=Keeps.setCell _ _ _ rfl
 have k1:=k0.trans (Keeps.setCell (S:=fun j=>j=R∨W.heap.size≤j) (W.setCell ⟨R,0,none⟩ v0) ⟨R,1,none⟩ v1 (.inl rfl))
 have k2:=k1.trans (Keeps.setCell (S:=fun j=>j=R∨W.heap.size≤j) ((W.setCell ⟨R,0,none⟩ v0).setCell ⟨R,1,none⟩ v1) ⟨R,2,none⟩ v2 (.inl rfl))
 have k3:=k2.trans (Keeps.setCell (S:=fun j=>j=R∨W.heap.size≤j) (((W.setCell ⟨R,0,none⟩ v0).setCell ⟨R,1,none⟩ v1).setCell ⟨R,2,none⟩ v2) ⟨R,3,none⟩ v3 (.inl rfl))
 have k4:=k3.trans (Keeps.setCell (S:=fun j=>j=R∨W.heap.size≤j) ((((W.setCell ⟨R,0,none⟩ v0).setCell ⟨R,1,none⟩ v1).setCell ⟨R,2,none⟩ v2).setCell ⟨R,3,none⟩ v3) ⟨R,4,none⟩ v4 (.inl rfl))
 have k5:=k4.trans (Keeps.setCell (S:=fun j=>j=R∨W.heap.size≤j) (((((W.setCell ⟨R,0,none⟩ v0).setCell ⟨R,1,none⟩ v1).setCell ⟨R,2,none⟩ v2).setCell ⟨R,3,none⟩ v3).setCell ⟨R,4,none⟩ v4) ⟨R,5,none⟩ v5 (.inl rfl))
 have k6:=k5.trans (Keeps.setCell (S:=fun j=>j=R∨W.heap.size≤j) ((((((W.setCell ⟨R,0,none⟩ v0).setCell ⟨R,1,none⟩ v1).setCell ⟨R,2,none⟩ v2).setCell ⟨R,3,none⟩ v3).setCell ⟨R,4,none⟩ v4).setCell ⟨R,5,none⟩ v5) ⟨R,6,none⟩ v6 (.inl rfl))
 have k7:=k6.trans (Keeps.setCell (S:=fun j=>j=R∨W.heap.size≤j) (((((((W.setCell ⟨R,0,none⟩ v0).setCell ⟨R,1,none⟩ v1).setCell ⟨R,2,none⟩ v2).setCell ⟨R,3,none⟩ v3).setCell ⟨R,4,none⟩ v4).setCell ⟨R,5,none⟩ v5).setCell ⟨R,6,none⟩ v6) ⟨R,7,none⟩ v7 (.inl rfl))
 have k8:=k7.trans (Keeps.setCell (S:=fun j=>j=R∨W.heap.size≤j) ((((((((W.setCell ⟨R,0,none⟩ v0).setCell ⟨R,1,none⟩ v1).setCell ⟨R,2,none⟩ v2).setCell ⟨R,3,none⟩ v3).setCell ⟨R,4,none⟩ v4).setCell ⟨R,5,none⟩ v5).setCell ⟨R,6,none⟩ v6).setCell ⟨R,7,none⟩ v7) ⟨R,8,none⟩ v8 (.inl rfl))
 exact⟨h8,k8⟩
structure CB(T S:Array Value)(w W:World):Prop where
 t:W.heap[w.heap.size]?=some (.cells T 29 (0,0))
 s:W.heap[w.heap.size+1]?=some (.cells S 39 (0,0))
 r1:W.heap[w.heap.size+1+1+1]?=some (.cells #[.int .i64 0,.int .i64 0,.int .i64 0,.int .i64 0,.slice none 0 0,.int .i64 0,.int .i64 0,.int .i64 0,.bool false] 42 (0,0))
 r2:W.heap[w.heap.size+1+1+1+1]?=some (.cells #[.slice none 0 0,.int .i64 0,.int .i64 0] 34 (0,0))
 kp:Keeps (fun _=>False) w W
theorem CB.keep{T S:Array Value}{w W W':World}(h:CB T S w W)(hk:Keeps (fun i=>i=w.heap.size+1+1∨w.heap.size+1+1+1+1+1≤i) W W'):CB T S w W':=
 ⟨Ad h.t hk (by omega),Ad h.s hk (by omega),Ad h.r1 hk (by omega),Ad h.r2 hk (by omega),h.kp.trans (hk.mono fun i _ e=> .inr (by omega))⟩
theorem CB.keep0{T S:Array Value}{w W W':World}(h:CB T S w W)(hk:Keeps (fun _=>False) W W'):CB T S w W':=h.keep (hk.mono (by simp))
theorem CB.start(T S C:Array Value)(w:World):CB T S w ((((((w.alloc (.cells T 29)).alloc (.cells S 39)).alloc (.cells C 34)).alloc (.cells #[.int .i64 0,.int .i64 0,.int .i64 0,.int .i64 0,.slice none 0 0,.int .i64 0,.int .i64 0,.int .i64 0,.bool false] 42)).alloc (.cells #[.slice none 0 0,.int .i64 0,.int .i64 0] 34)).alloc (.cells #[.int .i64 0,.int .i64 0,.int .i64 0,.int .i64 0,.slice none 0 0,.int .i64 0,.int .i64 0,.int .i64 0,.bool false] 42)):=
 ⟨Au (Au (Au (Au (Au (heap_alloc_new w _) _) _) _) _) _,Au (Au (Au (Au (Ay _ _ (by simp)) _) _) _) _,Au (Au (Ay _ _ (by simp)) _) _,Au (Ay _ _ (by simp)) _,
  (((((Keeps.alloc _ _).Ae).Ae).Ae).Ae).Ae⟩
def c13S(b:Nat)(fr te due:Int)(pv:Value)(pc pd:Int)(W:World):Prop:=W.cell? ⟨b+1,0,none⟩=some (.int .i64 fr)∧W.cell? ⟨b+1,1,none⟩=some (.int .i64 te)∧W.cell? ⟨b,3,none⟩=some (.int .i64 due)∧W.cell? ⟨b+1+1,0,none⟩=some pv∧W.cell? ⟨b+1+1,1,none⟩=some (.int .i64 pc)∧W.cell? ⟨b+1+1,2,none⟩=some (.int .i64 pd)
theorem c13S.keep{b:Nat}{fr te due:Int}{pv:Value}{pc pd:Int}{W W':World}{S:Nat→Prop}(h:c13S b fr te due pv pc pd W)(hk:Keeps S W W')(hS:∀i,S i→b+1+1<i):c13S b fr te due pv pc pd W':=by
 obtain⟨h1,h2,h3,h4,h5,h6⟩:=h
 refine⟨(hk.cell (Ag h1) ?_).trans h1,(hk.cell (Ag h2) ?_).trans h2,(hk.cell (Ag h3) ?_).trans h3,(hk.cell (Ag h4) ?_).trans h4,(hk.cell (Ag h5) ?_).trans h5,(hk.cell (Ag h6) ?_).trans h6⟩
 all_goals (intro e;have:=hS _ e;simp only at this;omega)
def c19S(b gX oX gR oR:Nat)(vl:Value)(x r:Int)(W:World):Prop:=W.cell? ⟨b,4,none⟩=some vl∧W.cell? ⟨gX,oX,none⟩=some (.int .i64 x)∧W.cell? ⟨gR,oR,none⟩=some (.int .i64 r)
theorem c19S.keep{b gX oX gR oR:Nat}{vl:Value}{x r:Int}{W W':World}{S:Nat→Prop}(h:c19S b gX oX gR oR vl x r W)(hk:Keeps S W W')(h1:¬S b)(h2:¬S gX)(h3:¬S gR):c19S b gX oX gR oR vl x r W':=
 ⟨(hk.cell (Ag h.1) h1).trans h.1,(hk.cell (Ag h.2.1) h2).trans h.2.1,(hk.cell (Ag h.2.2) h3).trans h.2.2⟩
structure LnAt(W6:World)(b:Nat)(cy fr te du S qc M:Int)(g:Bool)(N:List Ln)(k:Nat)(vl:Value)(wx:World):Prop where
 blk:wx.heap[b]?=some (.cells #[.int .i64 cy,.int .i64 fr,.int .i64 te,.int .i64 du,vl,.int .i64 S,.int .i64 qc,.int .i64 M,.bool g] 42 (0,0))
 row:wx.ownsRow 0 102 3 vl k ((N.take k).flatMap Ln.cells)
 kp:Keeps (fun i=>i=b) W6 wx
 nw:∀i,vl.ownBlock=some i→W6.heap.size≤i
theorem LnAt.app{W6:World}{b:Nat}{cy fr te du S qc M:Int}{g:Bool}{N:List Ln}{k m:Nat}{vl vl':Value}{wx w4 w5:World}{x:Ln}{xs:List Value}(h:LnAt W6 b cy fr te du S qc M g N k vl wx)(hb6:b<W6.heap.size)(hx:N[k]?=some x)(hm:m=k+1)(hxs:xs=(N.take k).flatMap Ln.cells++x.cells)
  (hk4:Keeps (fun _=>False) wx w4) (ho:w5.ownsRow 0 102 3 vl' m xs) (hk:Keeps (fun i=>vl.ownBlock=some i) w4 w5) (hf:vl'.ownBlock=vl.ownBlock∨∃g,vl'.ownBlock=some g∧w4.heap.size≤g):LnAt W6 b cy fr te du S qc M g N (k+1) vl' (w5.setCell ⟨b,4,none⟩ vl'):=by
 subst hm hxs
 have hb5:w5.heap[b]?=some (.cells #[.int .i64 cy,.int .i64 fr,.int .i64 te,.int .i64 du,vl,.int .i64 S,.int .i64 qc,.int .i64 M,.bool g] 42 (0,0)):=Ad (Ad h.blk hk4 (by simp)) hk (fun e=>by have:=h.nw _ e;omega)
 have hs1:=h.kp.size
 have hs2:=hk4.size
 have hnw:∀i,vl'.ownBlock=some i→W6.heap.size≤i:=fun i e=>by
  rcases hf with hf|⟨g',hg,hh⟩
  ·exact h.nw i (by rw [←hf];exact e)
  ·rw [hg] at e;simp only [Option.some.injEq] at e;omega
 have hset:Keeps (fun i=>i=b) w5 (w5.setCell ⟨b,4,none⟩ vl'):=Keeps.setCell _ _ _ rfl
 refine⟨(heap_setCell_same _ _ 4 _ _ _ hb5).trans rfl,hset.row (by rw [take_snoc' hx,List.flatMap_append];simpa using ho) (fun i hi e=>by have:=hnw i hi;omega), ?_,hnw⟩
 exact((h.kp.trans (hk4.mono (by simp))).trans (hk.mono fun i _ e=> .inr (h.nw i e))).trans (hset.mono fun i _ e=> .inl e)
def c21S(o p:Nat)(cy fr te du:Int)(vl:Value)(S qc M:Int)(g:Bool)(pv:Value)(pc pd:Int)(W:World):Prop:=W.cell? ⟨o,0,none⟩=some (.int .i64 cy)∧W.cell? ⟨o,1,none⟩=some (.int .i64 fr)∧W.cell? ⟨o,2,none⟩=some (.int .i64 te)∧W.cell? ⟨o,3,none⟩=some (.int .i64 du)∧W.cell? ⟨o,4,none⟩=some (vl)∧W.cell? ⟨o,5,none⟩=some (.int .i64 S)∧W.cell? ⟨o,6,none⟩=some (.int .i64 qc)∧W.cell? ⟨o,7,none⟩=some (.int .i64 M)∧W.cell? ⟨o,8,none⟩=some (.bool g)∧W.cell? ⟨p,0,none⟩=some pv∧W.cell? ⟨p,1,none⟩=some (.int .i64 pc)∧W.cell? ⟨p,2,none⟩=some (.int .i64 pd)
theorem c21S.of{o p:Nat}{cy fr te du:Int}{vl:Value}{S qc M:Int}{g:Bool}{pv:Value}{pc pd:Int}{W:World}(h:W.heap[o]?=some (.cells #[.int .i64 cy,.int .i64 fr,.int .i64 te,.int .i64 du,vl,.int .i64 S,.int .i64 qc,.int .i64 M,.bool g] 42 (0,0)))(h':W.heap[p]?=some (.cells #[pv,.int .i64 pc,.int .i64 pd] 34 (0,0))):c21S o p cy fr te du vl S qc M g pv pc pd W:=
 ⟨Aa h 0,Aa h 1,Aa h 2,Aa h 3,Aa h 4,Aa h 5,Aa h 6,Aa h 7,Aa h 8,Aa h' 0,Aa h' 1,Aa h' 2⟩
set_option maxHeartbeats 3200000
theorem cloClose_any(t:Tm)(v:Value)(cy fr te:Int)(L X R:List Int)(cr du:Int)(ad adX adR:Option Addr)(cap cX cR n:Nat)(g:Bool)(w:World)(hz:t.err=0)(hn:t.trs.length=n)(hr:Reads w 2 v n (t.trs.flatMap Tn.cells))
  (hcy:1≤cy∧cy≤300) (hsp: -135140≤fr∧fr≤te∧te≤2932896) (hL:Reads w 1 (.slice ad n cap) n (L.flatMap i64c)) (hLn:L.length=n) (hX:Reads w 1 (.slice adX n cX) n (X.flatMap i64c)) (hXn:X.length=n) (hR:Reads w 1 (.slice adR n cR) n (R.flatMap i64c)) (hRn:R.length=n)
  (hright:Ps.rightB ⟨L,cr,du⟩=true) (hXb:X.all moneyP=true) (hRb:∀x∈R,0≤x∧x≤10000000):
  Calls Tryz.prog 105 #[.agg #[.int .i64 t.limit,v,.int .i64 t.cyc,.int .i64 t.due,.int .i64 t.minFixed,.int .i64 t.minPart,.int .i64 t.start],.int .i64 cy,.agg #[.int .i64 fr,.int .i64 te],.agg #[.slice ad n cap,.int .i64 cr,.int .i64 du],.slice adR n cR,.slice adX n cX,.bool g] w (Dn (closeR t cy fr te ⟨L,cr,du⟩ R X g) w):=by
 obtain⟨i0,hi,hi0,hi1,hi2⟩:=info_parts info_tLine
 have hnum:=tm_nums hz
 rw [hn] at hnum
 obtain⟨⟨l0,l1⟩,_,_,⟨d0,d1⟩,⟨f0,f1⟩,_⟩:=hnum
 have htm:=fun W (hW:Keeps (fun _=>False) w W)=>tmRight_at t v W hz (by rw [hn];exact hr.keeps hW (by simp)) (by omega)
 have hle:=fun W (hW:Keeps (fun _=>False) w W) total h0 h1=>leastOf_any t v total W hz (by rw [hn];exact hr.keeps hW (by simp)) h0 h1
 have hbe:=fun W (hW:Keeps (fun _=>False) w W)=>poolBear_any L X cr du ad adX cap cX n n W (hL.keeps hW (by simp)) hLn (by omega) (hX.keeps hW (by simp)) hXn (by omega)
 have hber:=bearR_err hright (show X.length=(Ps.mk L cr du).bal.length by rw [hXn];exact hLn.symm) hXb
 obtain⟨O,hO⟩:∃O,closeR t cy fr te ⟨L,cr,du⟩ R X g=O:=⟨_,rfl⟩
 rw [hO]
 unfold closeR at hO
 obtain⟨⟨q,z⟩,hq⟩:∃q,bearR ⟨L,cr,du⟩ X=q:=⟨_,rfl⟩
 rw [hq] at hbe hber hO
 simp only at hbe hber hO
 obtain⟨li,cyc,due,mf,mp,st,TL⟩:=t
 dsimp only at *
 obtain⟨adT,cT,rfl⟩:∃a c,v= .slice a n c:=by obtain⟨a,c,h,_⟩:=hr;exact⟨a,c,h⟩
 have hst:=CB.start #[.int .i64 li,.slice adT n cT,.int .i64 cyc,.int .i64 due,.int .i64 mf,.int .i64 mp,.int .i64 st] #[.int .i64 fr,.int .i64 te] #[.slice ad n cap,.int .i64 cr,.int .i64 du] w
 obtain⟨W0,hW0⟩:∃W0,W0=((((((w.alloc (.cells #[.int .i64 li,.slice adT n cT,.int .i64 cyc,.int .i64 due,.int .i64 mf,.int .i64 mp,.int .i64 st] 29)).alloc (.cells #[.int .i64 fr,.int .i64 te] 39)).alloc (.cells #[.slice ad n cap,.int .i64 cr,.int .i64 du] 34)).alloc (.cells #[.int .i64 0,.int .i64 0,.int .i64 0,.int .i64 0,.slice none 0 0,.int .i64 0,.int .i64 0,.int .i64 0,.bool false] 42)).alloc (.cells #[.slice none 0 0,.int .i64 0,.int .i64 0] 34)).alloc (.cells #[.int .i64 0,.int .i64 0,.int .i64 0,.int .i64 0,.slice none 0 0,.int .i64 0,.int .i64 0,.int .i64 0,.bool false] 42)):=⟨_,rfl⟩
 have hpb:W0.heap[w.heap.size+1+1]?=some (.cells #[.slice ad n cap,.int .i64 cr,.int .i64 du] 34 (0,0)):=by rw [hW0];exact Au (Au (Au (Ay _ _ (by simp)) _) _) _
 have hob:W0.heap[w.heap.size+1+1+1+1+1]?=some (.cells #[.int .i64 0,.int .i64 0,.int .i64 0,.int .i64 0,.slice none 0 0,.int .i64 0,.int .i64 0,.int .i64 0,.bool false] 42 (0,0)):=by rw [hW0];exact Ay _ _ (by simp)
 rw [←hW0] at hst
 obtain⟨c0,c1⟩:=hcy
 obtain⟨s0,s1,s2⟩:=hsp
 have hnn:((n:Int) !=(n:Int))=false:=by simp
 have c0I:decide (cy<1)=false:=by rw [decide_eq_false_iff_not];omega
 have c1I:decide (300<cy)=false:=by rw [decide_eq_false_iff_not];omega
 have s1I:decide (te<fr)=false:=by rw [decide_eq_false_iff_not];omega
 obtain⟨Hz,Hn,Hr,HL,HLn,HX,HXn,HR,HRn⟩:=hid9 hz hn hr hL hLn hX hXn hR hRn;clear hRn hR hXn hX hLn hL hr hn hz;obtain⟨Hright,HXb,HRb,Hi,Hi0,Hi1,Hi2,Htm,Hle⟩:=hid9 hright hXb hRb hi hi0 hi1 hi2 htm hle;clear hle htm hi2 hi1 hi0 hi hRb hXb hright;obtain⟨Hbe,Hber,HO,Hq,Hst,HW0,Hpb,Hob⟩:=hid8 hbe hber hO hq hst hW0 hpb hob;clear hob hpb hW0 hst hq hO hber hbe
 go_enter Tryz.func105,Tryz.ntmps105
 go_wp2_with fail
 refine Be 0 rfl ?_
 go_wp2_with fail
 rw [←HW0.out]
 refine(Htm.out _ Hst.out.kp).mono ?_
 rintro e w1 ⟨rfl,hk1⟩
 have hcb1:=Hst.out.keep0 hk1
 have hpb1:=Ad Hpb.out hk1 (by simp)
 have hob1:=Ad Hob.out hk1 (by simp)
 have t1:=Aa hcb1.t 1
 have sp0:=Aa hcb1.s 0
 have sp1:=Aa hcb1.s 1
 have p0:=Aa hpb1 0
 have p1:=Aa hpb1 1
 have p2:=Aa hpb1 2
 have tl:=lt_of_block hcb1.t
 have spl:=lt_of_block hcb1.s
 have pl:=lt_of_block hpb1
 have hd1:=fun W=>cloDay_ok fr W s0 (by omega)
 have hd2:=fun W=>cloDay_ok te W (by omega) s2
 obtain⟨Hk1,Hcb1,Hpb1,Hob1,Hd1,Hd2⟩:=hid6 hk1 hcb1 hpb1 hob1 hd1 hd2;clear hd2 hd1 hob1 hpb1 hcb1 hk1
 go_wp2_with (first|(go_at_call 127;(with_reducible refine(Hd1.out _).mono ?_);rintro e w2 ⟨rfl,rfl⟩)|(go_at_call 127;(with_reducible refine(Hd2.out _).mono ?_);rintro e w2 ⟨rfl,rfl⟩))
 go_loop [71] (fun x=>∃k:Nat,x= .int .i64 (k:Nat)∧k≤n) (fun x=>n-(intOf x).toNat)
 case atStart=>exact⟨0,rfl,Nat.zero_le _⟩
 case round=>
  obtain⟨k,rfl,hkn⟩:=hrel
  by_cases hlt:k<n
  ·have hltI:(k:Int)<(n:Int):=by omega
   obtain⟨x,hx⟩:=Av (L:=R) (k:=k) (by rw [HRn.out];exact hlt)
   obtain⟨gR,oR,he,hc⟩:=(HR.out.keeps Hcb1.out.kp (by simp)).int (k:= .i64) hx
   subst he
   have hgl:=Ag hc
   obtain⟨x0,x1⟩:=HRb.out x (List.mem_of_getElem? hx)
   have x0I:decide (x<0)=false:=by rw [decide_eq_false_iff_not];omega
   have x1I:decide (10000000<x)=false:=by rw [decide_eq_false_iff_not];omega
   have Hx:=Lib.hid hx;clear hx
   clear x0 x1
   go_wp2
   go_round
   case rel=>exact⟨k+1,by go_num,by omega⟩
   case measure=>simp [intOf];omega
  ·obtain rfl:n=k:=by omega
   go_wp2_with fail
   refine(Hbe.out _ Hcb1.out.kp).mono ?_
   rintro e w2 ⟨v2,rfl,hrow2,hf2⟩
   obtain⟨a2,m2,rfl⟩:∃a c,v2= .slice a q.bal.length c:=by obtain⟨a,c,h,_⟩:=Aj hrow2;exact⟨a,c,h⟩
   have hcb2:=Hcb1.out.keep0 hf2.1
   have hpb2:=Ad Hpb1.out hf2.1 (by simp)
   have hob2:=Ad Hob1.out hf2.1 (by simp)
   obtain⟨hpb3,k3⟩:=store3 hpb2 (.slice a2 q.bal.length m2) (.int .i64 q.cr) (.int .i64 q.du)
   have hcb3:=hcb2.keep (k3.mono fun i _ e=> .inl e)
   have hob3:=Ad hob2 k3 (by omega)
   have hrow3:=k3.row hrow2 (fun i e h=>by have h':i=w.heap.size+1+1:=h;have:=hf2.2 i e;have:=lt_of_block Hpb1.out;omega)
   have g2:∀i,(Value.slice a2 q.bal.length m2).ownBlock=some i→w.heap.size+1+1+1+1+1<i:=fun i e=>by have:=hf2.2 i e;have:=lt_of_block Hob1.out;omega
   clear t1 sp0 sp1 p0 p1 p2 tl spl pl
   have p0:=Aa hpb2 0
   have p1:=Aa hpb2 1
   have p2:=Aa hpb2 2
   have pf0:=Ab hpb2 0
   have pf1:=Ab hpb2 1
   have pf2:=Ab hpb2 2
   have pl:=lt_of_block hpb2
   rcases Hber.out with⟨hz0,hqr,hql⟩|⟨hz5,hq0⟩
   ·subst hz0
    have hO5:=HO.out
    rw [if_pos rfl] at hO5
    subst hO5
    clear HO
    obtain⟨B,qc,qd⟩:=q
    simp only at hql
    obtain⟨hqb,⟨qc0,qc1⟩,_,_,_⟩:=Cz hqr
    have hsum:=hqr
    simp only [Ps.rightB,scanB,Bool.and_eq_true] at hsum
    obtain⟨S0,S1⟩:=(Bg _).1 hsum.1.2
    have hBn:B.length=n:=by rw [hql];exact HLn.out
    have hT:=fun W (hW:Keeps (fun _=>False) w2 W)=>poolTotal_any ⟨B,qc,qd⟩ a2 m2 W ((Reads.Bh hrow2).keeps hW (by simp)) (by show B.length≤1000;omega)
    simp only [Ps.val] at hT
    rw [hqr] at hT
    simp only [if_true] at hT
    simp only at hqb qc0 qc1 S0 S1 hrow2 hrow3 hpb3 k3 hcb3 hob3 g2⊢
    rw [hBn] at hT hrow2 hrow3 hpb3 k3 hcb3 hob3 g2⊢
    obtain⟨S,hS⟩:∃S,sumI B=S:=⟨_,rfl⟩
    rw [hS] at hT S0 S1
    obtain⟨W3,hW3⟩:∃W3,W3=(((w2.setCell ⟨w.heap.size+1+1,0,none⟩ (.slice a2 n m2)).setCell ⟨w.heap.size+1+1,1,none⟩ (.int .i64 qc)).setCell ⟨w.heap.size+1+1,2,none⟩ (.int .i64 qd)):=⟨_,rfl⟩
    rw [←hW3] at hpb3 k3 hcb3 hob3 hrow3
    have hTot:=fun W (hW:Keeps (fun _=>False) W3 W)=>poolTotal_any ⟨B,qc,qd⟩ a2 m2 W (by show Reads W 1 (.slice a2 B.length m2) B.length _;rw [hBn];exact(Reads.Bh hrow3).keeps hW (by simp)) (by show B.length≤1000;omega)
    simp only [Ps.val] at hTot
    rw [hqr] at hTot
    simp only [if_true] at hTot
    rw [hBn,hS] at hTot
    have hS13:c13S w.heap.size fr te due (.slice a2 n m2) qc qd W3.drew:=(show c13S w.heap.size fr te due (.slice a2 n m2) qc qd W3 from⟨Aa hcb3.s 0,Aa hcb3.s 1,Aa hcb3.t 3,Aa hpb3 0,Aa hpb3 1,Aa hpb3 2⟩).keep (S:=fun _=>False) (Keeps.drew _) (by simp)
    have hlet:=Hle.out
    have te0:IntKind.i64.wrap (te+due)=te+due:=IntWalk.i64_in _ ⟨by omega,by omega⟩
    clear hT
    obtain⟨Hcb2,Hpb2,Hob2,Hpb3,K3,Hcb3,Hob3,Hrow2,Hf2⟩:=hid9 hcb2 hpb2 hob2 hpb3 k3 hcb3 hob3 hrow2 hf2;clear hf2 hrow2 hob3 hcb3 k3 hpb3 hob2 hpb2 hcb2;obtain⟨Hrow3,G2,Hqr,Hql,Hqb,Hsum,HBn,HTot,HS13⟩:=hid9 hrow3 g2 hqr hql hqb hsum hBn hTot hS13;clear hS13 hTot hBn hsum hqb hql hqr g2 hrow3;obtain⟨Hlet,HS⟩:=hid2 hlet hS;clear hS hlet
    go_wp2_with fail
    rw [←hW3]
    clear p0 p1 p2 pf0 pf1 pf2 pl
    refine Ao (c13S w.heap.size fr te due (.slice a2 n m2) qc qd) (.take 0 (.take 1 (.take 2 (.take 3 (.take 4 (.take 5 (.take 6 (.take 7 (.take 9 (.take 10 (.take 11 (.move 8 (.take 12 (.move 13 .done)))))))))))))) (by kernel_rfl) (by kernel_rfl) ?_ ?_
    ·exact HS13.out
    intro w3 hs3 hk3
    repeat ((first|refine Ai rfl (by rfl) ?_|refine Af rfl (by rfl) ?_|(refine Ah (v:= ?_) rfl (by rfl) ?_ ?_;rotate_left;(· intro w' hSw;unfold c13S at hSw;go_simp;(try with_reducible rfl));rotate_right));try simp only [aps])
    refine Ak rfl (fun K hK=> ?_)
    go_simp
    go_at_call 89
    ((with_reducible refine(HTot.out _ hk3).mono ?_);rintro e w4 ⟨rfl,hk4⟩;dsimp only)
    refine hK.out _ _ (by exact hs3.keep hk4 (by simp)) ?_
    clear hK K
    try simp only [aps]
    repeat ((first|refine Ai rfl (by rfl) ?_|refine Af rfl (by rfl) ?_|(refine Ah (v:= ?_) rfl (by rfl) ?_ ?_;rotate_left;(· intro w' hSw;unfold c13S at hSw;go_simp;(try with_reducible rfl));rotate_right));try simp only [aps])
    have hk34:=hk3.nt hk4
    have hcb4:=Hcb3.out.keep0 hk34
    have hpb4:=Ad Hpb3.out hk34 (by simp)
    have hob4:=Ad Hob3.out hk34 (by simp)
    have hrow4:=Hrow3.out.of_keeps hk34
    obtain⟨hob5,k5⟩:=store9 hob4 (.int .i64 cy) (.int .i64 fr) (.int .i64 te) (.int .i64 (te+due)) (.slice none 0 0) (.int .i64 S) (.int .i64 qc) (.int .i64 0) (.bool g)
    have of0:=Ab hob4 0
    have oc0:=Aa hob4 0
    have of1:=Ab hob4 1
    have oc1:=Aa hob4 1
    have of2:=Ab hob4 2
    have oc2:=Aa hob4 2
    have of3:=Ab hob4 3
    have oc3:=Aa hob4 3
    have of4:=Ab hob4 4
    have oc4:=Aa hob4 4
    have of5:=Ab hob4 5
    have oc5:=Aa hob4 5
    have of6:=Ab hob4 6
    have oc6:=Aa hob4 6
    have of7:=Ab hob4 7
    have oc7:=Aa hob4 7
    have of8:=Ab hob4 8
    have oc8:=Aa hob4 8
    have ol:=lt_of_block hob4
    have hs5:=(hs3.keep hk4 (by simp)).keep k5 (fun i e=>by have e':i=w.heap.size+1+1+1+1+1:=e;omega)
    obtain⟨W5,hW5⟩:∃W5,W5=(((((((((w4.setCell ⟨w.heap.size+1+1+1+1+1,0,none⟩ (.int .i64 cy)).setCell ⟨w.heap.size+1+1+1+1+1,1,none⟩ (.int .i64 fr)).setCell ⟨w.heap.size+1+1+1+1+1,2,none⟩ (.int .i64 te)).setCell ⟨w.heap.size+1+1+1+1+1,3,none⟩ (.int .i64 (te+due))).setCell ⟨w.heap.size+1+1+1+1+1,4,none⟩ (.slice none 0 0)).setCell ⟨w.heap.size+1+1+1+1+1,5,none⟩ (.int .i64 S)).setCell ⟨w.heap.size+1+1+1+1+1,6,none⟩ (.int .i64 qc)).setCell ⟨w.heap.size+1+1+1+1+1,7,none⟩ (.int .i64 0)).setCell ⟨w.heap.size+1+1+1+1+1,8,none⟩ (.bool g)):=⟨_,rfl⟩
    rw [←hW5] at hob5 k5
    have hcb5:=hcb4.keep (k5.mono fun i _ e=> .inr (by have e':i=w.heap.size+1+1+1+1+1:=e;omega))
    have hpb5:=Ad hpb4 k5 (by omega)
    have hrow5:=k5.row hrow4 (fun i hi e=>by have e':i=w.heap.size+1+1+1+1+1:=e;have:=G2.out i hi;omega)
    have hle5:=Hlet.out W5 hcb5.kp S S0 S1
    obtain⟨M,hM⟩:∃M,leastI mf mp S=M:=⟨_,rfl⟩
    have hMb:=leastI_bd (mf:=mf) (mp:=mp) S0 f0
    rw [hM] at hle5 hMb
    obtain⟨M0,M1⟩:=hMb
    have t0:=Aa hcb5.t 0
    have t1:=Aa hcb5.t 1
    have t2:=Aa hcb5.t 2
    have t3:=Aa hcb5.t 3
    have t4:=Aa hcb5.t 4
    have t5:=Aa hcb5.t 5
    have t6:=Aa hcb5.t 6
    have tl:=lt_of_block hcb5.t
    have o5:=Aa hob5 5
    have ol5:=lt_of_block hob5
    obtain⟨Hk3,Hk4,Hk34,Hcb4,Hpb4,Hob4,Hrow4,Hob5,K5⟩:=hid9 hk3 hk4 hk34 hcb4 hpb4 hob4 hrow4 hob5 k5;clear k5 hob5 hrow4 hob4 hpb4 hcb4 hk34 hk4 hk3;obtain⟨Hs5,Hcb5,Hpb5,Hrow5,Hle5,HM,Hs3⟩:=hid7 hs5 hcb5 hpb5 hrow5 hle5 hM hs3;clear hs3 hM hle5 hrow5 hpb5 hcb5 hs5
    refine Ak rfl (fun K hK=> ?_)
    go_simp
    refine hK.out _ _ (by exact Hs5.out) ?_
    clear hK K
    try simp only [aps]
    refine Aw ?_
    rw [←hW5]
    have HW5:=Lib.hid hW5
    clear hW5 of0 of1 of2 of3 of4 of5 of6 of7 of8 oc0 oc1 oc2 oc3 oc4 oc5 oc6 oc7 oc8 ol
    go_wp2_with fail
    refine Hle5.out.mono ?_
    rintro e w6 ⟨rfl,hk6⟩
    clear t0 t1 t2 t3 t4 t5 t6 tl o5 ol5
    have hcb6:=Hcb5.out.keep0 hk6
    have hpb6:=Ad Hpb5.out hk6 (by simp)
    have hob6:=Ad Hob5.out hk6 (by simp)
    have hrow6:=Hrow5.out.of_keeps hk6
    have o7:=Aa hob6 7
    have of7:=Ab hob6 7
    have ol:=lt_of_block hob6
    have p0:=Aa hpb6 0
    have p2:=Aa hpb6 2
    have pf2:=Ab hpb6 2
    have pl:=lt_of_block hpb6
    have k7a:Keeps (fun i=>i=w.heap.size+1+1+1+1+1) w6 (w6.setCell ⟨w.heap.size+1+1+1+1+1,7,none⟩ (.int .i64 M)):=Keeps.setCell _ _ _ rfl
    have k7b:Keeps (fun i=>i=w.heap.size+1+1) (w6.setCell ⟨w.heap.size+1+1+1+1+1,7,none⟩ (.int .i64 M)) ((w6.setCell ⟨w.heap.size+1+1+1+1+1,7,none⟩ (.int .i64 M)).setCell ⟨w.heap.size+1+1,2,none⟩ (.int .i64 M)):=Keeps.setCell _ _ _ rfl
    have hob7:=Ad ((heap_setCell_same _ _ 7 _ _ (.int .i64 M) hob6).trans rfl) k7b (by omega)
    have hpb7:=(heap_setCell_same _ _ 2 _ _ (.int .i64 M) (Ad hpb6 k7a (by omega))).trans rfl
    have hcb7:=(hcb6.keep (k7a.mono fun i _ e=> .inr (by have e':i=w.heap.size+1+1+1+1+1:=e;omega))).keep (k7b.mono fun i _ e=> .inl e)
    have hrow7:=k7b.row (k7a.row hrow6 (fun i hi e=>by have e':i=w.heap.size+1+1+1+1+1:=e;have:=G2.out i hi;omega)) (fun i hi e=>by have e':i=w.heap.size+1+1:=e;have:=G2.out i hi;omega)
    obtain⟨W7,hW7⟩:∃W7,W7=((w6.setCell ⟨w.heap.size+1+1+1+1+1,7,none⟩ (.int .i64 M)).setCell ⟨w.heap.size+1+1,2,none⟩ (.int .i64 M)):=⟨_,rfl⟩
    rw [←hW7] at hob7 hpb7 hcb7 hrow7
    obtain⟨Hk6,Hcb6,Hpb6,Hob6,Hrow6,K7a,K7b,Hob7,Hpb7⟩:=hid9 hk6 hcb6 hpb6 hob6 hrow6 k7a k7b hob7 hpb7;clear hpb7 hob7 k7b k7a hrow6 hob6 hpb6 hcb6 hk6;obtain⟨Hcb7,Hrow7⟩:=hid2 hcb7 hrow7;clear hrow7 hcb7
    go_wp2
    rw [←hW7]
    have HW7:=Lib.hid hW7
    clear hW7 o7 of7 ol p0 p2 pf2 pl
    obtain⟨N,hNN⟩:∃N,lnL B X R=N:=⟨_,rfl⟩
    have hNl:N.length=n:=by rw [←hNN];exact lnL_length B X R HBn.out HXn.out HRn.out
    have hb7l:w.heap.size+1+1+1+1+1<W7.heap.size:=lt_of_block Hob7.out
    obtain⟨HNN,HNl,Hb7l⟩:=hid3 hNN hNl hb7l;clear hb7l hNl hNN
    go_loopw [117] (fun x wx=>∃(k:Nat) (vl:Value),x= .int .i64 (k:Nat)∧k≤n∧LnAt W7 (w.heap.size+1+1+1+1+1) cy fr te (te+due) S qc M g N k vl wx) (fun x _=>n-(intOf x).toNat)
    case atStart=>exact⟨0,.slice none 0 0,rfl,Nat.zero_le _,⟨Hob7.out,by rw [List.take_zero];exact World.ownsRow_nil _ _ _ _,Keeps.refl _ _,by simp [Value.ownBlock]⟩⟩
    case round=>
     obtain⟨k,vl,rfl,hkn,hla⟩:=hrel
     obtain⟨wq,hwq⟩:∃x,x=wr:=⟨_,rfl⟩
     subst hwq
     have hcb:=Hcb7.out.keep (hla.kp.mono fun i _ e=> .inr (by have e':i=w.heap.size+1+1+1+1+1:=e;omega))
     have hpb:=Ad Hpb7.out hla.kp (by omega)
     obtain⟨av,cv,rfl,hcv,hnv⟩:=Aj hla.row
     have hrowB:=hla.kp.row Hrow7.out (fun i hi e=>by have e':i=w.heap.size+1+1+1+1+1:=e;have:=G2.out i hi;omega)
     by_cases hlt:k<n
     ·have hltI:(k:Int)<(n:Int):=by omega
      obtain⟨bk,hbk⟩:=Av (L:=B) (k:=k) (by rw [HBn.out];exact hlt)
      obtain⟨xk,hxk⟩:=Av (L:=X) (k:=k) (by rw [HXn.out];exact hlt)
      obtain⟨rk,hrk⟩:=Av (L:=R) (k:=k) (by rw [HRn.out];exact hlt)
      have hlk:N[k]?=some ⟨bk,xk,rk⟩:=by rw [←HNN.out];exact lnL_get hbk hxk hrk
      obtain⟨gB,oB,heB,cB⟩:=(Reads.Bh hrowB).int (k:= .i64) hbk
      obtain⟨gX,oX,heX,cX0⟩:=(HX.out.keeps hcb.kp (by simp)).int (k:= .i64) hxk
      obtain⟨gR,oR,heR,cR0⟩:=(HR.out.keeps hcb.kp (by simp)).int (k:= .i64) hrk
      obtain⟨gX1,oX1,heX1,cX1⟩:=HX.out.int (k:= .i64) hxk
      obtain⟨gR1,oR1,heR1,cR1⟩:=HR.out.int (k:= .i64) hrk
      rw [heX] at heX1
      rw [heR] at heR1
      simp only [Option.some.injEq,Addr.mk.injEq,and_true] at heX1 heR1
      have lX:=Ag cX1
      have lR:=Ag cR1
      simp only at lX lR
      rw [←heX1.1] at lX
      rw [←heR1.1] at lR
      clear cX1 cR1 heX1 heR1
      subst heB heX heR
      have lB:=Ag cB
      have hS19:c19S (w.heap.size+1+1+1+1+1) gX (oX+k) gR (oR+k) (.slice av k cv) xk rk wq.drew:=(show c19S (w.heap.size+1+1+1+1+1) gX (oX+k) gR (oR+k) (.slice av k cv) xk rk wq from⟨Aa hla.blk 4,cX0,cR0⟩).keep (S:=fun _=>False) (Keeps.drew _) (by simp) (by simp) (by simp)
      have hown0:∀i,(Value.slice av k cv).ownBlock=some i→w.heap.size+1+1+1+1+1<i:=fun i e=>by have:=hla.nw i e;have:=Hb7l.out;omega
      clear cX0 cR0
      obtain⟨Hla,Hcb,Hpb,HrowB,Hbk,Hxk,Hrk,Hlk,HS19⟩:=hid9 hla hcb hpb hrowB hbk hxk hrk hlk hS19;clear hS19 hlk hrk hxk hbk hrowB hpb hcb hla;obtain⟨Hown0,Hcv,Hnv⟩:=hid3 hown0 hcv hnv;clear hnv hcv hown0
      go_wp2_with fail
      refine Cy (c19S (w.heap.size+1+1+1+1+1) gX (oX+k) gR (oR+k) (.slice av k cv) xk rk) 15 (.take 0 (.take 1 (.take 2 (.take 3 (.take 4 (.take 5 (.take 6 (.take 7 (.take 8 (.take 9 (.take 10 (.take 11 (.move 12 (.move 13 (.take 14 (.move 15 .done)))))))))))))))) (by kernel_rfl) (by kernel_rfl) ?_ ?_
      ·exact HS19.out
      intro w8 hs8 hk8
      repeat ((first|refine Ai rfl (by rfl) ?_|refine Af rfl (by rfl) ?_|(refine Ah (v:= ?_) rfl (by rfl) ?_ ?_;rotate_left;(· intro w' hSw;unfold c19S at hSw;go_simp;(try with_reducible rfl));rotate_right));try simp only [aps])
      refine Ak rfl (fun K hK=> ?_)
      go_simp
      refine hK.out _ _ (by exact hs8.keep (S:=fun _=>False) (Keeps.alloc _ _) (by simp) (by simp) (by simp)) ?_
      clear hK K
      try simp only [aps]
      refine Ak rfl (fun K hK=> ?_)
      refine Bt rfl (.tmp 123) (.tmp 134) 40 rfl 0 102 i0 _ 3 24 Tryz.underlying40 Hi.out Hi0.out Hi1.out Hi2.out rfl (by decide) (.slice av k cv) k _ rfl ((Hla.out.row.of_keeps hk8).of_keeps (Keeps.alloc _ _)) _ 1 _ rfl (Reads.litAt _ _ _ 3 1 _ (by first|rfl|simp) rfl) (by simp [Value.oneCell']) (by unfold maxLen;omega) (by omega) (Nat.zero_le _) ?_
      intro v9 w9 hown9 hk9 hf9
      obtain⟨a9,c9,rfl,_,_⟩:=Aj hown9
      have hk8a:=hk8.nt (Keeps.alloc w8 (.cells #[.int .i64 bk,.int .i64 xk,.int .i64 rk] 102))
      have happ:=Hla.out.app Hb7l.out Hlk.out rfl rfl hk8a hown9 hk9 hf9
      have hb9:=Ad (Ad Hla.out.blk hk8a (by simp)) hk9 (fun e=>by have:=Hown0.out _ e;omega)
      have o4:=Aa hb9 4
      have of4:=Ab hb9 4
      have ol:=lt_of_block hb9
      refine hK.out _ _ (by exact(hs8.keep (S:=fun _=>False) (Keeps.alloc _ _) (by simp) (by simp) (by simp)).keep hk9 (fun e=>by have:=Hown0.out _ e;omega) (fun e=>by have:=Hown0.out _ e;omega) (fun e=>by have:=Hown0.out _ e;omega)) ?_
      clear hK K
      try simp only [aps]
      obtain⟨Happ,Hb9,Hown9,Hk9,Hk8a,Hk8,Hs8⟩:=hid7 happ hb9 hown9 hk9 hk8a hk8 hs8;clear hs8 hk8 hk8a hk9 hown9 hb9 happ
      repeat ((first|refine Ai rfl (by rfl) ?_|refine Af rfl (by rfl) ?_|(refine Ah (v:= ?_) rfl (by rfl) ?_ ?_;rotate_left;(· intro w' hSw;unfold c19S at hSw;go_simp;(try with_reducible rfl));rotate_right));try simp only [aps])
      refine Cr rfl (fun K hK=> ?_)
      go_simp
      refine hK.out _ _ ?_
      clear hK K
      try simp only [aps]
      refine Aw ?_
      clear o4 of4 ol
      exact jZ102
     ·obtain rfl:n=k:=by omega
      have hln:=hla.row
      rw [List.take_of_length_le (by rw [HNl.out];exact Nat.le_refl _)] at hln
      obtain⟨Hla,Hcb,Hpb,HrowB,Hln,Hcv,Hnv⟩:=hid7 hla hcb hpb hrowB hln hcv hnv;clear hnv hcv hln hrowB hpb hcb hla
      go_wp2_with fail
      refine Ao (c21S (w.heap.size+1+1+1+1+1) (w.heap.size+1+1) cy fr te (te+due) (.slice av n cv) S qc M g (.slice a2 n m2) qc M) (.take 0 (.take 1 (.move 2 (.move 3 (.take 4 .done))))) (by kernel_rfl) (by kernel_rfl) ?_ ?_
      ·exact c21S.of (Ad Hla.out.blk (Keeps.drew (S:=fun _=>False) _) (by simp)) (Ad Hpb.out (Keeps.drew (S:=fun _=>False) _) (by simp))
      intro w8 hs8 hk8
      repeat ((first|refine Ai rfl (by rfl) ?_|refine Af rfl (by rfl) ?_|(refine Ah (v:= ?_) rfl (by rfl) ?_ ?_;rotate_left;(· intro w' hSw;unfold c21S at hSw;go_simp;(try with_reducible rfl));rotate_right));try simp only [aps])
      have hcb8:=Hcb.out.keep0 hk8
      have hob8:=Ad Hla.out.blk hk8 (by simp)
      have hpb8:=Ad Hpb.out hk8 (by simp)
      have ra0:=Aa (hcb8).r1 0
      have rb0:=Ab (hcb8).r1 0
      have ra1:=Aa (hcb8).r1 1
      have rb1:=Ab (hcb8).r1 1
      have ra2:=Aa (hcb8).r1 2
      have rb2:=Ab (hcb8).r1 2
      have ra3:=Aa (hcb8).r1 3
      have rb3:=Ab (hcb8).r1 3
      have ra4:=Aa (hcb8).r1 4
      have rb4:=Ab (hcb8).r1 4
      have ra5:=Aa (hcb8).r1 5
      have rb5:=Ab (hcb8).r1 5
      have ra6:=Aa (hcb8).r1 6
      have rb6:=Ab (hcb8).r1 6
      have ra7:=Aa (hcb8).r1 7
      have rb7:=Ab (hcb8).r1 7
      have ra8:=Aa (hcb8).r1 8
      have rb8:=Ab (hcb8).r1 8
      have rc0:=Aa (hcb8).r2 0
      have rd0:=Ab (hcb8).r2 0
      have rc1:=Aa (hcb8).r2 1
      have rd1:=Ab (hcb8).r2 1
      have rc2:=Aa (hcb8).r2 2
      have rd2:=Ab (hcb8).r2 2
      have rl1:=lt_of_block (hcb8).r1
      have rl2:=lt_of_block (hcb8).r2
      obtain⟨hr9,k9⟩:=store9 hcb8.r1 (.int .i64 cy) (.int .i64 fr) (.int .i64 te) (.int .i64 (te+due)) (.slice av n cv) (.int .i64 S) (.int .i64 qc) (.int .i64 M) (.bool g)
      have hs9:=c21S.of (Ad hob8 k9 (by omega)) (Ad hpb8 k9 (by omega))
      obtain⟨hr10,k10⟩:=store3 (Ad hcb8.r2 k9 (by omega)) (.slice a2 n m2) (.int .i64 qc) (.int .i64 M)
      have hs10:=c21S.of (Ad (Ad hob8 k9 (by omega)) k10 (by omega)) (Ad (Ad hpb8 k9 (by omega)) k10 (by omega))
      have hr9':=Ad hr9 k10 (by omega)
      have hkf:=(hcb8.kp.trans (k9.mono fun i _ e=> .inr (by have e':i=w.heap.size+1+1+1:=e;omega))).trans (k10.mono fun i _ e=> .inr (by have e':i=w.heap.size+1+1+1+1:=e;omega))
      have hln8:=k10.row (k9.row (Hln.out.of_keeps hk8) (fun i hi e=>by have e':i=w.heap.size+1+1+1:=e;have:=Hla.out.nw i hi;have:=Hb7l.out;omega)) (fun i hi e=>by have e':i=w.heap.size+1+1+1+1:=e;have:=Hla.out.nw i hi;have:=Hb7l.out;omega)
      have hrw8:=k10.row (k9.row (HrowB.out.of_keeps hk8) (fun i hi e=>by have e':i=w.heap.size+1+1+1:=e;have:=G2.out i hi;omega)) (fun i hi e=>by have e':i=w.heap.size+1+1+1+1:=e;have:=G2.out i hi;omega)
      have sa0:=Aa (hr9') 0
      have sa1:=Aa (hr9') 1
      have sa2:=Aa (hr9') 2
      have sa3:=Aa (hr9') 3
      have sa4:=Aa (hr9') 4
      have sa5:=Aa (hr9') 5
      have sa6:=Aa (hr9') 6
      have sa7:=Aa (hr9') 7
      have sa8:=Aa (hr9') 8
      have sb0:=Aa (hr10) 0
      have sb1:=Aa (hr10) 1
      have sb2:=Aa (hr10) 2
      obtain⟨Sa0,Sa1,Sa2,Sa3,Sa4,Sa5,Sa6,Sa7,Sa8⟩:=hid9 sa0 sa1 sa2 sa3 sa4 sa5 sa6 sa7 sa8;clear sa8 sa7 sa6 sa5 sa4 sa3 sa2 sa1 sa0;obtain⟨Sb0,Sb1,Sb2⟩:=hid3 sb0 sb1 sb2;clear sb2 sb1 sb0
      obtain⟨Hcb8,Hob8,Hpb8,Hr9,K9,Hs9,Hr10,K10,Hs10⟩:=hid9 hcb8 hob8 hpb8 hr9 k9 hs9 hr10 k10 hs10;clear hs10 k10 hr10 hs9 k9 hr9 hpb8 hob8 hcb8;obtain⟨Hr9',Hkf,Hln8,Hrw8,Hk8,Hs8⟩:=hid6 hr9' hkf hln8 hrw8 hk8 hs8;clear hs8 hk8 hrw8 hln8 hkf hr9'
      refine Ak rfl (fun K hK=> ?_)
      go_simp
      refine hK.out _ _ (by exact Hs9.out) ?_
      clear hK K
      try simp only [aps]
      repeat ((first|refine Ai rfl (by rfl) ?_|refine Af rfl (by rfl) ?_|(refine Ah (v:= ?_) rfl (by rfl) ?_ ?_;rotate_left;(· intro w' hSw;unfold c21S at hSw;go_simp;(try with_reducible rfl));rotate_right));try simp only [aps])
      refine Ak rfl (fun K hK=> ?_)
      go_simp
      refine hK.out _ _ (by exact Hs10.out) ?_
      clear hK K
      try simp only [aps]
      repeat ((first|refine Ai rfl (by rfl) ?_|refine Af rfl (by rfl) ?_|(refine Ah (v:= ?_) rfl (by rfl) ?_ ?_;rotate_left;(· intro w' hSw;unfold c21S at hSw;go_simp;(try with_reducible rfl));rotate_right));try simp only [aps])
      refine Aw ?_
      go_wp2
      refine Bl ?_
      have Sa0':=Sa0.out
      have Sa1':=Sa1.out
      have Sa2':=Sa2.out
      have Sa3':=Sa3.out
      have Sa4':=Sa4.out
      have Sa5':=Sa5.out
      have Sa6':=Sa6.out
      have Sa7':=Sa7.out
      have Sa8':=Sa8.out
      have Sb0':=Sb0.out
      have Sb1':=Sb1.out
      have Sb2':=Sb2.out
      clear ra0 ra1 ra2 ra3 ra4 ra5 ra6 ra7 ra8 rc0 rc1 rc2
      exact bodyPost_ret (v:= .tuple #[.agg #[.int .i64 cy,.int .i64 fr,.int .i64 te,.int .i64 (te+due),.slice av n cv,.int .i64 S,.int .i64 qc,.int .i64 M,.bool g],.agg #[.slice a2 n m2,.int .i64 qc,.int .i64 M],.int .i64 0]) (by simp [results,Tryz.results105,go_sem,Sa0',Sa1',Sa2',Sa3',Sa4',Sa5',Sa6',Sa7',Sa8',Sb0',Sb1',Sb2']) rfl
       ⟨.slice av n cv,.slice a2 n m2,by simp only [HS.out,HM.out],by simp only [HNN.out,HNl.out];exact Hln8.out,by simp only [HBn.out];exact Hrw8.out,Hkf.out,fun i hi=>by have:=Hla.out.nw i hi;have:=Hb7l.out;omega,fun i hi=>by have:=G2.out i hi;omega⟩
   ·subst hz5
    subst hq0
    have hO5:=HO.out
    rw [if_neg (by decide)] at hO5
    subst hO5
    simp only [ps0,List.length_nil] at *
    have hst9:=store9 hcb3.r1 (.int .i64 0) (.int .i64 0) (.int .i64 0) (.int .i64 0) (.slice none 0 0) (.int .i64 0) (.int .i64 0) (.int .i64 0) (.bool false)
    obtain⟨hr9,k9⟩:=hst9
    have hst3:=store3 (Ad hcb3.r2 k9 (by omega)) (.slice none 0 0) (.int .i64 0) (.int .i64 0)
    obtain⟨hr10,k10⟩:=hst3
    have hr9':=Ad hr9 k10 (by omega)
    have hkf:=(hcb3.kp.trans (k9.mono fun i _ e=> .inr (by have e':i=w.heap.size+1+1+1:=e;omega))).trans (k10.mono fun i _ e=> .inr (by have e':i=w.heap.size+1+1+1+1:=e;omega))
    have ra0:=Aa (hcb2).r1 0
    have rb0:=Ab (hcb2).r1 0
    have ra1:=Aa (hcb2).r1 1
    have rb1:=Ab (hcb2).r1 1
    have ra2:=Aa (hcb2).r1 2
    have rb2:=Ab (hcb2).r1 2
    have ra3:=Aa (hcb2).r1 3
    have rb3:=Ab (hcb2).r1 3
    have ra4:=Aa (hcb2).r1 4
    have rb4:=Ab (hcb2).r1 4
    have ra5:=Aa (hcb2).r1 5
    have rb5:=Ab (hcb2).r1 5
    have ra6:=Aa (hcb2).r1 6
    have rb6:=Ab (hcb2).r1 6
    have ra7:=Aa (hcb2).r1 7
    have rb7:=Ab (hcb2).r1 7
    have ra8:=Aa (hcb2).r1 8
    have rb8:=Ab (hcb2).r1 8
    have rc0:=Aa (hcb2).r2 0
    have rd0:=Ab (hcb2).r2 0
    have rc1:=Aa (hcb2).r2 1
    have rd1:=Ab (hcb2).r2 1
    have rc2:=Aa (hcb2).r2 2
    have rd2:=Ab (hcb2).r2 2
    have rl1:=lt_of_block (hcb2).r1
    have rl2:=lt_of_block (hcb2).r2
    have sa0:=Aa (hr9') 0
    have sa1:=Aa (hr9') 1
    have sa2:=Aa (hr9') 2
    have sa3:=Aa (hr9') 3
    have sa4:=Aa (hr9') 4
    have sa5:=Aa (hr9') 5
    have sa6:=Aa (hr9') 6
    have sa7:=Aa (hr9') 7
    have sa8:=Aa (hr9') 8
    have sb0:=Aa (hr10) 0
    have sb1:=Aa (hr10) 1
    have sb2:=Aa (hr10) 2
    obtain⟨Sa0,Sa1,Sa2,Sa3,Sa4,Sa5,Sa6,Sa7,Sa8⟩:=hid9 sa0 sa1 sa2 sa3 sa4 sa5 sa6 sa7 sa8;clear sa8 sa7 sa6 sa5 sa4 sa3 sa2 sa1 sa0;obtain⟨Sb0,Sb1,Sb2⟩:=hid3 sb0 sb1 sb2;clear sb2 sb1 sb0
    obtain⟨Hcb2,Hpb2,Hob2,Hpb3,K3,Hcb3,Hob3,Hrow2,Hf2⟩:=hid9 hcb2 hpb2 hob2 hpb3 k3 hcb3 hob3 hrow2 hf2;clear hf2 hrow2 hob3 hcb3 k3 hpb3 hob2 hpb2 hcb2;obtain⟨Hrow3,G2,Hr9,K9,Hr10,K10,Hr9',Hkf⟩:=hid8 hrow3 g2 hr9 k9 hr10 k10 hr9' hkf;clear hkf hr9' k10 hr10 k9 hr9 g2 hrow3
    go_wp2
    go_step3
    go_wp2
    refine Az ?_
    go_wp2
    rw [Exit.noGoto_ret]
    have Sa0':=Sa0.out
    have Sa1':=Sa1.out
    have Sa2':=Sa2.out
    have Sa3':=Sa3.out
    have Sa4':=Sa4.out
    have Sa5':=Sa5.out
    have Sa6':=Sa6.out
    have Sa7':=Sa7.out
    have Sa8':=Sa8.out
    have Sb0':=Sb0.out
    have Sb1':=Sb1.out
    have Sb2':=Sb2.out
    clear ra0 ra1 ra2 ra3 ra4 ra5 ra6 ra7 ra8 rc0 rc1 rc2
    exact bodyPost_ret (v:= .tuple #[.agg #[.int .i64 0,.int .i64 0,.int .i64 0,.int .i64 0,.slice none 0 0,.int .i64 0,.int .i64 0,.int .i64 0,.bool false],.agg #[.slice none 0 0,.int .i64 0,.int .i64 0],.int .i64 5]) (by simp [results,Tryz.results105,go_sem,Sa0',Sa1',Sa2',Sa3',Sa4',Sa5',Sa6',Sa7',Sa8',Sb0',Sb1',Sb2']) rfl ⟨rfl,Hkf.out⟩
def rateB(v:Int):Bool:=outM 10000000 v
set_option maxHeartbeats 400000
theorem repMay1_any(x:Int)(w:World):Calls Tryz.prog 141 #[.int .i64 x] w fun e w'=>e= .returned (.bool (rateB x))∧w=w':=by
 by_cases h1:x<0
 ·have hf:rateB x=true:=by simp [rateB,outM];omega
  have h1I:decide (x<0)=true:=by simp [h1]
  exact jZ92
 ·have h1I:decide (x<0)=false:=by simp [h1]
  have hf:rateB x=decide (10000000<x):=by simp [rateB,outM,h1I]
  rcases h2:decide (10000000<x) with _|_
  ·rw [h2] at hf
   exact jZ92
  ·rw [h2] at hf
   exact jZ92
set_option maxHeartbeats 800000
theorem indexRate_any(ad:Option Addr)(cap:Nat)(L:List Int)(w:World)(hr:Reads w 1 (.slice ad L.length cap) L.length (L.flatMap i64c))(hl:L.length≤1000):
  Calls Tryz.prog 157 #[.slice ad L.length cap,.func (.func 141) #[] #[]] w fun e w'=>∃r:Int,e= .returned (.int .i64 r)∧decide (0≤r)=L.any rateB∧w=w':=by
 have Hr:=Lib.hid hr;clear hr
 go_enter Tryz.func157,Tryz.ntmps157
 go_wp2_with fail
 go_loop [8] (fun c=>∃j:Nat,j≤L.length∧c= .int .i64 (j:Nat)∧(L.take j).any rateB=false) (fun c=>L.length-(intOf c).toNat)
 case atStart=>exact⟨0,Nat.zero_le _,rfl,rfl⟩
 case round=>
  obtain⟨j,hj,rfl,hok⟩:=hrel
  by_cases hjl:j<L.length
  ·obtain⟨x,hx⟩:=Av hjl
   obtain⟨g,o,rfl,x0⟩:=Hr.out.int hx
   have hsn:=any_take_snoc (q:=rateB) hx
   rw [hok] at hsn
   have hcl:=fun W=>repMay1_any x W
   rcases m1:rateB x with _|_
   ·have hok':(L.take (j+1)).any rateB=false:=by rw [hsn,m1];rfl
    rw [m1] at hcl
    obtain⟨Hsn,Hx,Hok,Hok',Hcl⟩:=hid5 hsn hx hok hok' hcl;clear hcl hok' hok hx hsn
    go_wp2_with (go_at_call 141;((with_reducible refine(Hcl.out _).mono ?_);rintro e w1 ⟨rfl,rfl⟩))
    exact jZ43
   ·have hf:=any_of_get (q:=rateB) hx m1
    have hj0:decide ((0:Int)≤(j:Int))=true:=by simp
    rw [m1] at hcl
    obtain⟨Hf,Hsn,Hx,Hj0,Hcl⟩:=hid5 hf hsn hx hj0 hcl;clear hcl hj0 hx hsn hf
    go_wp2_with (go_at_call 141;((with_reducible refine(Hcl.out _).mono ?_);rintro e w1 ⟨rfl,rfl⟩))
    exact jZ95
  ·exact jZ29
set_option maxHeartbeats 400000
theorem containsRate_any(ad:Option Addr)(cap:Nat)(L:List Int)(w:World)(hr:Reads w 1 (.slice ad L.length cap) L.length (L.flatMap i64c))(hl:L.length≤1000):
  Calls Tryz.prog 140 #[.slice ad L.length cap,.func (.func 141) #[] #[]] w fun e w'=>e= .returned (.bool (L.any rateB))∧w=w':=by
 have Hr:=Lib.hid hr;clear hr
 go_enter Tryz.func140,Tryz.ntmps140
 go_wp2_with (go_at_call 157;refine(indexRate_any _ _ L _ Hr.out hl).mono ?_;rintro e w1 ⟨r,rfl,hd,rfl⟩;have Hd:=Lib.hid hd;clear hd)
 exact jZ88
def mayA(p:Ps)(R:List Int)(e:Ev):Bool:=p.rightB&&(decide (R.length=p.bal.length)&&(!(R.any rateB)&&(!(decide (e.kind<1)||(decide (6<e.kind)||((e.kind !=2)&&(decide (e.tranche<1)||decide ((R.length:Int)<e.tranche)))))&&((e.kind !=6)||(decide (0≤e.amount)&&decide (e.amount≤10000000))))))
set_option maxHeartbeats 6400000
theorem repMay_any(L R:List Int)(cr du ki da tr am re:Int)(ad adR:Option Addr)(cap cR n m:Nat)(w:World)(hr:Reads w 1 (.slice ad n cap) n (L.flatMap i64c))(hN:L.length=n)(hl:n≤1000)(hR:Reads w 1 (.slice adR m cR) m (R.flatMap i64c))(hRm:R.length=m)(hm:m≤1000):
  Calls Tryz.prog 121 #[.agg #[.slice ad n cap,.int .i64 cr,.int .i64 du],.slice adR m cR,.agg #[.int .i64 ki,.int .i64 da,.int .i64 tr,.int .i64 am,.int .i64 re]] w fun e w'=>e= .returned (.bool (mayA ⟨L,cr,du⟩ R ⟨ki,da,tr,am,re⟩))∧Keeps (fun _=>False) w w':=by
 have hri:=fun W (hW:Keeps (fun _=>False) w W)=>poolRight_go L cr du ad cap n W (hr.keeps hW (by simp)) hN hl
 have hco:=fun W (hW:Keeps (fun _=>False) w W)=>containsRate_any adR cR R W (by rw [hRm];exact hR.keeps hW (by simp)) (by omega)
 rw [hRm] at hco
 obtain⟨z,hz⟩:∃z,mayA ⟨L,cr,du⟩ R ⟨ki,da,tr,am,re⟩=z:=⟨_,rfl⟩
 rw [hz]
 have hbx:∀W,Keeps (fun _=>False) ((w.alloc (.cells #[.slice ad n cap,.int .i64 cr,.int .i64 du] 34)).alloc (.cells #[.int .i64 ki,.int .i64 da,.int .i64 tr,.int .i64 am,.int .i64 re] 77)) W→
   W.cell? ⟨w.heap.size+1,0,none⟩=some (.int .i64 ki)∧W.cell? ⟨w.heap.size+1,2,none⟩=some (.int .i64 tr)∧W.cell? ⟨w.heap.size+1,3,none⟩=some (.int .i64 am)∧W.cell? ⟨w.heap.size,0,none⟩=some (.slice ad n cap)∧w.heap.size+1<W.heap.size∧w.heap.size<W.heap.size:=fun W hW=>by
  have h1:=Ad (Au (heap_alloc_new w (.cells #[.slice ad n cap,.int .i64 cr,.int .i64 du] 34)) (.cells #[.int .i64 ki,.int .i64 da,.int .i64 tr,.int .i64 am,.int .i64 re] 77)) hW (by simp)
  have h2:=Ad (Ay (w.alloc (.cells #[.slice ad n cap,.int .i64 cr,.int .i64 du] 34)) (.cells #[.int .i64 ki,.int .i64 da,.int .i64 tr,.int .i64 am,.int .i64 re] 77) (i:=w.heap.size+1) (by simp)) hW (by simp)
  exact⟨Aa h2 0,Aa h2 2,Aa h2 3,Aa h1 0,lt_of_block h2,lt_of_block h1⟩
 rcases hbr:Ps.rightB ⟨L,cr,du⟩ with _|_
 ·rw [hbr] at hri
  have hmn:True:=trivial
  obtain⟨Hr,HR,Hri,Hco,Hz,Hbx,Hbr,HN,HRm⟩:=hid9 hr hR hri hco hz hbx hbr hN hRm;clear hRm hN hbr hbx hz hco hri hR hr;have Hmn:=Lib.hid hmn;clear hmn
  obtain rfl:z=false:=by rw [←Hz.out];simp [mayA,Hbr.out,HN.out, *]
  go_enter Tryz.func121,Tryz.ntmps121
  go_wp2_with (first|(go_at_call 110;(with_reducible refine(Hri.out _ ((Keeps.alloc _ _).Ae)).mono ?_);rintro e w1 ⟨rfl,hk1⟩;have hkw1:=(((Keeps.alloc (S:=fun _=>False) w _).Ae).nt hk1);have hb1:=Hbx.out _ hk1;obtain⟨x0,x2,x3,p0,xl,pl⟩:=hb1;have Hk1:=Lib.hid hkw1;clear hk1 hkw1)|(go_at_call 140;(with_reducible refine(Hco.out _ Hk1.out).mono ?_);rintro e w2 ⟨rfl,rfl⟩))
  go_ret
  exact⟨rfl,Hk1.out⟩
 rw [hbr] at hri
 by_cases hmn':m=n
 ·obtain rfl:n=m:=hmn'.symm
  have hmn:=hRm
  have hnn:((n:Int) !=(n:Int))=false:=by simp
  clear hmn'
  rcases hany:R.any rateB with _|_
  ·rw [hany] at hco
   obtain⟨Hr,HR,Hri,Hco,Hz,Hbx,Hbr,HN,HRm⟩:=hid9 hr hR hri hco hz hbx hbr hN hRm;clear hRm hN hbr hbx hz hco hri hR hr;have Hmn:=Lib.hid hmn;clear hmn
   rcases b1:decide (ki<1) with _|_
   ·rcases b2:decide (6<ki) with _|_
    ·rcases b3:(ki !=2) with _|_
     ·rcases b6:(ki !=6) with _|_
      ·rcases b7:decide (0≤am) with _|_
       ·skip
        obtain rfl:z=false:=by rw [←Hz.out];simp [mayA,Hbr.out,Hmn.out,HN.out, *]
        go_enter Tryz.func121,Tryz.ntmps121
        go_wp2_with (first|(go_at_call 110;(with_reducible refine(Hri.out _ ((Keeps.alloc _ _).Ae)).mono ?_);rintro e w1 ⟨rfl,hk1⟩;have hkw1:=(((Keeps.alloc (S:=fun _=>False) w _).Ae).nt hk1);have hb1:=Hbx.out _ hk1;obtain⟨x0,x2,x3,p0,xl,pl⟩:=hb1;have Hk1:=Lib.hid hkw1;clear hk1 hkw1)|(go_at_call 140;(with_reducible refine(Hco.out _ Hk1.out).mono ?_);rintro e w2 ⟨rfl,rfl⟩))
        go_ret
        exact⟨rfl,Hk1.out⟩
       ·rcases b8:decide (am≤10000000) with _|_
        ·skip
         obtain rfl:z=false:=by rw [←Hz.out];simp [mayA,Hbr.out,Hmn.out,HN.out, *]
         go_enter Tryz.func121,Tryz.ntmps121
         go_wp2_with (first|(go_at_call 110;(with_reducible refine(Hri.out _ ((Keeps.alloc _ _).Ae)).mono ?_);rintro e w1 ⟨rfl,hk1⟩;have hkw1:=(((Keeps.alloc (S:=fun _=>False) w _).Ae).nt hk1);have hb1:=Hbx.out _ hk1;obtain⟨x0,x2,x3,p0,xl,pl⟩:=hb1;have Hk1:=Lib.hid hkw1;clear hk1 hkw1)|(go_at_call 140;(with_reducible refine(Hco.out _ Hk1.out).mono ?_);rintro e w2 ⟨rfl,rfl⟩))
         go_ret
         exact⟨rfl,Hk1.out⟩
        ·skip
         obtain rfl:z=true:=by rw [←Hz.out];simp [mayA,Hbr.out,Hmn.out,HN.out, *]
         go_enter Tryz.func121,Tryz.ntmps121
         go_wp2_with (first|(go_at_call 110;(with_reducible refine(Hri.out _ ((Keeps.alloc _ _).Ae)).mono ?_);rintro e w1 ⟨rfl,hk1⟩;have hkw1:=(((Keeps.alloc (S:=fun _=>False) w _).Ae).nt hk1);have hb1:=Hbx.out _ hk1;obtain⟨x0,x2,x3,p0,xl,pl⟩:=hb1;have Hk1:=Lib.hid hkw1;clear hk1 hkw1)|(go_at_call 140;(with_reducible refine(Hco.out _ Hk1.out).mono ?_);rintro e w2 ⟨rfl,rfl⟩))
         go_ret
         exact⟨rfl,Hk1.out⟩
      ·skip
       obtain rfl:z=true:=by rw [←Hz.out];simp [mayA,Hbr.out,Hmn.out,HN.out, *]
       go_enter Tryz.func121,Tryz.ntmps121
       go_wp2_with (first|(go_at_call 110;(with_reducible refine(Hri.out _ ((Keeps.alloc _ _).Ae)).mono ?_);rintro e w1 ⟨rfl,hk1⟩;have hkw1:=(((Keeps.alloc (S:=fun _=>False) w _).Ae).nt hk1);have hb1:=Hbx.out _ hk1;obtain⟨x0,x2,x3,p0,xl,pl⟩:=hb1;have Hk1:=Lib.hid hkw1;clear hk1 hkw1)|(go_at_call 140;(with_reducible refine(Hco.out _ Hk1.out).mono ?_);rintro e w2 ⟨rfl,rfl⟩))
       go_ret
       exact⟨rfl,Hk1.out⟩
     ·rcases b4:decide (tr<1) with _|_
      ·rcases b5:decide ((n:Int)<tr) with _|_
       ·rcases b6:(ki !=6) with _|_
        ·rcases b7:decide (0≤am) with _|_
         ·skip
          obtain rfl:z=false:=by rw [←Hz.out];simp [mayA,Hbr.out,Hmn.out,HN.out, *]
          go_enter Tryz.func121,Tryz.ntmps121
          go_wp2_with (first|(go_at_call 110;(with_reducible refine(Hri.out _ ((Keeps.alloc _ _).Ae)).mono ?_);rintro e w1 ⟨rfl,hk1⟩;have hkw1:=(((Keeps.alloc (S:=fun _=>False) w _).Ae).nt hk1);have hb1:=Hbx.out _ hk1;obtain⟨x0,x2,x3,p0,xl,pl⟩:=hb1;have Hk1:=Lib.hid hkw1;clear hk1 hkw1)|(go_at_call 140;(with_reducible refine(Hco.out _ Hk1.out).mono ?_);rintro e w2 ⟨rfl,rfl⟩))
          go_ret
          exact⟨rfl,Hk1.out⟩
         ·rcases b8:decide (am≤10000000) with _|_
          ·skip
           obtain rfl:z=false:=by rw [←Hz.out];simp [mayA,Hbr.out,Hmn.out,HN.out, *]
           go_enter Tryz.func121,Tryz.ntmps121
           go_wp2_with (first|(go_at_call 110;(with_reducible refine(Hri.out _ ((Keeps.alloc _ _).Ae)).mono ?_);rintro e w1 ⟨rfl,hk1⟩;have hkw1:=(((Keeps.alloc (S:=fun _=>False) w _).Ae).nt hk1);have hb1:=Hbx.out _ hk1;obtain⟨x0,x2,x3,p0,xl,pl⟩:=hb1;have Hk1:=Lib.hid hkw1;clear hk1 hkw1)|(go_at_call 140;(with_reducible refine(Hco.out _ Hk1.out).mono ?_);rintro e w2 ⟨rfl,rfl⟩))
           go_ret
           exact⟨rfl,Hk1.out⟩
          ·skip
           obtain rfl:z=true:=by rw [←Hz.out];simp [mayA,Hbr.out,Hmn.out,HN.out, *]
           go_enter Tryz.func121,Tryz.ntmps121
           go_wp2_with (first|(go_at_call 110;(with_reducible refine(Hri.out _ ((Keeps.alloc _ _).Ae)).mono ?_);rintro e w1 ⟨rfl,hk1⟩;have hkw1:=(((Keeps.alloc (S:=fun _=>False) w _).Ae).nt hk1);have hb1:=Hbx.out _ hk1;obtain⟨x0,x2,x3,p0,xl,pl⟩:=hb1;have Hk1:=Lib.hid hkw1;clear hk1 hkw1)|(go_at_call 140;(with_reducible refine(Hco.out _ Hk1.out).mono ?_);rintro e w2 ⟨rfl,rfl⟩))
           go_ret
           exact⟨rfl,Hk1.out⟩
        ·skip
         obtain rfl:z=true:=by rw [←Hz.out];simp [mayA,Hbr.out,Hmn.out,HN.out, *]
         go_enter Tryz.func121,Tryz.ntmps121
         go_wp2_with (first|(go_at_call 110;(with_reducible refine(Hri.out _ ((Keeps.alloc _ _).Ae)).mono ?_);rintro e w1 ⟨rfl,hk1⟩;have hkw1:=(((Keeps.alloc (S:=fun _=>False) w _).Ae).nt hk1);have hb1:=Hbx.out _ hk1;obtain⟨x0,x2,x3,p0,xl,pl⟩:=hb1;have Hk1:=Lib.hid hkw1;clear hk1 hkw1)|(go_at_call 140;(with_reducible refine(Hco.out _ Hk1.out).mono ?_);rintro e w2 ⟨rfl,rfl⟩))
         go_ret
         exact⟨rfl,Hk1.out⟩
       ·skip
        obtain rfl:z=false:=by rw [←Hz.out];simp [mayA,Hbr.out,Hmn.out,HN.out, *]
        go_enter Tryz.func121,Tryz.ntmps121
        go_wp2_with (first|(go_at_call 110;(with_reducible refine(Hri.out _ ((Keeps.alloc _ _).Ae)).mono ?_);rintro e w1 ⟨rfl,hk1⟩;have hkw1:=(((Keeps.alloc (S:=fun _=>False) w _).Ae).nt hk1);have hb1:=Hbx.out _ hk1;obtain⟨x0,x2,x3,p0,xl,pl⟩:=hb1;have Hk1:=Lib.hid hkw1;clear hk1 hkw1)|(go_at_call 140;(with_reducible refine(Hco.out _ Hk1.out).mono ?_);rintro e w2 ⟨rfl,rfl⟩))
        go_ret
        exact⟨rfl,Hk1.out⟩
      ·skip
       obtain rfl:z=false:=by rw [←Hz.out];simp [mayA,Hbr.out,Hmn.out,HN.out, *]
       go_enter Tryz.func121,Tryz.ntmps121
       go_wp2_with (first|(go_at_call 110;(with_reducible refine(Hri.out _ ((Keeps.alloc _ _).Ae)).mono ?_);rintro e w1 ⟨rfl,hk1⟩;have hkw1:=(((Keeps.alloc (S:=fun _=>False) w _).Ae).nt hk1);have hb1:=Hbx.out _ hk1;obtain⟨x0,x2,x3,p0,xl,pl⟩:=hb1;have Hk1:=Lib.hid hkw1;clear hk1 hkw1)|(go_at_call 140;(with_reducible refine(Hco.out _ Hk1.out).mono ?_);rintro e w2 ⟨rfl,rfl⟩))
       go_ret
       exact⟨rfl,Hk1.out⟩
    ·skip
     obtain rfl:z=false:=by rw [←Hz.out];simp [mayA,Hbr.out,Hmn.out,HN.out, *]
     go_enter Tryz.func121,Tryz.ntmps121
     go_wp2_with (first|(go_at_call 110;(with_reducible refine(Hri.out _ ((Keeps.alloc _ _).Ae)).mono ?_);rintro e w1 ⟨rfl,hk1⟩;have hkw1:=(((Keeps.alloc (S:=fun _=>False) w _).Ae).nt hk1);have hb1:=Hbx.out _ hk1;obtain⟨x0,x2,x3,p0,xl,pl⟩:=hb1;have Hk1:=Lib.hid hkw1;clear hk1 hkw1)|(go_at_call 140;(with_reducible refine(Hco.out _ Hk1.out).mono ?_);rintro e w2 ⟨rfl,rfl⟩))
     go_ret
     exact⟨rfl,Hk1.out⟩
   ·skip
    obtain rfl:z=false:=by rw [←Hz.out];simp [mayA,Hbr.out,Hmn.out,HN.out, *]
    go_enter Tryz.func121,Tryz.ntmps121
    go_wp2_with (first|(go_at_call 110;(with_reducible refine(Hri.out _ ((Keeps.alloc _ _).Ae)).mono ?_);rintro e w1 ⟨rfl,hk1⟩;have hkw1:=(((Keeps.alloc (S:=fun _=>False) w _).Ae).nt hk1);have hb1:=Hbx.out _ hk1;obtain⟨x0,x2,x3,p0,xl,pl⟩:=hb1;have Hk1:=Lib.hid hkw1;clear hk1 hkw1)|(go_at_call 140;(with_reducible refine(Hco.out _ Hk1.out).mono ?_);rintro e w2 ⟨rfl,rfl⟩))
    go_ret
    exact⟨rfl,Hk1.out⟩
  ·rw [hany] at hco
   obtain⟨Hr,HR,Hri,Hco,Hz,Hbx,Hbr,HN,HRm⟩:=hid9 hr hR hri hco hz hbx hbr hN hRm;clear hRm hN hbr hbx hz hco hri hR hr;have Hmn:=Lib.hid hmn;clear hmn
   obtain rfl:z=false:=by rw [←Hz.out];simp [mayA,Hbr.out,Hmn.out,HN.out, *]
   go_enter Tryz.func121,Tryz.ntmps121
   go_wp2_with (first|(go_at_call 110;(with_reducible refine(Hri.out _ ((Keeps.alloc _ _).Ae)).mono ?_);rintro e w1 ⟨rfl,hk1⟩;have hkw1:=(((Keeps.alloc (S:=fun _=>False) w _).Ae).nt hk1);have hb1:=Hbx.out _ hk1;obtain⟨x0,x2,x3,p0,xl,pl⟩:=hb1;have Hk1:=Lib.hid hkw1;clear hk1 hkw1)|(go_at_call 140;(with_reducible refine(Hco.out _ Hk1.out).mono ?_);rintro e w2 ⟨rfl,rfl⟩))
   go_ret
   exact⟨rfl,Hk1.out⟩
 ·have hmn:¬R.length=n:=by rw [hRm];exact hmn'
  have hnn:((m:Int) !=(n:Int))=true:=by simp;omega
  obtain⟨Hr,HR,Hri,Hco,Hz,Hbx,Hbr,HN,HRm⟩:=hid9 hr hR hri hco hz hbx hbr hN hRm;clear hRm hN hbr hbx hz hco hri hR hr;have Hmn:=Lib.hid hmn;clear hmn
  obtain rfl:z=false:=by rw [←Hz.out];simp [mayA,Hbr.out,Hmn.out,HN.out, *]
  go_enter Tryz.func121,Tryz.ntmps121
  go_wp2_with (first|(go_at_call 110;(with_reducible refine(Hri.out _ ((Keeps.alloc _ _).Ae)).mono ?_);rintro e w1 ⟨rfl,hk1⟩;have hkw1:=(((Keeps.alloc (S:=fun _=>False) w _).Ae).nt hk1);have hb1:=Hbx.out _ hk1;obtain⟨x0,x2,x3,p0,xl,pl⟩:=hb1;have Hk1:=Lib.hid hkw1;clear hk1 hkw1)|(go_at_call 140;(with_reducible refine(Hco.out _ Hk1.out).mono ?_);rintro e w2 ⟨rfl,rfl⟩))
  go_ret
  exact⟨rfl,Hk1.out⟩
def applyQ(p:Ps)(R:List Int)(e:Ev):Ps×Int:=if e.kind=1∨e.kind=5 then chargeR p e.tranche e.amount else if e.kind=2 then payR p R e.amount else if e.kind=3∨e.kind=4 then giveR p R e.tranche e.amount else(p,0)
def applyRt(R:List Int)(e:Ev):List Int:=if e.kind=6 then R.set (e.tranche-1).toNat e.amount else R
def applyR(p:Ps)(R:List Int)(e:Ev):Ps×List Int×Int:=if mayA p R e=true then(if(applyQ p R e).2=0 then((applyQ p R e).1,applyRt R e,0) else(ps0, [],(applyQ p R e).2)) else(ps0, [],1)
theorem rateB_iff(x:Int):rateB x=false↔0≤x∧x≤10000000:=by simp [rateB,outM]
theorem rates_ok{R:List Int}(h:R.any rateB=false):∀x∈R,0≤x∧x≤10000000:=fun x hx=>by
 rw [←rateB_iff]
 rcases hb:rateB x with _|_
 ·rfl
 ·rw [List.any_eq_true.2 ⟨x,hx,hb⟩] at h;cases h
structure MayOk(p:Ps)(R:List Int)(e:Ev):Prop where
 pr:p.rightB=true
 len:R.length=p.bal.length
 rt:∀x∈R,0≤x∧x≤10000000
 k1:1≤e.kind
 k6:e.kind≤6
 tr:e.kind≠2→1≤e.tranche∧e.tranche≤R.length
 am:e.kind=6→0≤e.amount∧e.amount≤10000000
theorem mayA_ok{p:Ps}{R:List Int}{e:Ev}(h:mayA p R e=true):MayOk p R e:=by
 unfold mayA at h
 rw [Bool.and_eq_true,Bool.and_eq_true,Bool.and_eq_true,Bool.and_eq_true] at h
 obtain⟨h1,h2,h3,h4,h5⟩:=h
 have h3':R.any rateB=false:=by simpa using h3
 have h4':¬e.kind<1∧¬6<e.kind∧(e.kind≠2→¬e.tranche<1∧¬(R.length:Int)<e.tranche):=by
  rcases hk2:(e.kind !=2) with _|_
  ·rw [hk2] at h4
   have hk2':e.kind=2:=by simpa using hk2
   refine⟨by omega,by omega,fun h=>absurd hk2' h⟩
  ·rw [hk2] at h4
   simp only [Bool.true_and,Bool.not_eq_true',Bool.or_eq_false_iff,decide_eq_false_iff_not] at h4
   exact⟨h4.1,h4.2.1,fun _=>h4.2.2⟩
 have h5':e.kind=6→0≤e.amount∧e.amount≤10000000:=fun hk=>by
  rw [show(e.kind !=6)=false by simp [hk],Bool.false_or,Bool.and_eq_true,decide_eq_true_eq,decide_eq_true_eq] at h5
  exact h5
 exact⟨h1,by simpa using h2,rates_ok h3',by omega,by omega,fun hk=>by have:=h4'.2.2 hk;omega,h5'⟩
structure AB(E:Array Value)(w W:World):Prop where
 e:W.heap[w.heap.size+1]?=some (.cells E 77 (0,0))
 r:W.heap[w.heap.size+1+1]?=some (.cells #[.slice none 0 0,.int .i64 0,.int .i64 0] 34 (0,0))
 kp:Keeps (fun _=>False) w W
theorem AB.keep{E:Array Value}{w W W':World}(h:AB E w W)(hk:Keeps (fun i=>i=w.heap.size) W W'):AB E w W':=⟨Ad h.e hk (by omega),Ad h.r hk (by omega),h.kp.trans (hk.mono fun i _ e=> .inr (by have e':i=w.heap.size:=e;omega))⟩
theorem AB.keep0{E:Array Value}{w W W':World}(h:AB E w W)(hk:Keeps (fun _=>False) W W'):AB E w W':=h.keep (hk.mono (by simp))
theorem AB.start(C E:Array Value)(w:World):AB E w (((w.alloc (.cells C 34)).alloc (.cells E 77)).alloc (.cells #[.slice none 0 0,.int .i64 0,.int .i64 0] 34)):=
 ⟨Au (Ay _ _ (by simp)) _,Ay _ _ (by simp),((Keeps.alloc _ _).Ae).Ae⟩
def ApplyPost(r:Ps×List Int×Int)(w:World)(e:Ending)(w':World):Prop:=∃vb vr,e= .returned (.tuple #[.agg #[vb,.int .i64 r.1.cr,.int .i64 r.1.du],vr,.int .i64 r.2.2])∧w'.ownsRow 0 2 1 vb r.1.bal.length (r.1.bal.flatMap i64c)∧w'.ownsRow 0 2 1 vr r.2.1.length (r.2.1.flatMap i64c)∧Keeps (fun _=>False) w w'∧
 (∀i,vb.ownBlock=some i→w.heap.size≤i)∧(∀i,vr.ownBlock=some i→w.heap.size≤i)
set_option maxHeartbeats 3200000
theorem repApply_any(L R:List Int)(cr du ki da tr am re:Int)(ad adR:Option Addr)(cap cR n m:Nat)(w:World)(hr:Reads w 1 (.slice ad n cap) n (L.flatMap i64c))(hN:L.length=n)(hl:n≤1000)(hR:Reads w 1 (.slice adR m cR) m (R.flatMap i64c))(hRm:R.length=m)(hm:m≤1000):
  Calls Tryz.prog 102 #[.agg #[.slice ad n cap,.int .i64 cr,.int .i64 du],.slice adR m cR,.agg #[.int .i64 ki,.int .i64 da,.int .i64 tr,.int .i64 am,.int .i64 re]] w (ApplyPost (applyR ⟨L,cr,du⟩ R ⟨ki,da,tr,am,re⟩) w):=by
 have hmay:=fun W (hW:Keeps (fun _=>False) w W)=>repMay_any L R cr du ki da tr am re ad adR cap cR n m W (hr.keeps hW (by simp)) hN hl (hR.keeps hW (by simp)) hRm hm
 have hst:=AB.start #[.slice ad n cap,.int .i64 cr,.int .i64 du] #[.int .i64 ki,.int .i64 da,.int .i64 tr,.int .i64 am,.int .i64 re] w
 have hpb:(((w.alloc (.cells #[.slice ad n cap,.int .i64 cr,.int .i64 du] 34)).alloc (.cells #[.int .i64 ki,.int .i64 da,.int .i64 tr,.int .i64 am,.int .i64 re] 77)).alloc (.cells #[.slice none 0 0,.int .i64 0,.int .i64 0] 34)).heap[w.heap.size]?=some (.cells #[.slice ad n cap,.int .i64 cr,.int .i64 du] 34 (0,0)):=Au (Au (heap_alloc_new w _) _) _
 obtain⟨W0,hW0⟩:∃W0,W0=(((w.alloc (.cells #[.slice ad n cap,.int .i64 cr,.int .i64 du] 34)).alloc (.cells #[.int .i64 ki,.int .i64 da,.int .i64 tr,.int .i64 am,.int .i64 re] 77)).alloc (.cells #[.slice none 0 0,.int .i64 0,.int .i64 0] 34)):=⟨_,rfl⟩
 rw [←hW0] at hst hpb
 obtain⟨A,hA⟩:∃A,applyR ⟨L,cr,du⟩ R ⟨ki,da,tr,am,re⟩=A:=⟨_,rfl⟩
 rw [hA]
 unfold applyR at hA
 rcases hmb:mayA ⟨L,cr,du⟩ R ⟨ki,da,tr,am,re⟩ with _|_
 ·rw [hmb] at hmay hA
  rw [if_neg (by decide)] at hA
  subst hA
  obtain⟨Hr,HN,HR,HRm,Hmay,Hst,Hpb,Hmb⟩:=hid8 hr hN hR hRm hmay hst hpb hmb;clear hmb hpb hst hmay hRm hR hN hr
  go_enter Tryz.func102,Tryz.ntmps102
  go_wp2_with fail
  rw [←hW0]
  refine(Hmay.out _ Hst.out.kp).mono ?_
  rintro e w1 ⟨rfl,hk1⟩
  have hab1:=Hst.out.keep0 hk1
  have hrs:=hab1.r
  have hS3:=store3 hrs (.slice none 0 0) (.int .i64 0) (.int .i64 0)
  obtain⟨hb9,k9⟩:=hS3
  have r0:=Aa hrs 0
  have r1:=Aa hrs 1
  have r2:=Aa hrs 2
  have rf0:=Ab hrs 0
  have rf1:=Ab hrs 1
  have rf2:=Ab hrs 2
  have rl:=lt_of_block hrs
  have sr0:=Aa hb9 0
  have sr1:=Aa hb9 1
  have sr2:=Aa hb9 2
  obtain⟨Hrs,Hb9,K9,Sr0,Sr1,Sr2⟩:=hid6 hrs hb9 k9 sr0 sr1 sr2;clear sr2 sr1 sr0 k9 hb9 hrs
  obtain⟨Hk1,Hab1⟩:=hid2 hk1 hab1;clear hab1 hk1
  go_wp2
  have R0':=Sr0.out
  have R1':=Sr1.out
  have R2':=Sr2.out
  clear r0 r1 r2
  exact bodyPost_ret (v:= .tuple #[.agg #[.slice none 0 0,.int .i64 0,.int .i64 0],.slice none 0 0,.int .i64 1]) (by simp [results,Tryz.results102,go_sem,R0',R1',R2']) rfl ⟨_,_,rfl,World.ownsRow_nil _ _ _ _,World.ownsRow_nil _ _ _ _,Hab1.out.kp.trans (K9.out.mono fun i _ e=> .inr (by have e':i=w.heap.size+1+1:=e;omega)),by simp [Value.ownBlock],by simp [Value.ownBlock]⟩
 ·have hmo:=mayA_ok hmb
  rw [hmb] at hmay hA
  rw [if_pos rfl] at hA
  obtain⟨hpr,hlen,hrt,hk1,hk6,htr,ham⟩:=hmo
  simp only at hlen hk1 hk6 htr ham
  obtain rfl:m=n:=by rw [←hRm,hlen,hN]
  have hcl:=fun W (hW:Keeps (fun _=>False) w W)=>Dg W (.slice adR m cR) m (R.flatMap i64c) (hR.keeps hW (by simp)) (i64c_one _) (by omega)
  have hcl2:=fun W (hW:Keeps (fun _=>False) w W)=>Dg W (.slice ad m cap) m (L.flatMap i64c) (hr.keeps hW (by simp)) (i64c_one _) (by omega)
  obtain⟨hbal,hcr,hdu,hn1,hn8⟩:=Cz hpr
  simp only at hbal hcr hdu hn1 hn8
  rw [hN] at hn1 hn8
  obtain⟨Hr,HN,HR,HRm,Hmay,Hst,Hpb,Hmb,Hpr⟩:=hid9 hr hN hR hRm hmay hst hpb hmb hpr;clear hpr hmb hpb hst hmay hRm hR hN hr;obtain⟨Hlen,Hrt,Hcl,Hcl2,Hbal,Hcr,Hdu,HA⟩:=hid8 hlen hrt hcl hcl2 hbal hcr hdu hA;clear hA hdu hcr hbal hcl2 hcl hrt hlen
  go_enter Tryz.func102,Tryz.ntmps102
  go_wp2_with fail
  rw [←hW0]
  refine(Hmay.out _ Hst.out.kp).mono ?_
  rintro e w1 ⟨rfl,hk1⟩
  have hab1:=Hst.out.keep0 hk1
  have hpb1:=Ad Hpb.out hk1 (by simp)
  obtain⟨Hk1,Hab1,Hpb1⟩:=hid3 hk1 hab1 hpb1;clear hpb1 hab1 hk1
  go_wp2_with fail
  refine(Hcl.out _ Hab1.out.kp).mono ?_
  rintro e w2 ⟨vr,rfl,hrr2,hk2,hg2⟩
  obtain⟨gr,cr2,rfl⟩:=Df hrr2 hn1
  have hab2:=Hab1.out.keep0 hk2
  have hpb2:=Ad Hpb1.out hk2 (by simp)
  have p0:=Aa hpb2 0
  have pl:=lt_of_block hpb2
  obtain⟨Hk2,Hab2,Hpb2,Hrr2,Hg2⟩:=hid5 hk2 hab2 hpb2 hrr2 hg2;clear hg2 hrr2 hpb2 hab2 hk2
  go_wp2_with fail
  refine(Hcl2.out _ Hab2.out.kp).mono ?_
  rintro e w3 ⟨vb,rfl,hrb3,hk3,hg3⟩
  obtain⟨gb,cb,rfl⟩:=Df hrb3 hn1
  clear p0 pl
  have hab3:=Hab2.out.keep0 hk3
  have hpb3:=Ad Hpb2.out hk3 (by simp)
  have hrr3:=Hrr2.out.of_keeps hk3
  have p0:=Aa hpb3 0
  have pf0:=Ab hpb3 0
  have pl:=lt_of_block hpb3
  have k4:Keeps (fun i=>i=w.heap.size) w3 (w3.setCell ⟨w.heap.size,0,none⟩ (.slice (some ⟨gb,0,none⟩) m cb)):=Keeps.setCell _ _ _ rfl
  have hpb4:=(heap_setCell_same _ _ 0 _ _ (.slice (some ⟨gb,0,none⟩) m cb) hpb3).trans rfl
  have hab4:=hab3.keep k4
  have hg2':∀i,(Value.slice (some ⟨gr,0,none⟩) m cr2).ownBlock=some i→w.heap.size+1+1<i:=fun i e=>by have:=Hg2.out i e;have:=lt_of_block Hab1.out.r;omega
  have hg3':∀i,(Value.slice (some ⟨gb,0,none⟩) m cb).ownBlock=some i→w.heap.size+1+1<i:=fun i e=>by have:=hg3 i e;have:=lt_of_block Hab2.out.r;omega
  have hrb4:=k4.row hrb3 (fun i hi e=>by have e':i=w.heap.size:=e;have:=hg3' i hi;omega)
  have hrr4:=k4.row hrr3 (fun i hi e=>by have e':i=w.heap.size:=e;have:=hg2' i hi;omega)
  have hg23:¬gb=gr:=fun e=>by have h1:=hg3 gb rfl;have h2:=Bu Hrr2.out (show(Value.slice (some ⟨gr,0,none⟩) m cr2).ownBlock=some gr from rfl);omega
  obtain⟨W4,hW4⟩:∃W4,W4=(w3.setCell ⟨w.heap.size,0,none⟩ (.slice (some ⟨gb,0,none⟩) m cb)):=⟨_,rfl⟩
  rw [←hW4] at hpb4 hab4 hrb4 hrr4
  have p1:=Aa hpb3 1
  have p2:=Aa hpb3 2
  have e0:=Aa (hab3).e 0
  have e2:=Aa (hab3).e 2
  have e3:=Aa (hab3).e 3
  have el:=lt_of_block (hab3).e
  clear Hg2
  obtain⟨Hk3,Hab3,Hpb3,Hrr3,Hrb3,Hg3,K4,Hpb4,Hab4⟩:=hid9 hk3 hab3 hpb3 hrr3 hrb3 hg3 k4 hpb4 hab4;clear hab4 hpb4 k4 hg3 hrb3 hrr3 hpb3 hab3 hk3;obtain⟨Hrb4,Hrr4,Hg2',Hg3',Hg23⟩:=hid5 hrb4 hrr4 hg2' hg3' hg23;clear hg23 hg3' hg2' hrr4 hrb4
  have Hg2:=Hg2'
  clear Hg2'
  have hkk:ki=1∨ki=2∨ki=3∨ki=4∨ki=5∨ki=6:=by omega
  go_upto_region 5 with(fail)
  rw [←hW4]
  have HW4:=Lib.hid hW4
  clear hW4 p0 pf0 pl p1 p2 e0 e2 e3 el
  rcases hkk with rfl|rfl|rfl|rfl|rfl|rfl
  ·exact jZ47
  ·skip
   have hA:=HA.out
   clear HA
   simp [applyQ,applyRt] at hA
   obtain⟨⟨q,z⟩,hq⟩:∃q,payR ⟨L,cr,du⟩ R am=q:=⟨_,rfl⟩
   rw [hq] at hA
   have hcall:=fun W (hW:Keeps (fun _=>False) W4 W)=>poolPay_any L R cr du am (some ⟨gb,0,none⟩) (some ⟨gr,0,none⟩) cb cr2 m W ((Reads.Bh Hrb4.out).keeps hW (by simp)) HN.out hl ((Reads.Bh Hrr4.out).keeps hW (by simp)) HRm.out
   exact jZ2
  ·exact jZ37
  ·exact jZ37
  ·exact jZ47
  ·have hA:=HA.out
   clear HA
   simp [applyQ,applyRt] at hA
   subst hA
   obtain⟨t0,t1⟩:=htr (by decide)
   obtain⟨a0,a1⟩:=ham rfl
   clear htr ham
   rw [HRm.out] at t1
   obtain⟨i,hi⟩:∃i:Nat,(i:Int)=tr-1:=⟨(tr-1).toNat,by omega⟩
   have hin:i<m:=by omega
   have hit:(tr-1).toNat=i:=by omega
   have hit2:tr.toNat-1=i:=by omega
   have hrz:RowZ W4 2 gr m cr2 R:=⟨Hrr4.out,HRm.out⟩
   obtain⟨x,hx⟩:=Av (L:=R) (k:=i) (by rw [HRm.out];exact hin)
   have cx:=hrz.cell hx
   have fx:=hrz.free i
   have lx:=hrz.lt
   have hnew:=hrz.set hin am
   have k5:Keeps (fun j=>j=gr) W4 (W4.setCell ⟨gr,i,none⟩ (.int .i64 am)):=Keeps.setCell _ _ _ rfl
   have hgrb:¬w.heap.size=gr:=fun e=>by have:=Hg2.out gr rfl;omega
   have hgre:¬w.heap.size+1=gr:=fun e=>by have:=Hg2.out gr rfl;omega
   have hgrr:¬w.heap.size+1+1=gr:=fun e=>by have:=Hg2.out gr rfl;omega
   have hab5:AB #[.int .i64 6,.int .i64 da,.int .i64 tr,.int .i64 am,.int .i64 re] w (W4.setCell ⟨gr,i,none⟩ (.int .i64 am)):=⟨Ad Hab4.out.e k5 hgre,Ad Hab4.out.r k5 hgrr,Hab4.out.kp.trans (k5.mono fun j _ e=> .inr (by have e':j=gr:=e;have:=Hg2.out gr rfl;omega))⟩
   have hpb5:=Ad Hpb4.out k5 hgrb
   have hrb5:=k5.row Hrb4.out (fun j hj e=>by have e':j=gr:=e;simp only [Value.ownBlock,Option.some.injEq] at hj;exact Hg23.out (by omega))
   have p0:=Aa Hpb4.out 0
   have p1:=Aa Hpb4.out 1
   have p2:=Aa Hpb4.out 2
   have pl4:=lt_of_block Hpb4.out
   have e0:=Aa Hab4.out.e 0
   have e2:=Aa Hab4.out.e 2
   have e3:=Aa Hab4.out.e 3
   have el4:=lt_of_block Hab4.out.e
   have r0:=Aa Hab4.out.r 0
   have r1:=Aa Hab4.out.r 1
   have r2:=Aa Hab4.out.r 2
   have rf0:=Ab Hab4.out.r 0
   have rf1:=Ab Hab4.out.r 1
   have rf2:=Ab Hab4.out.r 2
   have rl:=lt_of_block Hab4.out.r
   have q1:(0:Int)≤tr-1:=by omega
   have q2:tr-1<(m:Int):=by omega
   have q4:IntKind.i64.wrap (tr-1)=tr-1:=IntWalk.i64_in _ ⟨by omega,by omega⟩
   have hgbr:¬gr=w.heap.size:=fun e=>hgrb e.symm
   have hgrr2:¬gr=w.heap.size+1+1:=fun e=>hgrr e.symm
   have hS3:=store3 hab5.r (.slice (some ⟨gb,0,none⟩) m cb) (.int .i64 cr) (.int .i64 du)
   obtain⟨hb9,k9⟩:=hS3
   have hkf:=hab5.kp.trans (k9.mono fun i _ e=> .inr (by have e':i=w.heap.size+1+1:=e;omega))
   have hrow9:=k9.row hrb5 (fun i hi e=>by have e':i=w.heap.size+1+1:=e;have:=Hg3'.out i hi;omega)
   have hrr9:=k9.row hnew.1 (fun i hi e=>by have e':i=w.heap.size+1+1:=e;simp only [Value.ownBlock,Option.some.injEq] at hi;omega)
   have sr0:=Aa hb9 0
   have sr1:=Aa hb9 1
   have sr2:=Aa hb9 2
   have hlen9:=hnew.2
   obtain⟨Hrz,Hx,Hnew,K5,Hab5,Hpb5,Hrb5,Hb9,K9⟩:=hid9 hrz hx hnew k5 hab5 hpb5 hrb5 hb9 k9;clear k9 hb9 hrb5 hpb5 hab5 k5 hnew hx hrz;obtain⟨Hkf,Hrow9,Hrr9,Sr0,Sr1,Sr2,Hlen9,Hi,Hit2⟩:=hid9 hkf hrow9 hrr9 sr0 sr1 sr2 hlen9 hi hit2;clear hit2 hi hlen9 sr2 sr1 sr0 hrr9 hrow9 hkf
   go_wp2
   have R0':=Sr0.out
   have R1':=Sr1.out
   have R2':=Sr2.out
   clear r0 r1 r2 p0 p1 p2
   exact bodyPost_ret (v:= .tuple #[.agg #[.slice (some ⟨gb,0,none⟩) m cb,.int .i64 cr,.int .i64 du],.slice (some ⟨gr,0,none⟩) m cr2,.int .i64 0]) (by simp [results,Tryz.results102,go_sem,R0',R1',R2']) rfl ⟨_,_,rfl,by rw [HN.out];exact Hrow9.out,by rw [Hit2.out,Hlen9.out];exact Hrr9.out,Hkf.out,fun i hi=>by have:=Hg3'.out i hi;omega,fun i hi=>by have:=Hg2.out i hi;omega⟩
def tbS(E:Nat)(t:Tm)(v:Value)(w:World):Prop:=
 w.cell? ⟨E,0,none⟩=some (.int .i64 t.limit)∧w.cell? ⟨E,1,none⟩=some v∧w.cell? ⟨E,2,none⟩=some (.int .i64 t.cyc)∧w.cell? ⟨E,3,none⟩=some (.int .i64 t.due)∧w.cell? ⟨E,4,none⟩=some (.int .i64 t.minFixed)∧w.cell? ⟨E,5,none⟩=some (.int .i64 t.minPart)∧w.cell? ⟨E,6,none⟩=some (.int .i64 t.start)
theorem tbS.of{E:Nat}{t:Tm}{v:Value}{w:World}(hb:w.heap[E]?=some (.cells #[.int .i64 t.limit,v,.int .i64 t.cyc,.int .i64 t.due,.int .i64 t.minFixed,.int .i64 t.minPart,.int .i64 t.start] 29 (0,0))):tbS E t v w:=
 ⟨Aa hb 0,Aa hb 1,Aa hb 2,Aa hb 3,Aa hb 4,Aa hb 5,Aa hb 6⟩
theorem tbS.keep{E:Nat}{t:Tm}{v:Value}{w w':World}(h:tbS E t v w)(hk:Keeps (fun _=>False) w w'):tbS E t v w':=by
 obtain⟨h0,h1,h2,h3,h4,h5,h6⟩:=h
 exact⟨(hk.cell (Ag h0) (by simp)).trans h0,(hk.cell (Ag h1) (by simp)).trans h1,(hk.cell (Ag h2) (by simp)).trans h2,(hk.cell (Ag h3) (by simp)).trans h3,(hk.cell (Ag h4) (by simp)).trans h4,(hk.cell (Ag h5) (by simp)).trans h5,(hk.cell (Ag h6) (by simp)).trans h6⟩
def dy(X:List Ev)(t:Nat):Int:=match X[t]? with|some x=>x.day|none=>0
theorem Dh{X:List Ev}{t:Nat}{x:Ev}(h:X[t]?=some x):dy X t=x.day:=by unfold dy;rw [h]
theorem Bv{X Y:List Ev}{s t:Nat}(h:X[s]?=Y[t]?):dy X s=dy Y t:=by unfold dy;rw [h]
def Alike(X Y:List Ev):Prop:=∀k:Int,X.filter (fun x=>decide (x.day=k))=Y.filter (fun x=>decide (x.day=k))
theorem Alike.refl(X:List Ev):Alike X X:=fun _=>rfl
theorem Alike.symm{X Y:List Ev}(h:Alike X Y):Alike Y X:=fun k=>(h k).symm
theorem Alike.trans{X Y Z:List Ev}(h:Alike X Y)(h':Alike Y Z):Alike X Z:=fun k=>(h k).trans (h' k)
theorem Alike.app{X X' Y Y':List Ev}(h:Alike X X')(h':Alike Y Y'):Alike (X++Y) (X'++Y'):=fun k=>by rw [List.filter_append,List.filter_append,h k,h' k]
theorem Alike.mem{X Y:List Ev}(h:Alike X Y){x:Ev}(hx:x∈X):x∈Y:=by
 have:x∈X.filter (fun y=>decide (y.day=x.day)):=List.mem_filter.2 ⟨hx,by simp⟩
 rw [h] at this
 exact(List.mem_filter.1 this).1
theorem Alike.turn{U V:List Ev}(h:∀u∈U,∀v∈V,v.day<u.day):Alike (V++U) (U++V):=by
 intro k
 rw [List.filter_append,List.filter_append]
 by_cases hU:∃u∈U,u.day=k
 ·obtain⟨u,hu,rfl⟩:=hU
  have:V.filter (fun x=>decide (x.day=u.day))= []:=by
   rw [List.filter_eq_nil_iff]
   intro v hv
   have:=h u hu v hv
   simp;omega
  rw [this];simp
 ·have:U.filter (fun x=>decide (x.day=k))= []:=by
   rw [List.filter_eq_nil_iff]
   intro u hu
   simp only [decide_eq_true_eq]
   exact fun e=>hU ⟨u,hu,e⟩
  rw [this];simp
theorem Alike.cancel{P X Y S:List Ev}(h:Alike (P++X++S) (P++Y++S)):Alike X Y:=by
 intro k
 have:=h k
 simp only [List.filter_append] at this
 exact List.append_cancel_left (List.append_cancel_right this)
def Upto(X:List Ev)(a b:Nat):Prop:=∀s t,a≤s→s<t→t<b→dy X s≤dy X t
theorem Upto.le{X:List Ev}{a b:Nat}(h:Upto X a b){s t:Nat}(h1:a≤s)(h2:s≤t)(h3:t<b):dy X s≤dy X t:=by
 rcases Nat.lt_or_ge s t with h4|h4
 ·exact h s t h1 h4 h3
 ·obtain rfl:s=t:=by omega
  exact Int.le_refl _
theorem Upto.sub{X:List Ev}{a b a' b':Nat}(h:Upto X a b)(h1:a≤a')(h2:b'≤b):Upto X a' b':=fun s t h3 h4 h5=>h s t (by omega) h4 (by omega)
theorem Upto.one{X:List Ev}{a b:Nat}(h:b≤a+1):Upto X a b:=fun s t h1 h2 h3=>by omega
theorem Upto.eq{X Y:List Ev}{a b:Nat}(h:Upto X a b)(he:∀t,a≤t→t<b→Y[t]?=X[t]?):Upto Y a b:=fun s t h1 h2 h3=>by
 rw [Bv (he s h1 (by omega)),Bv (he t (by omega) h3)];exact h s t h1 h2 h3
structure Turned(X Y:List Ev)(a b:Nat):Prop where
 len:Y.length=X.length
 out:∀t,t<a∨b≤t→Y[t]?=X[t]?
 alike:Alike Y X
theorem Turned.refl(X:List Ev)(a b:Nat):Turned X X a b:=⟨rfl,fun _ _=>rfl,Alike.refl _⟩
theorem Turned.trans{X Y Z:List Ev}{a b:Nat}(h:Turned X Y a b)(h':Turned Y Z a b):Turned X Z a b:=
 ⟨h'.len.trans h.len,fun t ht=>(h'.out t ht).trans (h.out t ht),h'.alike.trans h.alike⟩
theorem Turned.wide{X Y:List Ev}{a b a' b':Nat}(h:Turned X Y a b)(h1:a'≤a)(h2:b≤b'):Turned X Y a' b':=⟨h.len,fun t ht=>h.out t (by omega),h.alike⟩
theorem Turned.parts{X Y:List Ev}{a b:Nat}(h:Turned X Y a b)(hab:a≤b)(hb:b≤X.length):
  ∃P U V S,X=P++U++S∧Y=P++V++S∧P.length=a∧U.length=b-a∧V.length=b-a:=by
 refine⟨X.take a,(X.take b).drop a,(Y.take b).drop a,X.drop b, ?_, ?_, ?_, ?_, ?_⟩
 ·have:X.take a=(X.take b).take a:=by rw [List.take_take,Nat.min_eq_left hab]
  rw [this,List.take_append_drop,List.take_append_drop]
 ·have h1:X.take a=(Y.take b).take a:=by
   rw [List.take_take,Nat.min_eq_left hab]
   refine List.ext_getElem? fun t=> ?_
   rw [List.getElem?_take,List.getElem?_take]
   split
   ·exact(h.out t (.inl (by omega))).symm
   ·rfl
  have h2:X.drop b=Y.drop b:=by
   refine List.ext_getElem? fun t=> ?_
   rw [List.getElem?_drop,List.getElem?_drop]
   exact(h.out _ (.inr (by omega))).symm
  rw [h1,h2,List.take_append_drop,List.take_append_drop]
 ·rw [List.length_take];omega
 ·rw [List.length_drop,List.length_take];omega
 ·rw [List.length_drop,List.length_take,h.len];omega
theorem Turned.from{X Y:List Ev}{a b:Nat}(h:Turned X Y a b)(hb:b≤X.length){t:Nat}(h1:a≤t)(h2:t<b):∃s,a≤s∧s<b∧Y[t]?=X[s]?:=by
 obtain⟨P,U,V,S,rfl,rfl,rfl,hU,hV⟩:=h.parts (by omega) hb
 have hc:=h.alike.cancel
 have ht:t-P.length<V.length:=by omega
 have hm:=hc.mem (List.getElem_mem ht)
 obtain⟨i,hi,he⟩:=List.getElem_of_mem hm
 refine⟨P.length+i,by omega,by omega, ?_⟩
 rw [List.append_assoc,List.append_assoc,List.getElem?_append_right (by omega),List.getElem?_append_left ht,List.getElem?_append_right (by omega),List.getElem?_append_left (by omega),Nat.add_sub_cancel_left,List.getElem?_eq_getElem ht,List.getElem?_eq_getElem hi,he]
theorem Turned.bound{X Y:List Ev}{a b:Nat}(h:Turned X Y a b)(hb:b≤X.length){q:Int→Prop}(hq:∀t,a≤t→t<b→q (dy X t)):∀t,a≤t→t<b→q (dy Y t):=fun t h1 h2=>by
 obtain⟨s,h3,h4,h5⟩:=h.from hb h1 h2
 rw [Bv h5];exact hq s h3 h4
def swp(X:List Ev)(i j:Nat):List Ev:=match X[i]?,X[j]? with|some x,some y=>(X.set i y).set j x|_,_=>X
theorem swp_of{X:List Ev}{i j:Nat}{x y:Ev}(h1:X[i]?=some x)(h2:X[j]?=some y):swp X i j=(X.set i y).set j x:=by unfold swp;rw [h1,h2]
theorem swp_length(X:List Ev)(i j:Nat):(swp X i j).length=X.length:=by unfold swp;split<;>simp
end Go.Proofs.YthffbjldpfionaaGreat
