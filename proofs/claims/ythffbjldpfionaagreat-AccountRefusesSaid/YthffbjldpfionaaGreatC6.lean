/- Part 6 of what the laws of this seat share: walks of functions, and plain laws. -/
import Derived.Test.YthffbjldpfionaaGreatC5
namespace Go.Proofs.YthffbjldpfionaaGreat
open Go.RowKit
theorem jZ7{P:Prop}(h:P:=by
 rw [Hp.out] at hmono
 have hcl:=fun W=>Hcall.out ⟨x0,x1,x2,x3,x4⟩ ⟨y0,y1,y2,y3,y4⟩ W okx oky
 simp only at hcl
 obtain⟨Hbs,Hrow,Hk,Hx,Hy,Okx,Oky,HS,Hxd⟩:=hid9 hbs hrow hk hx hy okx oky hS hxd;clear hxd hS oky okx hy hx hk hrow hbs;obtain⟨Hyd,Hmono,Hcl,Hq⟩:=hid4 hyd hmono hcl hq;clear hq hcl hmono hyd
 go_wp2_with fail
 try rw [hh]
 clear hh
 by_cases hlt2:x1<y1
 ·skip
  refine Ao (twoS g q h x0 x1 x2 x3 x4 y0 y1 y2 y3 y4) (.take 0 (.take 1 (.take 2 (.take 3 (.take 4 (.take 5 (.take 6 (.take 7 (.take 8 (.take 9 (.take 10 (.move 11 (.take 12 (.take 13 .done)))))))))))))) (by kernel_rfl) (by kernel_rfl) ?_ ?_
  ·exact HS.out
  intro w1 hs1 hk1
  repeat ((first|refine Ai rfl (by rfl) ?_|refine Af rfl (by rfl) ?_|(refine Ah (v:= ?_) rfl (by rfl) ?_ ?_;rotate_left;(· intro w' hSw;unfold twoS at hSw;go_simp;(try with_reducible rfl));rotate_right));try simp only [aps])
  refine Ak rfl (fun K hK=> ?_)
  go_simp
  go_at_fn f
  ((with_reducible refine(Hcl.out w1).mono ?_);rintro e w2 ⟨z,rfl,hz,hk2⟩;dsimp only)
  have hz':z<0:=hz.2 hlt2
  refine hK.out _ _ (by exact hs1.keep hk2 (by simp)) ?_
  clear hK K
  try simp only [aps]
  repeat ((first|refine Ai rfl (by rfl) ?_|refine Af rfl (by rfl) ?_|(refine Ah (v:= ?_) rfl (by rfl) ?_ ?_;rotate_left;(· intro w' hSw;unfold twoS at hSw;go_simp;(try with_reducible rfl));rotate_right));try simp only [aps])
  refine Aw ?_
  have hrow2:=(Hrow.out.keep hk1).keep hk2
  have hkw:=(Hk.out.trans (hk1.mono (by simp))).trans (hk2.mono (by simp))
  have hb2:=Hbs.out.down Hmono.out hih hhj (by rw [Hq.out,Hxd.out,Hyd.out];omega)
  exact jZ78
 ·skip
  refine Ao (twoS g q h x0 x1 x2 x3 x4 y0 y1 y2 y3 y4) (.take 0 (.take 1 (.take 2 (.take 3 (.take 4 (.take 5 (.take 6 (.take 7 (.take 8 (.take 9 (.take 10 (.move 11 (.take 12 (.take 13 .done)))))))))))))) (by kernel_rfl) (by kernel_rfl) ?_ ?_
  ·exact HS.out
  intro w1 hs1 hk1
  repeat ((first|refine Ai rfl (by rfl) ?_|refine Af rfl (by rfl) ?_|(refine Ah (v:= ?_) rfl (by rfl) ?_ ?_;rotate_left;(· intro w' hSw;unfold twoS at hSw;go_simp;(try with_reducible rfl));rotate_right));try simp only [aps])
  refine Ak rfl (fun K hK=> ?_)
  go_simp
  go_at_fn f
  ((with_reducible refine(Hcl.out w1).mono ?_);rintro e w2 ⟨z,rfl,hz,hk2⟩;dsimp only)
  have hz':¬z<0:=fun h=>by have:=hz.1 h;omega
  refine hK.out _ _ (by exact hs1.keep hk2 (by simp)) ?_
  clear hK K
  try simp only [aps]
  repeat ((first|refine Ai rfl (by rfl) ?_|refine Af rfl (by rfl) ?_|(refine Ah (v:= ?_) rfl (by rfl) ?_ ?_;rotate_left;(· intro w' hSw;unfold twoS at hSw;go_simp;(try with_reducible rfl));rotate_right));try simp only [aps])
  refine Aw ?_
  have hrow2:=(Hrow.out.keep hk1).keep hk2
  have hkw:=(Hk.out.trans (hk1.mono (by simp))).trans (hk2.mono (by simp))
  have hb2:=Hbs.out.up Hmono.out hih hhj (by rw [Hq.out,Hxd.out,Hyd.out];omega)
  exact jZ61):P:=h
theorem jZ74{P:Prop}(h:P:=by
 go_wp2
 go_end0
 have hd:=Bb (X:=X) (by omega) (by omega) (by have:=Hrot.out.t.len;omega) Hcr.out HtY.out HuY.out (Turned.refl _ _ _) HuZ.out
 exact⟨rfl,Y,Hrot.out.t.trans hd.1,hd.2,Hrow3.out,Hk3.out⟩):P:=h
theorem jZ8{P:Prop}(h:P:=by
 by_cases hB:fin<b∧mid<fin
 ·have hB1:(mid:Int)<(fin:Int):=by omega
  have hB2:(fin:Int)<(b:Int):=by omega
  have hcB:=Ih.out mid fin b n cap g Y w3 (by omega) Hrow3.out (by omega) (by omega) hbn (fun x hx=>Hok.out x (Hrot.out.t.alike.mem (HtY.out.alike.mem hx))) hn
   ((Hrr.out.1.eq fun t h1 h2=>HtY.out.out t (.inr h1))) ((Hrr.out.2.eq fun t h1 h2=>HtY.out.out t (.inr (by omega))))
  have HcB:=Lib.hid hcB;clear hcB
  go_wp2_with (go_at_call 139;(with_reducible refine HcB.out.mono ?_);rintro e w4 ⟨rfl,Z,htZ,huZ,hrow4,hk4⟩;have HtZ:=Lib.hid htZ;have HuZ:=Lib.hid huZ;have Hrow4:=Lib.hid hrow4;have Hk4:=Lib.hid hk4;clear htZ huZ hrow4 hk4)
  go_end0
  have hd:=Bb (X:=X) (by omega) (by omega) (by have:=Hrot.out.t.len;omega) Hcr.out HtY.out HuY.out HtZ.out HuZ.out
  exact⟨rfl,Z,Hrot.out.t.trans hd.1,hd.2,Hrow4.out,Hk3.out.same Hk4.out⟩
 ·have huZ:Upto Y mid b:=by
   have e1:=Hrr.out
   by_cases hB3:mid<fin
   ·exact(e1.1.sub (Nat.le_refl _) (by omega)).eq fun t h1 h2=>HtY.out.out t (.inr h1)
   ·exact(e1.2.sub (by omega) (Nat.le_refl _)).eq fun t h1 h2=>HtY.out.out t (.inr h1)
  have HuZ:=Lib.hid huZ;clear huZ
  by_cases hB3:(mid:Int)<(fin:Int)
  ·have hB4:¬(fin:Int)<(b:Int):=by omega
   exact jZ74
  ·exact jZ74):P:=h
theorem jZ1{P:Prop}(h:P:=by
 have hrl:=Hrot.out.left Hsym.out H1.out H2.out
 have hrr:=Hrot.out.right Hsym.out H1.out H2.out
 have hcr:=Hrot.out.cross Hsym.out H1.out H2.out
 obtain⟨Hrl,Hrr,Hcr⟩:=hid3 hrl hrr hcr;clear hcr hrr hrl
 by_cases hA:a<j∧j<mid
 ·have hA1:(a:Int)<(j:Int):=by omega
  have hA2:(j:Int)<(mid:Int):=by omega
  have hcA:=Ih.out a j mid n cap g X w2 (by omega) Hrow2.out (by omega) (by omega) (by omega) (fun x hx=>Hok.out x (Hrot.out.t.alike.mem hx)) hn Hrl.out.1 Hrl.out.2
  have HcA:=Lib.hid hcA;clear hcA
  go_wp2_with (first|(go_at_call 139;(with_reducible refine HcA.out.mono ?_);rintro e w3 ⟨rfl,Y,htY,huY,hrow3,hk3⟩;have HtY:=Lib.hid htY;have HuY:=Lib.hid huY;have Hrow3:=Lib.hid hrow3;have Hk3:=Lib.hid (Hk2.out.same hk3);clear htY huY hrow3 hk3;refine halt ?_))
  refine Lib.hid ?_
  exact jZ8
 ·have huY:Upto X a mid:=by
   by_cases hA3:a<j
   ·exact Hrl.out.1.sub (Nat.le_refl _) (by omega)
   ·exact Hrl.out.2.sub (by omega) (Nat.le_refl _)
  obtain⟨Y,hY⟩:∃Y,Y=X:=⟨_,rfl⟩
  obtain⟨w3,hw3⟩:∃w3,w3=w2:=⟨_,rfl⟩
  have htY:Turned X Y a mid:=by rw [hY];exact Turned.refl _ _ _
  have hrow3:RowE w3 g n cap Y:=by rw [hY,hw3];exact Hrow2.out
  have hk3:Keeps (fun i=>i=g) w w3:=by rw [hw3];exact Hk2.out
  rw [←hY] at huY
  rw [←hw3]
  obtain⟨HuY,HtY,Hrow3,Hk3,HY,Hw3⟩:=hid6 huY htY hrow3 hk3 hY hw3;clear hw3 hY hk3 hrow3 htY huY
  by_cases hA3:(a:Int)<(j:Int)
  ·have hA4:¬(j:Int)<(mid:Int):=by omega
   exact jZ8
  ·skip
   exact jZ8):P:=h
theorem jZ14{P:Prop}(h:P:=by
 obtain⟨fin,hfin⟩:∃fin,mid+m-j=fin:=⟨_,rfl⟩
 rw [hfin] at hsym
 have z1:=hsym.al
 have z2:=hsym.sm
 have z3:=hsym.mf
 have z4:=hsym.fb
 have z5:=hsym.smid
 have z6:=hsym.midf
 have z7:=hsym.sum
 have hfI:(mid:Int)+m-j=fin:=by omega
 obtain⟨W1,hW1⟩:∃x,x=wr:=⟨_,rfl⟩;subst hW1
 obtain⟨Hbs,Hrow,Hk,Hsym,Hfin⟩:=hid5 hbs hrow hk hsym hfin;clear hfin hsym hk hrow hbs
 by_cases hR:j<m∧m<fin
 ·have hR1:(j:Int)<(m:Int):=by omega
  have hR2:(m:Int)<(fin:Int):=by omega
  obtain⟨X,hrot,hcR⟩:=rot_call (.func (.func f) #[] #[]) Hrow.out Hsym.out hR.1 hR.2 hn hbn
  obtain⟨Hrot,HcR⟩:=hid2 hrot hcR;clear hcR hrot
  go_wp2_with (go_at_call 156;(with_reducible refine HcR.out.mono ?_);rintro e w2 ⟨rfl,hrow2,hk2⟩;have Hrow2:=Lib.hid hrow2;have Hk2:=Lib.hid (Hk.out.same hk2);clear hrow2 hk2;refine halt ?_)
  refine Lib.hid ?_
  exact jZ1
 ·have hrot:=rot_none Hsym.out (by omega)
  obtain⟨X,hX⟩:∃X,X=L:=⟨_,rfl⟩
  obtain⟨w2,hw2⟩:∃w2,w2=W1:=⟨_,rfl⟩
  have hrot':Rot L X a m b mid j fin:=by rw [hX];exact hrot
  have hrow2:RowE w2 g n cap X:=by rw [hX,hw2];exact Hrow.out
  have hk2:Keeps (fun i=>i=g) w w2:=by rw [hw2];exact Hk.out
  have Hrot:=Lib.hid hrot';clear hrot hrot'
  rw [←hw2]
  obtain⟨Hrow2,Hk2,HX,Hw2⟩:=hid4 hrow2 hk2 hX hw2;clear hw2 hX hk2 hrow2
  by_cases hR3:(j:Int)<(m:Int)
  ·have hR4:¬(m:Int)<(fin:Int):=by omega
   exact jZ1
  ·skip
   exact jZ1):P:=h
theorem jZ59{P:Prop}(h:P:=by
 go_enter Tryz.func98,Tryz.ntmps98
 go_wp2
 go_ret
 exact⟨_,rfl,by simp;omega,by(repeat (first|exact Keeps.refl _ _|exact Keeps.alloc _ _|exact Keeps.drew _|exact Keeps.drewN _ _|refine Keeps.Ap ?_|refine Keeps.Al ?_|refine Keeps.Ae ?_))⟩):P:=h
theorem jZ33{P:Prop}(h:P:=by
 obtain⟨Hren,Z0,Z1⟩:=hid3 hren z0 z1;clear z1 z0 hren
 refine Ak rfl (fun K hK=> ?_)
 go_simp
 refine hK.out _ _ (by trivial) ?_
 clear hK K
 try simp only [aps]
 repeat ((first|refine Ai rfl (by rfl) ?_|refine Af rfl (by rfl) ?_|(refine Ah (v:= ?_) rfl (by rfl) ?_ ?_;rotate_left;(· intro w' hSw;(try dsimp only at hSw);go_simp;(try with_reducible rfl));rotate_right));try simp only [aps])
 refine Aw ?_
 clear s14 s15 s16 s17 sl
 go_wp2
 go_end0
 exact⟨rfl,_,_,Hren.out⟩):P:=h
theorem jZ94{P:Prop}(h:P:=by
 injection h1 with h1
 injection h1 with _ h1 _
 exact absurd h1 (by decide)):P:=h
theorem jZ52{P:Prop}(h:P:=by
 split at hq
 ·rename_i ha;rw [if_pos ha]
  split at hq
  ·rename_i hr;rw [if_pos hr];exact hr
  ·cases hq
 ·rename_i ha;exact absurd hq ha):P:=h
set_option maxRecDepth 100000
set_option maxHeartbeats 3200000
theorem merge_mid1(f:Nat)(ok:Ev→Prop)(hc:CmpBy f ok)(d:Nat)(ih:MergeAt f ok d)(a m b n cap g:Nat)(L:List Ev)(w:World)(hd:b-a≤d+1)(h:RowE w g n cap L)(ham:a<m)(hmb:m<b)(ha1:¬m=a+1)(hb1:¬b=m+1)(hbn:b≤n)(hok:∀x∈L,ok x)(hn:n≤1000000)(h1:Upto L a m)(h2:Upto L m b)(mid:Nat)(hmid:mid=(a+b) / 2)(hmm:mid<m):
  Calls Tryz.prog 139 #[.slice (some ⟨g,0,none⟩) n cap,.int .i64 a,.int .i64 m,.int .i64 b,.func (.func f) #[] #[]] w (MergePost L g n cap a b w):=by
 have eg:=hc.eg
 have hcall:=hc.call
 simp only [Ev.agg] at hcall
 have q0:(((m:Int)-(a:Int))==1)=false:=by simp;omega
 have q1:(((b:Int)-(m:Int))==1)=false:=by simp;omega
 have hln:=h.2
 have hmI:((a:Int)+b) / 2=mid:=by omega
 have hamid:a<mid:=by omega
 have hmidb:mid<b:=by omega
 obtain⟨p,hp⟩:∃p,mid+m-1=p:=⟨_,rfl⟩
 have hpI:(mid:Int)+m-1=p:=by omega
 obtain⟨lo,hlo⟩:∃lo,mid+m-b=lo:=⟨_,rfl⟩
 have hloI:(mid:Int)+m-b=lo:=by omega
 have hlh:Half a m b mid lo mid:= .inl ⟨hmm,by omega,rfl⟩
 obtain⟨H,Hok,Hc,Hcall,H1,H2,Hmid,Hp,Ih⟩:=hid9 h hok hc hcall h1 h2 hmid hp ih;clear ih hp hmid h2 h1 hcall hc hok h;have Hlh:=Lib.hid hlh;clear hlh
 go_enter Tryz.func139,Tryz.ntmps139
 go_wp2
 go_loopw [20,21] (fun x y wx=>∃(i j:Nat),x= .int .i64 (i:Nat)∧y= .int .i64 (j:Nat)∧Bs (fun c=>dy L (p-c)<dy L c) lo mid i j∧RowE wx g n cap L∧Keeps (fun i=>i=g) w wx) (fun x y _=>(intOf y).toNat-(intOf x).toNat)
 case atStart=>exact⟨lo,mid,by go_num,by go_num,Bs.start (by omega),H.out,Keeps.refl _ _⟩
 case round=>
  obtain⟨i,j,rfl,rfl,hbs,hrow,hk⟩:=hrel
  by_cases hlt:i<j
  ·have hltI:(i:Int)<(j:Int):=by omega
   have hbhi:=hbs.hi'
   have hblo:=hbs.lo'
   obtain⟨h,hh⟩:∃h:Nat,((i:Int)+j) / 2=h:=⟨(i+j) / 2,by omega⟩
   have hih:i≤h:=by omega
   have hhj:h<j:=by omega
   obtain⟨q,hq⟩:∃q,p-h=q:=⟨_,rfl⟩
   have hqI:(p:Int)-(h:Int)=q:=by omega
   have hqn:q<n:=by omega
   obtain⟨⟨x0,x1,x2,x3,x4⟩,hx⟩:=Av (L:=L) (k:=q) (by omega)
   obtain⟨⟨y0,y1,y2,y3,y4⟩,hy⟩:=Av (L:=L) (k:=h) (by omega)
   have okx:ok _:=Hok.out _ (List.mem_of_getElem? hx)
   have oky:ok _:=Hok.out _ (List.mem_of_getElem? hy)
   have hS:=twoS.of (hrow.keep (Keeps.drew _)) hx hy
   have hxd:=Dh hx
   have hyd:=Dh hy
   simp only at hxd hyd
   have q2:(h:Int)<(n:Int):=by omega
   have q3:(q:Int)<(n:Int):=by omega
   have q5:IntKind.i64.wrap (q:Int)=(q:Int):=IntWalk.i64_in _ ⟨by omega,by omega⟩
   have hmono:=sym_mono (lo:=lo) (hi:=mid) H1.out H2.out ham hmb Hmid.out Hlh.out
   exact jZ7
  ·obtain rfl:j=i:=by have:=hbs.le;omega
   rw [←Hp.out] at hbs
   have hsym:=sym_of (lo:=lo) (hi:=mid) H1.out H2.out ham hmb Hmid.out Hlh.out hbs
   exact jZ14
theorem merge_mid2(f:Nat)(ok:Ev→Prop)(hc:CmpBy f ok)(d:Nat)(ih:MergeAt f ok d)(a m b n cap g:Nat)(L:List Ev)(w:World)(hd:b-a≤d+1)(h:RowE w g n cap L)(ham:a<m)(hmb:m<b)(ha1:¬m=a+1)(hb1:¬b=m+1)(hbn:b≤n)(hok:∀x∈L,ok x)(hn:n≤1000000)(h1:Upto L a m)(h2:Upto L m b)(mid:Nat)(hmid:mid=(a+b) / 2)(hmm:m≤mid):
  Calls Tryz.prog 139 #[.slice (some ⟨g,0,none⟩) n cap,.int .i64 a,.int .i64 m,.int .i64 b,.func (.func f) #[] #[]] w (MergePost L g n cap a b w):=by
 have eg:=hc.eg
 have hcall:=hc.call
 simp only [Ev.agg] at hcall
 have q0:(((m:Int)-(a:Int))==1)=false:=by simp;omega
 have q1:(((b:Int)-(m:Int))==1)=false:=by simp;omega
 have hln:=h.2
 have hmI:((a:Int)+b) / 2=mid:=by omega
 have hamid:a<mid:=by omega
 have hmidb:mid<b:=by omega
 obtain⟨p,hp⟩:∃p,mid+m-1=p:=⟨_,rfl⟩
 have hpI:(mid:Int)+m-1=p:=by omega
 have hlh:Half a m b mid a m:= .inr ⟨hmm,rfl,rfl⟩
 have hmmI:¬(m:Int)>(mid:Int):=by omega
 have hmmJ:(m:Int)≤(mid:Int):=by omega
 obtain⟨H,Hok,Hc,Hcall,H1,H2,Hmid,Hp,Ih⟩:=hid9 h hok hc hcall h1 h2 hmid hp ih;clear ih hp hmid h2 h1 hcall hc hok h;have Hlh:=Lib.hid hlh;clear hlh
 go_enter Tryz.func139,Tryz.ntmps139
 go_wp2
 go_loopw [20,21] (fun x y wx=>∃(i j:Nat),x= .int .i64 (i:Nat)∧y= .int .i64 (j:Nat)∧Bs (fun c=>dy L (p-c)<dy L c) a m i j∧RowE wx g n cap L∧Keeps (fun i=>i=g) w wx) (fun x y _=>(intOf y).toNat-(intOf x).toNat)
 case atStart=>exact⟨a,m,by go_num,by go_num,Bs.start (by omega),H.out,Keeps.refl _ _⟩
 case round=>
  obtain⟨i,j,rfl,rfl,hbs,hrow,hk⟩:=hrel
  by_cases hlt:i<j
  ·have hltI:(i:Int)<(j:Int):=by omega
   have hbhi:=hbs.hi'
   have hblo:=hbs.lo'
   obtain⟨h,hh⟩:∃h:Nat,((i:Int)+j) / 2=h:=⟨(i+j) / 2,by omega⟩
   have hih:i≤h:=by omega
   have hhj:h<j:=by omega
   obtain⟨q,hq⟩:∃q,p-h=q:=⟨_,rfl⟩
   have hqI:(p:Int)-(h:Int)=q:=by omega
   have hqn:q<n:=by omega
   obtain⟨⟨x0,x1,x2,x3,x4⟩,hx⟩:=Av (L:=L) (k:=q) (by omega)
   obtain⟨⟨y0,y1,y2,y3,y4⟩,hy⟩:=Av (L:=L) (k:=h) (by omega)
   have okx:ok _:=Hok.out _ (List.mem_of_getElem? hx)
   have oky:ok _:=Hok.out _ (List.mem_of_getElem? hy)
   have hS:=twoS.of (hrow.keep (Keeps.drew _)) hx hy
   have hxd:=Dh hx
   have hyd:=Dh hy
   simp only at hxd hyd
   have q2:(h:Int)<(n:Int):=by omega
   have q3:(q:Int)<(n:Int):=by omega
   have q5:IntKind.i64.wrap (q:Int)=(q:Int):=IntWalk.i64_in _ ⟨by omega,by omega⟩
   have hmono:=sym_mono (lo:=a) (hi:=m) H1.out H2.out ham hmb Hmid.out Hlh.out
   exact jZ7
  ·obtain rfl:j=i:=by have:=hbs.le;omega
   rw [←Hp.out] at hbs
   have hsym:=sym_of (lo:=a) (hi:=m) H1.out H2.out ham hmb Hmid.out Hlh.out hbs
   exact jZ14
theorem mergeEv_any(f:Nat)(ok:Ev→Prop)(hc:CmpBy f ok):∀d,MergeAt f ok d
 |0=>fun a m b n cap g L w hd _ h1 h2 _ _ _ _ _=>by omega
 |d+1=>fun a m b n cap g L w hd hrow ham hmb hbn hok hn h1 h2=>by
  by_cases e1:m=a+1
  ·subst e1;exact merge_left f ok hc a b n cap g L w hrow hmb hbn hok hn h2
  ·by_cases e2:b=m+1
   ·subst e2;exact merge_right f ok hc a m n cap g L w hrow (by omega) hbn hok hn h1
   ·rcases Nat.lt_or_ge ((a+b) / 2) m with h|h
    ·exact merge_mid1 f ok hc d (mergeEv_any f ok hc d) a m b n cap g L w hd hrow ham hmb e1 e2 hbn hok hn h1 h2 _ rfl h
    ·exact merge_mid2 f ok hc d (mergeEv_any f ok hc d) a m b n cap g L w hd hrow ham hmb e1 e2 hbn hok hn h1 h2 _ rfl h
def Blk(s n:Nat)(X:List Ev):Prop:=∀t,Upto X (t*s) (min (t*s+s) n)
structure BlkTo(s n k:Nat)(X:List Ev):Prop where
 lo:∀t,t<k→Upto X (2*(t*s)) (2*(t*s)+2*s)
 hi:∀t,2*k≤t→Upto X (t*s) (min (t*s+s) n)
theorem Blk.te{s n:Nat}{X:List Ev}(h:Blk s n X):BlkTo s n 0 X:=⟨fun t ht=>by omega,fun t _=>h t⟩
theorem mul_mono{t k s:Nat}(h:t<k):t*s+s≤k*s:=by
 have:=Nat.mul_le_mul_right s (show t+1≤k from h)
 rwa [Nat.succ_mul] at this
theorem two_mul'(k s:Nat):2*k*s=2*(k*s):=Nat.mul_assoc 2 k s
theorem BlkTo.halves{s n k:Nat}{X:List Ev}(h:BlkTo s n k X):Upto X (2*(k*s)) (min (2*(k*s)+s) n)∧Upto X (2*(k*s)+s) (min (2*(k*s)+s+s) n):=by
 have h1:=h.hi (2*k) (Nat.le_refl _)
 have h2:=h.hi (2*k+1) (by omega)
 rw [two_mul'] at h1
 rw [Nat.succ_mul,two_mul'] at h2
 exact⟨h1,h2⟩
theorem BlkTo.next{s n k:Nat}{X Y:List Ev}(h:BlkTo s n k X)(ht:Turned X Y (2*(k*s)) (2*(k*s)+2*s))(hu:Upto Y (2*(k*s)) (2*(k*s)+2*s)):BlkTo s n (k+1) Y:=by
 refine⟨fun t hlt=> ?_,fun t hge=> ?_⟩
 ·by_cases he:t=k
  ·subst he;exact hu
  ·have:=mul_mono (s:=s) (show t<k by omega)
   exact(h.lo t (by omega)).eq fun i h1 h2=>ht.out i (.inl (by omega))
 ·have:=mul_mono (s:=s) (show 2*k+1<t by omega)
  rw [Nat.succ_mul,two_mul'] at this
  exact(h.hi t (by omega)).eq fun i h1 h2=>ht.out i (.inr (by omega))
theorem BlkTo.done{s n k:Nat}{X Y:List Ev}(h:BlkTo s n k X)(h1:2*(k*s)≤n)(h2:n<2*(k*s)+2*s)(ht:Turned X Y (2*(k*s)) n)(hu:Upto Y (2*(k*s)) n):Blk (2*s) n Y:=by
 intro t
 rw [show t*(2*s)=2*(t*s) from Nat.mul_left_comm _ _ _]
 rcases Nat.lt_trichotomy t k with hk|hk|hk
 ·have:=mul_mono (s:=s) hk
  exact((h.lo t hk).sub (Nat.le_refl _) (Nat.min_le_left _ _)).eq fun i h3 h4=>ht.out i (.inl (by omega))
 ·subst hk;exact hu.sub (Nat.le_refl _) (Nat.min_le_right _ _)
 ·have:=mul_mono (s:=s) hk
  exact Upto.one (by have:=Nat.min_le_right (2*(t*s)+2*s) n;omega)
theorem Blk.all{s n:Nat}{X:List Ev}(h:Blk s n X)(hs:n≤s):Upto X 0 n:=by
 have:=h 0
 rw [Nat.zero_mul,Nat.zero_add,Nat.min_eq_right hs] at this
 exact this
theorem stableEv_any(f:Nat)(ok:Ev→Prop)(hc:CmpBy f ok)(n cap g:Nat)(L:List Ev)(w:World)(h:RowE w g n cap L)(hok:∀x∈L,ok x)(hn:n≤1000000):
  Calls Tryz.prog 119 #[.slice (some ⟨g,0,none⟩) n cap,.int .i64 n,.func (.func f) #[] #[]] w (MergePost L g n cap 0 n w):=by
 have hln:=h.2
 obtain⟨H,Hok,Hc⟩:=hid3 h hok hc;clear hc hok h
 go_enter Tryz.func119,Tryz.ntmps119
 go_wp2
 go_loopw [7,8] (fun x y wx=>∃(k:Nat) (X:List Ev),x= .int .i64 (20*k:Nat)∧y= .int .i64 (20*k+20:Nat)∧20*k≤n∧Turned L X 0 n∧(∀t,t<k→Upto X (20*t) (20*t+20))∧RowE wx g n cap X∧Keeps (fun i=>i=g) w wx) (fun x y _=>n+20-(intOf y).toNat)
 case atStart=>exact⟨0,L,rfl,rfl,by omega,Turned.refl _ _ _,fun t ht=>by omega,H.out,Keeps.refl _ _⟩
 case round=>
  obtain⟨k,X,rfl,rfl,hkn,ht,hb,hrow,hk⟩:=hrel
  obtain⟨a,ha⟩:∃a,20*k=a:=⟨_,rfl⟩
  obtain⟨b,hb'⟩:∃b,a+20=b:=⟨_,rfl⟩
  rw [ha,hb']
  rw [ha] at hkn
  by_cases hlt:b≤n
  ·have hltI:(b:Int)≤(n:Int):=by omega
   have hins:=inssEv_any f ok Hc.out a b n cap g X wr hrow (by omega) hlt (fun x hx=>Hok.out x (ht.alike.mem hx)) hn
   obtain⟨Ht,Hb,Hrow,Hk,Hins⟩:=hid5 ht hb hrow hk hins;clear hins hk hrow hb ht
   go_wp2_with (go_at_call 138;(with_reducible refine Hins.out.mono ?_);rintro e w1 ⟨rfl,Y,htY,huY,hrow1,hk1⟩;have HtY:=Lib.hid htY;have HuY:=Lib.hid huY;have Hrow1:=Lib.hid hrow1;have Hk1:=Lib.hid (Hk.out.same hk1);clear htY huY hrow1 hk1)
   go_roundw
   case rel=>
    refine⟨k+1,Y,by go_num,by go_num,by omega,Ht.out.trans (HtY.out.wide (Nat.zero_le _) hlt),fun t hk=> ?_,Hrow1.out,Hk1.out⟩
    by_cases he:t=k
    ·subst he;rw [show 20*t+20=b by omega,ha];exact HuY.out
    ·exact(Hb.out t (by omega)).eq fun i h1 h2=>HtY.out.out i (.inl (by omega))
   case measure=>simp [intOf];omega
  ·have hltI:¬(b:Int)≤(n:Int):=by omega
   have hins:=inssEv_any f ok Hc.out a n n cap g X wr hrow hkn (Nat.le_refl _) (fun x hx=>Hok.out x (ht.alike.mem hx)) hn
   have hblk:∀Y,Turned X Y a n→Upto Y a n→Blk 20 n Y:=fun Y htY huY t=>by
    rw [Nat.mul_comm t 20]
    rcases Nat.lt_trichotomy t k with h|h|h
    ·exact((hb t h).sub (Nat.le_refl _) (Nat.min_le_left _ _)).eq fun i h1 h2=>htY.out i (.inl (by omega))
    ·subst h;rw [ha];exact huY.sub (Nat.le_refl _) (Nat.min_le_right _ _)
    ·exact Upto.one (by omega)
   obtain⟨Ht,Hb,Hrow,Hk,Hins,Hblk⟩:=hid6 ht hb hrow hk hins hblk;clear hblk hins hk hrow hb ht
   go_wp2_with (go_at_call 138;(with_reducible refine Hins.out.mono ?_);rintro e w1 ⟨rfl,Y,htY,huY,hrow1,hk1⟩;have HtY:=Lib.hid (Ht.out.trans (htY.wide (Nat.zero_le _) (Nat.le_refl _)));have HbY:=Lib.hid (Hblk.out Y htY huY);have Hrow1:=Lib.hid hrow1;have Hk1:=Lib.hid (Hk.out.same hk1);clear htY huY hrow1 hk1)
   clear Hblk Hins Hrow Hk Hb
   go_loopw [6] (fun x wx=>∃(s:Nat) (X:List Ev),x= .int .i64 (s:Nat)∧0<s∧s≤2*n+20∧Turned L X 0 n∧Blk s n X∧RowE wx g n cap X∧Keeps (fun i=>i=g) w wx) (fun x _=>2*n+21-(intOf x).toNat)
   case atStart=>exact⟨20,Y,rfl,by omega,by omega,HtY.out,HbY.out,Hrow1.out,Hk1.out⟩
   case round=>
    obtain⟨s,X,rfl,hs0,hsn,ht,hb,hrow,hk⟩:=hrel
    obtain⟨W1,hW1⟩:∃x,x=wr:=⟨_,rfl⟩;subst hW1
    by_cases hlt:s<n
    ·have hltI:(s:Int)<(n:Int):=by omega
     have hb0:=hb.te
     obtain⟨Ht,Hb,Hrow,Hk,Hb0⟩:=hid5 ht hb hrow hk hb0;clear hb0 hk hrow hb ht
     go_wp2
     go_loopw [7,8] (fun x y wx=>∃(k a b:Nat) (X:List Ev),x= .int .i64 (a:Nat)∧y= .int .i64 (b:Nat)∧a=2*(k*s)∧b=a+2*s∧a≤n∧Turned L X 0 n∧BlkTo s n k X∧RowE wx g n cap X∧Keeps (fun i=>i=g) w wx) (fun x y _=>n+2*s-(intOf y).toNat)
     case atStart=>exact⟨0,0,2*s,X,by go_num,by go_num,by simp,by simp,by omega,Ht.out,Hb0.out,Hrow.out,Hk.out⟩
     case round=>
      obtain⟨k,a,b,X,rfl,rfl,ha,hb',han,ht,hb,hrow,hk⟩:=hrel
      have hh:=hb.halves
      rw [←ha] at hh
      by_cases hlt2:b≤n
      ·have hlt2I:(b:Int)≤(n:Int):=by omega
       obtain⟨m,hm⟩:∃m,a+s=m:=⟨_,rfl⟩
       have hmI:(a:Int)+s=m:=by omega
       rw [Nat.min_eq_left (by omega),Nat.min_eq_left (by omega),hm] at hh
       have hmg:=mergeEv_any f ok Hc.out (b-a) a m b n cap g X wr (Nat.le_refl _) hrow (by omega) (by omega) hlt2 (fun x hx=>Hok.out x (ht.alike.mem hx)) hn hh.1 (by rw [show b=m+s by omega];exact hh.2)
       have hne:∀Y,Turned X Y a b→Upto Y a b→BlkTo s n (k+1) Y:=fun Y h1 h2=>hb.next (by rw [←ha,←hb'];exact h1) (by rw [←ha,←hb'];exact h2)
       have hb2:b=2*((k+1)*s):=by rw [Nat.succ_mul k s];omega
       obtain⟨Ht,Hb,Hrow,Hk,Hmg,Hne,Hb2,Hh,Ha⟩:=hid9 ht hb hrow hk hmg hne hb2 hh ha;clear ha hh hb2 hne hmg hk hrow hb ht;obtain⟨Hm,Hb'⟩:=hid2 hm hb';clear hb' hm
       go_wp2_with (go_at_call 139;(with_reducible refine Hmg.out.mono ?_);rintro e w2 ⟨rfl,Y,htY,huY,hrow2,hk2⟩;have HtY:=Lib.hid htY;have HbY:=Lib.hid (Hne.out Y htY huY);have Hrow2:=Lib.hid hrow2;have Hk2:=Lib.hid (Hk.out.same hk2);clear htY huY hrow2 hk2)
       go_roundw
       case rel=>exact⟨k+1,b,b+2*s,Y,by go_num,by go_num,Hb2.out,rfl,hlt2,Ht.out.trans (HtY.out.wide (Nat.zero_le _) hlt2),HbY.out,Hrow2.out,Hk2.out⟩
       case measure=>simp [intOf];omega
      ·have hlt2I:¬(b:Int)≤(n:Int):=by omega
       have hdn:∀Y,Turned X Y a n→Upto Y a n→Blk (2*s) n Y:=fun Y h1 h2=>hb.done (by omega) (by omega) (by rw [←ha];exact h1) (by rw [←ha];exact h2)
       by_cases hlt3:a+s<n
       ·obtain⟨m,hm⟩:∃m,a+s=m:=⟨_,rfl⟩
        have hmI:(a:Int)+s=m:=by omega
        have hmnI:(m:Int)<n:=by omega
        rw [Nat.min_eq_left (by omega),Nat.min_eq_right (by omega),hm] at hh
        have hmg:=mergeEv_any f ok Hc.out (n-a) a m n n cap g X wr (Nat.le_refl _) hrow (by omega) (by omega) (Nat.le_refl _) (fun x hx=>Hok.out x (ht.alike.mem hx)) hn hh.1 hh.2
        obtain⟨Ht,Hb,Hrow,Hk,Hmg,Hdn,Hh,Ha,Hm⟩:=hid9 ht hb hrow hk hmg hdn hh ha hm;clear hm ha hh hdn hmg hk hrow hb ht;have Hb':=Lib.hid hb';clear hb'
        go_wp2_with (go_at_call 139;(with_reducible refine Hmg.out.mono ?_);rintro e w2 ⟨rfl,Y,htY,huY,hrow2,hk2⟩;have HtY:=Lib.hid htY;have HbY:=Lib.hid (Hdn.out Y htY huY);have Hrow2:=Lib.hid hrow2;have Hk2:=Lib.hid (Hk.out.same hk2);clear htY huY hrow2 hk2)
        go_roundw
        case rel=>exact⟨2*s,Y,by go_num,by omega,by omega,Ht.out.trans (HtY.out.wide (Nat.zero_le _) (Nat.le_refl _)),HbY.out,Hrow2.out,Hk2.out⟩
        case measure=>simp [intOf];omega
       ·have hlt3I:¬(a:Int)+s<n:=by omega
        have hfin:=hdn X (Turned.refl _ _ _) (by have:=hh.1;rwa [Nat.min_eq_right (by omega)] at this)
        obtain⟨Ht,Hb,Hrow,Hk,Hdn,Hh,Ha,Hfin,Hb'⟩:=hid9 ht hb hrow hk hdn hh ha hfin hb';clear hb' hfin ha hh hdn hk hrow hb ht
        go_wp2
        go_roundw
        case rel=>exact⟨2*s,X,by go_num,by omega,by omega,Ht.out,Hfin.out,Hrow.out,Hk.out⟩
        case measure=>simp [intOf];omega
    ·have hltI:¬(s:Int)<(n:Int):=by omega
     have hup:=hb.all (by omega)
     obtain⟨Ht,Hb,Hrow,Hk,Hup⟩:=hid5 ht hb hrow hk hup;clear hup hk hrow hb ht
     go_wp2
     go_end0
     exact⟨rfl,X,Ht.out,Hup.out,Hrow.out,Hk.out⟩
set_option maxHeartbeats 800000
theorem inssEv_none(fv v:Value)(w:World):Calls Tryz.prog 138 #[v,.int .i64 0,.int .i64 0,fv] w fun e w'=>e= .returned (.tuple #[])∧Keeps (fun _=>False) w w':=by
 go_enter Tryz.func138,Tryz.ntmps138
 go_wp2
 refine wp_loop_rounds 1 ?_
 rw [rounds_succ]
 go_wp2
 go_end0
 exact⟨rfl,Keeps.refl _ _⟩
theorem stableEv_none(fv v:Value)(w:World):Calls Tryz.prog 119 #[v,.int .i64 0,fv] w fun e w'=>e= .returned (.tuple #[])∧Keeps (fun _=>False) w w':=by
 go_enter Tryz.func119,Tryz.ntmps119
 go_wp2
 refine wp_loop_rounds 1 ?_
 rw [rounds_succ]
 go_wp2_with (go_at_call 138;(with_reducible refine(inssEv_none _ _ _).mono ?_);rintro e w1 ⟨rfl,hk1⟩;have Hk1:=Lib.hid hk1;clear hk1)
 refine wp_loop_rounds 1 ?_
 rw [rounds_succ]
 go_wp2
 go_end0
 exact⟨rfl,Hk1.out⟩
theorem sortEv_any(f:Nat)(ok:Ev→Prop)(hc:CmpBy f ok)(v:Value)(L:List Ev)(w:World)(h:w.ownsRow 0 77 5 v L.length (L.flatMap Ev.cells))(hok:∀x∈L,ok x)(hn:L.length≤1000000):
  Calls Tryz.prog 97 #[v,.func (.func f) #[] #[]] w fun e w'=>e= .returned (.tuple #[])∧w'.ownsRow 0 77 5 v L.length ((sortL L).flatMap Ev.cells)∧Keeps (fun i=>v.ownBlock=some i) w w':=by
 obtain⟨ad,cap,rfl,_,hnone⟩:=Aj h
 rcases Nat.eq_zero_or_pos L.length with h0|h0
 ·obtain rfl:L= []:=List.length_eq_zero_iff.1 h0
  simp only [List.length_nil] at h⊢
  obtain⟨H,Hc,Hok,Hnone⟩:=hid4 h hc hok hnone;clear hnone hok hc h
  go_enter Tryz.func97,Tryz.ntmps97
  go_wp2_with (go_at_call 119;(with_reducible refine(stableEv_none _ _ _).mono ?_);rintro e w1 ⟨rfl,hk1⟩;have Hk1:=Lib.hid hk1;clear hk1)
  go_end0
  exact⟨rfl,H.out.of_keeps Hk1.out,Hk1.out.mono (by simp)⟩
 ·obtain⟨g,c2,he,hg⟩:=Cu h h0
  simp only [Value.slice.injEq,true_and] at he
  obtain⟨rfl,rfl⟩:=he
  have hst:=stableEv_any f ok hc L.length cap g L w ⟨h,rfl⟩ hok hn
  obtain⟨n,hln⟩:∃n,L.length=n:=⟨_,rfl⟩
  rw [hln] at hst hn⊢
  obtain⟨H,Hc,Hok,Hnone,Hst,Hln⟩:=hid6 h hc hok hnone hst hln;clear hln hst hnone hok hc h
  go_enter Tryz.func97,Tryz.ntmps97
  go_wp2_with (go_at_call 119;(with_reducible refine Hst.out.mono ?_);rintro e w1 ⟨rfl,X,ht,hu,hrow,hk1⟩;have HT:=Lib.hid ht;have HU:=Lib.hid hu;have Hrow:=Lib.hid hrow;have Hk1:=Lib.hid hk1;clear hk1 ht hu hrow)
  go_end0
  have he:=sortL_one (X:=X) (L:=L) (Upto.pair (by rw [HT.out.len,Hln.out];exact HU.out)) HT.out.alike
  rw [←he]
  exact⟨rfl,Hrow.out.1,Hk1.out.mono fun i _ e=>by rw [e];rfl⟩
theorem info_tEvent:(Tryz.prog.info? 77).map (fun i=>(i.zero,i.size,i.bytes))=some (some (.agg #[.int .i64 0,.int .i64 0,.int .i64 0,.int .i64 0,.int .i64 0]),5,40):=by kernel_rfl
set_option maxHeartbeats 400000
theorem cloneEv_any(w:World)(v:Value)(n:Nat)(xs:List Value)(hr:Reads w 5 v n xs)(h1:∀u∈xs,u.oneCell'=true)(hn:n≤1000000000000):
  Calls Tryz.prog 78 #[v] w fun e w'=>∃v',e= .returned v'∧w'.ownsRow 0 77 5 v' n xs∧Keeps (fun _=>False) w w'∧(∀k,v'.ownBlock=some k→w.heap.size≤k):=by
 obtain⟨i0,hi,hz0,hz1,hz2⟩:=info_parts info_tEvent
 have hr':=hr
 obtain⟨ad,c,rfl,hnc,hl,hnone,hcells⟩:=hr'
 clear hcells
 have heq:=fun(wx:World) (ad:Option Addr) (l c:Nat)=>Lib.run_eql_slice_nil (P:=Tryz.prog) wx 73 _ ad l c 0 0 Tryz.underlying73
 rcases ad with _|a
 ·obtain rfl:=hnone rfl
  obtain rfl:n=0:=by omega
  obtain rfl:xs= []:=List.eq_nil_of_length_eq_zero (by simpa using hl)
  have hr0:=Lib.hid hr;clear hr
  go_enter Tryz.func78,Tryz.ntmps78
  exact jZ42
 ·have Hr:=Lib.hid hr;clear hr
  obtain⟨Hl,Hnone,H1⟩:=hid3 hl hnone h1;clear h1 hnone hl
  go_enter Tryz.func78,Tryz.ntmps78
  go_wp2_with (at_builtin;refine Ba rfl (.tmp 5) (.tmp 6) 73 rfl 0 77 i0 _ 5 40 Tryz.underlying73 hi hz0 hz1 hz2 rfl (by decide) _ 0 [] rfl (World.ownsRow_lit w #[] 0 (by omega) (by unfold maxLen;omega) rfl) _ n xs rfl (Hr.out.keeps (Keeps.alloc (S:=fun _=>False) _ _) (by simp)) H1.out (by unfold maxLen;omega) (by omega) (by omega) ?_)
  intro v' w1 hown1 hk1 hfr
  have hend:w1.ownsRow 0 77 5 v' n xs∧Keeps (fun _=>False) w w1∧(∀k,v'.ownBlock=some k→w.heap.size≤k):=by
   exact jZ16
  exact jZ57
set_option maxHeartbeats 800000
theorem datSort1_any(x y:Ev)(w:World):Calls Tryz.prog 98 #[x.agg,y.agg] w fun e w'=>∃z,e= .returned (.int .i64 z)∧(z<0↔x.day<y.day)∧Keeps (fun _=>False) w w':=by
 obtain⟨x0,x1,x2,x3,x4⟩:=x
 obtain⟨y0,y1,y2,y3,y4⟩:=y
 simp only [Ev.agg]
 by_cases h:x1<y1
 ·go_enter Tryz.func98,Tryz.ntmps98
  go_wp2
  go_ret
  exact⟨_,rfl,by simp;exact h,by(repeat (first|exact Keeps.refl _ _|exact Keeps.alloc _ _|exact Keeps.drew _|exact Keeps.drewN _ _|refine Keeps.Ap ?_|refine Keeps.Al ?_|refine Keeps.Ae ?_))⟩
 ·by_cases h2:x1>y1
  ·exact jZ59
  ·exact jZ59
theorem datSort1_by:CmpBy 98 (fun _=>True):=⟨enters_of Tryz.func98 (by kernel_rfl) rfl,fun x y W _ _=>datSort1_any x y W⟩
theorem datSort_any(v:Value)(L:List Ev)(w:World)(hr:Reads w 5 v L.length (L.flatMap Ev.cells))(hl:L.length≤1000000):
  Calls Tryz.prog 79 #[v] w fun e w'=>∃v',e= .returned v'∧w'.ownsRow 0 77 5 v' L.length ((sortL L).flatMap Ev.cells)∧Keeps (fun _=>False) w w'∧(∀g,v'.ownBlock=some g→w.heap.size≤g):=by
 have hcl:=cloneEv_any w v L.length (L.flatMap Ev.cells) hr (fun u hu=>Ev.one _ u hu) (by omega)
 obtain⟨ad,cap,rfl,_⟩:=id hr
 obtain⟨Hr,Hcl⟩:=hid2 hr hcl;clear hcl hr
 go_enter Tryz.func79,Tryz.ntmps79
 go_wp2_with (go_at_call 78;(with_reducible refine Hcl.out.mono ?_);rintro e w1 ⟨v1,rfl,hrow1,hk1,hnew1⟩;obtain⟨ad1,c1,rfl,_,_⟩:=Aj hrow1;have Hs:=Lib.hid (sortEv_any 98 _ datSort1_by _ L w1 hrow1 (fun _ _=>trivial) hl);have Hk1:=Lib.hid hk1;have Hnew1:=Lib.hid hnew1;clear hk1 hnew1 hrow1)
 go_wp2_with (go_at_call 97;(with_reducible refine Hs.out.mono ?_);rintro e w2 ⟨rfl,hrow2,hk2⟩;have Hrow2:=Lib.hid hrow2;have Hk2:=Lib.hid hk2;clear hk2 hrow2)
 go_ret
 exact⟨_,rfl,Hrow2.out,Hk1.out.trans (Hk2.out.mono fun i _ e=> .inr (Hnew1.out i e)),Hnew1.out⟩
end Go.Proofs.YthffbjldpfionaaGreat
namespace Go.Proofs.YthffbjldpfionaaGreat
open Go.RowKit
theorem info_tI64s:(Tryz.prog.info? 32).map (fun i=>(i.zero,i.size,i.bytes))=some (some (.slice none 0 0),1,24):=by kernel_rfl
structure St where
 i:Nat
 day:Int
 p:Ps
 R:List Int
 e0:List (List Int)
 e1:List (List Int)
 out:List Stm
structure Fx where
 X:Nat→Prop
 Y:Nat→Prop
 Z:World
instance:CoeFun Fx (fun _=>Nat→Prop):=⟨Fx.X⟩
def OwnB(w0:World)(X:Fx)(b:Nat):Prop:=w0.heap.size≤b∧¬X b
def Own(w0:World)(X:Fx)(v:Value):Prop:=∀b,v.ownBlock=some b→OwnB w0 X b
structure RunV(w0:World)(X:Fx)(B:Nat)(t:Tm)(n:Nat)(vt:Value)(L:List Ev)(f0 f1 f2:Value)(s:St)(vl vb vr:Value)(g0 g1:Nat)(S0 S1:List SI)(vo:Value)(P:List SV)(W:World):Prop where
 blk:W.heap[B]?=some (.cells #[.int .i64 t.limit,vt,.int .i64 t.cyc,.int .i64 t.due,.int .i64 t.minFixed,.int .i64 t.minPart,.int .i64 t.start,vl,.int .i64 (s.i:Nat),.int .i64 s.day,vb,.int .i64 s.p.cr,.int .i64 s.p.du,vr,.slice (some ⟨g0,0,none⟩) n n,.slice (some ⟨g1,0,none⟩) n n,vo,f0,f1,f2] 145 (0,0))
 trs:Reads W 2 vt n (t.trs.flatMap Tn.cells)
 evs:W.ownsRow 0 77 5 vl L.length (L.flatMap Ev.cells)
 bal:W.ownsRow 0 2 1 vb n (s.p.bal.flatMap i64c)
 rts:W.ownsRow 0 2 1 vr n (s.R.flatMap i64c)
 o0:W.heap[g0]?=some (.cells (S0.map SI.v).toArray 32 (0,0))
 o1:W.heap[g1]?=some (.cells (S1.map SI.v).toArray 32 (0,0))
 i0:∀x∈S0,W.ownsRow 0 2 1 x.v x.L.length (x.L.flatMap i64c)
 i1:∀x∈S1,W.ownsRow 0 2 1 x.v x.L.length (x.L.flatMap i64c)
 out:W.ownsRow 0 42 9 vo P.length (P.flatMap SV.cells)
 ln:∀x∈P,W.ownsRow 0 102 3 x.v x.s.lines.length (x.s.lines.flatMap Ln.cells)
 l0:S0.map SI.L=s.e0
 l1:S1.map SI.L=s.e1
 lp:P.map SV.s=s.out
 n0:S0.length=n
 n1:S1.length=n
 nb:s.p.bal.length=n
 nr:s.R.length=n
 d00:∀(j k:Nat) (x y:SI),S0[j]?=some x→S0[k]?=some y→j≠k→∀b,x.v.ownBlock=some b→y.v.ownBlock≠some b
 d11:∀(j k:Nat) (x y:SI),S1[j]?=some x→S1[k]?=some y→j≠k→∀b,x.v.ownBlock=some b→y.v.ownBlock≠some b
 d01:∀(x y:SI),x∈S0→y∈S1→∀b,x.v.ownBlock=some b→y.v.ownBlock≠some b
 db0:∀x∈S0,∀b,x.v.ownBlock=some b→vb.ownBlock≠some b∧vr.ownBlock≠some b
 db1:∀x∈S1,∀b,x.v.ownBlock=some b→vb.ownBlock≠some b∧vr.ownBlock≠some b
 g01:g0≠g1
 wB:OwnB w0 X B
 w0':OwnB w0 X g0
 w1':OwnB w0 X g1
 wl:Own w0 X vl
 wb:Own w0 X vb
 wr:Own w0 X vr
 wo:Own w0 X vo
 wi0:∀x∈S0,Own w0 X x.v
 wi1:∀x∈S1,Own w0 X x.v
 wln:∀x∈P,Own w0 X x.v
 wt:∀b,vt.ownBlock=some b→b<w0.heap.size∧¬X b
 xl:∀b,X b→b<W.heap.size
 yx:∀b,X.Y b→X b
 fz:∀b,X.Y b→W.heap[b]?=X.Z.heap[b]?
 kp:Keeps X.X w0 W
section
variable {w0:World} {X:Fx} {B:Nat} {t:Tm} {n:Nat} {vt:Value} {L:List Ev} {f0 f1 f2:Value} {s:St} {vl vb vr:Value} {g0 g1:Nat} {S0 S1:List SI} {vo:Value} {P:List SV} {W W':World}
theorem RunV.keep(h:RunV w0 X B t n vt L f0 f1 f2 s vl vb vr g0 g1 S0 S1 vo P W){S:Nat→Prop}(hk:Keeps S W W')(hS:∀b,S b→X b)(hY:∀b,S b→¬X.Y b):RunV w0 X B t n vt L f0 f1 f2 s vl vb vr g0 g1 S0 S1 vo P W':=
 { h with
  blk:=Ad h.blk hk (fun e=>h.wB.2 (hS _ e))
  trs:=h.trs.keeps hk (fun b hb e=>(h.wt b hb).2 (hS _ e))
  evs:=hk.row h.evs (fun b hb e=>(h.wl b hb).2 (hS _ e))
  bal:=hk.row h.bal (fun b hb e=>(h.wb b hb).2 (hS _ e))
  rts:=hk.row h.rts (fun b hb e=>(h.wr b hb).2 (hS _ e))
  o0:=Ad h.o0 hk (fun e=>h.w0'.2 (hS _ e))
  o1:=Ad h.o1 hk (fun e=>h.w1'.2 (hS _ e))
  i0:=fun x hx=>hk.row (h.i0 x hx) (fun b hb e=>(h.wi0 x hx b hb).2 (hS _ e))
  i1:=fun x hx=>hk.row (h.i1 x hx) (fun b hb e=>(h.wi1 x hx b hb).2 (hS _ e))
  out:=hk.row h.out (fun b hb e=>(h.wo b hb).2 (hS _ e))
  ln:=fun x hx=>hk.row (h.ln x hx) (fun b hb e=>(h.wln x hx b hb).2 (hS _ e))
  xl:=fun b hb=>Nat.lt_of_lt_of_le (h.xl b hb) hk.size
  fz:=fun b hb=>(hk.block b (h.xl b (h.yx b hb)) (fun e=>hY b e hb)).trans (h.fz b hb)
  kp:=h.kp.trans (hk.mono fun b _ e=> .inl (hS b e)) }
theorem RunV.keep0(h:RunV w0 X B t n vt L f0 f1 f2 s vl vb vr g0 g1 S0 S1 vo P W)(hk:Keeps (fun _=>False) W W'):RunV w0 X B t n vt L f0 f1 f2 s vl vb vr g0 g1 S0 S1 vo P W':=h.keep hk (by simp) (by simp)
theorem RunV.step(h:RunV w0 X B t n vt L f0 f1 f2 s vl vb vr g0 g1 S0 S1 vo P W){S X2:Nat→Prop}(hk:Keeps S W W')(hS:∀b,S b→X b)(hSY:∀b,S b→¬X.Y b)(hY:∀b,X2 b→X b∨W.heap.size≤b)(hYl:∀b,X2 b→b<W'.heap.size)(hXY:∀b,b<w0.heap.size→X b→X2 b)(hyx:∀b,X.Y b→X2 b):RunV w0 ⟨X2,X.Y,X.Z⟩ B t n vt L f0 f1 f2 s vl vb vr g0 g1 S0 S1 vo P W':=by
 have hb:∀b,b<W.heap.size→OwnB w0 X b→OwnB w0 ⟨X2,X.Y,X.Z⟩ b:=fun b hl h=>⟨h.1,fun e=>(hY b e).elim h.2 (fun e=>by omega)⟩
 have h2:=h.keep hk hS hSY
 exact { h2 with
  wB:=hb _ (lt_of_block h.blk) h.wB
  w0':=hb _ (lt_of_block h.o0) h.w0'
  w1':=hb _ (lt_of_block h.o1) h.w1'
  wl:=fun b e=>hb b (Bu h.evs e) (h.wl b e)
  wb:=fun b e=>hb b (Bu h.bal e) (h.wb b e)
  wr:=fun b e=>hb b (Bu h.rts e) (h.wr b e)
  wo:=fun b e=>hb b (Bu h.out e) (h.wo b e)
  wi0:=fun x hx b e=>hb b (Bu (h.i0 x hx) e) (h.wi0 x hx b e)
  wi1:=fun x hx b e=>hb b (Bu (h.i1 x hx) e) (h.wi1 x hx b e)
  wln:=fun x hx b e=>hb b (Bu (h.ln x hx) e) (h.wln x hx b e)
  wt:=fun b e=>⟨(h.wt b e).1,fun hy=>(hY b hy).elim (h.wt b e).2 (fun h1=>by have:=h.kp.size;have:=(h.wt b e).1;omega)⟩
  xl:=hYl
  yx:=hyx
  kp:=h2.kp.mono hXY }
theorem RunV.new(h:RunV w0 X B t n vt L f0 f1 f2 s vl vb vr g0 g1 S0 S1 vo P W){b:Nat}(hb:W.heap.size≤b):OwnB w0 X b:=⟨by have:=h.kp.size;omega,fun e=>by have:=h.xl b e;omega⟩
theorem RunV.ownN(h:RunV w0 X B t n vt L f0 f1 f2 s vl vb vr g0 g1 S0 S1 vo P W){v:Value}(hv:∀b,v.ownBlock=some b→W.heap.size≤b):Own w0 X v:=fun b e=>h.new (hv b e)
theorem si_cell{S:List SI}{g:Nat}{e:TypeId}{k:Nat}{x:SI}(h:W.heap[g]?=some (.cells (S.map SI.v).toArray e (0,0)))(hx:S[k]?=some x):W.cell? ⟨g,k,none⟩=some x.v:=by
 rw [Aa h,List.getElem?_toArray,List.getElem?_map,hx];rfl
theorem si_set{S:List SI}{g:Nat}{e:TypeId}{k:Nat}(x:SI)(h:W.heap[g]?=some (.cells (S.map SI.v).toArray e (0,0))):(W.setCell ⟨g,k,none⟩ x.v).heap[g]?=some (.cells ((S.set k x).map SI.v).toArray e (0,0)):=by
 rw [heap_setCell_same _ _ k _ _ x.v h,List.setIfInBounds_toArray,List.map_set]
theorem made_sis(n:Nat):madeCells (Value.slice none 0 0).cells n=((List.replicate n (⟨none,0, []⟩:SI)).map SI.v).toArray:=by
 apply Array.ext'
 rw [List.map_replicate]
 apply List.ext_getElem?
 intro i
 rw [List.getElem?_replicate]
 by_cases h:i<n
 ·rw [if_pos h]
  have h2:i<(madeCells (Value.slice none 0 0).cells n).toList.length:=by simp [madeCells,Value.cells];exact h
  rw [List.getElem?_eq_getElem h2]
  simp [madeCells,Value.cells,SI.v,Nat.mod_one]
 ·rw [if_neg h,List.getElem?_eq_none (by simp [madeCells,Value.cells];omega)]
def si0:SI:=⟨none,0, []⟩
theorem RunV.renew(h:RunV w0 X B t n vt L f0 f1 f2 s vl vb vr g0 g1 S0 S1 vo P W){W2:World}(hk:Keeps (fun _=>False) W W2){a b:Nat}(ha:W.heap.size≤a)(hb:W.heap.size≤b)(hab:a≠b)
  (h0:W2.heap[a]?=some (.cells ((List.replicate n si0).map SI.v).toArray 32 (0,0))) (h1:W2.heap[b]?=some (.cells ((List.replicate n si0).map SI.v).toArray 32 (0,0))):
  RunV w0 X B t n vt L f0 f1 f2 { s with e0:=List.replicate n [],e1:=List.replicate n [] } vl vb vr a b (List.replicate n si0) (List.replicate n si0) vo P ((W2.setCell ⟨B,14,none⟩ (.slice (some ⟨a,0,none⟩) n n)).setCell ⟨B,15,none⟩ (.slice (some ⟨b,0,none⟩) n n)):=by
 have h2:=h.keep0 hk
 have hBl:=lt_of_block h.blk
 have kB:Keeps (fun i=>i=B) W2 ((W2.setCell ⟨B,14,none⟩ (.slice (some ⟨a,0,none⟩) n n)).setCell ⟨B,15,none⟩ (.slice (some ⟨b,0,none⟩) n n)):=(Keeps.setCell (S:=fun i=>i=B) _ _ _ rfl).trans (Keeps.setCell _ _ _ (.inl rfl))
 have hne:∀{e:TypeId} {sz m:Nat} {v:Value} {xs:List Value},W2.ownsRow 0 e sz v m xs→145≠e→∀i,v.ownBlock=some i→¬i=B:=fun hr hne i hi e=>by subst e;exact Aq hr h2.blk hne hi
 have hnil:∀x∈List.replicate n si0,x=si0:=fun x hx=>(List.mem_replicate.1 hx).2
 have hget:∀(j:Nat) (x:SI),(List.replicate n si0)[j]?=some x→x=si0:=fun j x hx=>hnil x (List.mem_of_getElem? hx)
 exact { h2 with
  blk:=(heap_setCell_same _ _ 15 _ _ _ ((heap_setCell_same _ _ 14 _ _ _ h2.blk).trans rfl)).trans rfl
  trs:=h2.trs.keeps kB (fun i hi e=>by have e':i=B:=e;have:=(h.wt i hi).1;have:=h.wB.1;omega)
  evs:=kB.row h2.evs (hne h2.evs (by decide))
  bal:=kB.row h2.bal (hne h2.bal (by decide))
  rts:=kB.row h2.rts (hne h2.rts (by decide))
  o0:=Ad h0 kB (by omega)
  o1:=Ad h1 kB (by omega)
  i0:=fun x hx=>by rw [hnil x hx];exact World.ownsRow_nil _ _ _ _
  i1:=fun x hx=>by rw [hnil x hx];exact World.ownsRow_nil _ _ _ _
  out:=kB.row h2.out (hne h2.out (by decide))
  ln:=fun x hx=>kB.row (h2.ln x hx) (hne (h2.ln x hx) (by decide))
  l0:=by simp [si0]
  l1:=by simp [si0]
  n0:=by simp
  n1:=by simp
  d00:=fun j k x y hx hy _ b e=>by rw [hget j x hx] at e;simp [si0,SI.v,Value.ownBlock] at e
  d11:=fun j k x y hx hy _ b e=>by rw [hget j x hx] at e;simp [si0,SI.v,Value.ownBlock] at e
  d01:=fun x y hx hy b e=>by rw [hnil x hx] at e;simp [si0,SI.v,Value.ownBlock] at e
  db0:=fun x hx b e=>by rw [hnil x hx] at e;simp [si0,SI.v,Value.ownBlock] at e
  db1:=fun x hx b e=>by rw [hnil x hx] at e;simp [si0,SI.v,Value.ownBlock] at e
  g01:=hab
  w0':=h.new ha
  w1':=h.new hb
  wi0:=fun x hx b e=>by rw [hnil x hx] at e;simp [si0,SI.v,Value.ownBlock] at e
  wi1:=fun x hx b e=>by rw [hnil x hx] at e;simp [si0,SI.v,Value.ownBlock] at e
  xl:=fun b hb=>Nat.lt_of_lt_of_le (h2.xl b hb) kB.size
  fz:=fun b hb=>(kB.block b (h2.xl b (h2.yx b hb)) (fun e=>by have e':b=B:=e;exact h.wB.2 (e'▸h.yx b hb))).trans (h2.fz b hb)
  kp:=h2.kp.trans (kB.mono fun i _ e=> .inr (by have e':i=B:=e;rw [e'];exact h.wB.1)) }
end
end Go.Proofs.YthffbjldpfionaaGreat
namespace Go.Proofs.YthffbjldpfionaaGreat
open Go.RowKit
set_option maxRecDepth 100000
set_option maxHeartbeats 1600000
theorem Db{w0:World}{X:Fx}{B:Nat}{t:Tm}{n:Nat}{vt:Value}{L:List Ev}{f0 f1 f2:Value}{s:St}{vl vb vr:Value}{g0 g1:Nat}{S0 S1:List SI}{vo:Value}{P:List SV}{W:World}(h:RunV w0 X B t n vt L f0 f1 f2 s vl vb vr g0 g1 S0 S1 vo P W)(hn:n≤1000):
  Calls Tryz.prog 82 #[(.pointer (some ⟨B,0,none⟩))] W fun e W'=>e= .returned (.tuple #[])∧∃a b,RunV w0 X B t n vt L f0 f1 f2 { s with e0:=List.replicate n [],e1:=List.replicate n [] } vl vb vr a b (List.replicate n si0) (List.replicate n si0) vo P W':=by
 obtain⟨i0,hi,hi0,hi1,hi2⟩:=info_parts info_tI64s
 obtain⟨adT,cT,rfl⟩:∃a c,vt= .slice a n c:=by obtain⟨a,c,h,_⟩:=h.trs;exact⟨a,c,h⟩
 have hmk:=fun(W:World)=>run_makeSlice (P:=Tryz.prog) W 142 32 i0 (.slice none 0 0) Tryz.underlying142 hi hi0 .i64 .i64 (n:Int) (n:Int) (by omega) (by omega) (by rw [hi1];omega) (by rw [hi2];omega) (by omega)
 simp only [Int.toNat_natCast,hi1,Nat.mul_one] at hmk
 obtain⟨Z,hZ⟩:∃Z,Z=madeCells (Value.slice none 0 0).cells n:=⟨_,rfl⟩
 rw [←hZ] at hmk
 rw [made_sis] at hZ
 have hrv:=h
 have hS:∀W',Keeps (fun _=>False) W W'→(fun W'=>W'.cell? ⟨B,14,none⟩=some (.slice (some ⟨g0,0,none⟩) n n)∧W'.cell? ⟨B,15,none⟩=some (.slice (some ⟨g1,0,none⟩) n n)∧W'.frozen? ⟨B,14,none⟩=false∧W'.frozen? ⟨B,15,none⟩=false∧B<W'.heap.size) W':=fun W' hk=>by
  have hb:=Ad h.blk hk (by simp)
  exact⟨Aa hb 14,Aa hb 15,Ab hb 14,Ab hb 15,lt_of_block hb⟩
 have c1:=Aa h.blk 1
 have bl:=lt_of_block h.blk
 obtain⟨H,Hrv,Hi,Hi0,Hi1,Hi2,HZ,HS⟩:=hid8 h hrv hi hi0 hi1 hi2 hZ hS;clear hS hZ hi2 hi1 hi0 hi hrv h
 go_enter Tryz.func82,Tryz.ntmps82
 go_wp2_with fail
 refine Ao (fun _=>True) (.take 0 (.take 1 (.take 3 (.fork 2 (.move 4 (.take 5 (.take 6 (.take 7 (.move 8 .done))))) 4 (.move 2 (.take 5 (.take 6 (.take 7 (.move 8 .done))))))))) (by kernel_rfl) (by kernel_rfl) ?_ ?_
 ·trivial
 intro w1 hs1 hk1
 have Hk1:=Lib.hid hk1
 clear hk1 hs1
 repeat ((first|refine Ai rfl (by rfl) ?_|refine Af rfl (by rfl) ?_|(refine Ah (v:= ?_) rfl (by rfl) ?_ ?_;rotate_left;(· intro w' hSw;(try dsimp only at hSw);go_simp;(try with_reducible rfl));rotate_right));try simp only [aps])
 refine Cv ?_ ?_ trivial
 ·skip
  refine Ak rfl (fun K hK=> ?_)
  go_simp
  refine hK.out _ _ (by trivial) ?_
  clear hK K
  try simp only [aps]
  repeat ((first|refine Ai rfl (by rfl) ?_|refine Af rfl (by rfl) ?_|(refine Ah (v:= ?_) rfl (by rfl) ?_ ?_;rotate_left;(· intro w' hSw;(try dsimp only at hSw);go_simp;(try with_reducible rfl));rotate_right));try simp only [aps])
  refine Ak rfl (fun K hK=> ?_)
  go_simp
  refine hK.out _ _ (by trivial) ?_
  clear hK K
  try simp only [aps]
  repeat ((first|refine Ai rfl (by rfl) ?_|refine Af rfl (by rfl) ?_|(refine Ah (v:= ?_) rfl (by rfl) ?_ ?_;rotate_left;(· intro w' hSw;(try dsimp only at hSw);go_simp;(try with_reducible rfl));rotate_right));try simp only [aps])
  obtain⟨s14,s15,s16,s17,sl⟩:=HS.out _ ((Hk1.out.Ae (o:= .cells Z 32)).Ae (o:= .cells Z 32))
  have z0:((w1.alloc (.cells Z 32)).alloc (.cells Z 32)).heap[w1.heap.size]?=some (.cells ((List.replicate n si0).map SI.v).toArray 32 (0,0)):=by rw [show((List.replicate n si0).map SI.v).toArray=Z from HZ.out.symm];exact Au (heap_alloc_new w1 _) _
  have z1:((w1.alloc (.cells Z 32)).alloc (.cells Z 32)).heap[w1.heap.size+1]?=some (.cells ((List.replicate n si0).map SI.v).toArray 32 (0,0)):=by rw [show((List.replicate n si0).map SI.v).toArray=Z from HZ.out.symm];exact Ay _ _ (by simp)
  have hren:=Hrv.out.renew ((Hk1.out.Ae (o:= .cells Z 32)).Ae (o:= .cells Z 32)) (a:=w1.heap.size) (b:=w1.heap.size+1) (by have:=Hk1.out.size;omega) (by have:=Hk1.out.size;omega) (by omega) z0 z1
  exact jZ33
 ·skip
  refine Ak rfl (fun K hK=> ?_)
  go_simp
  refine hK.out _ _ (by trivial) ?_
  clear hK K
  try simp only [aps]
  repeat ((first|refine Ai rfl (by rfl) ?_|refine Af rfl (by rfl) ?_|(refine Ah (v:= ?_) rfl (by rfl) ?_ ?_;rotate_left;(· intro w' hSw;(try dsimp only at hSw);go_simp;(try with_reducible rfl));rotate_right));try simp only [aps])
  refine Ak rfl (fun K hK=> ?_)
  go_simp
  refine hK.out _ _ (by trivial) ?_
  clear hK K
  try simp only [aps]
  repeat ((first|refine Ai rfl (by rfl) ?_|refine Af rfl (by rfl) ?_|(refine Ah (v:= ?_) rfl (by rfl) ?_ ?_;rotate_left;(· intro w' hSw;(try dsimp only at hSw);go_simp;(try with_reducible rfl));rotate_right));try simp only [aps])
  obtain⟨s14,s15,s16,s17,sl⟩:=HS.out _ ((Hk1.out.Ae (o:= .cells Z 32)).Ae (o:= .cells Z 32))
  have z0:((w1.alloc (.cells Z 32)).alloc (.cells Z 32)).heap[w1.heap.size]?=some (.cells ((List.replicate n si0).map SI.v).toArray 32 (0,0)):=by rw [show((List.replicate n si0).map SI.v).toArray=Z from HZ.out.symm];exact Au (heap_alloc_new w1 _) _
  have z1:((w1.alloc (.cells Z 32)).alloc (.cells Z 32)).heap[w1.heap.size+1]?=some (.cells ((List.replicate n si0).map SI.v).toArray 32 (0,0)):=by rw [show((List.replicate n si0).map SI.v).toArray=Z from HZ.out.symm];exact Ay _ _ (by simp)
  have hren:=Hrv.out.renew ((Hk1.out.Ae (o:= .cells Z 32)).Ae (o:= .cells Z 32)) (a:=w1.heap.size+1) (b:=w1.heap.size) (by have:=Hk1.out.size;omega) (by have:=Hk1.out.size;omega) (by omega) z1 z0
  exact jZ33
end Go.Proofs.YthffbjldpfionaaGreat
namespace Go.Proofs.YthffbjldpfionaaGreat
open Go.RowKit
section
variable {w0:World} {X:Fx} {B:Nat} {t:Tm} {n:Nat} {vt:Value} {L:List Ev} {f0 f1 f2:Value} {s:St} {vl vb vr:Value} {g0 g1:Nat} {S0 S1:List SI} {vo:Value} {P:List SV} {W W':World}
theorem RunV.ext0(h:RunV w0 X B t n vt L f0 f1 f2 s vl vb vr g0 g1 S0 S1 vo P W){k:Nat}{x x':SI}{v:Int}{w4 w5:World}(hx:S0[k]?=some x)(hk4:Keeps (fun _=>False) W w4)(hk5:Keeps (fun i=>x.v.ownBlock=some i) w4 w5)
  (hr:w5.ownsRow 0 2 1 x'.v x'.L.length (x'.L.flatMap i64c)) (hL:x'.L=x.L++ [v]) (hf:x'.v.ownBlock=x.v.ownBlock∨∃g,x'.v.ownBlock=some g∧w4.heap.size≤g):
  RunV w0 X B t n vt L f0 f1 f2 { s with e0:=s.e0.set k (x.L++ [v]) } vl vb vr g0 g1 (S0.set k x') S1 vo P (w5.setCell ⟨g0,k,none⟩ x'.v):=by
 have h4:=h.keep0 hk4
 have hxm:=List.mem_of_getElem? hx
 have hrx:=h4.i0 x hxm
 have hkl:=Ck hx
 have hs4:=hk4.size
 have hs5:=hk5.size
 have hnewb:∀b,x'.v.ownBlock=some b→x.v.ownBlock=some b∨W.heap.size≤b:=fun b hb=>by
  rcases hf with hf|⟨g,hg,hh⟩
  ·exact .inl (hf▸hb)
  ·rw [hg] at hb;simp only [Option.some.injEq] at hb;exact .inr (by omega)
 have nx:∀{e:TypeId} {b:Nat} {c:Array Value},w4.heap[b]?=some (.cells c e (0,0))→e≠2→¬x.v.ownBlock=some b:=fun hb hne=>Aq hrx hb hne
 have nr:∀{e:TypeId} {sz m:Nat} {u:Value} {xs:List Value},w4.ownsRow 0 e sz u m xs→e≠2→∀b,u.ownBlock=some b→¬x.v.ownBlock=some b:=fun hr' hne b hb e=>rows_ne hr' hrx hne hb e
 have h5o0:=Ad h4.o0 hk5 (nx h4.o0 (by decide))
 have h5o1:=Ad h4.o1 hk5 (nx h4.o1 (by decide))
 have h5b:=Ad h4.blk hk5 (nx h4.blk (by decide))
 have kg:Keeps (fun i=>i=g0) w5 (w5.setCell ⟨g0,k,none⟩ x'.v):=Keeps.setCell _ _ _ rfl
 have gb:∀{e:TypeId} {sz m:Nat} {u:Value} {xs:List Value},w5.ownsRow 0 e sz u m xs→32≠e→∀b,u.ownBlock=some b→¬b=g0:=fun hr' hne b hb e=>by subst e;exact Aq hr' h5o0 hne hb
 have hBg:¬B=g0:=fun e=>by
  have h1:=h5b;rw [e,h5o0] at h1
  exact jZ94
 have r5:∀{e:TypeId} {sz m:Nat} {u:Value} {xs:List Value},w4.ownsRow 0 e sz u m xs→(∀b,u.ownBlock=some b→¬x.v.ownBlock=some b)→32≠e→(w5.setCell ⟨g0,k,none⟩ x'.v).ownsRow 0 e sz u m xs:=fun hr' hd hne=>kg.row (hk5.row hr' hd) (gb (hk5.row hr' hd) hne)
 have hmem:∀(j:Nat) (y:SI),(S0.set k x')[j]?=some y→(j=k∧y=x')∨(j≠k∧S0[j]?=some y):=fun j y hy=>by
  by_cases e:j=k
  ·subst e;rw [List.getElem?_set_self hkl] at hy;simp only [Option.some.injEq] at hy;exact .inl ⟨rfl,hy.symm⟩
  ·rw [List.getElem?_set_ne (fun h=>e h.symm)] at hy;exact .inr ⟨e,hy⟩
 have hmem2:∀y∈S0.set k x',y=x'∨∃j,j≠k∧S0[j]?=some y:=fun y hy=>by
  obtain⟨j,hj⟩:=List.getElem?_of_mem hy
  rcases hmem j y hj with h|h
  ·exact .inl h.2
  ·exact .inr ⟨j,h⟩
 have hx2:∀y∈S1,∀b,x'.v.ownBlock=some b→y.v.ownBlock≠some b:=fun y hy b hb e=>by
  rcases hnewb b hb with h1|h1
  ·exact h.d01 x y hxm hy b h1 e
  ·have:=Bu (h.i1 y hy) e;omega
 exact { h4 with
  blk:=Ad h5b kg hBg
  trs:=(h4.trs.keeps hk5 (fun b hb e=>by have:=(h.wt b hb).1;have:=(h.wi0 x hxm b e).1;omega)).keeps kg (fun b hb e=>by have e':b=g0:=e;have:=(h.wt b hb).1;have:=h.w0'.1;omega)
  evs:=r5 h4.evs (nr h4.evs (by decide)) (by decide)
  bal:=r5 h4.bal (fun b hb e=>(h.db0 x hxm b e).1 hb) (by decide)
  rts:=r5 h4.rts (fun b hb e=>(h.db0 x hxm b e).2 hb) (by decide)
  o0:=si_set x' h5o0
  o1:=Ad h5o1 kg (fun e=>h.g01 e.symm)
  i0:=fun y hy=>by
   rcases hmem2 y hy with rfl|⟨j,hj,hjy⟩
   ·exact kg.row hr (gb hr (by decide))
   ·exact r5 (h4.i0 y (List.mem_of_getElem? hjy)) (fun b hb e=>h.d00 j k y x hjy hx hj b hb e) (by decide)
  i1:=fun y hy=>r5 (h4.i1 y hy) (fun b hb e=>h.d01 x y hxm hy b e hb) (by decide)
  out:=r5 h4.out (nr h4.out (by decide)) (by decide)
  ln:=fun y hy=>r5 (h4.ln y hy) (nr (h4.ln y hy) (by decide)) (by decide)
  l0:=by rw [List.map_set,h.l0,hL]
  n0:=by rw [List.length_set];exact h.n0
  d00:=fun i j y z hy hz hne b hb=>by
   rcases hmem i y hy with⟨rfl,rfl⟩|⟨h1,h2⟩
   ·rcases hmem j z hz with⟨rfl,rfl⟩|⟨h3,h4'⟩
    ·exact absurd rfl hne
    ·rcases hnewb b hb with h5|h5
     ·exact h.d00 i j x z hx h4' hne b h5
     ·intro e;have:=Bu (h.i0 z (List.mem_of_getElem? h4')) e;omega
   ·rcases hmem j z hz with⟨rfl,rfl⟩|⟨h3,h4'⟩
    ·intro e
     rcases hnewb b e with h5|h5
     ·exact h.d00 i j y x h2 hx hne b hb h5
     ·have:=Bu (h.i0 y (List.mem_of_getElem? h2)) hb;omega
    ·exact h.d00 i j y z h2 h4' hne b hb
  d01:=fun y z hy hz b hb=>by
   rcases hmem2 y hy with rfl|⟨j,hj,hjy⟩
   ·exact hx2 z hz b hb
   ·exact h.d01 y z (List.mem_of_getElem? hjy) hz b hb
  db0:=fun y hy b hb=>by
   rcases hmem2 y hy with rfl|⟨j,hj,hjy⟩
   ·rcases hnewb b hb with h5|h5
    ·exact h.db0 x hxm b h5
    ·exact⟨fun e=>by have:=Bu h.bal e;omega,fun e=>by have:=Bu h.rts e;omega⟩
   ·exact h.db0 y (List.mem_of_getElem? hjy) b hb
  wi0:=fun y hy b hb=>by
   rcases hmem2 y hy with rfl|⟨j,hj,hjy⟩
   ·rcases hnewb b hb with h5|h5
    ·exact h.wi0 x hxm b h5
    ·exact h.new h5
   ·exact h.wi0 y (List.mem_of_getElem? hjy) b hb
  xl:=fun b hb=>Nat.lt_of_lt_of_le (Nat.lt_of_lt_of_le (h4.xl b hb) hs5) kg.size
  fz:=fun b hb=>((kg.block b (Nat.lt_of_lt_of_le (h4.xl b (h4.yx b hb)) hs5) (fun e=>by have e':b=g0:=e;exact h.w0'.2 (e'▸h.yx b hb))).trans (hk5.block b (h4.xl b (h4.yx b hb)) (fun e=>(h.wi0 x hxm b e).2 (h.yx b hb)))).trans (h4.fz b hb)
  kp:=(h4.kp.trans (hk5.mono fun i _ e=> .inr (h.wi0 x hxm i e).1)).trans (kg.mono fun i _ e=> .inr (by have e':i=g0:=e;rw [e'];exact h.w0'.1)) }
theorem RunV.ext1(h:RunV w0 X B t n vt L f0 f1 f2 s vl vb vr g0 g1 S0 S1 vo P W){k:Nat}{x x':SI}{v:Int}{w4 w5:World}(hx:S1[k]?=some x)(hk4:Keeps (fun _=>False) W w4)(hk5:Keeps (fun i=>x.v.ownBlock=some i) w4 w5)
  (hr:w5.ownsRow 0 2 1 x'.v x'.L.length (x'.L.flatMap i64c)) (hL:x'.L=x.L++ [v]) (hf:x'.v.ownBlock=x.v.ownBlock∨∃g,x'.v.ownBlock=some g∧w4.heap.size≤g):
  RunV w0 X B t n vt L f0 f1 f2 { s with e1:=s.e1.set k (x.L++ [v]) } vl vb vr g0 g1 S0 (S1.set k x') vo P (w5.setCell ⟨g1,k,none⟩ x'.v):=by
 have h4:=h.keep0 hk4
 have hxm:=List.mem_of_getElem? hx
 have hrx:=h4.i1 x hxm
 have hkl:=Ck hx
 have hs4:=hk4.size
 have hs5:=hk5.size
 have hnewb:∀b,x'.v.ownBlock=some b→x.v.ownBlock=some b∨W.heap.size≤b:=fun b hb=>by
  rcases hf with hf|⟨g,hg,hh⟩
  ·exact .inl (hf▸hb)
  ·rw [hg] at hb;simp only [Option.some.injEq] at hb;exact .inr (by omega)
 have nx:∀{e:TypeId} {b:Nat} {c:Array Value},w4.heap[b]?=some (.cells c e (0,0))→e≠2→¬x.v.ownBlock=some b:=fun hb hne=>Aq hrx hb hne
 have nr:∀{e:TypeId} {sz m:Nat} {u:Value} {xs:List Value},w4.ownsRow 0 e sz u m xs→e≠2→∀b,u.ownBlock=some b→¬x.v.ownBlock=some b:=fun hr' hne b hb e=>rows_ne hr' hrx hne hb e
 have h5o0:=Ad h4.o0 hk5 (nx h4.o0 (by decide))
 have h5o1:=Ad h4.o1 hk5 (nx h4.o1 (by decide))
 have h5b:=Ad h4.blk hk5 (nx h4.blk (by decide))
 have kg:Keeps (fun i=>i=g1) w5 (w5.setCell ⟨g1,k,none⟩ x'.v):=Keeps.setCell _ _ _ rfl
 have gb:∀{e:TypeId} {sz m:Nat} {u:Value} {xs:List Value},w5.ownsRow 0 e sz u m xs→32≠e→∀b,u.ownBlock=some b→¬b=g1:=fun hr' hne b hb e=>by subst e;exact Aq hr' h5o1 hne hb
 have hBg:¬B=g1:=fun e=>by
  have h1:=h5b;rw [e,h5o1] at h1
  injection h1 with h1
  injection h1 with _ h1 _
  exact absurd h1 (by decide)
 have r5:∀{e:TypeId} {sz m:Nat} {u:Value} {xs:List Value},w4.ownsRow 0 e sz u m xs→(∀b,u.ownBlock=some b→¬x.v.ownBlock=some b)→32≠e→(w5.setCell ⟨g1,k,none⟩ x'.v).ownsRow 0 e sz u m xs:=fun hr' hd hne=>kg.row (hk5.row hr' hd) (gb (hk5.row hr' hd) hne)
 have hmem:∀(j:Nat) (y:SI),(S1.set k x')[j]?=some y→(j=k∧y=x')∨(j≠k∧S1[j]?=some y):=fun j y hy=>by
  by_cases e:j=k
  ·subst e;rw [List.getElem?_set_self hkl] at hy;simp only [Option.some.injEq] at hy;exact .inl ⟨rfl,hy.symm⟩
  ·rw [List.getElem?_set_ne (fun h=>e h.symm)] at hy;exact .inr ⟨e,hy⟩
 have hmem2:∀y∈S1.set k x',y=x'∨∃j,j≠k∧S1[j]?=some y:=fun y hy=>by
  obtain⟨j,hj⟩:=List.getElem?_of_mem hy
  rcases hmem j y hj with h|h
  ·exact .inl h.2
  ·exact .inr ⟨j,h⟩
 have hx2:∀y∈S0,∀b,x'.v.ownBlock=some b→y.v.ownBlock≠some b:=fun y hy b hb e=>by
  rcases hnewb b hb with h1|h1
  ·exact h.d01 y x hy hxm b e h1
  ·have:=Bu (h.i0 y hy) e;omega
 exact { h4 with
  blk:=Ad h5b kg hBg
  trs:=(h4.trs.keeps hk5 (fun b hb e=>by have:=(h.wt b hb).1;have:=(h.wi1 x hxm b e).1;omega)).keeps kg (fun b hb e=>by have e':b=g1:=e;have:=(h.wt b hb).1;have:=h.w1'.1;omega)
  evs:=r5 h4.evs (nr h4.evs (by decide)) (by decide)
  bal:=r5 h4.bal (fun b hb e=>(h.db1 x hxm b e).1 hb) (by decide)
  rts:=r5 h4.rts (fun b hb e=>(h.db1 x hxm b e).2 hb) (by decide)
  o1:=si_set x' h5o1
  o0:=Ad h5o0 kg (fun e=>h.g01 e)
  i1:=fun y hy=>by
   rcases hmem2 y hy with rfl|⟨j,hj,hjy⟩
   ·exact kg.row hr (gb hr (by decide))
   ·exact r5 (h4.i1 y (List.mem_of_getElem? hjy)) (fun b hb e=>h.d11 j k y x hjy hx hj b hb e) (by decide)
  i0:=fun y hy=>r5 (h4.i0 y hy) (fun b hb e=>h.d01 y x hy hxm b hb e) (by decide)
  out:=r5 h4.out (nr h4.out (by decide)) (by decide)
  ln:=fun y hy=>r5 (h4.ln y hy) (nr (h4.ln y hy) (by decide)) (by decide)
  l1:=by rw [List.map_set,h.l1,hL]
  n1:=by rw [List.length_set];exact h.n1
  d11:=fun i j y z hy hz hne b hb=>by
   rcases hmem i y hy with⟨rfl,rfl⟩|⟨h1,h2⟩
   ·rcases hmem j z hz with⟨rfl,rfl⟩|⟨h3,h4'⟩
    ·exact absurd rfl hne
    ·rcases hnewb b hb with h5|h5
     ·exact h.d11 i j x z hx h4' hne b h5
     ·intro e;have:=Bu (h.i1 z (List.mem_of_getElem? h4')) e;omega
   ·rcases hmem j z hz with⟨rfl,rfl⟩|⟨h3,h4'⟩
    ·intro e
     rcases hnewb b e with h5|h5
     ·exact h.d11 i j y x h2 hx hne b hb h5
     ·have:=Bu (h.i1 y (List.mem_of_getElem? h2)) hb;omega
    ·exact h.d11 i j y z h2 h4' hne b hb
  d01:=fun y z hy hz b hb=>by
   rcases hmem2 z hz with rfl|⟨j,hj,hjz⟩
   ·intro e;exact hx2 y hy b e hb
   ·exact h.d01 y z hy (List.mem_of_getElem? hjz) b hb
  db1:=fun y hy b hb=>by
   rcases hmem2 y hy with rfl|⟨j,hj,hjy⟩
   ·rcases hnewb b hb with h5|h5
    ·exact h.db1 x hxm b h5
    ·exact⟨fun e=>by have:=Bu h.bal e;omega,fun e=>by have:=Bu h.rts e;omega⟩
   ·exact h.db1 y (List.mem_of_getElem? hjy) b hb
  wi1:=fun y hy b hb=>by
   rcases hmem2 y hy with rfl|⟨j,hj,hjy⟩
   ·rcases hnewb b hb with h5|h5
    ·exact h.wi1 x hxm b h5
    ·exact h.new h5
   ·exact h.wi1 y (List.mem_of_getElem? hjy) b hb
  xl:=fun b hb=>Nat.lt_of_lt_of_le (Nat.lt_of_lt_of_le (h4.xl b hb) hs5) kg.size
  fz:=fun b hb=>((kg.block b (Nat.lt_of_lt_of_le (h4.xl b (h4.yx b hb)) hs5) (fun e=>by have e':b=g1:=e;exact h.w1'.2 (e'▸h.yx b hb))).trans (hk5.block b (h4.xl b (h4.yx b hb)) (fun e=>(h.wi1 x hxm b e).2 (h.yx b hb)))).trans (h4.fz b hb)
  kp:=(h4.kp.trans (hk5.mono fun i _ e=> .inr (h.wi1 x hxm i e).1)).trans (kg.mono fun i _ e=> .inr (by have e':i=g1:=e;rw [e'];exact h.w1'.1)) }
end
def extL(E:List (List Int))(V:List Int)(k:Nat):List (List Int):=(List.zipWith (fun r v=>r++ [v]) E V).take k++E.drop k
theorem extL_zero(E:List (List Int))(V:List Int):extL E V 0=E:=by simp [extL]
theorem extL_full{E:List (List Int)}{V:List Int}{n:Nat}(h:V.length=n)(hn:E.length=n):extL E V n=List.zipWith (fun r v=>r++ [v]) E V:=by
 unfold extL
 rw [List.take_of_length_le (by rw [List.length_zipWith];omega),List.drop_eq_nil_of_le (by omega),List.append_nil]
theorem extL_get{E:List (List Int)}{V:List Int}(h:V.length=E.length){k:Nat}{r:List Int}(hr:E[k]?=some r):(extL E V k)[k]?=some r:=by
 have hk:=Ck hr
 unfold extL
 rw [List.getElem?_append_right (by rw [List.length_take,List.length_zipWith];omega),List.length_take,List.length_zipWith,List.getElem?_drop,show k+(k-min k (min E.length V.length))=k by omega]
 exact hr
theorem extL_set{E:List (List Int)}{V:List Int}(h:V.length=E.length){k:Nat}{r:List Int}{v:Int}(hr:E[k]?=some r)(hv:V[k]?=some v):(extL E V k).set k (r++ [v])=extL E V (k+1):=by
 have hk:=Ck hr
 unfold extL
 have hl:((List.zipWith (fun r v=>r++ [v]) E V).take k).length=k:=by rw [List.length_take,List.length_zipWith];omega
 rw [List.set_append_right _ _ (by omega),hl,Nat.sub_self]
 have hd:E.drop k=r::E.drop (k+1):=Cn hr
 have hz:(List.zipWith (fun r v=>r++ [v]) E V)[k]?=some (r++ [v]):=by rw [List.getElem?_zipWith,hr,hv]
 rw [hd,List.set_cons_zero,take_snoc' hz,List.append_assoc]
 rfl
end Go.Proofs.YthffbjldpfionaaGreat
namespace Go.Proofs.YthffbjldpfionaaGreat
open Go.RowKit
def enS(B j g k:Nat)(vg vx:Value)(jb:Nat)(vb:Value)(gb ob:Nat)(v:Int)(W:World):Prop:=W.cell? ⟨B,j,none⟩=some vg∧W.cell? ⟨g,k,none⟩=some vx∧W.cell? ⟨B,jb,none⟩=some vb∧W.cell? ⟨gb,ob,none⟩=some (.int .i64 v)
theorem enS.keep{B j g k:Nat}{vg vx:Value}{jb:Nat}{vb:Value}{gb ob:Nat}{v:Int}{W W':World}{S:Nat→Prop}(h:enS B j g k vg vx jb vb gb ob v W)(hk:Keeps S W W')(h1:¬S B)(h2:¬S g)(h3:¬S gb):enS B j g k vg vx jb vb gb ob v W':=
 ⟨(hk.cell (Ag h.1) h1).trans h.1,(hk.cell (Ag h.2.1) h2).trans h.2.1,(hk.cell (Ag h.2.2.1) h1).trans h.2.2.1,(hk.cell (Ag h.2.2.2) h3).trans h.2.2.2⟩
def endSt(s:St)(k j:Nat):St:={ s with e0:=extL s.e0 s.p.bal k,e1:=extL s.e1 s.R j }
set_option maxRecDepth 100000
set_option maxHeartbeats 3200000
theorem runEnd_nil{w0:World}{X:Fx}{B:Nat}{t:Tm}{n:Nat}{vt:Value}{L:List Ev}{f0 f2:Value}{s:St}{vl vb vr:Value}{g0 g1:Nat}{S0 S1:List SI}{vo:Value}{P:List SV}{W:World}(h:RunV w0 X B t n vt L f0 .nilFunc f2 s vl vb vr g0 g1 S0 S1 vo P W)(hn:n≤1000)
  (hle0:∀r∈s.e0,r.length≤100000) (hle1:∀r∈s.e1,r.length≤100000):
  Calls Tryz.prog 84 #[(.pointer (some ⟨B,0,none⟩))] W fun e W'=>e= .returned (.tuple #[])∧∃S0' S1',RunV w0 X B t n vt L f0 .nilFunc f2 (endSt s n n) vl vb vr g0 g1 S0' S1' vo P W':=by
 obtain⟨i0,hi,hi0,hi1,hi2⟩:=info_parts info_tInt64
 obtain⟨ab,cb,rfl⟩:∃a c,vb= .slice a n c:=by obtain⟨a,c,h,_⟩:=Aj h.bal;exact⟨a,c,h⟩
 obtain⟨ar,cr,rfl⟩:∃a c,vr= .slice a n c:=by obtain⟨a,c,h,_⟩:=Aj h.rts;exact⟨a,c,h⟩
 have hl0:s.p.bal.length=s.e0.length:=by rw [h.nb,←h.l0,List.length_map,h.n0]
 have hl1:s.R.length=s.e1.length:=by rw [h.nr,←h.l1,List.length_map,h.n1]
 have hst:RunV w0 X B t n vt L f0 .nilFunc f2 (endSt s 0 0) vl (.slice ab n cb) (.slice ar n cr) g0 g1 S0 S1 vo P W:=by
  unfold endSt;rw [extL_zero,extL_zero];exact h
 have hbn:=h.nb
 have hrn:=h.nr
 have he0:s.e0.length=n:=by rw [←hl0];exact hbn
 have he1:s.e1.length=n:=by rw [←hl1];exact hrn
 have c13:=Aa h.blk 13
 have bl:=lt_of_block h.blk
 obtain⟨H,Hi,Hi0,Hi1,Hi2,Hle0,Hle1,Hl0,Hl1⟩:=hid9 h hi hi0 hi1 hi2 hle0 hle1 hl0 hl1;clear hl1 hl0 hle1 hle0 hi2 hi1 hi0 hi h;obtain⟨Hst,Hbn,Hrn,He0,He1⟩:=hid5 hst hbn hrn he0 he1;clear he1 he0 hrn hbn hst
 go_enter Tryz.func84,Tryz.ntmps84
 go_wp2
 clear c13 bl
 go_loopw [8] (fun x wx=>∃(k:Nat) (S0' S1':List SI),x= .int .i64 (k:Nat)∧k≤n∧RunV w0 X B t n vt L f0 .nilFunc f2 (endSt s k k) vl (.slice ab n cb) (.slice ar n cr) g0 g1 S0' S1' vo P wx) (fun x _=>n-(intOf x).toNat)
 case atStart=>exact⟨0,S0,S1,rfl,Nat.zero_le _,Hst.out⟩
 case round=>
  obtain⟨k,S0',S1',rfl,hkn,hrv⟩:=hrel
  obtain⟨wq,hwq⟩:∃x,x=wr:=⟨_,rfl⟩
  subst hwq
  by_cases hlt:k<n
  ·have hltI:(k:Int)<(n:Int):=by omega
   obtain⟨r0,hr0⟩:=Av (L:=s.e0) (k:=k) (by rw [He0.out];exact hlt)
   obtain⟨r1,hr1⟩:=Av (L:=s.e1) (k:=k) (by rw [He1.out];exact hlt)
   obtain⟨v0,hv0⟩:=Av (L:=s.p.bal) (k:=k) (by rw [Hbn.out];exact hlt)
   obtain⟨v1,hv1⟩:=Av (L:=s.R) (k:=k) (by rw [Hrn.out];exact hlt)
   have hr0:=Lib.hid hr0
   have hr1:=Lib.hid hr1
   have Hv0:=Lib.hid hv0
   have Hv1:=Lib.hid hv1
   have hle0:=Hle0
   have hle1:=Hle1
   clear hv0 hv1
   have Hrv:=Lib.hid hrv
   clear hrv
   obtain⟨⟨ax,cx,Lx⟩,hx⟩:=Av (L:=S0') (k:=k) (by rw [Hrv.out.n0];exact hlt)
   have hxL:Lx=r0:=by
    have h1:=congrArg (fun l=>l[k]?) Hrv.out.l0
    simp only [List.getElem?_map,hx,Option.map_some,endSt] at h1
    rw [extL_get Hl0.out hr0.out] at h1
    simpa using h1
   subst hxL
   obtain⟨gb,ob,heb,cb0⟩:=(Reads.Bh Hrv.out.bal).int (k:= .i64) Hv0.out
   subst heb
   obtain⟨m,hm⟩:∃m,Lx.length=m:=⟨_,rfl⟩
   have hm1:m≤100000:=by rw [←hm];exact hle0.out _ (List.mem_of_getElem? hr0.out)
   have hxv0:(⟨ax,cx,Lx⟩:SI).v= .slice ax m cx:=by simp only [SI.v,hm]
   have hxm:=List.mem_of_getElem? hx
   have hrx:=Hrv.out.i0 _ hxm
   rw [hxv0] at hrx
   simp only [hm] at hrx
   have hS3:enS B 14 g0 k (.slice (some ⟨g0,0,none⟩) n n) (.slice ax m cx) 10 (.slice (some ⟨gb,ob,none⟩) n cb) gb (ob+k) v0 (wq).drew:=(show enS B 14 g0 k (.slice (some ⟨g0,0,none⟩) n n) (.slice ax m cx) 10 (.slice (some ⟨gb,ob,none⟩) n cb) gb (ob+k) v0 (wq) from⟨Aa Hrv.out.blk 14,hxv0▸si_cell Hrv.out.o0 hx,Aa Hrv.out.blk 10,cb0⟩).keep (S:=fun _=>False) (Keeps.drew _) (by simp) (by simp) (by simp)
   have hdb:=Hrv.out.db0 _ hxm
   rw [hxv0] at hdb
   have cbl:=Ag cb0
   clear cb0
   obtain⟨Hx,Hm,Hxv0,Hxm,Hrx,HS3,Hdb⟩:=hid7 hx hm hxv0 hxm hrx hS3 hdb;clear hdb hS3 hrx hxm hxv0 hm hx
   go_wp2_with fail
   refine Cy (enS B 14 g0 k (.slice (some ⟨g0,0,none⟩) n n) (.slice ax m cx) 10 (.slice (some ⟨gb,ob,none⟩) n cb) gb (ob+k) v0) 25 (.take 0 (.take 1 (.take 2 (.take 3 (.take 4 (.take 5 (.take 6 (.take 7 (.take 8 (.take 9 (.take 10 (.take 11 (.take 12 (.take 13 (.take 14 (.take 15 (.take 16 (.take 17 (.take 18 (.take 19 (.take 20 (.take 21 (.move 22 (.move 23 (.take 24 (.move 25 .done)))))))))))))))))))))))))) (by kernel_rfl) (by kernel_rfl) ?_ ?_
   ·exact HS3.out
   intro w8 hs8 hk8
   repeat ((first|refine Ai rfl (by rfl) ?_|refine Af rfl (by rfl) ?_|(refine Ah (v:= ?_) rfl (by rfl) ?_ ?_;rotate_left;(· intro w' hSw;unfold enS at hSw;go_simp;(try with_reducible rfl));rotate_right));try simp only [aps])
   refine Ak rfl (fun K hK=> ?_)
   go_simp
   refine hK.out _ _ (by exact hs8.keep (S:=fun _=>False) (Keeps.alloc _ _) (by simp) (by simp) (by simp)) ?_
   clear hK K
   try simp only [aps]
   have hk8a:=hk8.nt (Keeps.alloc w8 (.cells #[.int .i64 v0] 2))
   have h8a:=Hrv.out.keep0 hk8a
   refine Ak rfl (fun K hK=> ?_)
   refine Bt rfl (.tmp 24) (.tmp 33) 32 rfl 0 2 i0 _ 1 8 Tryz.underlying32 Hi.out Hi0.out Hi1.out Hi2.out rfl (by decide) (.slice ax m cx) m _ rfl (Hrx.out.of_keeps hk8a) _ 1 _ rfl (Reads.litAt _ _ _ 1 1 _ (by first|rfl|simp) rfl) (by simp [Value.oneCell']) (by unfold maxLen;omega) (by omega) (Nat.zero_le _) ?_
   intro v9 w9 hown9 hk9 hf9
   obtain⟨a9,c9,rfl,_,_⟩:=Aj hown9
   have hrx8:=Hrx.out.of_keeps hk8a
   have o9:=Ad h8a.o0 hk9 (fun e=>Aq hrx8 h8a.o0 (by decide) e)
   have hsb:¬(Value.slice ax m cx).ownBlock=some B:=fun e=>Aq hrx8 h8a.blk (by decide) e
   have hsg:¬(Value.slice ax m cx).ownBlock=some g0:=fun e=>Aq hrx8 h8a.o0 (by decide) e
   have hsv:¬(Value.slice ax m cx).ownBlock=some gb:=fun e=>(Hdb.out gb e).1 rfl
   have hlen:(Lx++ [v0]).length=m+1:=by rw [List.length_append,Hm.out];rfl
   have hxv:(⟨a9,c9,Lx++ [v0]⟩:SI).v= .slice a9 (m+1) c9:=by simp only [SI.v,hlen]
   have hext:=Hrv.out.ext0 (x':=⟨a9,c9,Lx++ [v0]⟩) Hx.out hk8a (by rw [Hxv0.out];exact hk9) (by rw [hxv];show w9.ownsRow 0 _ 1 _ (Lx++ [v0]).length _;rw [hlen];simpa [i64c] using hown9) rfl (by rw [hxv,Hxv0.out];exact hf9)
   rw [hxv] at hext
   simp only [endSt] at hext
   rw [extL_set Hl0.out hr0.out Hv0.out] at hext
   replace hext:=(show RunV w0 X B t n vt L f0 .nilFunc f2 (endSt s (k+1) k) vl _ _ g0 g1 _ _ vo P _ from hext)
   have of9:=Ab o9 k
   have oc9:w9.cell? ⟨g0,k,none⟩=some (.slice ax m cx):=by rw [←Hxv0.out];exact si_cell o9 Hx.out
   have ol9:=lt_of_block o9
   refine hK.out _ _ (by exact(hs8.keep (S:=fun _=>False) (Keeps.alloc _ _) (by simp) (by simp) (by simp)).keep hk9 hsb hsg hsv) ?_
   clear hK K
   try simp only [aps]
   obtain⟨O9,Hsb,Hsg,Hsv,Hlen,Hxv,Hext,Hown9,Hk9⟩:=hid9 o9 hsb hsg hsv hlen hxv hext hown9 hk9;clear hk9 hown9 hext hxv hlen hsv hsg hsb o9;obtain⟨Hk8a,Hk8,H8a,Hrx8⟩:=hid4 hk8a hk8 h8a hrx8;clear hrx8 h8a hk8 hk8a
   clear hs8 hf9
   repeat ((first|refine Ai rfl (by rfl) ?_|refine Af rfl (by rfl) ?_|(refine Ah (v:= ?_) rfl (by rfl) ?_ ?_;rotate_left;(· intro w' hSw;unfold enS at hSw;go_simp;(try with_reducible rfl));rotate_right));try simp only [aps])
   refine Cr rfl (fun K hK=> ?_)
   go_simp
   refine hK.out _ _ ?_
   clear hK K
   try simp only [aps]
   refine Aw ?_
   clear of9 oc9 ol9 cbl
   obtain⟨W0',hW0'⟩:∃x,x=w9.setCell ⟨g0,k,none⟩ (.slice a9 (m+1) c9):=⟨_,rfl⟩
   rw [←hW0'] at Hext⊢
   clear hW0'
   have Hrv2:=Hext
   clear Hext Hx Hm Hxv0 Hxm Hrx HS3 Hdb
   clear hm1
   obtain⟨⟨ax,cx,Lx⟩,hx⟩:=Av (L:=S1') (k:=k) (by rw [Hrv2.out.n1];exact hlt)
   have hxL:Lx=r1:=by
    have h1:=congrArg (fun l=>l[k]?) Hrv2.out.l1
    simp only [List.getElem?_map,hx,Option.map_some,endSt] at h1
    rw [extL_get Hl1.out hr1.out] at h1
    simpa using h1
   subst hxL
   obtain⟨gb,ob,heb,cb0⟩:=(Reads.Bh Hrv2.out.rts).int (k:= .i64) Hv1.out
   subst heb
   obtain⟨m,hm⟩:∃m,Lx.length=m:=⟨_,rfl⟩
   have hm1:m≤100000:=by rw [←hm];exact hle1.out _ (List.mem_of_getElem? hr1.out)
   have hxv0:(⟨ax,cx,Lx⟩:SI).v= .slice ax m cx:=by simp only [SI.v,hm]
   have hxm:=List.mem_of_getElem? hx
   have hrx:=Hrv2.out.i1 _ hxm
   rw [hxv0] at hrx
   simp only [hm] at hrx
   have hS3:enS B 15 g1 k (.slice (some ⟨g1,0,none⟩) n n) (.slice ax m cx) 13 (.slice (some ⟨gb,ob,none⟩) n cr) gb (ob+k) v1 (W0').drew:=(show enS B 15 g1 k (.slice (some ⟨g1,0,none⟩) n n) (.slice ax m cx) 13 (.slice (some ⟨gb,ob,none⟩) n cr) gb (ob+k) v1 (W0') from⟨Aa Hrv2.out.blk 15,hxv0▸si_cell Hrv2.out.o1 hx,Aa Hrv2.out.blk 13,cb0⟩).keep (S:=fun _=>False) (Keeps.drew _) (by simp) (by simp) (by simp)
   have hdb:=Hrv2.out.db1 _ hxm
   rw [hxv0] at hdb
   have cbl:=Ag cb0
   clear cb0
   obtain⟨Hx,Hm,Hxv0,Hxm,Hrx,HS3,Hdb⟩:=hid7 hx hm hxv0 hxm hrx hS3 hdb;clear hdb hS3 hrx hxm hxv0 hm hx
   go_wp2_with fail
   refine Cy (enS B 15 g1 k (.slice (some ⟨g1,0,none⟩) n n) (.slice ax m cx) 13 (.slice (some ⟨gb,ob,none⟩) n cr) gb (ob+k) v1) 24 (.take 0 (.take 1 (.take 2 (.take 3 (.take 4 (.take 5 (.take 6 (.take 7 (.take 8 (.take 9 (.take 10 (.take 11 (.take 12 (.take 13 (.take 14 (.take 15 (.take 16 (.take 17 (.take 18 (.take 19 (.take 20 (.move 21 (.move 22 (.take 23 (.move 24 .done))))))))))))))))))))))))) (by kernel_rfl) (by kernel_rfl) ?_ ?_
   ·exact HS3.out
   intro w8 hs8 hk8
   repeat ((first|refine Ai rfl (by rfl) ?_|refine Af rfl (by rfl) ?_|(refine Ah (v:= ?_) rfl (by rfl) ?_ ?_;rotate_left;(· intro w' hSw;unfold enS at hSw;go_simp;(try with_reducible rfl));rotate_right));try simp only [aps])
   refine Ak rfl (fun K hK=> ?_)
   go_simp
   refine hK.out _ _ (by exact hs8.keep (S:=fun _=>False) (Keeps.alloc _ _) (by simp) (by simp) (by simp)) ?_
   clear hK K
   try simp only [aps]
   have hk8a:=hk8.nt (Keeps.alloc w8 (.cells #[.int .i64 v1] 2))
   have h8a:=Hrv2.out.keep0 hk8a
   refine Ak rfl (fun K hK=> ?_)
   refine Bt rfl (.tmp 49) (.tmp 57) 32 rfl 0 2 i0 _ 1 8 Tryz.underlying32 Hi.out Hi0.out Hi1.out Hi2.out rfl (by decide) (.slice ax m cx) m _ rfl (Hrx.out.of_keeps hk8a) _ 1 _ rfl (Reads.litAt _ _ _ 1 1 _ (by first|rfl|simp) rfl) (by simp [Value.oneCell']) (by unfold maxLen;omega) (by omega) (Nat.zero_le _) ?_
   intro v9 w9 hown9 hk9 hf9
   obtain⟨a9,c9,rfl,_,_⟩:=Aj hown9
   have hrx8:=Hrx.out.of_keeps hk8a
   have o9:=Ad h8a.o1 hk9 (fun e=>Aq hrx8 h8a.o1 (by decide) e)
   have hsb:¬(Value.slice ax m cx).ownBlock=some B:=fun e=>Aq hrx8 h8a.blk (by decide) e
   have hsg:¬(Value.slice ax m cx).ownBlock=some g1:=fun e=>Aq hrx8 h8a.o1 (by decide) e
   have hsv:¬(Value.slice ax m cx).ownBlock=some gb:=fun e=>(Hdb.out gb e).2 rfl
   have hlen:(Lx++ [v1]).length=m+1:=by rw [List.length_append,Hm.out];rfl
   have hxv:(⟨a9,c9,Lx++ [v1]⟩:SI).v= .slice a9 (m+1) c9:=by simp only [SI.v,hlen]
   have hext:=Hrv2.out.ext1 (x':=⟨a9,c9,Lx++ [v1]⟩) Hx.out hk8a (by rw [Hxv0.out];exact hk9) (by rw [hxv];show w9.ownsRow 0 _ 1 _ (Lx++ [v1]).length _;rw [hlen];simpa [i64c] using hown9) rfl (by rw [hxv,Hxv0.out];exact hf9)
   rw [hxv] at hext
   simp only [endSt] at hext
   rw [extL_set Hl1.out hr1.out Hv1.out] at hext
   replace hext:=(show RunV w0 X B t n vt L f0 .nilFunc f2 (endSt s (k+1) (k+1)) vl _ _ g0 g1 _ _ vo P _ from hext)
   have of9:=Ab o9 k
   have oc9:w9.cell? ⟨g1,k,none⟩=some (.slice ax m cx):=by rw [←Hxv0.out];exact si_cell o9 Hx.out
   have ol9:=lt_of_block o9
   refine hK.out _ _ (by exact(hs8.keep (S:=fun _=>False) (Keeps.alloc _ _) (by simp) (by simp) (by simp)).keep hk9 hsb hsg hsv) ?_
   clear hK K
   try simp only [aps]
   obtain⟨O9,Hsb,Hsg,Hsv,Hlen,Hxv,Hext,Hown9,Hk9⟩:=hid9 o9 hsb hsg hsv hlen hxv hext hown9 hk9;clear hk9 hown9 hext hxv hlen hsv hsg hsb o9;obtain⟨Hk8a,Hk8,H8a,Hrx8⟩:=hid4 hk8a hk8 h8a hrx8;clear hrx8 h8a hk8 hk8a
   clear hs8 hf9
   repeat ((first|refine Ai rfl (by rfl) ?_|refine Af rfl (by rfl) ?_|(refine Ah (v:= ?_) rfl (by rfl) ?_ ?_;rotate_left;(· intro w' hSw;unfold enS at hSw;go_simp;(try with_reducible rfl));rotate_right));try simp only [aps])
   refine Cr rfl (fun K hK=> ?_)
   go_simp
   refine hK.out _ _ ?_
   clear hK K
   try simp only [aps]
   refine Aw ?_
   clear of9 oc9 ol9 cbl
   obtain⟨W1',hW1'⟩:∃x,x=w9.setCell ⟨g1,k,none⟩ (.slice a9 (m+1) c9):=⟨_,rfl⟩
   rw [←hW1'] at Hext⊢
   clear hW1'
   go_wp2_with fail
   go_roundw
   case rel=>exact⟨k+1,_,_,by go_num,by omega,Hext.out⟩
   case measure=>simp [intOf];omega
  ·obtain rfl:n=k:=by omega
   have hb18:=Aa hrv.blk 18
   have bl:=lt_of_block hrv.blk
   have hnil:∀w:World,(binOp .neq 119 .nilFunc .nilFunc).run Tryz.prog w= .ok (.bool false) w:=fun _=>by kernel_rfl
   have Hrv:=Lib.hid hrv;clear hrv
   go_wp2
   go_end0
   exact⟨rfl,_,_,Hrv.out⟩
end Go.Proofs.YthffbjldpfionaaGreat
namespace Go.Proofs.YthffbjldpfionaaGreat
open Go.RowKit
section
variable {w0:World} {X:Fx} {B:Nat} {t:Tm} {n:Nat} {vt:Value} {L:List Ev} {f0 f1 f2:Value} {s:St} {vl vb vr:Value} {g0 g1:Nat} {S0 S1:List SI} {vo:Value} {P:List SV} {W W':World}
theorem RunV.upd(h:RunV w0 X B t n vt L f0 f1 f2 s vl vb vr g0 g1 S0 S1 vo P W){W2:World}(hk0:Keeps (fun _=>False) W W2)(hk:Keeps (fun i=>i=B) W2 W'){i':Nat}{day':Int}{p':Ps}{R':List Int}{vb' vr':Value}
  (hb:W'.heap[B]?=some (.cells #[.int .i64 t.limit,vt,.int .i64 t.cyc,.int .i64 t.due,.int .i64 t.minFixed,.int .i64 t.minPart,.int .i64 t.start,vl,.int .i64 (i':Nat),.int .i64 day',vb',.int .i64 p'.cr,.int .i64 p'.du,vr',.slice (some ⟨g0,0,none⟩) n n,.slice (some ⟨g1,0,none⟩) n n,vo,f0,f1,f2] 145 (0,0)))
  (hvb:W2.ownsRow 0 2 1 vb' n (p'.bal.flatMap i64c)) (hvr:W2.ownsRow 0 2 1 vr' n (R'.flatMap i64c)) (hnb:p'.bal.length=n) (hnr:R'.length=n)
  (qb:vb'=vb∨∀b,vb'.ownBlock=some b→W.heap.size≤b) (qr:vr'=vr∨∀b,vr'.ownBlock=some b→W.heap.size≤b):
  RunV w0 X B t n vt L f0 f1 f2 { s with i:=i',day:=day',p:=p',R:=R' } vl vb' vr' g0 g1 S0 S1 vo P W':=by
 have h2:=h.keep0 hk0
 have hne:∀{e:TypeId} {sz m:Nat} {v:Value} {xs:List Value},W2.ownsRow 0 e sz v m xs→145≠e→∀i,v.ownBlock=some i→¬i=B:=fun hr hne i hi e=>by subst e;exact Aq hr h2.blk hne hi
 have nog:∀{g:Nat} {c:Array Value},W2.heap[g]?=some (.cells c 32 (0,0))→¬g=B:=fun hg e=>by
  subst e
  have h1:=h2.blk
  rw [hg] at h1
  exact jZ94
 exact { h2 with
  blk:=hb
  trs:=h2.trs.keeps hk (fun i hi e=>by have e':i=B:=e;have:=(h.wt i hi).1;have:=h.wB.1;omega)
  evs:=hk.row h2.evs (hne h2.evs (by decide))
  bal:=hk.row hvb (hne hvb (by decide))
  rts:=hk.row hvr (hne hvr (by decide))
  o0:=Ad h2.o0 hk (nog h2.o0)
  o1:=Ad h2.o1 hk (nog h2.o1)
  i0:=fun x hx=>hk.row (h2.i0 x hx) (hne (h2.i0 x hx) (by decide))
  i1:=fun x hx=>hk.row (h2.i1 x hx) (hne (h2.i1 x hx) (by decide))
  out:=hk.row h2.out (hne h2.out (by decide))
  ln:=fun x hx=>hk.row (h2.ln x hx) (hne (h2.ln x hx) (by decide))
  nb:=hnb
  nr:=hnr
  db0:=fun x hx b hb=>⟨fun e=>by
   rcases qb with rfl|qb
   ·exact(h.db0 x hx b hb).1 e
   ·have:=qb b e;have:=Bu (h.i0 x hx) hb;omega,fun e=>by
   rcases qr with rfl|qr
   ·exact(h.db0 x hx b hb).2 e
   ·have:=qr b e;have:=Bu (h.i0 x hx) hb;omega⟩
  db1:=fun x hx b hb=>⟨fun e=>by
   rcases qb with rfl|qb
   ·exact(h.db1 x hx b hb).1 e
   ·have:=qb b e;have:=Bu (h.i1 x hx) hb;omega,fun e=>by
   rcases qr with rfl|qr
   ·exact(h.db1 x hx b hb).2 e
   ·have:=qr b e;have:=Bu (h.i1 x hx) hb;omega⟩
  wb:=by
   rcases qb with rfl|qb
   ·exact h.wb
   ·exact h.ownN qb
  wr:=by
   rcases qr with rfl|qr
   ·exact h.wr
   ·exact h.ownN qr
  xl:=fun b hb=>Nat.lt_of_lt_of_le (h2.xl b hb) hk.size
  fz:=fun b hb=>(hk.block b (h2.xl b (h2.yx b hb)) (fun e=>by have e':b=B:=e;exact h.wB.2 (e'▸h.yx b hb))).trans (h2.fz b hb)
  kp:=h2.kp.trans (hk.mono fun i _ e=> .inr (by have e':i=B:=e;rw [e'];exact h.wB.1)) }
theorem RunV.setI(h:RunV w0 X B t n vt L f0 f1 f2 s vl vb vr g0 g1 S0 S1 vo P W)(i':Nat):RunV w0 X B t n vt L f0 f1 f2 { s with i:=i' } vl vb vr g0 g1 S0 S1 vo P (W.setCell ⟨B,8,none⟩ (.int .i64 (i':Nat))):=
 h.upd (Keeps.refl _ _) (Keeps.setCell _ _ _ rfl) ((heap_setCell_same _ _ 8 _ _ _ h.blk).trans rfl) h.bal h.rts h.nb h.nr (.inl rfl) (.inl rfl)
theorem RunV.setDay(h:RunV w0 X B t n vt L f0 f1 f2 s vl vb vr g0 g1 S0 S1 vo P W)(d:Int):RunV w0 X B t n vt L f0 f1 f2 { s with day:=d } vl vb vr g0 g1 S0 S1 vo P (W.setCell ⟨B,9,none⟩ (.int .i64 d)):=
 h.upd (Keeps.refl _ _) (Keeps.setCell _ _ _ rfl) ((heap_setCell_same _ _ 9 _ _ _ h.blk).trans rfl) h.bal h.rts h.nb h.nr (.inl rfl) (.inl rfl)
theorem RunV.setP(h:RunV w0 X B t n vt L f0 f1 f2 s vl vb vr g0 g1 S0 S1 vo P W){W2:World}(hk0:Keeps (fun _=>False) W W2){p':Ps}{R':List Int}{vb' vr':Value}
  (hvb:W2.ownsRow 0 2 1 vb' n (p'.bal.flatMap i64c)) (hvr:W2.ownsRow 0 2 1 vr' n (R'.flatMap i64c)) (hnb:p'.bal.length=n) (hnr:R'.length=n)
  (qb:∀b,vb'.ownBlock=some b→W.heap.size≤b) (qr:∀b,vr'.ownBlock=some b→W.heap.size≤b):
  RunV w0 X B t n vt L f0 f1 f2 { s with p:=p',R:=R' } vl vb' vr' g0 g1 S0 S1 vo P ((((W2.setCell ⟨B,10,none⟩ vb').setCell ⟨B,11,none⟩ (.int .i64 p'.cr)).setCell ⟨B,12,none⟩ (.int .i64 p'.du)).setCell ⟨B,13,none⟩ vr'):=by
 have hb2:=(h.keep0 hk0).blk
 have h10:=(heap_setCell_same _ _ 10 _ _ vb' hb2).trans rfl
 have h11:=(heap_setCell_same _ _ 11 _ _ (.int .i64 p'.cr) h10).trans rfl
 have h12:=(heap_setCell_same _ _ 12 _ _ (.int .i64 p'.du) h11).trans rfl
 have h13:=(heap_setCell_same _ _ 13 _ _ vr' h12).trans rfl
 have k:Keeps (fun i=>i=B) W2 ((((W2.setCell ⟨B,10,none⟩ vb').setCell ⟨B,11,none⟩ (.int .i64 p'.cr)).setCell ⟨B,12,none⟩ (.int .i64 p'.du)).setCell ⟨B,13,none⟩ vr'):=
  (((Keeps.setCell (S:=fun i=>i=B) _ _ _ rfl).trans (Keeps.setCell _ _ _ (.inl rfl))).trans (Keeps.setCell _ _ _ (.inl rfl))).trans (Keeps.setCell _ _ _ (.inl rfl))
 exact h.upd hk0 k h13 hvb hvr hnb hnr (.inr qb) (.inr qr)
end
theorem payL_len{B R:List Int}{du a:Int}:(payL B R du a).1.length=B.length:=by
 unfold payL
 simp only [List.length_zipWith,Cj]
 omega
theorem applyR_ok{p:Ps}{R:List Int}{e:Ev}(h:(applyR p R e).2.2=0):(applyR p R e).1.bal.length=p.bal.length∧(applyR p R e).2.1.length=R.length∧(applyR p R e).1.rightB=true∧(∀x∈(applyR p R e).2.1,0≤x∧x≤10000000):=by
 unfold applyR at h⊢
 rcases hm:mayA p R e with _|_
 ·rw [hm,if_neg (by decide)] at h;cases h
 rw [hm,if_pos rfl] at h
 rw [if_pos rfl]
 have hmo:=mayA_ok hm
 by_cases hq:(applyQ p R e).2=0
 ·rw [if_pos hq] at h⊢
  refine⟨?_, ?_, ?_, ?_⟩
  ·show(applyQ p R e).1.bal.length=_
   unfold applyQ at hq⊢
   split at hq
   ·rename_i hk;rw [if_pos hk]
    unfold chargeR at hq⊢
    split at hq
    ·rename_i ha;rw [if_pos ha]
     split at hq
     ·rename_i hr;rw [if_pos hr];simp [chargeP]
     ·cases hq
    ·rename_i ha;exact absurd hq ha
   ·rename_i hk;rw [if_neg hk]
    split at hq
    ·rename_i hk2;rw [if_pos hk2]
     unfold payR at hq⊢
     split at hq
     ·rename_i ha;rw [if_pos ha]
      split at hq
      ·rename_i hr;rw [if_pos hr];simp only [payP,List.length_zipWith,payL_len];omega
      ·cases hq
     ·rename_i ha;exact absurd hq ha
    ·rename_i hk2;rw [if_neg hk2]
     split at hq
     ·rename_i hk3;rw [if_pos hk3]
      unfold giveR at hq⊢
      split at hq
      ·rename_i ha;rw [if_pos ha]
       split at hq
       ·rename_i hr;rw [if_pos hr];simp only [giveP,List.length_zipWith,Cj];omega
       ·cases hq
      ·rename_i ha;exact absurd hq ha
     ·rename_i hk3;rw [if_neg hk3]
  ·show(applyRt R e).length=_
   unfold applyRt;split<;>simp
  ·show(applyQ p R e).1.rightB=true
   unfold applyQ at hq⊢
   split at hq
   ·rename_i hk;rw [if_pos hk]
    unfold chargeR at hq⊢
    exact jZ52
   ·rename_i hk;rw [if_neg hk]
    split at hq
    ·rename_i hk2;rw [if_pos hk2]
     unfold payR at hq⊢
     exact jZ52
    ·rename_i hk2;rw [if_neg hk2]
     split at hq
     ·rename_i hk3;rw [if_pos hk3]
      unfold giveR at hq⊢
      exact jZ52
     ·rename_i hk3;rw [if_neg hk3];exact hmo.pr
  ·show∀x∈applyRt R e,_
   intro x hx
   unfold applyRt at hx
   split at hx
   ·rename_i hk
    rcases List.mem_or_eq_of_mem_set hx with h1|rfl
    ·exact hmo.rt x h1
    ·exact hmo.am hk
   ·exact hmo.rt x hx
 ·rw [if_neg hq] at h;exact absurd h hq
def evR(day:Int):List Ev→Nat→Ps→List Int→Nat×Ps×List Int×Int
 | [],i,p,R=>(i,p,R,0)
 |e::M,i,p,R=>if e.day=day then(if(applyR p R e).2.2=0 then evR day M (i+1) (applyR p R e).1 (applyR p R e).2.1 else(i,p,R,(applyR p R e).2.2)) else(i,p,R,0)
end Go.Proofs.YthffbjldpfionaaGreat
namespace Go.Proofs.YthffbjldpfionaaGreat
open Go.RowKit
def evS(B:Nat)(vl:Value)(i:Int)(day:Int)(W:World):Prop:=W.cell? ⟨B,7,none⟩=some vl∧W.cell? ⟨B,8,none⟩=some (.int .i64 i)∧W.cell? ⟨B,9,none⟩=some (.int .i64 day)
def evS2(B:Nat)(vl:Value)(i:Int)(day:Int)(g o:Nat)(d:Int)(W:World):Prop:=W.cell? ⟨B,7,none⟩=some vl∧W.cell? ⟨B,8,none⟩=some (.int .i64 i)∧W.cell? ⟨B,9,none⟩=some (.int .i64 day)∧W.cell? ⟨g,o,none⟩=some (.int .i64 d)
def evS3(B:Nat)(vl vb vr:Value)(i cr du:Int)(g o:Nat)(ki da tr am re:Int)(W:World):Prop:=W.cell? ⟨B,7,none⟩=some vl∧W.cell? ⟨B,8,none⟩=some (.int .i64 i)∧W.cell? ⟨B,10,none⟩=some vb∧W.cell? ⟨B,11,none⟩=some (.int .i64 cr)∧W.cell? ⟨B,12,none⟩=some (.int .i64 du)∧W.cell? ⟨B,13,none⟩=some vr∧
 W.cell? ⟨g,o,none⟩=some (.int .i64 ki)∧W.cell? ⟨g,o+1,none⟩=some (.int .i64 da)∧W.cell? ⟨g,o+2,none⟩=some (.int .i64 tr)∧W.cell? ⟨g,o+3,none⟩=some (.int .i64 am)∧W.cell? ⟨g,o+4,none⟩=some (.int .i64 re)
theorem evS3.keep{B:Nat}{vl vb vr:Value}{i cr du:Int}{g o:Nat}{ki da tr am re:Int}{W W':World}(h:evS3 B vl vb vr i cr du g o ki da tr am re W)(hk:Keeps (fun _=>False) W W'):evS3 B vl vb vr i cr du g o ki da tr am re W':=by
 obtain⟨h1,h2,h3,h4,h5,h6,h7,h8,h9,h10,h11⟩:=h
 have k:∀{p:Addr} {u:Value},W.cell? p=some u→W'.cell? p=some u:=fun hc=>(hk.cell (Ag hc) (by simp)).trans hc
 exact⟨k h1,k h2,k h3,k h4,k h5,k h6,k h7,k h8,k h9,k h10,k h11⟩
def evSt(s:St)(z:Nat×Ps×List Int×Int):St:={ s with i:=z.1,p:=z.2.1,R:=z.2.2.1 }
end Go.Proofs.YthffbjldpfionaaGreat
