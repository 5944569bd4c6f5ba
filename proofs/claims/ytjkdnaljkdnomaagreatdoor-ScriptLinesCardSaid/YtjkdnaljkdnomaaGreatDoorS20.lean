/- Part 20 of what the laws of this seat share: walks of functions, and plain laws. -/
import Derived.Test.YtjkdnaljkdnomaaGreatDoorS3
import Derived.Test.YtjkdnaljkdnomaaGreatDoorS12
import Derived.Test.YtjkdnaljkdnomaaGreatDoorS16
import Derived.Test.YtjkdnaljkdnomaaGreatDoorS19
set_option maxRecDepth 100000
set_option maxHeartbeats 1600000
namespace Go.Proofs.YtjkdnaljkdnomaaGreatDoor
open Go.RowKit
theorem insEv_end(w:World)(v:Value)(n:Nat)(xs:List Value)(hown:w.ownsRow 0 186 5 v n xs)(news:Array Value)(hn:news.size=5)(h1n:∀u∈news.toList,u.oneCell'=true)(hnb:n<=1000000000000):
  Calls Tryz.prog 136 #[v,.int .i64 n,.slice (some ⟨w.heap.size,0,none⟩) 1 1] (w.alloc (.cells news 186)) λe w'=>∃v',e= .returned v'/\w'.ownsRow 0 186 5 v' (n+1) (xs++news.toList)/\Keeps (λk=>v.ownBlock=some k) w w'/\
   (v'.ownBlock=v.ownBlock\/∃g,v'.ownBlock=some g/\w.heap.size<=g):=by
 obtain⟨i0,hi,hz0,hz1,hz2⟩:=info_parts Jn;rcases hown.2 with⟨rfl,rfl⟩|⟨g,cap,cur,rfl,_,hgc,hncap,hcm,_,_⟩
 ·obtain⟨Hown,H1n,Hn⟩:=hid3 hown h1n hn;clear hn h1n hown;go_enter Tryz.func136,Tryz.ntmps136
  go_wp2_with (at_builtin;refine Am rfl (.tmp 23) (.tmp 24) 170 rfl 0 186 i0 _ 5 40 Tryz.underlying170 hi hz0 hz1 hz2 rfl j7 _ 0 xs rfl (Hown.o.alloc _) _ 1 news.toList rfl (Reads.lit _ _ _ _ _ (by simpa using Hn.o)) H1n.o jd j6 j6 ?_)
  exact j3K
 ·skip
  clear hgc;obtain⟨Hown,H1n,Hn⟩:=hid3 hown h1n hn;clear hn h1n hown;by_cases hc:cap=n
  ·subst hc;exact j3L
  ·exact j3L
theorem Ad9(w:World)(g i n:Nat)(xs:List Value)(hown:w.ownsRow 0 186 5 (.slice (some ⟨g,0,none⟩) n n) n xs)(hin:i<n)(news:Array Value)(hn:news.size=5)(h1n:∀u∈news.toList,u.oneCell'=true)(h1x:∀u∈xs,u.oneCell'=true)(hnb:n<=1000000000000):
  Calls Tryz.prog 136 #[.slice (some ⟨g,0,none⟩) n n,.int .i64 i,.slice (some ⟨w.heap.size,0,none⟩) 1 1] (w.alloc (.cells news 186)) λe w'=>∃v',e= .returned v'/\w'.ownsRow 0 186 5 v' (n+1) (xs.take (i*5)++news.toList++xs.drop (i*5))/\
   K0 w w'/\∃g,v'.ownBlock=some g/\w.heap.size<=g:=by
 obtain⟨i0,hi,hz0,hz1,hz2⟩:=info_parts Jn;have hsz:(Tryz.prog.info? 186).map (·.size)=some 5:=by rw [hi];simp [hz1]
 have hgl:=(hown.lt g rfl).2;have hxl:xs.length=n*5:=hown.1;have hcells:=hown.cells (g:=g) rfl;obtain⟨X1,hX1⟩:=eY (xs.take (i*5));obtain⟨X2,hX2⟩:=eY (xs.drop (i*5));have l1:X1.length=i*5:=by rw [hX1];simp;omega
 have l2:X2.length=(n-i)*5:=by rw [hX2];simp [hxl];omega
 have c1:∀j u,X1[j]?=some u->w.cell? ((⟨g,0,none⟩:Addr).add j)=some u:=λj u hj=>hcells j u (by
  rw [hX1,List.getElem?_take] at hj;split at hj;· exact hj
  ·simp at hj)
 have c2:∀j u,X2[j]?=some u->w.cell? ⟨g,i*5+j,none⟩=some u:=λj u hj=>by
  have:=hcells (i*5+j) u (by rw [hX2,List.getElem?_drop] at hj;exact hj)
  rwa [Ef,Nat.zero_add] at this
 have o2:∀u∈X2,u.oneCell'=true:=λu hu=>h1x u (by rw [hX2] at hu;exact List.mem_of_mem_drop hu);rw [<-hX1,<-hX2]
 have wz:∀(W:World),K0 w W->∀j u,X1[j]?=some u->W.cell? ((⟨g,0,none⟩:Addr).add j)=some u:=λW hW j u hj=>by
  rw [hW.cell (by rw [add_block];exact hgl) (by simp)];exact c1 j u hj
 obtain⟨k,hk⟩:∃k:Nat,k=n+1-i:=⟨_,rfl⟩;have hk1:(n:Int)+1-i=k:=by omega
 have hne2:¬n=i:=by omega
 clear hown;have H1n:=Lib.hid h1n;clear h1n h1x;have Hn:=Lib.hid hn;clear hn hcells hX1 hX2;obtain⟨L1,L2⟩:=hid2 l1 l2;clear l2 l1 c1;obtain⟨C2,O2,Wz,Hk⟩:=hid4 c2 o2 wz hk;clear hk wz o2 c2 hxl;go_enter Tryz.func136,Tryz.ntmps136;have hk2:2<=k/\i+k=n+1/\k<=1000000000001:=by have:=Hk.o;omega
 obtain⟨k2,k3,k4⟩:=hk2;have K3:=Lib.hid k3;clear k3
 go_wp2_with (first
  |(at_builtin;refine Nh rfl (.tmp 34) (.tmp 39) 170 3 rfl 186 i0 _ 5 40 .i64 Tryz.underlying170 Tryz.underlying3 hi hz0 hz1 hz2 rfl (by decide) ⟨g,0,none⟩ i n X1 k rfl rfl L1.o (Wz.o _ (Keeps.alloc _ _)) (by omega) (by have:=K3.o;omega) (by have:=K3.o;omega) (by decide) ?_;intro G Z w1 hG hGm hZ hrow hkp;have hbox:=Ad (heap_alloc_new w (.cells news 186)) hkp (by simp);have Hbox:=Lib.hid hbox;have Hrow:=Lib.hid hrow;have Hkp:=Lib.hid hkp;have HZ:=Lib.hid hZ;have hGi:¬G=i:=(by omega);have hGi1:¬G=i+1:=(by omega);clear hrow hkp hZ hbox)
  |(with_reducible refine Cx rfl (.tmp 43) (.tmp 44) 170 170 rfl 186 5 Tryz.underlying170 hsz (w.heap.size+1) (i*5) k (G-i) ⟨w.heap.size,0,none⟩ 1 1 rfl rfl (X1++Z) 186 (by simpa using Hrow.o) news.toList 1 (Nat.min_eq_left (by omega)) (by rw [Array.length_toList,Hn.o]) (λj u hj=>by rw [Ef,Nat.zero_add,Aa Hbox.o];simpa using hj) (by simp only [List.length_append,Array.length_toList,L1.o,HZ.o,Hn.o];omega) H1n.o ?_;intro w2 hrow2 hkp2;have Hrow2:=Lib.hid hrow2;have Hkp2:=Lib.hid hkp2;clear hrow2 hkp2))
 go_frame
 have hw1:IntKind.i64.wrap ((i:Int)+1)=(i:Int)+1:=IntWalk.i64_in _ (by omega);have hw2:(0:Int)<=(i:Int)+1:=by omega
 have hw3:((i:Int)+1).toNat=i+1:=by omega
 have hw4:(i:Int)+1<=(i:Int)+k:=by omega
 have hw5:(i:Int)<=n:=by omega
 have hk0:Keeps (λk=>w.heap.size<=k) w w2:=((Keeps.alloc _ _).trans (Hkp.o.mono (by simp))).trans (Hkp2.o.mono λk _ h=>by subst h;left;simp)
 have hs2:∀j u,X2[j]?=some u->w2.drew.cell? ((⟨g,i*5,none⟩:Addr).add j)=some u:=λj u hj=>by
  rw [Ef];exact(hk0.cell (p:=⟨g,i*5+j,none⟩) hgl (by simpa using hgl)).trans (C2.o j u hj)
 have hf2:(i+1)*5+X2.length<=(laid (X1++Z) (i*5) news.toList).length:=by
  rw [Fv _ _ _ (by simp only [List.length_append,Array.length_toList,L1.o,HZ.o,Hn.o];omega)];have:=K3.o;simp only [List.length_append,L1.o,HZ.o,L2.o];omega
 have hm2:Nat.min (n-i) (i+k-(i+1))=n-i:=Nat.min_eq_left (by have:=K3.o;omega)
 have hfin:∀w3:World,w3.heap[w.heap.size+1]?=some (.cells (laid (laid (X1++Z) (i*5) news.toList) ((i+1)*5) X2).toArray 186 (0,0))->Keeps (λk=>k=w.heap.size+1) w2.drew w3->
   w3.ownsRow 0 186 5 (.slice (some ⟨w.heap.size+1,0,none⟩) (n+1) G) (n+1) (X1++news.toList++X2)/\K0 w w3:=λw3 hr3 hk3=>by
  have hz2:5+X2.length<=Z.length:=by rw [L2.o,HZ.o];have:=K3.o;omega
  refine⟨⟨?_,.inr ⟨w.heap.size+1,G,_,rfl,Nat.zero_le _,hr3,by have:=K3.o;omega,hGm, ?_, ?_⟩⟩,(hk0.trans ((Keeps.drew _).trans (hk3.mono λk _ h=>by subst h;left;left;omega))).mono ?_⟩
  ·simp only [List.length_append,Array.length_toList,L1.o,L2.o,Hn.o];omega
  ·rw [List.size_toArray,Fv _ _ _ hf2,Fv _ _ _ (by simp only [List.length_append,Array.length_toList,L1.o,HZ.o,Hn.o];omega)];simp only [List.length_append,L1.o,HZ.o];have:=K3.o;omega
  ·have:=ins_grow (X1:=X1) (X2:=X2) (Z:=Z) (N:=news.toList) (a:=i*5) (b:=(n-i)*5) (s:=5) L1.o L2.o (by simpa using Hn.o) (by rw [<-L2.o];exact hz2) (X1++Z) _ rfl rfl;simp only [laid];rw [show(n+1)*5=i*5+5+(n-i)*5 by omega,show(i+1)*5=i*5+5 by omega];exact this
  ·intro k hk h;omega
 clear hk0;obtain⟨Hs2,Hf2,Hm2,Hfin⟩:=hid4 hs2 hf2 hm2 hfin;clear hfin hm2 hf2 hs2
 go_region_law (refine Dp rfl (.tmp 50) (.tmp 53) 170 170 rfl 186 5 Tryz.underlying170 hsz (w.heap.size+1) ((i+1)*5) (i+k-(i+1)) (G-(i+1)) ⟨g,i*5,none⟩ (n-i) (n-i) (by simp [Act.eval,Act.put]) (by simp [Act.eval,Act.put]) _ 186 Hrow2.o X2 (n-i) Hm2.o L2.o Hs2.o Hf2.o O2.o ?_;intro w3 hr3 hk3;have Hend:=Lib.hid (Hfin.o w3 hr3 hk3);clear hr3 hk3)
 go_wp2;go_ret;exact⟨_,rfl,by show World.ownsRow _ _ _ _ (Value.slice _ (i+k) G) _ _;rw [K3.o];exact Hend.o.1,Hend.o.2,w.heap.size+1,rfl,by omega⟩
theorem Ad8(w:World)(g i n cap:Nat)(xs:List Value)(hown:w.ownsRow 0 186 5 (.slice (some ⟨g,0,none⟩) n cap) n xs)(hin:i<n)(hroom:n+1<=cap)(news:Array Value)(hn:news.size=5)(h1n:∀u∈news.toList,u.oneCell'=true)(h1x:∀u∈xs,u.oneCell'=true)(hnb:n<=1000000000000):
  Calls Tryz.prog 136 #[.slice (some ⟨g,0,none⟩) n cap,.int .i64 i,.slice (some ⟨w.heap.size,0,none⟩) 1 1] (w.alloc (.cells news 186)) λe w'=>e= .returned (.slice (some ⟨g,0,none⟩) (n+1) cap)/\w'.ownsRow 0 186 5 (.slice (some ⟨g,0,none⟩) (n+1) cap) (n+1) (xs.take (i*5)++news.toList++xs.drop (i*5))/\
   Keeps (λk=>k=g) w w':=by
 obtain⟨i0,hi,hz0,hz1,hz2⟩:=info_parts Jn;have hsz:(Tryz.prog.info? 186).map (·.size)=some 5:=by rw [hi];simp [hz1]
 have hgl:=(hown.lt g rfl).2
 obtain⟨cur,hgc,hcm,hcs,htk⟩:∃cur:List Value,w.heap[g]?=some (.cells cur.toArray 186 (0,0))/\cap<=maxLen/\cur.length=cap*5/\cur.take (n*5)=xs:=by
  rcases hown.2 with⟨h,_⟩|⟨g',cap',cur,h,_,hh,_,h1,h2,h3⟩
  ·simp at h
  ·simp only [Value.slice.injEq,Option.some.injEq,Addr.mk.injEq,and_true,true_and] at h;obtain⟨rfl,rfl⟩:=h;exact⟨cur.toList,by simpa using hh,h1,by simpa using h2,h3⟩
 have hxl:xs.length=n*5:=hown.1;obtain⟨X1,hX1⟩:=eY (xs.take (i*5));obtain⟨X2,hX2⟩:=eY (xs.drop (i*5));obtain⟨Z,hZ⟩:=eY (cur.drop (n*5));have l1:X1.length=i*5:=by rw [hX1];simp;omega
 have l2:X2.length=(n-i)*5:=by rw [hX2];simp [hxl];omega
 have lz:5<=Z.length:=by rw [hZ];simp;omega
 have hcur:cur=X1++(X2++Z):=by
  rw [hX1,hX2,hZ,<-List.append_assoc,List.take_append_drop,<-htk,List.take_append_drop]
 have o2:∀u∈X2,u.oneCell'=true:=λu hu=>h1x u (by rw [hX2] at hu;exact List.mem_of_mem_drop hu)
 have c2:∀j u,X2[j]?=some u->w.cell? ⟨g,i*5+j,none⟩=some u:=λj u hj=>by
  rw [Aa hgc,List.getElem?_toArray,hcur,List.getElem?_append_right j6,l1,show i*5+j-i*5=j by omega,List.getElem?_append_left (Dr hj)];exact hj
 rw [<-hX1,<-hX2];have hbox:(w.alloc (.cells news 186)).heap[w.heap.size]?=some (.cells news 186 (0,0)):=heap_alloc_new w _;have hgc1:(w.alloc (.cells news 186)).heap[g]?=some (.cells cur.toArray 186 (0,0)):=Ap hgc _
 have hov:∀lb cb,(callFunc 156 #[.slice (some ⟨w.heap.size,0,none⟩) 1 1,.slice (some ⟨g,(i+1)*5,none⟩) lb cb]).run Tryz.prog (w.alloc (.cells news 186))= .ok (.value (.bool false)) (w.alloc (.cells news 186)):=λlb cb=>by
  rw [run_callFunc_extern Tryz.func156 j9 j9 j9 (e:=Extern.SlicesOverlaps.overlaps #[170,170] #[4]) j9,
   Lib.run_overlaps_apart (w.alloc (.cells news 186)) 170 4 186 Tryz.underlying170 5 (λw=>by kernel_rfl) ⟨w.heap.size,0,none⟩ ⟨g,(i+1)*5,none⟩ 1 1 lb cb (by show w.heap.size≠g;omega) 186 186 5 (cap*5)
    (by unfold World.shape?;rw [hbox];simp [hn]) (by unfold World.shape?;rw [hgc1];simp [hcs]) (by omega) (by unfold World.frozen?;rw [hbox];simp) (by unfold World.frozen?;rw [hbox];simp)]
  rfl
 have hne3:¬cap=i:=j8;have hne4:¬cap=i+1:=j8;unfold maxLen at hcm;clear hown;have H1n:=Lib.hid h1n;clear h1n h1x;have Hn:=Lib.hid hn;clear hn hX1 hX2 hZ;obtain⟨L1,L2,Lz,O2,C2,Hcur⟩:=hid6 l1 l2 lz o2 c2 hcur;clear hcur c2 o2 lz l2 l1 htk hxl;obtain⟨Hcs,Hbox⟩:=hid2 hcs hbox;clear hbox hcs hgc;have Hgc1:=Lib.hid hgc1;clear hgc1;go_enter Tryz.func136,Tryz.ntmps136
 go_wp2_with (simp only [hov])
 have hw1:IntKind.i64.wrap ((i:Int)+1)=(i:Int)+1:=IntWalk.i64_in _ j6;have hw2:(0:Int)<=(i:Int)+1:=j8;have hw3:((i:Int)+1).toNat=i+1:=j8;have hw4:(i:Int)+1<=(n:Int)+1:=j8;have hw5:(i:Int)<=(n:Int)+1:=j8;have lcur:cur.length=i*5+((n-i)*5+Z.length):=by rw [Hcur.o];simp only [List.length_append,L1.o,L2.o]
 have hs2:∀j u,X2[j]?=some u->(w.alloc (.cells news 186)).drew.cell? ((⟨g,i*5,none⟩:Addr).add j)=some u:=λj u hj=>by
  rw [Ef];exact((Keeps.alloc (S:=λ_=>False) w (.cells news 186)).cell (p:=⟨g,i*5+j,none⟩) hgl (by simp)).trans (C2.o j u hj)
 have hf2:(i+1)*5+X2.length<=cur.length:=by rw [lcur,L2.o];have:=Lz.o;omega
 have hm2:Nat.min (n+1-i) (n+1-(i+1))=n-i:=(Nat.min_eq_right j6).trans j6
 have hf3:i*5+news.toList.length<=(laid cur ((i+1)*5) X2).length:=by
  rw [Fv _ _ _ hf2,lcur,Array.length_toList,Hn.o];have:=Lz.o;omega
 have hfin:∀w2 w3:World,Keeps (λk=>k=g) (w.alloc (.cells news 186)).drew w2->w3.heap[g]?=some (.cells (laid (laid cur ((i+1)*5) X2) (i*5) news.toList).toArray 186 (0,0))->Keeps (λk=>k=g) w2 w3->
  w3.ownsRow 0 186 5 (.slice (some ⟨g,0,none⟩) (n+1) cap) (n+1) (X1++news.toList++X2)/\Keeps (λk=>k=g) w w3:=λw2 w3 hk2 hr3 hk3=>by
  refine⟨⟨?_,.inr ⟨g,cap,_,rfl,Nat.zero_le _,hr3,hroom,by unfold maxLen;exact hcm, ?_, ?_⟩⟩,(((Keeps.alloc _ _).trans (Keeps.drew _)).trans (hk2.mono λ_ _ h=> .inl h)).trans (hk3.mono λ_ _ h=> .inl h)⟩
  ·simp only [List.length_append,Array.length_toList,L1.o,L2.o,Hn.o];omega
  ·rw [List.size_toArray,Fv _ _ _ hf3,Fv _ _ _ hf2];exact Hcs.o
  ·have:=ins_room (X1:=X1) (X2:=X2) (Z:=Z) (N:=news.toList) (a:=i*5) (b:=(n-i)*5) (s:=5) L1.o L2.o (by simpa using Hn.o) Lz.o cur _ Hcur.o rfl;simp only [laid];rw [show(n+1)*5=i*5+5+(n-i)*5 by omega,show(i+1)*5=i*5+5 by omega];exact this
 have hbx:∀w2:World,Keeps (λk=>k=g) (w.alloc (.cells news 186)).drew w2->w2.heap[w.heap.size]?=some (.cells news 186 (0,0)):=λw2 hk2=>Ad (w:=(w.alloc (.cells news 186)).drew) Hbox.o hk2 j6;obtain⟨Hs2,Hf2,Hm2,Hf3,Hfin,Hbx⟩:=hid6 hs2 hf2 hm2 hf3 hfin hbx;clear hbx hfin hf3 hm2 hf2 hs2 lcur;clear hov
 go_region_law (refine Dp rfl (.tmp 73) (.tmp 76) 170 170 rfl 186 5 Tryz.underlying170 hsz g ((i+1)*5) (n+1-(i+1)) (cap-(i+1)) ⟨g,i*5,none⟩ (n+1-i) (cap-i) (by simp [Act.eval,Act.put]) (by simp [Act.eval,Act.put]) cur 186 Hgc1.o X2 (n-i) Hm2.o L2.o Hs2.o Hf2.o O2.o ?_;intro w2 hr2 hk2;have Hr2:=Lib.hid hr2;have Hk2:=Lib.hid hk2;have Hb2:=Lib.hid (Hbx.o w2 hk2);clear hr2 hk2)
 go_wp2_with (with_reducible refine Cx rfl (.tmp 80) (.tmp 81) 170 170 rfl 186 5 Tryz.underlying170 hsz g (i*5) (n+1-i) (cap-i) ⟨w.heap.size,0,none⟩ 1 1 rfl rfl _ 186 Hr2.o news.toList 1 (Nat.min_eq_left j6) (by rw [Array.length_toList,Hn.o]) (λj u hj=>by rw [Ef,Nat.zero_add,Aa Hb2.o];simpa using hj) Hf3.o H1n.o ?_;intro w3 hr3 hk3;have Hend:=Lib.hid (Hfin.o w2 w3 Hk2.o hr3 hk3);clear hr3 hk3)
 go_wp2;go_ret;exact⟨rfl,Hend.o⟩
theorem insEv_any(w:World)(v:Value)(i n:Nat)(xs:List Value)(hown:w.ownsRow 0 186 5 v n xs)(hin:i<=n)(news:Array Value)(hn:news.size=5)(h1n:∀u∈news.toList,u.oneCell'=true)(h1x:∀u∈xs,u.oneCell'=true)(hnb:n<=1000000000000):
  Calls Tryz.prog 136 #[v,.int .i64 i,.slice (some ⟨w.heap.size,0,none⟩) 1 1] (w.alloc (.cells news 186)) λe w'=>∃v',e= .returned v'/\w'.ownsRow 0 186 5 v' (n+1) (xs.take (i*5)++news.toList++xs.drop (i*5))/\
   Keeps (λk=>v.ownBlock=some k) w w'/\(v'.ownBlock=v.ownBlock\/∃g,v'.ownBlock=some g/\w.heap.size<=g):=by
 have hxl:=hown.1;by_cases h:i=n
 ·subst h;rw [List.take_of_length_le j6,List.drop_of_length_le j6,List.append_nil];exact insEv_end w v i xs hown news hn h1n hnb
 ·obtain⟨g,cap,rfl,hg⟩:=Ey hown j6
  have hnc:n<=cap:=by
   obtain⟨ad,c,he,h,_⟩:=Ae hown;injection he with _ _ e;omega
  by_cases hr:n+1<=cap
  ·refine(Ad8 w g i n cap xs hown j6 hr news hn h1n h1x hnb).mono ?_;rintro e w' ⟨rfl,h1,h2⟩;exact⟨_,rfl,h1,h2.mono λk _ hk=>by subst hk;rfl,.inl rfl⟩
  ·obtain rfl:n=cap:=by omega
   refine(Ad9 w g i n xs hown j6 news hn h1n h1x hnb).mono ?_;rintro e w' ⟨v',rfl,h1,h2,h3⟩;exact⟨v',rfl,h1,h2.mono (by simp),.inr h3⟩
theorem Qb:(Tryz.prog.info? 39).map (λi=>(i.zero,i.size,i.bytes))=some (some (.agg #[.int .i64 0,.bool false]),2,16):=by kernel_rfl
theorem Sd(w:World)(v:Value)(n:Nat)(xs:List Value)(hr:Reads w 2 v n xs)(h1:∀u∈xs,u.oneCell'=true)(hn:n<=1000000000000):
  Calls Tryz.prog 49 #[v] w λe w'=>∃v',e= .returned v'/\w'.ownsRow 0 39 2 v' n xs/\K0 w w'/\(∀k,v'.ownBlock=some k->w.heap.size<=k):=by
 obtain⟨i0,hi,hz0,hz1,hz2⟩:=info_parts Qb;have hr':=hr;obtain⟨ad,c,rfl,hnc,hl,hnone,hcells⟩:=hr';clear hcells;have heq:=fun(wx:World) (ad:Option Addr) (l c:Nat)=>Lib.run_eql_slice_nil (P:=Tryz.prog) wx 24 _ ad l c 0 0 Tryz.underlying24;rcases ad with _|a
 ·obtain rfl:=hnone rfl;obtain rfl:n=0:=by omega
  obtain rfl:xs= []:=List.eq_nil_of_length_eq_zero jL;clear hr;go_enter Tryz.func49,Tryz.ntmps49;exact jW
 ·have Hr:=Lib.hid hr;clear hr;clear hl hnone;have H1:=Lib.hid h1;clear h1;go_enter Tryz.func49,Tryz.ntmps49
  go_wp2_with (at_builtin;refine Am rfl (.tmp 5) (.tmp 6) 24 rfl 0 39 i0 _ 2 16 Tryz.underlying24 hi hz0 hz1 hz2 rfl j7 _ 0 [] rfl (World.ownsRow_lit w #[] 0 j6 jd rfl) _ n xs rfl (Hr.o.keeps (Keeps.alloc (S:=λ_=>False) _ _) (by simp)) H1.o jd j6 j6 ?_)
  intro v' w1 hown1 hk1 hfr
  have hend:w1.ownsRow 0 39 2 v' n xs/\K0 w w1/\(∀k,v'.ownBlock=some k->w.heap.size<=k):=by
   exact jX
  exact jY
structure DL(W:World)(B:Nat)(t:Tm)(vt:Value)(L:List Ev)(v:Value):Prop where
 blk:W.heap[B]?=some (.cells #[.int .i64 t.limit,vt,.int .i64 t.cyc,.int .i64 t.due,.int .i64 t.minFixed,.int .i64 t.minPart,.int .i64 t.start,v] 172 (0,0))
 trs:W.ownsRow 0 39 2 vt t.trs.length (t.trs.flatMap Tn.cells)
 row:W.ownsRow 0 186 5 v L.length (L.flatMap Ev.cells)
theorem halloc_at(w:World)(o:Obj){i:Nat}(h:i=w.heap.size):(w.alloc o).heap[i]?=some o:=by subst h;exact heap_alloc_new w o
def NewPost(t:Tm)(w:World)(e:Ending)(w':World):Prop:=∃B vt,e= .returned (.pointer (some ⟨B,0,none⟩))/\DL w' B t vt [] (.slice none 0 0)/\K0 w w'/\w.heap.size<=B/\(∀g,vt.ownBlock=some g->w.heap.size<=g)
theorem Ads(t:Tm)(v:Value)(w:World)(hr:Reads w 2 v t.trs.length (t.trs.flatMap Tn.cells))(hl:t.trs.length<=1000000):
  Calls Tryz.prog 50 #[t.val v] w (NewPost t w):=by
 simp only [Tm.val];have Hr:=Lib.hid hr;clear hr;go_enter Tryz.func50,Tryz.ntmps50;go_wp2_with fail;refine(Sd _ v t.trs.length _ (Hr.o.keeps (S:=λ_=>False) jg (by simp)) (λu hu=>Tn.one _ u hu) j6).mono ?_;rintro e w1 ⟨vt,rfl,hrow,hk1,hnew⟩;have hb:=Nc hk1 (by simp);have b0:=Aa hb 0;have b1:=Aa hb 1;have b2:=Aa hb 2;have b3:=Aa hb 3;have b4:=Aa hb 4;have b5:=Aa hb 5;have b6:=Aa hb 6;have f1:=Ab hb 1;have lb:=lt_of_block hb;simp at hnew;have hrow2:=(Keeps.setCell (S:=λi=>i=w.heap.size) w1 ⟨w.heap.size,1,none⟩ vt rfl).row hrow (λg hg e=>by have:=hnew g hg;omega);obtain⟨adt,ct,rfl,_,_⟩:=Ae hrow;clear hrow;obtain⟨Hk1,Hnew⟩:=hid2 hk1 hnew;clear hnew hk1 hb;have Hrow2:=Lib.hid hrow2;clear hrow2;go_wp2_with fail;go_ret;exact⟨_,_,rfl,⟨halloc_at _ _ (by simp),Hrow2.o.alloc _,World.ownsRow_nil _ _ _ _⟩,((Keeps.nt jg Hk1.o).trans (Keeps.setCell _ _ _ (.inr (Nat.le_refl _)))).trans (Keeps.alloc _ _),by omega,λg hg=>by have:=Hnew.o g hg;omega⟩
def plFr(v:Value)(day:Int)(n:Nat)(u:Nat->Value):Act:={ tmps:= #[v,.int .i64 day,u 2,u 3,u 4,.int .i64 n,u 6,u 7,u 8,u 9,u 10,u 11,u 12,u 13,u 14,u 15,u 16,u 17,u 18,u 19,u 20,u 21,u 22],defers:= [] }
def plJ(w:World)(v:Value)(day:Int)(L:List Ev)(a':Act)(W:World):Prop:=∃(n:Nat) (u:Nat->Value),a'=plFr v day n u/\W=w/\n<=L.length/\placeOf day L L.length=placeOf day L n
theorem plJ.mk{w W:World}{v:Value}{day:Int}{L:List Ev}{a':Act}(n:Nat)(h:a'=plFr v day n (λi=>a'.tmps.getD i undef))(hw:W=w)(hn:n<=L.length)(hp:placeOf day L L.length=placeOf day L n):plJ w v day L a' W:=⟨n,_,h,hw,hn,hp⟩
def Aad(i:Nat)(a':Act):Nat:=match a'.tmps.getD i undef with| .int _ n=>n.toNat|_=>0
theorem Zi(day:Int)(L:List Ev)(ad:Option Addr)(cap:Nat)(w:World)(hr:Reads w 5 (.slice ad L.length cap) L.length (L.flatMap Ev.cells))(hl:L.length<=1000000):
  Calls Tryz.prog 137 #[.slice ad L.length cap,.int .i64 day] w λe w'=>e= .returned (.int .i64 (placeOf day L L.length:Nat))/\w=w':=by
 obtain⟨m,hm⟩:=eX L.length;obtain⟨r,hrr⟩:=eX (placeOf day L L.length);rw [hrr];rw [hm] at hr hl hrr⊢;obtain⟨Hr,Hm,Hrr⟩:=hid3 hr hm hrr;clear hrr hm hr;go_enter Tryz.func137,Tryz.ntmps137;go_wp2;refine Dl 0 (plJ w (.slice ad m cap) day L) (λa' _=>Aad 5 a') rfl ?_ ?_
 ·rintro a' W ⟨n,u,rfl,rfl,hn,hp⟩;unfold plFr;rw [Hm.o] at hn hp;rw [Hrr.o] at hp;rcases n with _|n
  ·have h0:placeOf day L 0=0:=by cases L<;>rfl
   obtain⟨Hp,H0⟩:=hid2 hp h0;clear h0 hp;go_wp2;refine Bo ?_;go_ret;exact⟨by rw [Hp.o,H0.o];rfl,rfl⟩
  ·obtain⟨x,hx⟩:=Ar (L:=L) (k:=n) (by rw [Hm.o];omega);obtain⟨xk,xd,xt,xa,xf⟩:=x;obtain⟨g,o,c,he,hc⟩:=Hr.o.elem Ev.Aj hx j7;simp only [Value.slice.injEq,true_and] at he;obtain⟨rfl,rfl⟩:=he;have x1:W.cell? ⟨g,o+n*5+1,none⟩=some (.int .i64 xd):=hc 1 j7;have hp2:placeOf day L (n+1)=if day<xd then placeOf day L n else n+1:=by simp only [placeOf,hx]
   have q1:IntKind.i64.wrap (((n+1:Nat):Int)-1)=(n:Int):=by rw [show((n+1:Nat):Int)-1=(n:Int) by omega];exact IntWalk.i64_in _ ⟨by omega,by omega⟩
   have q3:(n:Int)<(m:Int):=j8;clear hc;by_cases hd:day<xd
   ·rw [hp2,if_pos hd] at hp;have q4:((n:Int)+1)-1=n:=j8;have Hp:=Lib.hid hp;clear hp hp2 hx;go_wp2;go_step3;go_wp2;exact Av ⟨plJ.mk n rfl rfl (by rw [Hm.o];omega) (by rw [Hm.o,Hrr.o];exact Hp.o),by simp [Aad]⟩
   ·rw [hp2,if_neg hd] at hp;have Hp:=Lib.hid hp;clear hp hp2 hx;go_wp2;refine Bo ?_;go_ret;exact⟨by rw [Hp.o];rfl,rfl⟩
 ·refine jM ?_;intro Hfirst;go_wp2;go_step3;rename_i hK;refine jN ?_;exact plJ.mk m rfl rfl (by rw [Hm.o];exact Nat.le_refl _) (by rw [Hm.o])
def Es(t:Tm)(L:List Ev)(e:Ev):Int:=if¬evErr t e=0 then evErr t e else if 2000<=L.length then 14 else 0
def addL(t:Tm)(L:List Ev)(e:Ev):List Ev:=if Es t L e=0 then putL L e else L
theorem DL.keep{W W':World}{B:Nat}{t:Tm}{vt v:Value}{L:List Ev}(h:DL W B t vt L v)(hk:K0 W W'):DL W' B t vt L v:=⟨Ad h.blk hk (by simp),hk.row h.trs (by simp),hk.row h.row (by simp)⟩
def Qo(B:Nat)(t:Tm)(vt v:Value)(L:List Ev)(e:Ev)(w:World)(x:Ending)(w':World):Prop:=
 x= .returned (.int .i64 (Es t L e))/\∃v',DL w' B t vt (addL t L e) v'/\Keeps (λi=>i=B\/v.ownBlock=some i) w w'/\(v'.ownBlock=v.ownBlock\/∃g,v'.ownBlock=some g/\w.heap.size<=g)
def adS(B E:Nat)(li cy du mf mp st:Int)(vt v:Value)(ki da tr am re:Int)(w:World):Prop:=
 w.cell? ⟨B,0,none⟩=some (.int .i64 li)/\w.cell? ⟨B,1,none⟩=some vt/\w.cell? ⟨B,2,none⟩=some (.int .i64 cy)/\w.cell? ⟨B,3,none⟩=some (.int .i64 du)/\w.cell? ⟨B,4,none⟩=some (.int .i64 mf)/\w.cell? ⟨B,5,none⟩=some (.int .i64 mp)/\w.cell? ⟨B,6,none⟩=some (.int .i64 st)/\w.cell? ⟨B,7,none⟩=some v/\
 w.cell? ⟨E,0,none⟩=some (.int .i64 ki)/\w.cell? ⟨E,1,none⟩=some (.int .i64 da)/\w.cell? ⟨E,2,none⟩=some (.int .i64 tr)/\w.cell? ⟨E,3,none⟩=some (.int .i64 am)/\w.cell? ⟨E,4,none⟩=some (.int .i64 re)
theorem adS.of{B E:Nat}{li cy du mf mp st:Int}{vt v:Value}{ki da tr am re:Int}{w:World}(hb:w.heap[B]?=some (.cells #[.int .i64 li,vt,.int .i64 cy,.int .i64 du,.int .i64 mf,.int .i64 mp,.int .i64 st,v] 172 (0,0)))(he:w.heap[E]?=some (.cells #[.int .i64 ki,.int .i64 da,.int .i64 tr,.int .i64 am,.int .i64 re] 186 (0,0))):adS B E li cy du mf mp st vt v ki da tr am re w:=
 ⟨Aa hb 0,Aa hb 1,Aa hb 2,Aa hb 3,Aa hb 4,Aa hb 5,Aa hb 6,Aa hb 7,Aa he 0,Aa he 1,Aa he 2,Aa he 3,Aa he 4⟩
theorem adS.keep{B E:Nat}{li cy du mf mp st:Int}{vt v:Value}{ki da tr am re:Int}{w w':World}(h:adS B E li cy du mf mp st vt v ki da tr am re w){S:Nat->Prop}(hk:Keeps S w w')(hB:¬S B)(hE:¬S E):adS B E li cy du mf mp st vt v ki da tr am re w':=by
 obtain⟨h0,h1,h2,h3,h4,h5,h6,h7,e0,e1,e2,e3,e4⟩:=h
 exact⟨(hk.cell (Ai h0) hB).trans h0,(hk.cell (Ai h1) hB).trans h1,(hk.cell (Ai h2) hB).trans h2,(hk.cell (Ai h3) hB).trans h3,(hk.cell (Ai h4) hB).trans h4,(hk.cell (Ai h5) hB).trans h5,(hk.cell (Ai h6) hB).trans h6,(hk.cell (Ai h7) hB).trans h7,
  (hk.cell (Ai e0) hE).trans e0,(hk.cell (Ai e1) hE).trans e1,(hk.cell (Ai e2) hE).trans e2,(hk.cell (Ai e3) hE).trans e3,(hk.cell (Ai e4) hE).trans e4⟩
theorem Qo.none{B:Nat}{t:Tm}{vt v:Value}{L:List Ev}{e:Ev}{w w':World}(h:DL w B t vt L v){z:Int}(hz:Es t L e=z)(h0:z≠0)(hk:K0 w w'):Qo B t vt v L e w (.returned (.int .i64 z)) w':=by
 refine⟨by rw [hz],v, ?_,hk.mono (by simp),.inl rfl⟩;unfold addL;rw [if_neg (by rw [hz];exact h0)];exact h.keep hk
theorem Adt(B:Nat)(t:Tm)(vt v:Value)(L:List Ev)(e:Ev)(w:World)(h:DL w B t vt L v)(hl:L.length<=1000000)(ht:t.trs.length<=1000000):Calls Tryz.prog 116 #[(.pointer (some ⟨B,0,none⟩)),e.agg] w (Qo B t vt v L e w):=by
 have hno:=fun(z:Int) (W:World) (hz:Es t L e=z) (h0:z≠0) hk=>Qo.none (w':=W) h hz h0 hk;obtain⟨z,hz⟩:=eX (evErr t e);have hev0:=λW (hW:K0 w W) ad c (hvt:vt= .slice ad t.trs.length c)=>Rw t e ad c W (Reads.Bg (by rw [<-hvt];exact h.trs.of_keeps hW)) ht;obtain⟨p,hp⟩:=eX (placeOf e.day L L.length);have hpl0:=λW (hW:K0 w W) ad c (hv:v= .slice ad L.length c)=>Zi e.day L ad c W (Reads.Bg (by rw [<-hv];exact h.row.of_keeps hW)) hl;have hpn:p<=L.length:=by rw [<-hp];exact Ko _ _ _
 have hput:putL L e=L.take p++ [e]++L.drop p:=by unfold putL;rw [hp]
 have hadd:Es t L e=if¬z=0 then z else if 2000<=L.length then 14 else 0:=by unfold Es;rw [hz]
 simp only [hz,hp] at hev0 hpl0;have hins0:=λW (hW:K0 w W)=>insEv_any W v p L.length (L.flatMap Ev.cells) (h.row.of_keeps hW) hpn e.cells.toArray (by simp [Ev.cells]) (by intro u hu;exact Ev.one [e] u (by simpa using hu)) (Ev.one L) (by omega);obtain⟨hblk,htrs,hrow⟩:=h;have hBv:=Ah hrow hblk (by decide);have hBt:=Ah htrs hblk (by decide);obtain⟨adt,ct,hvt,_,_⟩:=Ae htrs;obtain⟨ad,cap,hvs,hcap,_⟩:=Ae hrow;have hev:=λW hW=>hev0 W hW adt ct hvt;have hpl:=λW hW=>hpl0 W hW ad cap hvs
 have hall:∀v' w',Es t L e=0->w'.ownsRow 0 186 5 v' (L.length+1) ((L.flatMap Ev.cells).take (p*5)++e.cells++(L.flatMap Ev.cells).drop (p*5))->Keeps (λi=>v.ownBlock=some i) w w'->(v'.ownBlock=v.ownBlock\/∃g,v'.ownBlock=some g/\w.heap.size<=g)->
   Qo B t vt v L e w (.returned (.int .i64 0)) (w'.setCell ⟨B,7,none⟩ v'):=λv' w' h0 ho hk hf=>by
  have hb':=Ad hblk hk hBv;have ht':=hk.row htrs (λg hg e'=>Fj htrs hrow (by decide) hg e');have hbl:=lt_of_block hblk
  have nB:v'.ownBlock≠some B:=λe'=>by
   rcases hf with h1|⟨g,h1,h2⟩
   ·exact hBv (by rw [<-h1];exact e')
   ·rw [h1] at e';simp only [Option.some.injEq] at e';omega
  refine⟨by rw [h0],v',⟨?_, ?_, ?_⟩,(hk.mono λi _ e'=> .inr e').trans (Keeps.setCell _ _ _ (.inl (.inl rfl))),hf⟩
  ·rw [heap_setCell_same _ _ 7 _ _ v' hb'];rfl
  ·exact(Keeps.setCell (S:=λi=>i=B) w' ⟨B,7,none⟩ v' rfl).row ht' (λg hg e'=>hBt (by rw [hg,e']))
  ·unfold addL;rw [if_pos h0,Lu,hput,List.flatMap_append,List.flatMap_append,<-Kt Ev.Aj,<-Pg Ev.Aj];exact(Keeps.setCell (S:=λi=>i=B) w' ⟨B,7,none⟩ v' rfl).row (by simpa using ho) (λg hg e'=>nB (by rw [hg,e']))
 obtain⟨n,hn⟩:=eX L.length;obtain⟨nt,hnt⟩:=eX t.trs.length;rw [hn] at hvs hpl hins0 hall hpn hcap hl hadd;rw [hnt] at hvt hev;obtain⟨li,cy,du,mf,mp,st,T⟩:=t;obtain⟨ki,da,tr,am,re⟩:=e;subst hvt hvs;simp only [Tm.val,Ev.agg,Ev.cells] at hev hpl hins0 hblk hall⊢;have hbl:=lt_of_block hblk;have hnE:¬(Value.slice ad n cap).ownBlock=some w.heap.size:=λe=>by have:=Ch hrow e;omega
 clear hev0 hpl0 hput hp hn hnt hBt htrs hrow
 have hS:∀W,K0 (w.alloc (.cells #[.int .i64 ki,.int .i64 da,.int .i64 tr,.int .i64 am,.int .i64 re] 186)) W->adS B w.heap.size li cy du mf mp st (.slice adt nt ct) (.slice ad n cap) ki da tr am re W:=λW hW=>
  adS.of (Ad (Ap hblk _) hW (by simp)) (Ad (heap_alloc_new w _) hW (by simp))
 have Hno:=Lib.hid hno;clear hno hz;obtain⟨Hev,Hpl,Hins0,Hall,Hadd,HS,Hblk⟩:=hid7 hev hpl hins0 hall hadd hS hblk;clear hblk hS hadd hall hins0 hpl hev;go_enter Tryz.func116,Tryz.ntmps116;go_wp2_with fail;refine Ak (adS B w.heap.size li cy du mf mp st (.slice adt nt ct) (.slice ad n cap) ki da tr am re) (.take 0 (.take 1 (.take 2 (.take 3 (.take 4 (.move 5 (.take 6 .done))))))) (by kernel_rfl) (by kernel_rfl) ?_ ?_
 ·exact HS.o _ (Keeps.drew _)
 intro w1 hs1 hk1;refine jR ?_;refine Ag rfl (λK hK=> ?_);go_simp
 go_at_call 126
 ((with_reducible refine(Hev.o _ ((Keeps.alloc _ _).trans (hk1.mono (by simp)))).mono ?_);rintro e w2 ⟨rfl,hk2⟩;dsimp only)
 refine hK.out _ _ (by exact adS.keep hs1 hk2 (by simp) (by simp)) ?_;clear hK K
 try simp only [aps]
 have hs2:=adS.keep hs1 hk2 (by simp) (by simp);have hkA:K0 (w.alloc (.cells #[.int .i64 ki,.int .i64 da,.int .i64 tr,.int .i64 am,.int .i64 re] 186)) w2:=hk1.trans (hk2.mono (by simp));have hkw:K0 w w2:=(Keeps.alloc _ _).trans (hkA.mono (by simp));obtain⟨HkA,Hkw⟩:=hid2 hkA hkw;clear hkw hkA;clear hs1 hk1 hk2;refine jR ?_;refine Aq ?_;by_cases hz0:z=0
 ·subst hz0;have c7:w2.cell? ⟨B,7,none⟩=some (.slice ad n cap):=hs2.2.2.2.2.2.2.2.1;by_cases hfull:2000<=n
  ·have h14:=Hadd.o;simp only [not_true_eq_false,if_false,if_pos hfull] at h14;have hfI:(2000:Int)<=(n:Int):=by omega
   have hpost:=Hno.o 14 w2 h14 (by decide) Hkw.o;clear h14;have Hpost:=Lib.hid hpost;clear hpost hs2;go_wp2_with fail;go_ret;exact Hpost.o
  ·have h00:=Hadd.o;simp only [not_true_eq_false,if_false,if_neg hfull] at h00;have hfI:¬(2000:Int)<=(n:Int):=by omega
   have H00:=Lib.hid h00;clear h00;have HS2:=Lib.hid hs2;clear hs2;go_wp2_with fail;refine Cz (adS B w.heap.size li cy du mf mp st (.slice adt nt ct) (.slice ad n cap) ki da tr am re) 17 (.take 0 (.take 1 (.take 2 (.take 3 (.take 4 (.take 5 (.take 6 (.take 7 (.take 8 (.take 9 (.take 10 (.take 12 (.fork 11 (.move 13 (.move 14 (.move 15 (.move 16 (.move 17 .done))))) 13 (.move 11 (.move 14 (.move 15 (.move 16 (.move 17 .done)))))))))))))))))) (by kernel_rfl) (by kernel_rfl) ?_ ?_
   ·exact HS2.o.keep (Keeps.drew (S:=λ_=>False) _) (by simp) (by simp)
   intro w3 hs3 hk3;have hkw3:K0 w w3:=Hkw.o.trans (hk3.mono (by simp));have hE3:=Ad (Ad (heap_alloc_new w _) HkA.o (by simp)) hk3 (by simp);obtain⟨Hkw3,HE3⟩:=hid2 hkw3 hE3;clear hE3 hkw3;clear hk3;refine jR ?_;refine Dx ?_ ?_ hs3
   ·skip
    refine Ag rfl (λK hK=> ?_);go_simp
    go_at_call 137
    ((with_reducible refine(Hpl.o w3 Hkw3.o).mono ?_);rintro e w33 ⟨rfl,rfl⟩;dsimp only)
    refine hK.out _ _ (by exact hs3) ?_;clear hK K
    try simp only [aps]
    refine jR ?_;refine Ag rfl (λK hK=> ?_);go_simp;refine hK.out _ _ (by exact adS.keep hs3 (Keeps.alloc (S:=λ_=>False) w3 _) (by simp) (by simp)) ?_;clear hK K
    try simp only [aps]
    refine jR ?_;refine Ag rfl (λK hK=> ?_);go_simp
    go_at_call 136
    ((with_reducible refine(Hins0.o w3 Hkw3.o).mono ?_);rintro e w4 ⟨v4,rfl,hrow4,hk4,hf4⟩;dsimp only)
    have hb4:=Ad (Ad Hblk.o Hkw3.o (by simp)) hk4 hBv;have hE4:=Ad HE3.o hk4 hnE;have hs4:=adS.of hb4 hE4;refine hK.out _ _ (by exact hs4) ?_;clear hK K
    try simp only [aps]
    have hpost:=Hall.o v4 w4 H00.o hrow4 ((Hkw3.o.mono (λ_ _ h=>h.elim)).trans (hk4.mono λ_ _ h=> .inl h)) (hf4.imp id fun⟨g,h1,h2⟩=>⟨g,h1,by have:=Hkw3.o.size;omega⟩);obtain⟨ad4,c4,rfl,_,_⟩:=Ae hrow4;have fB:=Ab hb4 7;have cB:=Aa hb4 7;have Hpost:=Lib.hid hpost;clear hpost;clear hrow4 hk4 hf4 hb4 hE4
    repeat (refine Ej (v:= ?_) rfl (by rfl) ?_ ?_;rotate_left;(· intro w' hSw;unfold adS at hSw;go_simp;(try with_reducible rfl));rotate_right;try simp only [aps])
    refine Cu rfl (λK hK=> ?_);go_simp;refine hK.out _ _ ?_;clear hK K
    try simp only [aps]
    refine Aq ?_;go_wp2_with fail;go_ret;exact Hpost.o
   ·skip
    refine Ag rfl (λK hK=> ?_);go_simp;refine hK.out _ _ (by exact adS.keep hs3 (Keeps.alloc (S:=λ_=>False) w3 _) (by simp) (by simp)) ?_;clear hK K
    try simp only [aps]
    refine jR ?_;refine Ag rfl (λK hK=> ?_);go_simp
    go_at_call 137
    ((with_reducible refine(Hpl.o (w3.alloc (.cells #[.int .i64 ki,.int .i64 da,.int .i64 tr,.int .i64 am,.int .i64 re] 186)) (Hkw3.o.trans (Keeps.alloc _ _))).mono ?_);rintro e w33 ⟨rfl,rfl⟩;dsimp only)
    refine hK.out _ _ (by exact adS.keep hs3 (Keeps.alloc (S:=λ_=>False) w3 _) (by simp) (by simp)) ?_;clear hK K
    try simp only [aps]
    refine jR ?_;refine Ag rfl (λK hK=> ?_);go_simp
    go_at_call 136
    ((with_reducible refine(Hins0.o w3 Hkw3.o).mono ?_);rintro e w4 ⟨v4,rfl,hrow4,hk4,hf4⟩;dsimp only)
    have hb4:=Ad (Ad Hblk.o Hkw3.o (by simp)) hk4 hBv;have hE4:=Ad HE3.o hk4 hnE;have hs4:=adS.of hb4 hE4;refine hK.out _ _ (by exact hs4) ?_;clear hK K
    try simp only [aps]
    have hpost:=Hall.o v4 w4 H00.o hrow4 ((Hkw3.o.mono (λ_ _ h=>h.elim)).trans (hk4.mono λ_ _ h=> .inl h)) (hf4.imp id fun⟨g,h1,h2⟩=>⟨g,h1,by have:=Hkw3.o.size;omega⟩);obtain⟨ad4,c4,rfl,_,_⟩:=Ae hrow4;have fB:=Ab hb4 7;have cB:=Aa hb4 7;have Hpost:=Lib.hid hpost;clear hpost;clear hrow4 hk4 hf4 hb4 hE4
    repeat (refine Ej (v:= ?_) rfl (by rfl) ?_ ?_;rotate_left;(· intro w' hSw;unfold adS at hSw;go_simp;(try with_reducible rfl));rotate_right;try simp only [aps])
    refine Cu rfl (λK hK=> ?_);go_simp;refine hK.out _ _ ?_;clear hK K
    try simp only [aps]
    refine Aq ?_;go_wp2_with fail;go_ret;exact Hpost.o
 ·have hzz:=Hadd.o;rw [if_pos hz0] at hzz;have hzI:(z !=0)=true:=by simp [hz0]
  have hpost:=Hno.o z w2 hzz hz0 Hkw.o;have Hpost:=Lib.hid hpost;clear hpost hzz hs2;go_wp2_with fail;go_ret;exact Hpost.o
end Go.Proofs.YtjkdnaljkdnomaaGreatDoor
