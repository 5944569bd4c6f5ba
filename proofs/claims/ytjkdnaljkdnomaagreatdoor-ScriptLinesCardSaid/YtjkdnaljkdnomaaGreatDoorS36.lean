/- Part 36 of what the laws of this seat share: walks of functions, and plain laws. -/
import Derived.RangeFuncNested
import Derived.RangeFuncBound
import Derived.RangeFuncCalls
import Derived.RangeFuncLeaves
import Derived.RangeFuncBox
import Derived.Shelf.Abstract
import Derived.Shelf.RegionOpen
import Derived.WalkKit
import Derived.OwnWalkIn
import Derived.TacticsInMore
import Derived.LoopNIn
import Derived.LoopIn
import Derived.Test.YtjkdnaljkdnomaaGreatDoorS35
set_option maxRecDepth 100000
set_option maxHeartbeats 2000000
namespace Go.Proofs.YtjkdnaljkdnomaaGreatDoor
open Go.RowKit Go.Shelf
attribute [local go_sem] Oper.semAt_some
def Zt(b off len:Nat)(k:Nat):Value:= .slice (some ⟨b,off+k*41,none⟩) (min 41 (len-k*41)) (min 41 (len-k*41))
def chunks(len:Nat):Nat:=(len+40) / 41
def Dt(a b:Nat)(W W':World):Prop:=W'.heap[a]?=W.heap[a]?/\W'.heap[b]?=W.heap[b]?
theorem Dt.refl(a b:Nat)(W:World):Dt a b W W:=⟨rfl,rfl⟩
theorem Dt.trans{a b:Nat}{A B C:World}(h:Dt a b A B)(k:Dt a b B C):Dt a b A C:=⟨k.1.trans h.1,k.2.trans h.2⟩
theorem Dt.drew(a b:Nat)(W:World):Dt a b W W.drew:=⟨rfl,rfl⟩
theorem Dt.cell1{a b:Nat}{W W':World}(h:Dt a b W W'){i:Nat}:W'.cell? ⟨a,i,none⟩=W.cell? ⟨a,i,none⟩:=by simp [World.cell?,h.1]
theorem Dt.cell2{a b:Nat}{W W':World}(h:Dt a b W W'){i:Nat}:W'.cell? ⟨b,i,none⟩=W.cell? ⟨b,i,none⟩:=by simp [World.cell?,h.2]
theorem chunkF_in(F:Fence)(n:Nat)(hF:F.fn 85)(hro:F.round=none)(hn:1<=n)(l Bs Bn b off len cap:Nat)(hreach:len<=1000000)(hcap:len<=cap)(J Jx:List Nat->World->Prop)
  (hY:∀pre x W,J pre W->pre.length<chunks len->x<chunks len->YieldAt F (n-1) Tryz.prog l #[Zt b off len x] W λe W'=>
   (e= .returned (.bool true)/\J (pre++ [x]) W'/\Dt Bs Bn W W')\/(e= .returned (.bool false)/\Jx (pre++ [x]) W'))
  (W:World) (hBs:W.cell? ⟨Bs,0,none⟩=some (.slice (some ⟨b,off,none⟩) len cap)) (hBn:W.cell? ⟨Bn,0,none⟩=some (.int .i64 41)) (h0:J [] W) (hJd:∀xs A,J xs A->J xs A.drew):
  CallsIn F n Tryz.prog 85 #[.func (.yield l) #[] #[],.pointer (some ⟨Bs,0,none⟩),.pointer (some ⟨Bn,0,none⟩)] W λe W'=>(∃v,e= .returned v)/\
   ((∃ys,ys=List.range (chunks len)/\J ys W')\/(∃pre,(∃k,k<=chunks len/\pre=List.range k)/\Jx pre W')):=by
 refine callsIn_of_wp Tryz.func85 rfl hF ?_ hro;simp only [Tryz.ntmps85,List.size_toArray,List.length_cons,List.length_nil,Nat.reduceAdd,Nat.reduceSub,Array.replicate_succ,Array.replicate_zero,List.push_toArray,List.append_toArray,List.nil_append,List.cons_append]
 gi_wp2
 gi_loopw [4] (λi wr=>∃k:Nat,k<=chunks len/\i= .int .i64 ((k*41:Nat):Int)/\J (List.range k) wr/\Dt Bs Bn W wr) (λi _=>len+41-(intOf i).toNat)
 case atStart=>exact⟨0,Nat.zero_le _,rfl,h0,Dt.refl _ _ _⟩
 case round=>
  obtain⟨k,hk,rfl,hJs,hnx⟩:=hrel;have c1:wr.cell? ⟨Bs,0,none⟩=some (.slice (some ⟨b,off,none⟩) len cap):=hnx.cell1.trans hBs;have c2:wr.cell? ⟨Bn,0,none⟩=some (.int .i64 41):=hnx.cell2.trans hBn;obtain⟨q,hq⟩:=eX (k*41);rw [hq];by_cases hlt:q<len
  ·have hkl:k<chunks len:=by unfold chunks;omega
   obtain⟨fn,tmps,assign,body,hy,hR⟩:=hY _ k wr.drew (hJd _ _ hJs) (by rw [List.length_range];exact hkl) hkl;unfold Zt at hy;rw [hq] at hy;have hltI:(q:Int)<(len:Int):=j8;have hq0:(0:Int)<=(q:Int):=j8;have hqc:(q:Int)<=(len:Int):=j8;obtain⟨d,hd⟩:=eX (len-q);rw [hd] at hy;have hdI:((len:Int)-(q:Int))=(d:Int):=j8;rcases Nat.lt_trichotomy d 41 with h|h|h
   ·have hI:(d:Int)<41:=j8;rw [Nat.min_eq_right j6] at hy;exact j2d
   ·have hI:(d:Int)=41:=j8;subst h;rw [Nat.min_self] at hy;exact j2d
   ·have hI:(41:Int)<(d:Int):=j8;rw [Nat.min_eq_left j6] at hy;exact j2d
  ·have hke:k=chunks len:=by unfold chunks at hk⊢;omega
   have hltI:¬(q:Int)<(len:Int):=j8
   gi_wp2
   go_end0;exact⟨⟨_,rfl⟩,.inl (by rw [<-hke];exact hJs)⟩
abbrev Ck(m:Nat):Type:={ x:Nat // x<chunks m }
theorem ck_snoc{m:Nat}(ys:List (Ck m))(x:Ck m):(ys++ [x]).map Subtype.val=ys.map Subtype.val++ [x.1]:=by simp
theorem Ac5(n:Nat)(hn:1<=n)(Bs Bn b off len cap:Nat)(hreach:len<=1000000)(hcap:len<=cap)(w:World)(lBs:Bs<w.heap.size)(lBn:Bn<w.heap.size)
  (hBs:w.cell? ⟨Bs,0,none⟩=some (.slice (some ⟨b,off,none⟩) len cap)) (hBn:w.cell? ⟨Bn,0,none⟩=some (.int .i64 41)):
  SeqStopsK Fence.wide n Tryz.prog 85 #[(.pointer (some ⟨Bs,0,none⟩)),(.pointer (some ⟨Bn,0,none⟩))] (λx:Ck len=> #[Zt b off len x.1]) (Dt Bs Bn) (λys=>ys.map Subtype.val=List.range (chunks len)) (λys=>∃k,k<=chunks len/\ys.map Subtype.val=List.range k) (chunks len) w:=by
 intro l J Jx W hW hJ hJx hY h0
 refine(chunkF_in Fence.wide n trivial rfl hn l Bs Bn b off len cap hreach hcap (λxs W=>∃ys:List (Ck len),ys.map Subtype.val=xs/\J ys W) (λxs W=>∃ys:List (Ck len),ys.map Subtype.val=xs/\Jx ys W) ?_ W
  ((hW.cell (p:=⟨Bs,0,none⟩) lBs).trans hBs) ((hW.cell (p:=⟨Bn,0,none⟩) lBn).trans hBn) ⟨[],rfl,h0⟩ ?_).mono ?_
 ·rintro pre x W1 ⟨ys,rfl,hj⟩ hl hx;refine(hY ys ⟨x,hx⟩ W1 hj jL).mono ?_;rintro e W' (⟨he,hj',hk⟩|⟨he,hj'⟩)
  ·exact .inl ⟨he,⟨_,ck_snoc _ _,hj'⟩,hk⟩
  ·exact .inr ⟨he,_,ck_snoc _ _,hj'⟩
 ·rintro xs A ⟨ys,h,hj⟩;exact⟨ys,h,hJ ys A A.drew none hj ((Keeps.drew A).grownBy) (λr e=>by cases e)⟩
 ·rintro e W' ⟨hv,⟨ys,rfl,zs,hz,hj⟩|⟨pre,⟨k,hk,rfl⟩,zs,hz,hj⟩⟩
  ·exact⟨hv,.inl ⟨zs,hz,hj⟩⟩
  ·exact⟨hv,.inr ⟨zs,⟨k,hk,hz⟩,hj⟩⟩
end Go.Proofs.YtjkdnaljkdnomaaGreatDoor
