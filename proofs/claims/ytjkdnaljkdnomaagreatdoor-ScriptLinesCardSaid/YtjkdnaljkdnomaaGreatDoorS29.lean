/- Part 29 of what the laws of this seat share: walks of functions, and plain laws. -/
import Derived.Test.YtjkdnaljkdnomaaGreatDoorS25
set_option maxRecDepth 100000
set_option maxHeartbeats 400000
namespace Go.Proofs.YtjkdnaljkdnomaaGreatDoor
open Go.RowKit
def cntD:Nat->List (Int×Int)->Int->Nat
 |0,_,_=>0
 |_+1, [],_=>0
 |d+1,(fr,te)::S,day=>if te=day then cntD d S (day+1)+1 else cntD d ((fr,te)::S) (day+1)
theorem Rc(k:Nat)(X:List (Int×Int)):∀(d:Nat) (S:List (Int×Int)) (day:Int),cntD d S day<=cntD (d+k) (S++X) day
 |0,_,_=>by simp [cntD]
 |d+1, [],_=>by simp [cntD]
 |d+1,(fr,te)::S,day=>by
  rw [show d+1+k=(d+k)+1 by omega,List.cons_append];unfold cntD
  split
  ·exact Nat.succ_le_succ (Rc k X d S (day+1))
  ·exact Rc k X d ((fr,te)::S) (day+1)
theorem Adw{t:Tm}{L:List Ev}{n:Nat}{s s2:St}{fr te:Int}(h:Fs t L n s fr te=some s2):s2.out.length=s.out.length+1/\s2.day=s.day/\∃x,s2.out=s.out++ [x]:=by
 unfold Fs at h
 split at h
 ·cases h
 ·split at h
  ·cases h
  ·simp only [Option.some.injEq] at h;subst h;exact⟨by simp,rfl,_,rfl⟩
theorem Ms{t:Tm}{T:List Ev}{n:Nat}:∀(d:Nat) (S:List (Int×Int)) (s:St) (Z:St×Int),walkD t T n d S s=Z->Z.2=0->Z.1.out.length=s.out.length+cntD d S s.day
 |0,S,s,Z,h,hz=>by
  unfold walkD at h;subst h;simp [cntD,evSt]
 |d+1,S,s,Z,h,hz=>by
  unfold walkD at h
  split at h
  ·split at h
   ·subst h;simp at hz
   ·rename_i fr te S'
    split at h
    ·rename_i ht
     split at h
     ·subst h;simp at hz
     ·rename_i s2 hc;have h1:=Adw hc;have h2:=Ms d S' _ Z h hz;have e1:s2.out.length=s.out.length+1:=by rw [h1.1];rfl
      conv=>rhs;unfold cntD
      rw [if_pos ht];simp only [e1] at h2;omega
    ·rename_i ht;have h2:=Ms d _ _ Z h hz;rw [h2]
     conv=>rhs;unfold cntD
     rw [if_neg ht];rfl
  ·rename_i hne;subst h;exact absurd hz hne
theorem Abp{cd day day':Int}(hd:day<=day'):∀(f:Nat) (fr:Int),∃X,(findW cd day' f fr).1=(findW cd day f fr).1++X
 |0,fr=>⟨[],rfl⟩
 |f+1,fr=>by
  unfold findW
  split
  ·by_cases h1:lastF fr cd<day/\f≠0
   ·rw [if_pos h1,if_pos ⟨by omega,h1.2⟩];obtain⟨X,hX⟩:=Abp (cd:=cd) hd f (lastF fr cd+1);exact⟨X,by rw [hX];rfl⟩
   ·rw [if_neg h1]
    split
    ·exact⟨_,rfl⟩
    ·exact⟨[],rfl⟩
  ·exact⟨[],by simp⟩
theorem Acl{t:Tm}{L L2:List Ev}{td td2:Int}(h:td<=td2)(h1:(walkR t L td).2=0)(h2:(walkR t L2 td2).2=0):(walkR t L td).1.out.length<=(walkR t L2 td2).1.out.length:=by
 have e1:Dj t L td=0:=(Tq rfl h1).1;have e2:Dj t L2 td2=0:=(Tq rfl h2).1;have r1:=Ei e1;have r2:=Ei e2;have k1:(walkR t L td)=walkD t (sortL L) t.trs.length (td-t.start).toNat (allL t.start t.cyc td) (st0 t):=by unfold walkR;rw [if_pos e1]
 have k2:(walkR t L2 td2)=walkD t (sortL L2) t.trs.length (td2-t.start).toNat (allL t.start t.cyc td2) (st0 t):=by unfold walkR;rw [if_pos e2]
 rw [Ms _ _ _ _ k1.symm h1,Ms _ _ _ _ k2.symm h2];obtain⟨X,hX⟩:=Abp (cd:=t.cyc) h 300 t.start;unfold allL;rw [if_pos r1.fd,if_pos r2.fd,hX,show(td2-t.start).toNat=(td-t.start).toNat+(td2-td).toNat by have:=r1.d0;omega];exact Nat.add_le_add_left (Rc _ _ _ _ _) _
theorem Ac.mono{a:Ac}(h:AcOk a){d:Int}(ht:a.te d=0):a.s.out.length<=(a.tz d).1.out.length:=by
 have hd:1<=d/\(a.tz d).2=0:=by
  unfold Ac.te at ht
  split at ht
  ·cases ht
  ·split at ht
   ·cases ht
   ·exact⟨by omega,ht⟩
 have hw:=h.wk;have e1:(walkR a.t a.L a.today).2=0:=by rw [hw]
 have:=Acl (L2:=a.L) (td2:=a.today+d) j6 e1 hd.2;rw [hw] at this;exact this
end Go.Proofs.YtjkdnaljkdnomaaGreatDoor
