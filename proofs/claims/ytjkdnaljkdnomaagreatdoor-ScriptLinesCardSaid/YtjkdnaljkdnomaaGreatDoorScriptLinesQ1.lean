/- Part 1 of the proof of ScriptLines: walks and plain laws. -/
import Derived.Test.YtjkdnaljkdnomaaGreatDoorTie
import Derived.Test.YtjkdnaljkdnomaaGreatDoorCards
import Derived.LaidMore
import Derived.SevenTiedAt
import Derived.Test.YtjkdnaljkdnomaaGreatDoorS44
import Derived.Test.YtjkdnaljkdnomaaGreatDoorS45
set_option maxRecDepth 100000
set_option maxHeartbeats 3200000
namespace Go.Proofs.YtjkdnaljkdnomaaGreatDoor
open Go.RowKit
theorem Qt(w:World)(ad:Option Addr)(cap:Nat)(L:List Int)(hr:Reads w 1 (.slice ad L.length cap) L.length (L.flatMap λz=> [Value.int .u8 z]))(hp:∀a∈L,(Lit.int .u8 a).wf=true)(hm:L.length<=maxLen)(ht:Tab w):
  Calls Tryz.prog 3 #[.slice ad L.length cap] w λe w'=>e= .returned (.bool true)/\Below w.heap.size w w':=by
 unfold maxLen at hm;by_cases hl:150<L.length
 ·clear hr hp ht;go_enter Tryz.func3,Tryz.ntmps3
  go_wp2_with (go_at_call 4;refine(Si _).mono ?_;rintro e w1 ⟨rfl,hk⟩)
  go_ret;exact⟨rfl,hk.below (by simp) (Nat.le_refl _)⟩
 ·skip
  have hr':Reads w 1 (.slice ad L.length cap) L.length (L.flatMap u8c):=hr;have hB:ByOk L:=⟨λz hz=>wf_u8 (hp z hz),by omega⟩;obtain⟨t0,t2,t3,t4,t5,t6,htm⟩:∃t0 t2 t3 t4 t5 t6:Int,∀v,(Bz L).cells v= #[.int .i64 t0,v,.int .i64 t2,.int .i64 t3,.int .i64 t4,.int .i64 t5,.int .i64 t6]:=⟨_,_,_,_,_,_,λv=>rfl⟩;have hdec:=Tz L ad cap w hr' hB;unfold Jo at hdec;simp only [htm] at hdec;have hrun:=fun(W:World) (hW:K0 w W)=>Acp L ad cap W (hr'.keeps hW (by simp)) hB (ht.keeps hW);obtain⟨M,hM⟩:=eX (scrM L);obtain⟨N,hN⟩:=eX (scrN L);rw [hM] at hdec hrun;rw [hN] at hdec;unfold RunTx at hrun;clear htm hr' hB;clear hr hp ht;obtain⟨Hdec,Hrun⟩:=hid2 hdec hrun;clear hrun hdec hM hN;go_enter Tryz.func3,Tryz.ntmps3;go_wp2_with fail;refine Hdec.o.mono ?_;rintro e w1 ⟨v0,v,rfl,ha0,ha,hk1,_,_⟩;obtain⟨ad0,cap0,rfl,_,_⟩:=Ae ha0;obtain⟨ad1,cap1,rfl,_,_⟩:=Ae ha;clear ha0 ha;have Hk1:=Lib.hid hk1;clear hk1;go_wp2_with fail;refine(Hrun.o _ (Hk1.o.nt (Keeps.alloc _ _))).mono ?_;rintro e w2 ⟨g,c,l,rfl,hc,h10,hln,hk2⟩;have hk2':=(Hk1.o.nt (Keeps.alloc _ _)).nt hk2;clear hk2;obtain⟨Hc,H10,Hk2'⟩:=hid3 hc h10 hk2';clear hk2' h10 hc
  go_upto_region 7 with fail
  go_loopw [6,7] (λx6 x7 wr=>∃j:Nat,x7= .int .i64 (j:Nat)/\x6= .int .i64 ((l.take j).count 10:Nat)/\j<=l.length/\wr=w2) (λ_ x7 _=>l.length-(intOf x7).toNat)
  case atStart=>exact⟨0,rfl,rfl,by omega,rfl⟩
  case round=>
   obtain⟨j,rfl,rfl,hj,rfl⟩:=hrel;by_cases hjl:j<l.length
   ·have hjI:(j:Int)<(l.length:Int):=j8;obtain⟨z,hz⟩:=Ar hjl;have y:=Hc.o j z hz
    have hsn:(l.take (j+1)).count 10=(l.take j).count 10+(if z=10 then 1 else 0):=by
     rw [take_snoc' hz,List.count_append];simp [List.count_cons]
    have hcl:(l.take j).count 10<=j:=Nat.le_trans List.count_le_length j0H;obtain⟨c,hcc⟩:=eX ((l.take j).count 10);rw [hcc] at hsn hcl;rw [hcc];by_cases h:z=10
    ·rw [if_pos h] at hsn;have h0:((z.toNat:Int)==10)=true:=by rw [h];rfl
     exact j4R
    ·rw [if_neg h] at hsn
     have h0:((z.toNat:Int)==10)=false:=by
      rw [beq_eq_false_iff_ne];intro e
      apply h
      apply UInt8.toNat_inj.1
      have:(10:UInt8).toNat=10:=rfl;omega
     exact j4R
   ·obtain rfl:j=l.length:=by omega
    have hct:(l.take l.length).count 10=M:=by rw [List.take_length];exact H10.o
    rw [hct];have hge:¬((l.length:Int)<(l.length:Int)):=j8
    go_wp2_with (go_at_call 4;refine(Si _).mono ?_;rintro e w5 ⟨rfl,hk5⟩;have Hk5:=Lib.hid hk5;clear hk5)
    go_ret;exact⟨by simp,(Hk2'.o.nt Hk5.o).below (by simp) (Nat.le_refl _)⟩
end Go.Proofs.YtjkdnaljkdnomaaGreatDoor
