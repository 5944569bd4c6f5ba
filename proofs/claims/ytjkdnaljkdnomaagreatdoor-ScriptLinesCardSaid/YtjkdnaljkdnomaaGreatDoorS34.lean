/- Part 34 of what the laws of this seat share: walks of functions, and plain laws. -/
import Derived.Test.YtjkdnaljkdnomaaGreatDoorS8
set_option maxRecDepth 100000
set_option maxHeartbeats 1600000
namespace Go.Proofs.YtjkdnaljkdnomaaGreatDoor
open Go.RowKit Go.IntWalk
def adlW:List Int->Int->Int->Int×Int
 | [],lo,hi=>(lo,hi)
 |b::l,lo,hi=>adlW l ((lo+b) % 65521) ((hi+(lo+b) % 65521) % 65521)
theorem adlW_snoc(L:List Int)(b:Int):∀lo hi,adlW (L++ [b]) lo hi=(((adlW L lo hi).1+b) % 65521,((adlW L lo hi).2+((adlW L lo hi).1+b) % 65521) % 65521):=by
 induction L with
 |nil=>intro lo hi;simp [adlW]
 |cons x l ih=>intro lo hi;simp only [List.cons_append,adlW];exact ih _ _
theorem adlW_bd{L:List Int}(hL:∀z∈L,0<=z/\z<=255):∀lo hi,0<=lo/\lo<65521->0<=hi/\hi<65521->(0<=(adlW L lo hi).1/\(adlW L lo hi).1<65521)/\0<=(adlW L lo hi).2/\(adlW L lo hi).2<65521:=by
 induction L with
 |nil=>intro lo hi h1 h2;exact⟨h1,h2⟩
 |cons x l ih=>
  intro lo hi h1 h2;exact ih (λz hz=>hL z (by simp [hz])) _ _ j6 j6
def adFr(v:Value)(lo hi:Int)(k:Nat)(u:Nat->Value):Act:={ tmps:= #[u 0,v,u 2,u 3,u 4,.int .u32 lo,.int .u32 hi,.int .i64 ((k:Nat):Int),u 8,u 9,u 10,u 11,u 12,u 13,u 14,u 15,u 16,u 17,u 18,u 19,u 20,u 21,u 22,u 23,u 24,u 25,u 26,u 27,u 28,u 29,u 30,u 31,u 32,u 33,u 34,u 35],defers:= [] }
def adJ(L:List Int)(v:Value)(w:World)(a':Act)(W:World):Prop:=∃(k:Nat) (lo hi:Int) (u:Nat->Value),a'=adFr v lo hi k u/\(k<=L.length/\adlW (L.take k) 1 0=(lo,hi))/\W=w
theorem adJ.mk{L:List Int}{v:Value}{w:World}{a':Act}{W:World}(k:Nat)(lo hi:Int)(h:a'=adFr v lo hi k (λi=>a'.tmps.getD i undef))(hi:k<=L.length/\adlW (L.take k) 1 0=(lo,hi))(hW:W=w):adJ L v w a' W:=⟨k,lo,_,_,h,hi,hW⟩
def sumR(L:List Int):Int:=bits .or .u32 ((adlW L 1 0).2*65536) (adlW L 1 0).1
theorem Acd(ad:Option Addr)(cap:Nat)(L:List Int)(w:World)(hr:Reads w 1 (.slice ad L.length cap) L.length (L.flatMap u8c))(hL:∀z∈L,0<=z/\z<=255)(hn:L.length<=1000000):
  Calls Tryz.prog 133 #[.int .u32 1,.slice ad L.length cap] w λe w'=>e= .returned (.int .u32 (sumR L))/\w'=w:=by
 obtain⟨n,hnn⟩:=eX L.length;rw [hnn] at hr hn⊢;obtain⟨Hr,Hnn⟩:=hid2 hr hnn;clear hnn hr;go_enter Tryz.func133,Tryz.ntmps133;go_wp2_with fail;refine Dl 0 (adJ L (.slice ad n cap) w) (λa' _=>n-Eg 7 a') rfl ?_ ?_
 ·rintro a' W ⟨k,lo,hi,u,rfl,⟨hk,hs⟩,rfl⟩;unfold adFr;rw [Hnn.o] at hk;have hbd:=adlW_bd (L:=L.take k) (λz hz=>hL z (List.mem_of_mem_take hz)) 1 0 j6 j6;rw [hs] at hbd;obtain⟨⟨b1,b2⟩,b3,b4⟩:=hbd;by_cases hkn:k<n
  ·have hknI:(k:Int)<(n:Int):=j8;obtain⟨x,hx⟩:=Ar (show k<L.length by rw [Hnn.o];omega);obtain⟨x1,x2⟩:=hL x (List.mem_of_getElem? hx);have hsn:=adlW_snoc (L.take k) x 1 0;rw [<-take_snoc' hx,hs] at hsn;have q1:IntKind.u32.wrap (lo+x)=lo+x:=u32_in _ ⟨by omega,by omega⟩;obtain⟨lo2,hlo2⟩:=eX ((lo+x) % 65521);simp only [hlo2] at hsn;have q2:IntKind.u32.wrap (hi+lo2)=hi+lo2:=u32_in _ ⟨by omega,by omega⟩;have q3:IntKind.u32.wrap x=x:=u32_in _ ⟨by omega,by omega⟩;obtain⟨g,o,rfl,x0⟩:=Reads.int (k:= .u8) Hr.o hx;clear hx hs;have Hsn:=Lib.hid hsn;clear hsn;go_wp2;go_step3;go_wp2;exact Av ⟨adJ.mk (k+1) lo2 ((hi+lo2) % 65521) rfl ⟨by rw [Hnn.o];omega,Hsn.o⟩ rfl,by simp [Eg];omega⟩
  ·obtain rfl:k=n:=by omega
   have hsum:sumR L=bits .or .u32 (hi*65536) lo:=by
    rw [List.take_of_length_le (by rw [Hnn.o];exact Nat.le_refl _)] at hs;unfold sumR;rw [hs]
   have q4:IntKind.u32.wrap (hi*65536)=hi*65536:=u32_in _ ⟨by omega,by omega⟩;clear hs;have Hsum:=Lib.hid hsum;clear hsum;go_wp2;refine Bo ?_;exact bodyPost_ret (v:= .int .u32 (bits .or .u32 (hi*65536) lo)) (by simp [results,Tryz.results133,go_sem]) rfl ⟨by rw [Hsum.o],rfl⟩
 ·refine jM ?_;intro Hfirst;go_wp2_with fail;go_step3;rename_i hK;refine jN ?_;exact adJ.mk 0 1 0 rfl ⟨Nat.zero_le _,rfl⟩ rfl
theorem Adx(ad:Option Addr)(cap:Nat)(L:List Int)(w:World)(hr:Reads w 1 (.slice ad L.length cap) L.length (L.flatMap u8c))(hL:∀z∈L,0<=z/\z<=255)(hn:L.length<=1000000):
  Calls Tryz.prog 108 #[.slice ad L.length cap] w λe w'=>e= .returned (.int .u32 (sumR L))/\w'=w:=by
 have hc:=λW (hW:W=w)=>Acd ad cap L W (by rw [hW];exact hr) hL hn;obtain⟨Hr,Hc⟩:=hid2 hr hc;clear hc hr;go_enter Tryz.func108,Tryz.ntmps108
 go_wp2_with (go_at_call 133;(with_reducible refine(Hc.o _ rfl).mono ?_);rintro e w1 ⟨rfl,rfl⟩)
 go_ret;exact⟨rfl,rfl⟩
end Go.Proofs.YtjkdnaljkdnomaaGreatDoor
