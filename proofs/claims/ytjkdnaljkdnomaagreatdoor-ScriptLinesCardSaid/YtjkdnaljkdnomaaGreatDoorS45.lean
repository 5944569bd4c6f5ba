/- Part 45 of what the laws of this seat share: walks of functions, and plain laws. -/
import Derived.Test.YtjkdnaljkdnomaaGreatDoorS31
set_option maxRecDepth 100000
set_option maxHeartbeats 800000
namespace Go.Proofs.YtjkdnaljkdnomaaGreatDoor
open Go.RowKit
def awB:List Int:= [0,1,1,0,0,9,0,0,0,0,1,0,7]
theorem Jo.keeps{w w':World}{B:List Int}{e:Ending}(h:Jo w B e w'):K0 w w':=by obtain⟨v0,v,_,_,_,h,_⟩:=h;exact h
theorem Si(w:World):Calls Tryz.prog 4 #[] w λe w'=>e= .returned (.bool true)/\K0 w w':=by
 have hB:ByOk awB:=⟨by decide,by decide⟩
 have hr:Reads (w.alloc (.cells #[.int .u8 0,.int .u8 1,.int .u8 1,.int .u8 0,.int .u8 0,.int .u8 9,.int .u8 0,.int .u8 0,.int .u8 0,.int .u8 0,.int .u8 1,.int .u8 0,.int .u8 7] 5)) 1 (.slice (some ⟨w.heap.size,0,none⟩) awB.length 13) awB.length (awB.flatMap u8c):=
  Reads.lit w _ _ 1 13 rfl
 have ht:∀v,(Bz awB).cells v= #[.int .i64 9000,v,.int .i64 1,.int .i64 1,.int .i64 0,.int .i64 0,.int .i64 10957]:=λv=>rfl;have hN:scrN awB=1:=by decide
 have hM:scrM awB=1:=by decide
 have hc:Bt awB 1= [⟨1,0,1,7,0⟩]:=by decide
 have hlen:awB.length=13:=rfl;have hdec:=λW (hr:Reads W 1 (.slice (some ⟨w.heap.size,0,none⟩) awB.length 13) awB.length (awB.flatMap u8c))=>Nk awB (some ⟨w.heap.size,0,none⟩) 13 W hr hB;rw [hlen] at hdec hr;clear hB;obtain⟨Hr,Ht,HN,HM,Hc⟩:=hid5 hr ht hN hM hc;clear hc hM hN ht hr hlen;have Hdec:=Lib.hid hdec;clear hdec;go_enter Tryz.func4,Tryz.ntmps4;go_wp2_with fail;refine(Hdec.o _ Hr.o).mono ?_;rintro e w1 ⟨v0,v,rfl,ho0,ho,hk,hn0,hn⟩;rw [Ht.o];rw [HN.o] at ho0;rw [HM.o,Hc.o] at ho;obtain⟨ad0,cap0,rfl,hl0,_⟩:=Ae ho0;obtain⟨g,cap,rfl,hg⟩:=Ey ho j7;have x0:w1.cell? ⟨g,0,none⟩=some (.int .i64 1):=ho.cellAt 0 j7;have x3:w1.cell? ⟨g,3,none⟩=some (.int .i64 7):=ho.cellAt 3 j7;have Hk:=Lib.hid hk;clear hk ho ho0 hn0 hn;go_wp2;go_ret;exact⟨rfl,((Keeps.alloc w _).trans (Hk.o.mono (by simp))).trans (Keeps.alloc _ _)⟩
end Go.Proofs.YtjkdnaljkdnomaaGreatDoor
