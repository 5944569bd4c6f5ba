/- Part 16 of what the laws of this seat share: walks of functions, and plain laws. -/
import Derived.Test.YtjkdnaljkdnomaaGreatDoorS7
set_option maxRecDepth 100000
set_option maxHeartbeats 400000
namespace Go.Proofs.YtjkdnaljkdnomaaGreatDoor
open Go.RowKit
theorem Jn:(Tryz.prog.info? 186).map (λi=>(i.zero,i.size,i.bytes))=some (some (.agg #[.int .i64 0,.int .i64 0,.int .i64 0,.int .i64 0,.int .i64 0]),5,40):=by kernel_rfl
theorem Mj(w:World)(v:Value)(n:Nat)(xs:List Value)(hr:Reads w 5 v n xs)(h1:∀u∈xs,u.oneCell'=true)(hn:n<=1000000000000):
  Calls Tryz.prog 92 #[v] w λe w'=>∃v',e= .returned v'/\w'.ownsRow 0 186 5 v' n xs/\K0 w w'/\(∀k,v'.ownBlock=some k->w.heap.size<=k):=by
 obtain⟨i0,hi,hz0,hz1,hz2⟩:=info_parts Jn;have hr':=hr;obtain⟨ad,c,rfl,hnc,hl,hnone,hcells⟩:=hr';clear hcells;have heq:=fun(wx:World) (ad:Option Addr) (l c:Nat)=>Lib.run_eql_slice_nil (P:=Tryz.prog) wx 170 _ ad l c 0 0 Tryz.underlying170;rcases ad with _|a
 ·obtain rfl:=hnone rfl;obtain rfl:n=0:=by omega
  obtain rfl:xs= []:=List.eq_nil_of_length_eq_zero jL;clear hr;go_enter Tryz.func92,Tryz.ntmps92;exact jW
 ·have Hr:=Lib.hid hr;clear hr;clear hl hnone;have H1:=Lib.hid h1;clear h1;go_enter Tryz.func92,Tryz.ntmps92
  go_wp2_with (at_builtin;refine Am rfl (.tmp 5) (.tmp 6) 170 rfl 0 186 i0 _ 5 40 Tryz.underlying170 hi hz0 hz1 hz2 rfl j7 _ 0 [] rfl (World.ownsRow_lit w #[] 0 j6 jd rfl) _ n xs rfl (Hr.o.keeps (Keeps.alloc (S:=λ_=>False) _ _) (by simp)) H1.o jd j6 j6 ?_)
  intro v' w1 hown1 hk1 hfr
  have hend:w1.ownsRow 0 186 5 v' n xs/\K0 w w1/\(∀k,v'.ownBlock=some k->w.heap.size<=k):=by
   exact jX
  exact jY
end Go.Proofs.YtjkdnaljkdnomaaGreatDoor
