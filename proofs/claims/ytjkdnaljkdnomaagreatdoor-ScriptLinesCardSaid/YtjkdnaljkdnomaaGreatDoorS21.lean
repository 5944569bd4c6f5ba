/- Part 21 of what the laws of this seat share: walks of functions, and plain laws. -/
import Derived.Test.YtjkdnaljkdnomaaGreatDoorS1
set_option maxRecDepth 100000
set_option maxHeartbeats 400000
namespace Go.Proofs.YtjkdnaljkdnomaaGreatDoor
open Go.RowKit
theorem Un:(Tryz.prog.info? 148).map (λi=>(i.zero,i.size,i.bytes))=some (some (.agg #[.int .i64 0,.int .i64 0,.int .i64 0,.int .i64 0,.int .i64 0]),5,40):=by kernel_rfl
theorem Nv(w:World)(v:Value)(n:Nat)(xs:List Value)(hr:Reads w 5 v n xs)(h1:∀u∈xs,u.oneCell'=true)(hn:n<=1000000000000):
  Calls Tryz.prog 69 #[v] w λe w'=>∃v',e= .returned v'/\w'.ownsRow 0 148 5 v' n xs/\K0 w w'/\(∀k,v'.ownBlock=some k->w.heap.size<=k):=by
 obtain⟨i0,hi,hz0,hz1,hz2⟩:=info_parts Un;have hr':=hr;obtain⟨ad,c,rfl,hnc,hl,hnone,hcells⟩:=hr';clear hcells;have heq:=fun(wx:World) (ad:Option Addr) (l c:Nat)=>Lib.run_eql_slice_nil (P:=Tryz.prog) wx 52 _ ad l c 0 0 Tryz.underlying52;rcases ad with _|a
 ·obtain rfl:=hnone rfl;obtain rfl:n=0:=by omega
  obtain rfl:xs= []:=List.eq_nil_of_length_eq_zero jL;clear hr;go_enter Tryz.func69,Tryz.ntmps69;exact jW
 ·have Hr:=Lib.hid hr;clear hr;clear hl hnone;have H1:=Lib.hid h1;clear h1;go_enter Tryz.func69,Tryz.ntmps69
  go_wp2_with (at_builtin;refine Am rfl (.tmp 5) (.tmp 6) 52 rfl 0 148 i0 _ 5 40 Tryz.underlying52 hi hz0 hz1 hz2 rfl j7 _ 0 [] rfl (World.ownsRow_lit w #[] 0 j6 jd rfl) _ n xs rfl (Hr.o.keeps (Keeps.alloc (S:=λ_=>False) _ _) (by simp)) H1.o jd j6 j6 ?_)
  intro v' w1 hown1 hk1 hfr
  have hend:w1.ownsRow 0 148 5 v' n xs/\K0 w w1/\(∀k,v'.ownBlock=some k->w.heap.size<=k):=by
   exact jX
  exact jY
structure Disp where
 ref:Int
 tranche:Int
 day:Int
 amount:Int
 state:Int
deriving DecidableEq,Inhabited
def Disp.cells(d:Disp):List Value:= [.int .i64 d.ref,.int .i64 d.tranche,.int .i64 d.day,.int .i64 d.amount,.int .i64 d.state]
theorem Disp.Aj(d:Disp):d.cells.length=5:=rfl
theorem Disp.one(L:List Disp):∀u∈L.flatMap Disp.cells,u.oneCell'=true:=by
 intro u hu;obtain⟨d,_,hd⟩:=List.mem_flatMap.1 hu;simp only [Disp.cells,List.mem_cons,List.not_mem_nil,or_false] at hd;rcases hd with rfl|rfl|rfl|rfl|rfl<;>rfl
def El:List Disp->Int
 | []=>0
 |d::l=>(if d.state=1 then d.amount else 0)+El l
def Vk(L:List Disp):Prop:=L.length<=2000/\El L<=1000000000000000/\∀d∈L,1<=d.amount/\d.amount<=1000000000000000
theorem Jq:∀L:List Disp,(∀d∈L,1<=d.amount/\d.amount<=1000000000000000)->0<=El L
 | [],_=>Int.le_refl _
 |d::l,h=>by
  have:=Jq l λx hx=>h x (List.mem_cons_of_mem _ hx);have:=h d (List.mem_cons_self ..);unfold El;split<;>omega
theorem Nr(L:List Disp)(d:Disp):El (L++ [d])=El L+(if d.state=1 then d.amount else 0):=by
 induction L with
 |nil=>simp [El]
 |cons x l ih=>simp only [List.cons_append,El,ih];omega
theorem Uo{L:List Disp}{k:Nat}{x y:Disp}(hx:L[k]?=some x)(h1:x.state=1)(h2:y.state≠1):El (L.set k y)=El L-x.amount:=by
 induction L generalizing k with
 |nil=>simp at hx
 |cons a l ih=>
  cases k with
  |zero=>simp at hx;subst hx;simp [El,h1,h2];omega
  |succ k=>simp at hx;simp only [List.set_cons_succ,El,ih hx];omega
def Dq(L:List Disp)(t a:Int):Int:=
 if t<1\/8<t then 7 else if a<1\/1000000000000000<a then 8 else if 1000000000000000-El L<a then 5 else if 2000<=L.length then 14 else 0
def dOpen(L:List Disp)(t d a:Int):List Disp:=if Dq L t a=0 then L++ [⟨L.length+1,t,d,a,1⟩] else L
def Eh(L:List Disp)(t a:Int):Int:=if Dq L t a=0 then L.length+1 else 0
theorem dOpen_ok{L:List Disp}(h:Vk L)(t d a:Int):Vk (dOpen L t d a):=by
 unfold dOpen
 split
 ·rename_i h0;obtain⟨h1,h2,h3⟩:=h;unfold Dq at h0
  split at h0;· simp at h0
  split at h0;· simp at h0
  split at h0;· simp at h0
  split at h0;· simp at h0
  refine⟨by simp;omega,by rw [Nr];simp;omega,λx hx=> ?_⟩;rcases List.mem_append.1 hx with hx|hx
  ·exact h3 x hx
  ·simp at hx;subst hx;simp;omega
 ·exact h
def Ct(L:List Disp)(ref:Int):Int:=
 if ref<1\/(L.length:Int)<ref then 12 else match L[(ref-1).toNat]? with
  |some x=>if x.state=1 then 0 else 13
  |none=>12
def Disp.ended(d:Disp)(lost:Bool):Disp:={ d with state:=if lost then 2 else 3 }
def Disp.zero:Disp:=⟨0,0,0,0,0⟩
def Ea(L:List Disp)(ref:Int)(lost:Bool):Disp:=if Ct L ref=0 then(L[(ref-1).toNat]?.getD Disp.zero).ended lost else Disp.zero
def dEnd(L:List Disp)(ref:Int)(lost:Bool):List Disp:=if Ct L ref=0 then L.set (ref-1).toNat (Ea L ref lost) else L
theorem Zj{L:List Disp}{ref:Int}(h:Ct L ref=0):∃(k:Nat) (x:Disp),ref=k+1/\L[k]?=some x/\x.state=1:=by
 unfold Ct at h
 split at h
 ·simp at h
 ·rename_i h1;refine⟨(ref-1).toNat, ?_⟩;rcases hx:L[(ref-1).toNat]? with _|x
  ·rw [hx] at h;simp at h
  ·rw [hx] at h;simp only at h
   split at h
   ·exact⟨x,by omega,rfl,by assumption⟩
   ·simp at h
theorem dEnd_at{L:List Disp}{k:Nat}{x:Disp}(hx:L[k]?=some x)(h1:x.state=1)(lost:Bool):Ct L (k+1)=0/\Ea L (k+1) lost=x.ended lost/\dEnd L (k+1) lost=L.set k (x.ended lost):=by
 have hk:k<L.length:=by
  exact j0E
 have e1:((k:Int)+1-1).toNat=k:=j8
 have h0:Ct L (k+1)=0:=by
  unfold Ct;rw [if_neg j6,e1,hx];simp [h1]
 have h2:Ea L (k+1) lost=x.ended lost:=by unfold Ea;rw [if_pos h0,e1,hx];rfl
 exact⟨h0,h2,by unfold dEnd;rw [if_pos h0,h2,e1]⟩
theorem dEnd_ok{L:List Disp}(h:Vk L)(ref:Int)(lost:Bool):Vk (dEnd L ref lost):=by
 by_cases h0:Ct L ref=0
 ·obtain⟨k,x,rfl,hx,h1⟩:=Zj h0;rw [(dEnd_at hx h1 lost).2.2];obtain⟨a,b,c⟩:=h;have hxm:=c x (List.mem_of_getElem? hx);refine⟨by simpa using a, ?_,λy hy=> ?_⟩
  ·rw [Uo hx h1 (by unfold Disp.ended;cases lost<;>simp)];omega
  ·rcases List.mem_or_eq_of_mem_set hy with hy|hy
   ·exact c y hy
   ·subst hy;exact hxm
 ·unfold dEnd;rw [if_neg h0];exact h
end Go.Proofs.YtjkdnaljkdnomaaGreatDoor
