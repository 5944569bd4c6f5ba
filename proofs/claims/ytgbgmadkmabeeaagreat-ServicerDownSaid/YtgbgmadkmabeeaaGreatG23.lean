/- Part 23 of what the laws of this seat share: walks of functions, and plain laws. -/
import Derived.Test.YtgbgmadkmabeeaaGreatG1
set_option maxRecDepth 100000
set_option maxHeartbeats 400000
namespace Go.Proofs.YtgbgmadkmabeeaaGreat
open Go.RowKit
theorem Vb:(Tryz.prog.info? 132).map (λi=>(i.zero,i.size,i.bytes))=some (some (.agg #[.int .i64 0,.int .i64 0,.int .i64 0,.int .i64 0,.int .i64 0]),5,40):=by kernel_rfl
theorem Nw(w:World)(v:Value)(n:Nat)(xs:List Value)(hr:Reads w 5 v n xs)(h1:∀u∈xs,u.oneCell'=true)(hn:n<=1000000000000):
  Calls Tryz.prog 132 #[v] w λe w'=>∃v',e= .returned v'/\w'.ownsRow 0 132 5 v' n xs/\K0 w w'/\(∀k,v'.ownBlock=some k->w.heap.size<=k):=by
 obtain⟨i0,hi,hz0,hz1,hz2⟩:=info_parts Vb;have hr':=hr;obtain⟨ad,c,rfl,hnc,hl,hnone,hcells⟩:=hr';clear hcells;have heq:=fun(wx:World) (ad:Option Addr) (l c:Nat)=>Lib.run_eql_slice_nil (P:=Tryz.prog) wx 53 _ ad l c 0 0 Tryz.underlying53;rcases ad with _|a
 ·obtain rfl:=hnone rfl;obtain rfl:n=0:=by omega
  obtain rfl:xs= []:=List.eq_nil_of_length_eq_zero jy;have hr0:=Lib.hid hr;clear hr;go_enter Tryz.func132,Tryz.ntmps132;exact jH
 ·have Hr:=Lib.hid hr;clear hr;obtain⟨Hl,Hnone,H1⟩:=hid3 hl hnone h1;clear h1 hnone hl;go_enter Tryz.func132,Tryz.ntmps132
  go_wp2_with (at_builtin;refine Ap rfl (.tmp 5) (.tmp 6) 53 rfl 0 132 i0 _ 5 40 Tryz.underlying53 hi hz0 hz1 hz2 rfl j7 _ 0 [] rfl (World.ownsRow_lit w #[] 0 j6 jd rfl) _ n xs rfl (Hr.o.keeps (Keeps.alloc (S:=λ_=>False) _ _) (by simp)) H1.o jd j6 j6 ?_)
  intro v' w1 hown1 hk1 hfr
  have hend:w1.ownsRow 0 132 5 v' n xs/\K0 w w1/\(∀k,v'.ownBlock=some k->w.heap.size<=k):=by
   exact jI
  exact jJ
structure Disp where
 ref:Int
 tranche:Int
 day:Int
 amount:Int
 state:Int
deriving DecidableEq,Inhabited
def Disp.cells(d:Disp):List Value:= [.int .i64 d.ref,.int .i64 d.tranche,.int .i64 d.day,.int .i64 d.amount,.int .i64 d.state]
theorem Disp.Aj(d:Disp):d.cells.length=5:=rfl
theorem Disp.one(L:List Disp):∀u∈L.flatMap Disp.cells,u.oneCell'=true:=by
 intro u hu;obtain⟨d,_,hd⟩:=List.mem_flatMap.1 hu;simp only [Disp.cells,List.mem_cons,List.not_mem_nil,or_false] at hd;rcases hd with rfl|rfl|rfl|rfl|rfl<;>rfl
theorem Sv(a0:Int)(a1:Int)(a2:Int)(a3:Int)(a4:Int)(w:World):Calls Tryz.prog 130 #[.agg #[.int .i64 a0,.int .i64 a1,.int .i64 a2,.int .i64 a3,.int .i64 a4],.agg #[.int .i64 a0,.int .i64 a1,.int .i64 a2,.int .i64 a3,.int .i64 a4]] w
  λe w'=>e= .returned (.bool true)/\K0 w w':=by
 go_enter Tryz.func130,Tryz.ntmps130;go_wp2;go_ret;exact⟨rfl,(Keeps.alloc _ _).trans (Keeps.alloc _ _)⟩
theorem Wq(L:List Disp)(v1 v2:Value)(w:World)(h1:Reads w 5 v1 L.length (L.flatMap Disp.cells))(h2:Reads w 5 v2 L.length (L.flatMap Disp.cells))(hl:L.length<=1000000000000):
  Calls Tryz.prog 129 #[v1,v2,.func (.func 130) #[] #[]] w λe w'=>e= .returned (.bool true)/\K0 w w':=by
 have g1:=h1;have g2:=h2;obtain⟨ad1,c1,rfl,_,_⟩:=g1;obtain⟨ad2,c2,rfl,_,_⟩:=g2;obtain⟨H1,H2⟩:=hid2 h1 h2;clear h2 h1;go_enter Tryz.func129,Tryz.ntmps129;go_wp2
 go_loopw [7] (λi wr=>∃k:Nat,k<=L.length/\i= .int .i64 k/\K0 w wr) (λi _=>L.length-(intOf i).toNat)
 case atStart=>exact⟨0,Nat.zero_le _,rfl,Keeps.refl _ _⟩
 case round=>
  obtain⟨k,hk,rfl,hkp⟩:=hrel;have Hkp:=Lib.hid hkp;clear hkp;by_cases hlt:k<L.length
  ·obtain⟨x,hx⟩:∃x,L[k]?=some x:=⟨L[k],List.getElem?_eq_getElem hlt⟩;obtain⟨g,o,c,he,hc⟩:=(H1.o.keeps Hkp.o (by simp)).elem Disp.Aj hx j7;obtain⟨g',o',c',he',hc'⟩:=(H2.o.keeps Hkp.o (by simp)).elem Disp.Aj hx j7;simp only [Value.slice.injEq,true_and] at he he';obtain⟨rfl,rfl⟩:=he;obtain⟨rfl,rfl⟩:=he';obtain⟨e0,e1,e2,e3,e4⟩:=x;have x0:wr.cell? ⟨g,o+k*5,none⟩=some (.int .i64 e0):=hc 0 j7;have x1:wr.cell? ⟨g,o+k*5+1,none⟩=some (.int .i64 e1):=hc 1 j7;have x2:wr.cell? ⟨g,o+k*5+2,none⟩=some (.int .i64 e2):=hc 2 j7;have x3:wr.cell? ⟨g,o+k*5+3,none⟩=some (.int .i64 e3):=hc 3 j7;have x4:wr.cell? ⟨g,o+k*5+4,none⟩=some (.int .i64 e4):=hc 4 j7;have y0:wr.cell? ⟨g',o'+k*5,none⟩=some (.int .i64 e0):=hc' 0 j7;have y1:wr.cell? ⟨g',o'+k*5+1,none⟩=some (.int .i64 e1):=hc' 1 j7;have y2:wr.cell? ⟨g',o'+k*5+2,none⟩=some (.int .i64 e2):=hc' 2 j7;have y3:wr.cell? ⟨g',o'+k*5+3,none⟩=some (.int .i64 e3):=hc' 3 j7;have y4:wr.cell? ⟨g',o'+k*5+4,none⟩=some (.int .i64 e4):=hc' 4 j7;clear hc hc';have Hx:=Lib.hid hx;clear hx;go_wp2
   go_still_tail 9,j9
   go_wp2_with (go_at_call 130;refine(Sv _ _ _ _ _ _).mono ?_;rintro e w' ⟨rfl,hk2⟩;have Hk2:=Lib.hid hk2;clear hk2)
   exact j3W
  ·go_wp2;go_ret;exact⟨rfl,Hkp.o⟩
theorem Uo(L:List Disp)(v1 v2:Value)(w:World)(h1:Reads w 5 v1 L.length (L.flatMap Disp.cells))(h2:Reads w 5 v2 L.length (L.flatMap Disp.cells))(hl:L.length<=1000000000000):
  Calls Tryz.prog 71 #[v1,v2] w λe w'=>e= .returned (.bool true)/\K0 w w':=by
 obtain⟨H1,H2⟩:=hid2 h1 h2;clear h2 h1;go_enter Tryz.func71,Tryz.ntmps71
 go_wp2_with (go_at_call 129;refine(Wq L _ _ _ H1.o H2.o hl).mono ?_;rintro e w' ⟨rfl,hk2⟩;have Hk2:=Lib.hid hk2;clear hk2)
 go_ret;exact⟨rfl,Hk2.o⟩
def Eb:List Disp->Int
 | []=>0
 |d::l=>(if d.state=1 then d.amount else 0)+Eb l
def We(L:List Disp):Prop:=L.length<=2000/\Eb L<=1000000000000000/\∀d∈L,1<=d.amount/\d.amount<=1000000000000000
theorem Gg:∀L:List Disp,(∀d∈L,1<=d.amount/\d.amount<=1000000000000000)->0<=Eb L
 | [],_=>Int.le_refl _
 |d::l,h=>by
  have:=Gg l λx hx=>h x (List.mem_cons_of_mem _ hx);have:=h d (List.mem_cons_self ..);unfold Eb;split<;>omega
theorem Ns(L:List Disp)(d:Disp):Eb (L++ [d])=Eb L+(if d.state=1 then d.amount else 0):=by
 induction L with
 |nil=>simp [Eb]
 |cons x l ih=>simp only [List.cons_append,Eb,ih];omega
theorem Vd{L:List Disp}{k:Nat}{x y:Disp}(hx:L[k]?=some x)(h1:x.state=1)(h2:y.state≠1):Eb (L.set k y)=Eb L-x.amount:=by
 induction L generalizing k with
 |nil=>simp at hx
 |cons a l ih=>
  cases k with
  |zero=>simp at hx;subst hx;simp [Eb,h1,h2];omega
  |succ k=>simp at hx;simp only [List.set_cons_succ,Eb,ih hx];omega
theorem heldOf_ge{L:List Disp}(h:∀d∈L,1<=d.amount/\d.amount<=1000000000000000){k:Nat}{x:Disp}(hx:L[k]?=some x)(h1:x.state=1):x.amount<=Eb L:=by
 induction L generalizing k with
 |nil=>simp at hx
 |cons a l ih=>
  have hl:∀d∈l,1<=d.amount/\d.amount<=1000000000000000:=λx hx=>h x (List.mem_cons_of_mem _ hx);have:=h a (List.mem_cons_self ..);have:=Gg l hl
  cases k with
  |zero=>simp at hx;subst hx;simp [Eb,h1];omega
  |succ k=>simp at hx;have:=ih hl hx;unfold Eb;split<;>omega
def Dv(L:List Disp)(t a:Int):Int:=
 if t<1\/8<t then 7 else if a<1\/1000000000000000<a then 8 else if 1000000000000000-Eb L<a then 5 else if 2000<=L.length then 14 else 0
def dOpen(L:List Disp)(t d a:Int):List Disp:=if Dv L t a=0 then L++ [⟨L.length+1,t,d,a,1⟩] else L
def Fv(L:List Disp)(t a:Int):Int:=if Dv L t a=0 then L.length+1 else 0
theorem dOpen_ok{L:List Disp}(h:We L)(t d a:Int):We (dOpen L t d a):=by
 unfold dOpen
 split
 ·rename_i h0;obtain⟨h1,h2,h3⟩:=h;unfold Dv at h0
  split at h0;· simp at h0
  split at h0;· simp at h0
  split at h0;· simp at h0
  split at h0;· simp at h0
  refine⟨by simp;omega,by rw [Ns];simp;omega,λx hx=> ?_⟩;rcases List.mem_append.1 hx with hx|hx
  ·exact h3 x hx
  ·simp at hx;subst hx;simp;omega
 ·exact h
def Cv(L:List Disp)(ref:Int):Int:=
 if ref<1\/(L.length:Int)<ref then 12 else match L[(ref-1).toNat]? with
  |some x=>if x.state=1 then 0 else 13
  |none=>12
def Disp.ended(d:Disp)(lost:Bool):Disp:={ d with state:=if lost then 2 else 3 }
def Disp.zero:Disp:=⟨0,0,0,0,0⟩
def Ec(L:List Disp)(ref:Int)(lost:Bool):Disp:=if Cv L ref=0 then(L[(ref-1).toNat]?.getD Disp.zero).ended lost else Disp.zero
def dEnd(L:List Disp)(ref:Int)(lost:Bool):List Disp:=if Cv L ref=0 then L.set (ref-1).toNat (Ec L ref lost) else L
theorem Zy{L:List Disp}{ref:Int}(h:Cv L ref=0):∃(k:Nat) (x:Disp),ref=k+1/\L[k]?=some x/\x.state=1:=by
 unfold Cv at h
 split at h
 ·simp at h
 ·rename_i h1;refine⟨(ref-1).toNat, ?_⟩;rcases hx:L[(ref-1).toNat]? with _|x
  ·rw [hx] at h;simp at h
  ·rw [hx] at h;simp only at h
   split at h
   ·exact⟨x,by omega,rfl,by assumption⟩
   ·simp at h
theorem dEnd_at{L:List Disp}{k:Nat}{x:Disp}(hx:L[k]?=some x)(h1:x.state=1)(lost:Bool):Cv L (k+1)=0/\Ec L (k+1) lost=x.ended lost/\dEnd L (k+1) lost=L.set k (x.ended lost):=by
 have hk:k<L.length:=by
  exact j0u
 have e1:((k:Int)+1-1).toNat=k:=j8
 have h0:Cv L (k+1)=0:=by
  unfold Cv;rw [if_neg j6,e1,hx];simp [h1]
 have h2:Ec L (k+1) lost=x.ended lost:=by unfold Ec;rw [if_pos h0,e1,hx];rfl
 exact⟨h0,h2,by unfold dEnd;rw [if_pos h0,h2,e1]⟩
theorem dEnd_ok{L:List Disp}(h:We L)(ref:Int)(lost:Bool):We (dEnd L ref lost):=by
 by_cases h0:Cv L ref=0
 ·obtain⟨k,x,rfl,hx,h1⟩:=Zy h0;rw [(dEnd_at hx h1 lost).2.2];obtain⟨a,b,c⟩:=h;have hxm:=c x (List.mem_of_getElem? hx);refine⟨by simpa using a, ?_,λy hy=> ?_⟩
  ·rw [Vd hx h1 (by unfold Disp.ended;cases lost<;>simp)];omega
  ·rcases List.mem_or_eq_of_mem_set hy with hy|hy
   ·exact c y hy
   ·subst hy;exact hxm
 ·unfold dEnd;rw [if_neg h0];exact h
end Go.Proofs.YtgbgmadkmabeeaaGreat
