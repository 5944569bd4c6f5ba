/- Part 39 of what the laws of this seat share: walks of functions, and plain laws. -/
import Derived.ProofKit
import Derived.OpenShut
import Derived.ShutString
import Derived.ChangeOld
import Derived.Below
import Derived.Deep.Slices
import Derived.Test.YtjkdnaljkdnomaaGreatDoorS22
import Derived.Test.YtjkdnaljkdnomaaGreatDoorS32
set_option maxRecDepth 100000
set_option maxHeartbeats 400000
namespace Go.Proofs.YtjkdnaljkdnomaaGreatDoor
open Go.ChangeShapes Go.WideShapes Go.ChangeAt Go.RowKit Go.Deep
theorem own:ownKnob Tryz.prog.godebug=none:=by kernel_rfl
theorem laidOut:laidOutB Tryz.prog=true:=by kernel_rfl
section
variable {H:Type} {enc:TypeId×Value->H} {w:World} {spare:Nat->Bool} {held:Bool}
theorem list_of{α:Type}{p:Nat->α->Prop}:∀n:Nat,(∀i,i<n->∃a,p i a)->∃L:List α,L.length=n/\∀i (a:α),L[i]?=some a->p i a
 |0,_=>⟨[],rfl,λi a h=>by simp at h⟩
 |n+1,h=>by
  obtain⟨L,h1,h2⟩:=list_of n λi hi=>h i (by omega);obtain⟨a,ha⟩:=h n (by omega);refine⟨L++ [a],by simp [h1],λi b hb=> ?_⟩;rcases Nat.lt_or_ge i n with hi|hi
  ·rw [List.getElem?_append_left (by omega)] at hb;exact h2 i b hb
  ·rw [List.getElem?_append_right (by omega),h1] at hb
   obtain rfl:i=n:=by
    rcases Nat.lt_or_ge n i with h'|h'
    ·rw [List.getElem?_eq_none (by simp;omega)] at hb;simp at hb
    ·omega
   simp at hb;subst hb;exact ha
theorem flat_at{α:Type}{f:α->List Value}{size:Nat}(hf:∀x,(f x).length=size)(hs:0<size){L:List α}{j:Nat}{u:Value}(h:(L.flatMap f)[j]?=some u):∃a,L[j / size]?=some a/\(f a)[j % size]?=some u:=by
 have hj:j<L.length*size:=by rw [<-Cs hf L];exact Dr h
 have hk:j / size<L.length:=Nat.div_lt_of_lt_mul (by rw [Nat.mul_comm];exact hj);refine⟨L[j / size],List.getElem?_eq_getElem hk, ?_⟩;have:=flat_get hf (List.getElem?_eq_getElem hk) (Nat.mod_lt j hs);rw [<-this,Nat.mul_comm,Nat.div_add_mod];exact h
theorem Ad1{α:Type}{f:α->List Value}{size:Nat}(hf:∀x,(f x).length=size)(hs:0<size){p:α->Prop}{t e:TypeId}{fuel:Nat}{ad:Option Addr}{len cap:Nat}{x:DataW H×List MemPlace}
  (ht:Tryz.prog.underlying t=some (.slice e)) (hc:Tryz.prog.cellsOf e=size)
  (hel:∀n cs d,DataW.trod enc Tryz.prog w 0 spare held n e cs=some d->∃a:α,cs=f a/\p a)
  (h:DataW.trod enc Tryz.prog w 0 spare held fuel t [.slice ad len cap]=some x):
  ∃L:List α,L.length=len/\Reads w size (.slice ad len cap) L.length (L.flatMap f)/\(∀a∈L,p a)/\L.length<=maxLen:=by
 rcases open_slice ht h with⟨h0,_⟩|⟨a,len',cap',m,n,D,Pl,h0,_,hl,hm,hmm,_,hx⟩
 ·simp only [List.cons.injEq,and_true,Value.slice.injEq] at h0;obtain⟨rfl,rfl,rfl⟩:=h0;exact⟨[],rfl,Reads.nil _ _,by simp,Nat.zero_le _⟩
 ·simp only [List.cons.injEq,and_true,Value.slice.injEq] at h0;obtain⟨rfl,rfl,rfl⟩:=h0;rw [hc] at hx;have hlm:len<=m:=by rw [hmm];split<;>omega
  obtain⟨L,hL,hLp⟩:=list_of (p:=λi (b:α)=>w.cells? 0 (a.add (i*size)) size=some (f b)/\p b) len λi hi=>by
   obtain⟨cs,h1,h2⟩:=hx i j6;obtain⟨b,rfl,hb⟩:=hel _ _ _ h2;exact⟨b,h1,hb⟩
  refine⟨L,hL,⟨some a,cap,by rw [hL],by omega,Cs hf L,by simp,λj u hj=> ?_⟩,λb hb=> ?_,by omega⟩
  ·obtain⟨b,hb,hu⟩:=flat_at hf hs hj;obtain⟨h1,_⟩:=hLp _ b hb;obtain⟨_,hlen,hcell⟩:=World.cells?_some h1;have hc1:=hcell (j % size) (Nat.mod_lt j hs);rw [hu] at hc1
   have hadd:((a.add (j / size*size)).add (j % size))=a.add j:=by
    have hj:j / size*size+j % size=j:=by rw [Nat.mul_comm];exact Nat.div_add_mod j size
    unfold Addr.add
    split<;>split<;>split<;>simp_all<;>omega
   rw [hadd] at hc1;obtain⟨ab,ao,asp⟩:=a;rcases asp with _|sp
   ·exact⟨ab,ao,rfl,by rw [<-Ef];exact hc1⟩
   ·-- an address with a spot reads no cell at its own place
    exfalso
    have hk:0<L.length:=by
     rcases Nat.eq_zero_or_pos L.length with h'|h'
     ·rw [List.eq_nil_of_length_eq_zero h'] at hj;simp at hj
     ·exact h'
    obtain⟨h1',_⟩:=hLp 0 _ (List.getElem?_eq_getElem hk);obtain⟨_,hlen',hcell'⟩:=World.cells?_some h1';have hc0:=hcell' 0 hs;rw [List.getElem?_eq_getElem j6] at hc0;unfold World.cell? at hc0;simp only [Nat.zero_mul,Addr.add,if_true] at hc0
    split at hc0<;>simp at hc0
  ·obtain⟨i,hi⟩:=List.getElem?_of_mem hb;exact(hLp i b hi).2
theorem elem_int{k:IntKind}{e:TypeId}(he:Tryz.prog.underlying e=some (.int k))(n:Nat)(cs:List Value)(d:DataW H×List MemPlace)(h:DataW.trod enc Tryz.prog w 0 spare held n e cs=some d):∃a:Int,cs= [.int k a]/\(Lit.int k a).wf=true:=by
 obtain⟨a,h1,_,h2⟩:=DataW.trod_int he h;exact⟨a,h1,h2⟩
end
def Cmd.wf(a:Cmd):Prop:=(Lit.int .i64 a.kind).wf=true/\(Lit.int .i64 a.day).wf=true/\(Lit.int .i64 a.tranche).wf=true/\(Lit.int .i64 a.amount).wf=true/\(Lit.int .i64 a.ref).wf=true
open Go.RowKit Go.IntWalk
def Cmd.nums(c:Cmd):List Int:= [c.kind,c.day,c.tranche,c.amount,c.ref]
def Ach(w:World)(B:List Int)(e:Ending)(w':World):Prop:=∃v,e= .returned v/\w'.ownsRow 0 5 1 v B.length (B.flatMap u8c)/\K0 w w'/\∀g,v.ownBlock=some g->w.heap.size<=g
theorem Acm(c:Cmd)(w:World):Calls Tryz.prog 31 #[.agg #[.int .i64 c.kind,.int .i64 c.day,.int .i64 c.tranche,.int .i64 c.amount,.int .i64 c.ref]] w (Ach w (packN c.nums)):=by
 obtain⟨ki,da,tr,am,re⟩:=c;obtain⟨w1,hw1⟩:=eY ((w.alloc (.cells #[.int .i64 ki,.int .i64 da,.int .i64 tr,.int .i64 am,.int .i64 re] 33)).alloc (.cells #[.int .i64 ki,.int .i64 da,.int .i64 tr,.int .i64 am,.int .i64 re] 2));have hk1:K0 w w1:=by rw [hw1];exact Keeps.nt (Keeps.alloc _ _) (Keeps.alloc _ _)
 have hr1:Reads w1 1 (.slice (some ⟨w.heap.size+1,0,none⟩) 5 5) 5 ((Cmd.nums ⟨ki,da,tr,am,re⟩).flatMap i64c):=by
  rw [hw1];have:=Reads.lit (w.alloc (.cells #[.int .i64 ki,.int .i64 da,.int .i64 tr,.int .i64 am,.int .i64 re] 33)) #[.int .i64 ki,.int .i64 da,.int .i64 tr,.int .i64 am,.int .i64 re] 2 1 5 rfl
  simpa [Cmd.nums,i64c] using this
 have hp:=Lm (.slice none 0 0) [] (some ⟨w.heap.size+1,0,none⟩) 5 (Cmd.nums ⟨ki,da,tr,am,re⟩) w1 (World.ownsRow_nil _ _ _ _) hr1 (by simp [Value.ownBlock]) (by simp [Cmd.nums]);obtain⟨Hw1,Hk1⟩:=hid2 hw1 hk1;clear hk1 hw1 hr1;have Hp:=Lib.hid hp;clear hp;go_enter Tryz.func31,Tryz.ntmps31;go_wp2_with fail;rw [<-Hw1.o];refine Hp.o.mono ?_;rintro e w2 ⟨v2,rfl,hg⟩;have hrow:=hg.row;have hk2:K0 w1 w2:=hg.kp.mono λk _ e=>by simp [Value.ownBlock] at e
 have hnw:∀g,v2.ownBlock=some g->w.heap.size<=g:=by
  intro g hgb;rcases hg.nw with e|⟨g',hg',hh⟩
  ·rw [hgb] at e;simp [Value.ownBlock] at e
  ·rw [hgb] at hg';have:=Option.some.inj hg';have:=Hk1.o.size;omega
 rw [List.nil_append] at hrow;clear hg;obtain⟨Hrow,Hk2,Hnw⟩:=hid3 hrow hk2 hnw;clear hnw hk2 hrow;go_wp2;go_ret;exact⟨v2,rfl,Hrow.o,Keeps.nt Hk1.o Hk2.o,Hnw.o⟩
theorem Wy:(Tryz.prog.info? 33).map (·.size)=some 5:=by kernel_rfl
def z5:Array Value:= #[.int .i64 0,.int .i64 0,.int .i64 0,.int .i64 0,.int .i64 0]
end Go.Proofs.YtjkdnaljkdnomaaGreatDoor
