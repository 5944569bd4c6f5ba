/- Part 1 of the proof of ReplayApplies: walks and plain laws. -/
import Derived.Test.YthcmpcekmkioaaaGreatRows
import Derived.WalkKit
import Derived.WalkSpells
import Derived.WalkLawsBesides
import Derived.Lib.Hide
import Derived.Deep.QuietTactic
import Derived.BigQuiet
import Derived.StillTailTactics
import Derived.ProofKit
import Derived.OpenShut
import Derived.ShutString
import Derived.ChangeOld
import Derived.Below
import Derived.Deep.Slices
import Derived.Deep.RegionLaw
import Derived.Deep.RegionHeld3
import Derived.Shelf.Bits.Mul64
import Derived.Shelf.Spec.BitsCarry
import Derived.Deep.DeepCutAuto
import Derived.Lib.SliceRun
import Derived.Shelf.Abstract
import Derived.Lib.Overlaps
import Derived.Lib.AppendZeros
import Derived.Laws.Externs
import Derived.Maps.RangeWalk
namespace Go.Proofs.YthcmpcekmkioaaaGreat
open Go.RowKit
theorem hid2{a0 a1:Prop}(h0:a0)(h1:a1):Hid a0∧Hid a1:=⟨h0,h1⟩
theorem hid3{a0 a1 a2:Prop}(h0:a0)(h1:a1)(h2:a2):Hid a0∧Hid a1∧Hid a2:=⟨h0,h1,h2⟩
theorem hid4{a0 a1 a2 a3:Prop}(h0:a0)(h1:a1)(h2:a2)(h3:a3):Hid a0∧Hid a1∧Hid a2∧Hid a3:=⟨h0,h1,h2,h3⟩
theorem hid5{a0 a1 a2 a3 a4:Prop}(h0:a0)(h1:a1)(h2:a2)(h3:a3)(h4:a4):Hid a0∧Hid a1∧Hid a2∧Hid a3∧Hid a4:=⟨h0,h1,h2,h3,h4⟩
theorem hid6{a0 a1 a2 a3 a4 a5:Prop}(h0:a0)(h1:a1)(h2:a2)(h3:a3)(h4:a4)(h5:a5):Hid a0∧Hid a1∧Hid a2∧Hid a3∧Hid a4∧Hid a5:=⟨h0,h1,h2,h3,h4,h5⟩
theorem hid7{a0 a1 a2 a3 a4 a5 a6:Prop}(h0:a0)(h1:a1)(h2:a2)(h3:a3)(h4:a4)(h5:a5)(h6:a6):Hid a0∧Hid a1∧Hid a2∧Hid a3∧Hid a4∧Hid a5∧Hid a6:=⟨h0,h1,h2,h3,h4,h5,h6⟩
theorem hid8{a0 a1 a2 a3 a4 a5 a6 a7:Prop}(h0:a0)(h1:a1)(h2:a2)(h3:a3)(h4:a4)(h5:a5)(h6:a6)(h7:a7):Hid a0∧Hid a1∧Hid a2∧Hid a3∧Hid a4∧Hid a5∧Hid a6∧Hid a7:=⟨h0,h1,h2,h3,h4,h5,h6,h7⟩
theorem hid9{a0 a1 a2 a3 a4 a5 a6 a7 a8:Prop}(h0:a0)(h1:a1)(h2:a2)(h3:a3)(h4:a4)(h5:a5)(h6:a6)(h7:a7)(h8:a8):Hid a0∧Hid a1∧Hid a2∧Hid a3∧Hid a4∧Hid a5∧Hid a6∧Hid a7∧Hid a8:=⟨h0,h1,h2,h3,h4,h5,h6,h7,h8⟩
end Go.Proofs.YthcmpcekmkioaaaGreat
namespace Go.Proofs.YthcmpcekmkioaaaGreat
open Go.RowKit
theorem wp_scope_ahead{P:Program}{a:Act}{w:World}{Q:Exit→Act→World→Prop}{c rest:Code}(l:Nat)(hf:findLabel c l=some rest)
  (h:c.wp P (Exit.jump l (fun a' w'=>rest.wp P (Exit.noGoto Q) a' w') Q) a w):(Code.scope c).wp P Q a w:=by
 refine wp_scope_jumps l (fun a' w'=>rest.wp P (Exit.noGoto Q) a' w') (fun _ _=>0) hf h ?_
 intro a w hJ
 refine Code.wp_mono ?_ hJ
 intro e a w hq
 cases e<;>first|exact hq|exact hq.elim
theorem jump_goto{l:Nat}{J:Act→World→Prop}{Q:Exit→Act→World→Prop}{a:Act}{w:World}(h:J a w):Exit.jump l J Q (.goto l) a w:=⟨rfl,h⟩
theorem jump_ret{l:Nat}{J:Act→World→Prop}{Q:Exit→Act→World→Prop}{a:Act}{w:World}(h:Q .ret a w):Exit.jump l J Q .ret a w:=h
structure Keeps(S:Nat→Prop)(w w':World):Prop where
 os:w'.os=w.os
 tape:w'.tape=w.tape
 output:w'.output=w.output
 size:w.heap.size≤w'.heap.size
 block:∀k,k<w.heap.size→¬S k→w'.heap[k]?=w.heap[k]?
theorem Keeps.refl(S:Nat→Prop)(w:World):Keeps S w w:=⟨rfl,rfl,rfl,Nat.le_refl _,fun _ _ _=>rfl⟩
theorem Keeps.mono{S T:Nat→Prop}{w w':World}(h:Keeps S w w')(hST:∀k,k<w.heap.size→S k→T k):Keeps T w w':=
 ⟨h.os,h.tape,h.output,h.size,fun k hk hn=>h.block k hk fun hs=>hn (hST k hk hs)⟩
theorem Keeps.trans{S:Nat→Prop}{a b c:World}(h:Keeps S a b)(k:Keeps (fun i=>S i∨a.heap.size≤i) b c):Keeps S a c:=
 ⟨k.os.trans h.os,k.tape.trans h.tape,k.output.trans h.output,Nat.le_trans h.size k.size,
  fun i hi hn=>(k.block i (Nat.lt_of_lt_of_le hi h.size) (fun hh=>hh.elim hn (fun hh=>by omega))).trans (h.block i hi hn)⟩
theorem Keeps.below{S:Nat→Prop}{B:Nat}{w w':World}(h:Keeps S w w')(hS:∀k,k<B→¬S k)(hB:B≤w.heap.size):Below B w w':=
 ⟨h.os,h.tape,h.output,h.size,fun k hk=>h.block k (by omega) (hS k hk)⟩
theorem Keeps.grown{w w':World}{row:Option Nat}(h:w.grownBy w' row):Keeps (fun k=>row=some k) w w':=⟨h.os,h.tape,h.output,h.size,fun k hk hn=>h.block k hk fun e=>hn e.symm⟩
theorem Keeps.grownBy{w w':World}{row:Option Nat}(h:Keeps (fun k=>row=some k) w w'):w.grownBy w' row:=⟨h.os,h.tape,h.output,h.size,fun k hk hn=>h.block k hk fun e=>hn e.symm⟩
theorem Keeps.drewN{S:Nat→Prop}(w:World)(n:Nat):Keeps S w (w.drewN n):=⟨rfl,rfl,rfl,Nat.le_refl _,fun _ _ _=>rfl⟩
theorem Keeps.drew{S:Nat→Prop}(w:World):Keeps S w w.drew:=⟨rfl,rfl,rfl,Nat.le_refl _,fun _ _ _=>rfl⟩
theorem Keeps.alloc{S:Nat→Prop}(w:World)(o:Obj):Keeps S w (w.alloc o):=⟨rfl,rfl,rfl,by simp,fun k hk _=>Below.heap_alloc _ _ _ hk⟩
theorem Keeps.setCell{S:Nat→Prop}(w:World)(a:Addr)(u:Value)(h:S a.block):Keeps S w (w.setCell a u):=
 ⟨rfl,rfl,rfl,by simp [World.setCell],fun k _ hn=>Below.heap_setCell _ _ _ _ (fun e=>hn (e▸h))⟩
theorem Keeps.cell{S:Nat→Prop}{w w':World}(h:Keeps S w w'){p:Addr}(hp:p.block<w.heap.size)(hn:¬S p.block):w'.cell? p=w.cell? p:=World.cell?_of_block (w:=w) (h.block p.block hp hn)
theorem Keeps.row{S:Nat→Prop}{w w':World}(h:Keeps S w w'){base:Nat}{e:TypeId}{size:Nat}{v:Value}{n:Nat}{xs:List Value}(hown:w.ownsRow base e size v n xs)(hn:∀k,v.ownBlock=some k→¬S k):
  w'.ownsRow base e size v n xs:=by
 obtain⟨h1,h2⟩:=hown
 refine⟨h1, ?_⟩
 rcases h2 with h2|⟨g,cap,cur,hv,hg,hh,r⟩
 ·exact .inl h2
 ·exact .inr ⟨g,cap,cur,hv,hg,by rw [h.block g (lt_of_block hh) (hn g (by rw [hv];rfl))];exact hh,r⟩
theorem cell_lt{w:World}{a:Addr}{u:Value}(ha:w.cell? a=some u):a.block<w.heap.size:=by
 unfold World.cell? at ha
 rcases hb:w.heap[a.block]? with _|o
 ·rw [hb] at ha;simp at ha
 ·exact lt_of_block hb
theorem add_mk(g o j:Nat):(⟨g,o,none⟩:Addr).add j=⟨g,o+j,none⟩:=by unfold Addr.add;split<;>simp_all
def Reads(w:World)(size:Nat)(x:Value)(m:Nat)(news:List Value):Prop:=
 ∃ad c,x= .slice ad m c∧m≤c∧news.length=m*size∧(ad=none→c=0)∧∀j u,news[j]?=some u→∃g o,ad=some ⟨g,o,none⟩∧w.cell? ⟨g,o+j,none⟩=some u
theorem Reads.of_owns{w:World}{base:Nat}{e:TypeId}{size:Nat}{v:Value}{n:Nat}{xs:List Value}(h:w.ownsRow base e size v n xs):Reads w size v n xs:=by
 have hc:=fun g (hg:v.ownBlock=some g)=>h.cells hg
 obtain⟨h1,⟨rfl,rfl⟩|⟨g,cap,cur,rfl,_,_,hn,_⟩⟩:=h
 ·exact⟨none,0,rfl,Nat.le_refl _,h1,fun _=>rfl,fun j u hj=>by have:xs= []:=List.eq_nil_of_length_eq_zero (by simpa using h1);subst this;simp at hj⟩
 ·exact⟨some ⟨g,0,none⟩,cap,rfl,hn,h1,by simp,fun j u hj=>⟨g,0,rfl,by rw [←add_mk];exact hc g rfl j u hj⟩⟩
theorem Reads.nil(w:World)(size:Nat):Reads w size (.slice none 0 0) 0 []:=⟨none,0,rfl,Nat.le_refl _,by simp,fun _=>rfl,fun j u hj=>by simp at hj⟩
theorem Reads.keeps{S:Nat→Prop}{w w':World}{size:Nat}{x:Value}{m:Nat}{news:List Value}(h:Reads w size x m news)(hk:Keeps S w w')
  (hS:∀k,x.ownBlock=some k→¬S k):Reads w' size x m news:=by
 obtain⟨ad,c,rfl,h1,h2,h3,h4⟩:=h
 refine⟨ad,c,rfl,h1,h2,h3,fun j u hj=> ?_⟩
 obtain⟨g,o,rfl,ha⟩:=h4 j u hj
 exact⟨g,o,rfl,by rw [hk.cell (cell_lt ha) (hS g rfl)];exact ha⟩
theorem run_append_row{P:Program}(w:World)(base:Nat)(t ty e:TypeId)(i:TypeInfo)(z:Value)(size bytes:Nat)(ht:P.underlying t=some (.slice e))(hi:P.info? e=some i)(hz:i.zero=some z)
  (hsize:i.size=size) (hby:i.bytes=bytes) (hzs:z.cells.size=size) (hsz:0<size)
  (v:Value) (n:Nat) (xs:List Value) (hown:w.ownsRow base e size v n xs)
  (x:Value) (m:Nat) (news:List Value) (hx:Reads w size x m news) (h1:∀u∈news,u.oneCell'=true)
  (h63:n+m≤maxLen) (hbytes:(n+m)*bytes≤140737488355328) (hbase:base≤w.heap.size):
  ∃v' w',(Builtin.append_ #[t,t] ty #[v,x]).run P w= .ok v' w'∧w'.ownsRow base e size v' (n+m) (xs++news)∧Keeps (fun k=>v.ownBlock=some k) w w'∧
   (v'.ownBlock=v.ownBlock∨∃g,v'.ownBlock=some g∧w.heap.size≤g)∧(v'= .slice none 0 0↔v= .slice none 0 0∧m=0):=by
 obtain⟨ad,c,rfl,hmc,hl,hnone,hnews⟩:=hx
 rcases ad with _|a
 ·have hc0:=hnone rfl
  subst hc0
  obtain rfl:m=0:=by omega
  obtain rfl:news= []:=List.eq_nil_of_length_eq_zero (by simpa using hl)
  have hr:=run_append_owned_none (P:=P) w base t ty e i size ht hi v n xs hown
  exact⟨v,w,hr,by simpa using hown,Keeps.refl _ _, .inl rfl,by simp⟩
 ·have hnews':∀j u,news[j]?=some u→w.cell? (a.add j)=some u:=fun j u hj=>by
   obtain⟨g,o,ha',hh⟩:=hnews j u hj
   cases ha'
   rw [add_mk]
   exact hh
  obtain⟨v',w',hr,hown',hgr,hnil⟩:=run_append_own (P:=P) w base t ty e i z size bytes ht hi hz hsize hby hzs hsz v n xs hown a m c news hl hnews' h1 h63 hbytes hbase
  refine⟨v',w',hr,hown',Keeps.grown hgr, ?_,hnil⟩
  subst hsize
  subst hby
  have hm63:n+m≤9223372036854775807:=by simp only [maxLen] at h63;omega
  rcases hown.2 with⟨rfl,rfl⟩|⟨g,cap,cur,rfl,hbg,hg,hnc,hcm,hcs,htake⟩
  ·by_cases hm:m=0
   ·left;rw [hnil.2 ⟨rfl,hm⟩]
   ·have hr2:=run_append_nil (P:=P) w t ty e i z ht hi hz a m c news hl hnews' (by omega) (by omega) (by have hb:=hbytes;simp only [Nat.zero_add] at hb;omega)
    rw [hr2] at hr
    injection hr with hv hw
    right
    exact⟨w.heap.size,by rw [←hv];rfl,Nat.le_refl _⟩
  ·by_cases hroom:n+m≤cap
   ·have hfit:n*i.size+news.length≤cur.size:=by rw [hl,hcs,←Nat.add_mul];exact Nat.mul_le_mul_right _ hroom
    have hr2:=run_append_room (P:=P) w t ty e i ht hi g n cap cur hg a m c news hl hnews' h1 hroom hfit
    rw [hr2] at hr
    injection hr with hv hw
    left
    rw [←hv];rfl
   ·have holds:∀j u,xs[j]?=some u→w.cell? ((⟨g,0,none⟩:Addr).add j)=some u:=hown.cells (g:=g) rfl
    have hr2:=run_append_grow (P:=P) w t ty e i z ht hi hz ⟨g,0,none⟩ n cap xs hown.1 holds a m c news hl hnews' (by omega) (by omega) (growslice_fits (by omega) hbytes)
    rw [hr2] at hr
    injection hr with hv hw
    right
    exact⟨w.heap.size,by rw [←hv];rfl,Nat.le_refl _⟩
theorem wpList_append_row{P:Program}{w:World}{ops:Array Oper}{rest:List Oper}{o:Oper}{a:Act}{Q:Exit→Act→World→Prop}(hgd:o.guard=none)(s x:Operand)(t:TypeId)
  (ho:o.op= .call { callee:= .builtin .append,args:= #[s,x],argTypes:= #[t,t] })
  (base:Nat) (e:TypeId) (i:TypeInfo) (z:Value) (size bytes:Nat) (ht:P.underlying t=some (.slice e)) (hi:P.info? e=some i) (hz:i.zero=some z)
  (hsize:i.size=size) (hby:i.bytes=bytes) (hzs:z.cells.size=size) (hsz:0<size)
  (v:Value) (n:Nat) (xs:List Value) (hs:a.eval s=v) (hown:w.ownsRow base e size v n xs)
  (xv:Value) (m:Nat) (news:List Value) (hx:a.eval x=xv) (hxr:Reads w size xv m news) (h1:∀u∈news,u.oneCell'=true)
  (h63:n+m≤maxLen) (hbytes:(n+m)*bytes≤140737488355328) (hbase:base≤w.heap.size)
  (h:∀v' w',w'.ownsRow base e size v' (n+m) (xs++news)→Keeps (fun k=>v.ownBlock=some k) w w'→(v'.ownBlock=v.ownBlock∨∃g,v'.ownBlock=some g∧w.heap.size≤g)→wpList P ops Q rest (a.put o.dst v') w'):wpList P ops Q (o::rest) a w:=by
 refine wpList_plain hgd fun K hK=> ?_
 obtain⟨v',w',hr,h2,h3,h4,_⟩:=run_append_row (P:=P) w base t o.type e i z size bytes ht hi hz hsize hby hzs hsz v n xs hown xv m news hxr h1 h63 hbytes hbase
 unfold Oper.wp execOp
 simp only [ho,resolve,invoke,builtin,Sem.run_bind,Sem.run_pure,Result.andThen_ok,List.map_toArray,List.map_cons,List.map_nil,hs,hx,hr]
 exact hK _ _ (h v' w' h2 h3 h4)
theorem cell_of_cells{w:World}{b:Nat}{c:Array Value}{t:TypeId}{fz:Nat×Nat}(hb:w.heap[b]?=some (.cells c t fz))(j:Nat):w.cell? ⟨b,j,none⟩=c[j]?:=by simp [World.cell?,hb]
theorem Reads.lit(w:World)(cs:Array Value)(e:TypeId)(size n:Nat)(hs:cs.size=n*size):Reads (w.alloc (.cells cs e)) size (.slice (some ⟨w.heap.size,0,none⟩) n n) n cs.toList:=
 ⟨some ⟨w.heap.size,0,none⟩,n,rfl,Nat.le_refl _,by simpa using hs,by simp,fun j u hj=>⟨w.heap.size,0,rfl,by
  have hb:(w.alloc (.cells cs e)).heap[w.heap.size]?=some (.cells cs e (0,0)):=heap_alloc_new w _
  rw [cell_of_cells hb,Nat.zero_add]
  simpa using hj⟩⟩
theorem ownsRow_ne{w:World}{base:Nat}{e:TypeId}{size:Nat}{v:Value}{n:Nat}{xs:List Value}(h:w.ownsRow base e size v n xs){b:Nat}{c:Array Value}{t:TypeId}{fz:Nat×Nat}
  (hb:w.heap[b]?=some (.cells c t fz)) (hne:t≠e):v.ownBlock≠some b:=by
 intro hv
 rcases h.2 with⟨rfl,_⟩|⟨g,cap,cur,rfl,_,hg,_⟩
 ·simp [Value.ownBlock] at hv
 ·simp only [Value.ownBlock,Option.some.injEq] at hv
  subst hv
  rw [hb] at hg
  injection hg with hg
  injection hg with _ he _
  exact hne he
theorem ownsRow_shape{w:World}{base:Nat}{e:TypeId}{size:Nat}{v:Value}{n:Nat}{xs:List Value}(h:w.ownsRow base e size v n xs):∃ad cap,v= .slice ad n cap∧n≤cap∧(ad=none→cap=0):=by
 rcases h.2 with⟨h,h'⟩|⟨g,cap,cur,h,_,_,h',_⟩
 ·exact⟨none,0,by rw [h,h'],by omega,fun _=>rfl⟩
 ·exact⟨_,cap,h,h',by simp⟩
theorem free_of_cells{w:World}{b:Nat}{c:Array Value}{t:TypeId}(hb:w.heap[b]?=some (.cells c t (0,0)))(j:Nat):w.frozen? ⟨b,j,none⟩=false:=by simp [World.frozen?,hb]
section flat
variable {α:Type} {f:α→List Value} {size:Nat} (hf:∀x,(f x).length=size)
include hf
theorem flat_length(L:List α):(L.flatMap f).length=L.length*size:=by
 induction L with
 |nil=>simp
 |cons a l ih=>simp [List.flatMap_cons,hf,ih,Nat.add_mul];omega
theorem flat_get{L:List α}{k j:Nat}{x:α}(hx:L[k]?=some x)(hj:j<size):(L.flatMap f)[k*size+j]?=(f x)[j]?:=by
 induction L generalizing k with
 |nil=>simp at hx
 |cons a l ih=>
  rw [List.flatMap_cons]
  cases k with
  |zero=>
   simp only [List.getElem?_cons_zero,Option.some.injEq] at hx
   subst hx
   rw [List.getElem?_append_left (by rw [hf];omega)]
   simp
  |succ k=>
   have hx':l[k]?=some x:=by simpa using hx
   rw [List.getElem?_append_right (by rw [hf,Nat.succ_mul];omega),hf,←ih hx']
   congr 1
   rw [Nat.succ_mul]
   omega
theorem flat_set{L:List α}{k j:Nat}{x y:α}{u:Value}(hx:L[k]?=some x)(hj:j<size)(hy:(f x).set j u=f y):(L.flatMap f).set (k*size+j) u=(L.set k y).flatMap f:=by
 induction L generalizing k with
 |nil=>simp at hx
 |cons a l ih=>
  rw [List.flatMap_cons]
  cases k with
  |zero=>
   simp only [List.getElem?_cons_zero,Option.some.injEq] at hx
   subst hx
   rw [List.set_append_left _ _ (by rw [hf];omega)]
   simp [hy]
  |succ k=>
   have hx':l[k]?=some x:=by simpa using hx
   rw [List.set_append_right _ _ (by rw [hf,Nat.succ_mul];omega),hf,List.set_cons_succ,List.flatMap_cons,←ih hx']
   congr 2
   rw [Nat.succ_mul]
   omega
theorem owns_elem{w:World}{base:Nat}{e:TypeId}{g cap:Nat}{L:List α}(h:w.ownsRow base e size (.slice (some ⟨g,0,none⟩) L.length cap) L.length (L.flatMap f)){k:Nat}{x:α}(hx:L[k]?=some x)(j:Nat)(hj:j<size):
  w.cell? ⟨g,k*size+j,none⟩=(f x)[j]?:=by
 have hk:k<L.length:=by
  rcases Nat.lt_or_ge k L.length with h'|h'
  ·exact h'
  ·simp [List.getElem?_eq_none h'] at hx
 have:(k+1)*size≤L.length*size:=Nat.mul_le_mul_right _ hk
 rw [Nat.succ_mul] at this
 rw [h.cellAt _ (by omega),flat_get hf hx hj]
theorem Reads.elem{w:World}{x:Value}{n:Nat}{L:List α}(h:Reads w size x n (L.flatMap f)){k:Nat}{a:α}(hx:L[k]?=some a)(hs:0<size):
  ∃g o c,x= .slice (some ⟨g,o,none⟩) n c∧∀j,j<size→w.cell? ⟨g,o+k*size+j,none⟩=(f a)[j]?:=by
 obtain⟨ad,c,rfl,h1,h2,h3,h4⟩:=h
 have key:∀j,j<size→∃u,(f a)[j]?=some u:=fun j hj=>⟨(f a)[j]'(by rw [hf];exact hj),List.getElem?_eq_getElem _⟩
 obtain⟨u0,hu0⟩:=key 0 hs
 obtain⟨g,o,rfl,_⟩:=h4 (k*size+0) u0 (by rw [flat_get hf hx hs];exact hu0)
 refine⟨g,o,c,rfl,fun j hj=> ?_⟩
 obtain⟨u,hu⟩:=key j hj
 obtain⟨g',o',he,hc⟩:=h4 (k*size+j) u (by rw [flat_get hf hx hj];exact hu)
 simp only [Option.some.injEq,Addr.mk.injEq,and_true] at he
 obtain⟨rfl,rfl⟩:=he
 rw [hu,Nat.add_assoc]
 exact hc
theorem owns_store{w:World}{base:Nat}{e:TypeId}{g cap:Nat}{L:List α}(h:w.ownsRow base e size (.slice (some ⟨g,0,none⟩) L.length cap) L.length (L.flatMap f)){k:Nat}{x y:α}(hx:L[k]?=some x)(j:Nat)(hj:j<size)
  {u:Value} (hy:(f x).set j u=f y):(w.setCell ⟨g,k*size+j,none⟩ u).ownsRow base e size (.slice (some ⟨g,0,none⟩) L.length cap) L.length ((L.set k y).flatMap f):=by
 have:=(h.stored (k*size+j) u).1
 rwa [flat_set hf hx hj hy] at this
end flat
theorem owns_some{w:World}{base:Nat}{e:TypeId}{size:Nat}{v:Value}{n:Nat}{xs:List Value}(h:w.ownsRow base e size v n xs)(hn:0<n):∃g cap,v= .slice (some ⟨g,0,none⟩) n cap∧g<w.heap.size:=by
 rcases h.2 with⟨_,h'⟩|⟨g,cap,cur,h,_,hh,_⟩
 ·omega
 ·exact⟨g,cap,h,lt_of_block hh⟩
theorem lt_of_get{α:Type}{L:List α}{k:Nat}{x:α}(hx:L[k]?=some x):k<L.length:=by
 rcases Nat.lt_or_ge k L.length with h'|h'
 ·exact h'
 ·simp [List.getElem?_eq_none h'] at hx
theorem Below.keeps{B:Nat}{w a b:World}{S:Nat→Prop}(h:Below B w a)(hk:Keeps S a b)(hS:∀k,S k→B≤k)(hB:B≤w.heap.size):Below B w b:=
 h.trans (hk.below (fun k hk hs=>by have:=hS k hs;omega) (Nat.le_trans hB h.size))
end Go.Proofs.YthcmpcekmkioaaaGreat
namespace Go.Proofs.YthcmpcekmkioaaaGreat
open Go.ChangeShapes Go.WideShapes Go.ChangeAt Go.RowKit Go.Deep
theorem own:ownKnob Tryz.prog.godebug=none:=by kernel_rfl
theorem laidOut:laidOutB Tryz.prog=true:=by kernel_rfl
section
variable {H:Type} {enc:TypeId×Value→H} {w:World} {spare:Nat→Bool} {held:Bool}
theorem list_of{α:Type}{p:Nat→α→Prop}:∀n:Nat,(∀i,i<n→∃a,p i a)→∃L:List α,L.length=n∧∀i (a:α),L[i]?=some a→p i a
 |0,_=>⟨[],rfl,fun i a h=>by simp at h⟩
 |n+1,h=>by
  obtain⟨L,h1,h2⟩:=list_of n fun i hi=>h i (by omega)
  obtain⟨a,ha⟩:=h n (by omega)
  refine⟨L++ [a],by simp [h1],fun i b hb=> ?_⟩
  rcases Nat.lt_or_ge i n with hi|hi
  ·rw [List.getElem?_append_left (by omega)] at hb;exact h2 i b hb
  ·rw [List.getElem?_append_right (by omega),h1] at hb
   obtain rfl:i=n:=by
    rcases Nat.lt_or_ge n i with h'|h'
    ·rw [List.getElem?_eq_none (by simp;omega)] at hb;simp at hb
    ·omega
   simp at hb;subst hb;exact ha
theorem flat_at{α:Type}{f:α→List Value}{size:Nat}(hf:∀x,(f x).length=size)(hs:0<size){L:List α}{j:Nat}{u:Value}(h:(L.flatMap f)[j]?=some u):∃a,L[j / size]?=some a∧(f a)[j % size]?=some u:=by
 have hj:j<L.length*size:=by rw [←flat_length hf L];exact lt_of_get h
 have hk:j / size<L.length:=Nat.div_lt_of_lt_mul (by rw [Nat.mul_comm];exact hj)
 refine⟨L[j / size],List.getElem?_eq_getElem hk, ?_⟩
 have:=flat_get hf (List.getElem?_eq_getElem hk) (Nat.mod_lt j hs)
 rw [←this,Nat.mul_comm,Nat.div_add_mod];exact h
theorem open_reads{α:Type}{f:α→List Value}{size:Nat}(hf:∀x,(f x).length=size)(hs:0<size){p:α→Prop}{t e:TypeId}{fuel:Nat}{ad:Option Addr}{len cap:Nat}{x:DataW H×List MemPlace}
  (ht:Tryz.prog.underlying t=some (.slice e)) (hc:Tryz.prog.cellsOf e=size)
  (hel:∀n cs d,DataW.trod enc Tryz.prog w 0 spare held n e cs=some d→∃a:α,cs=f a∧p a)
  (h:DataW.trod enc Tryz.prog w 0 spare held fuel t [.slice ad len cap]=some x):
  ∃L:List α,L.length=len∧Reads w size (.slice ad len cap) L.length (L.flatMap f)∧(∀a∈L,p a)∧L.length≤maxLen:=by
 rcases open_slice ht h with⟨h0,_⟩|⟨a,len',cap',m,n,D,Pl,h0,_,hl,hm,hmm,_,hx⟩
 ·simp only [List.cons.injEq,and_true,Value.slice.injEq] at h0
  obtain⟨rfl,rfl,rfl⟩:=h0
  exact⟨[],rfl,Reads.nil _ _,by simp,Nat.zero_le _⟩
 ·simp only [List.cons.injEq,and_true,Value.slice.injEq] at h0
  obtain⟨rfl,rfl,rfl⟩:=h0
  rw [hc] at hx
  have hlm:len≤m:=by rw [hmm];split<;>omega
  obtain⟨L,hL,hLp⟩:=list_of (p:=fun i (b:α)=>w.cells? 0 (a.add (i*size)) size=some (f b)∧p b) len fun i hi=>by
   obtain⟨cs,h1,h2⟩:=hx i (by omega)
   obtain⟨b,rfl,hb⟩:=hel _ _ _ h2
   exact⟨b,h1,hb⟩
  refine⟨L,hL,⟨some a,cap,by rw [hL],by omega,flat_length hf L,by simp,fun j u hj=> ?_⟩,fun b hb=> ?_,by omega⟩
  ·obtain⟨b,hb,hu⟩:=flat_at hf hs hj
   obtain⟨h1,_⟩:=hLp _ b hb
   obtain⟨_,hlen,hcell⟩:=World.cells?_some h1
   have hc1:=hcell (j % size) (Nat.mod_lt j hs)
   rw [hu] at hc1
   have hadd:((a.add (j / size*size)).add (j % size))=a.add j:=by
    have hj:j / size*size+j % size=j:=by rw [Nat.mul_comm];exact Nat.div_add_mod j size
    unfold Addr.add
    split<;>split<;>split<;>simp_all<;>omega
   rw [hadd] at hc1
   obtain⟨ab,ao,asp⟩:=a
   rcases asp with _|sp
   ·exact⟨ab,ao,rfl,by rw [←add_mk];exact hc1⟩
   ·-- an address with a spot reads no cell at its own place
    exfalso
    have hk:0<L.length:=by
     rcases Nat.eq_zero_or_pos L.length with h'|h'
     ·rw [List.eq_nil_of_length_eq_zero h'] at hj;simp at hj
     ·exact h'
    obtain⟨h1',_⟩:=hLp 0 _ (List.getElem?_eq_getElem hk)
    obtain⟨_,hlen',hcell'⟩:=World.cells?_some h1'
    have hc0:=hcell' 0 hs
    rw [List.getElem?_eq_getElem (by omega)] at hc0
    unfold World.cell? at hc0
    simp only [Nat.zero_mul,Addr.add,if_true] at hc0
    split at hc0<;>simp at hc0
  ·obtain⟨i,hi⟩:=List.getElem?_of_mem hb
   exact(hLp i b hi).2
theorem elem_int{k:IntKind}{e:TypeId}(he:Tryz.prog.underlying e=some (.int k))(n:Nat)(cs:List Value)(d:DataW H×List MemPlace)(h:DataW.trod enc Tryz.prog w 0 spare held n e cs=some d):∃a:Int,cs= [.int k a]∧(Lit.int k a).wf=true:=by
 obtain⟨a,h1,_,h2⟩:=DataW.trod_int he h;exact⟨a,h1,h2⟩
end
end Go.Proofs.YthcmpcekmkioaaaGreat
namespace Go.Proofs.YthcmpcekmkioaaaGreat
open Go.RowKit
theorem box_new{S:Nat→Prop}{w w':World}{cs:Array Value}{t:TypeId}(h:Keeps S (w.alloc (.cells cs t)) w')(hS:¬S w.heap.size):w'.heap[w.heap.size]?=some (.cells cs t (0,0)):=by
 rw [h.block _ (by simp) hS];exact heap_alloc_new w _
theorem box_old{S:Nat→Prop}{w w':World}{b:Nat}{o:Obj}(hb:w.heap[b]?=some o)(h:Keeps S w w')(hS:¬S b):w'.heap[b]?=some o:=by
 rw [h.block _ (lt_of_block hb) hS];exact hb
theorem box_alloc{w:World}{b:Nat}{o:Obj}(hb:w.heap[b]?=some o)(o':Obj):(w.alloc o').heap[b]?=some o:=(Below.heap_alloc _ _ _ (lt_of_block hb)).trans hb
theorem Reads.below{w w':World}{size:Nat}{x:Value}{m:Nat}{news:List Value}(h:Reads w size x m news)(hb:Below w.heap.size w w'):Reads w' size x m news:=by
 obtain⟨ad,c,rfl,h1,h2,h3,h4⟩:=h
 refine⟨ad,c,rfl,h1,h2,h3,fun j u hj=> ?_⟩
 obtain⟨g,o,rfl,ha⟩:=h4 j u hj
 exact⟨g,o,rfl,by rw [hb.cell (cell_lt ha)];exact ha⟩
theorem Reads.int{w:World}{k:IntKind}{ad:Option Addr}{n c:Nat}{L:List Int}(h:Reads w 1 (.slice ad n c) n (L.flatMap fun z=> [Value.int k z])){i:Nat}{x:Int}(hx:L[i]?=some x):
  ∃g o,ad=some ⟨g,o,none⟩∧w.cell? ⟨g,o+i,none⟩=some (.int k x):=by
 obtain⟨g,o,c',he,hc⟩:=Reads.elem (f:=fun z=> [Value.int k z]) (fun _=>rfl) h hx (by decide)
 simp only [Value.slice.injEq,true_and] at he
 exact⟨g,o,he.1,by have:=hc 0 (by decide);simpa using this⟩
theorem Reads.bool{w:World}{ad:Option Addr}{n c:Nat}{L:List Bool}(h:Reads w 1 (.slice ad n c) n (L.flatMap fun z=> [Value.bool z])){i:Nat}{x:Bool}(hx:L[i]?=some x):
  ∃g o,ad=some ⟨g,o,none⟩∧w.cell? ⟨g,o+i,none⟩=some (.bool x):=by
 obtain⟨g,o,c',he,hc⟩:=Reads.elem (f:=fun z=> [Value.bool z]) (fun _=>rfl) h hx (by decide)
 simp only [Value.slice.injEq,true_and] at he
 exact⟨g,o,he.1,by have:=hc 0 (by decide);simpa using this⟩
theorem step_append_row{P:Program}{ops:Array Oper}{o:Oper}{a:Act}{w:World}{K:Act→World→Prop}{Q:Exit→Act→World→Prop}{E:Prop}(hgd:o.guard=none)(s x:Operand)(t:TypeId)
  (ho:o.op= .call { callee:= .builtin .append,args:= #[s,x],argTypes:= #[t,t] })
  (base:Nat) (e:TypeId) (i:TypeInfo) (z:Value) (size bytes:Nat) (ht:P.underlying t=some (.slice e)) (hi:P.info? e=some i) (hz:i.zero=some z)
  (hsize:i.size=size) (hby:i.bytes=bytes) (hzs:z.cells.size=size) (hsz:0<size)
  (v:Value) (n:Nat) (xs:List Value) (hs:a.eval s=v) (hown:w.ownsRow base e size v n xs)
  (xv:Value) (m:Nat) (news:List Value) (hx:a.eval x=xv) (hxr:Reads w size xv m news) (h1:∀u∈news,u.oneCell'=true)
  (h63:n+m≤maxLen) (hbytes:(n+m)*bytes≤140737488355328) (hbase:base≤w.heap.size)
  (h:∀v' w',w'.ownsRow base e size v' (n+m) (xs++news)→Keeps (fun k=>v.ownBlock=some k) w w'→(v'.ownBlock=v.ownBlock∨∃g,v'.ownBlock=some g∧w.heap.size≤g)→K (a.put o.dst v') w'):
  if Region.wanted o (yielded ops a.tmps)=true then Oper.wp P o a w K Q else E:=by
 have hw:Region.wanted o (yielded ops a.tmps)=true:=by simp [Region.wanted,hgd]
 rw [if_pos hw]
 obtain⟨v',w',hr,h2,h3,h4,_⟩:=run_append_row (P:=P) w base t o.type e i z size bytes ht hi hz hsize hby hzs hsz v n xs hown xv m news hxr h1 h63 hbytes hbase
 unfold Oper.wp execOp
 simp only [ho,resolve,invoke,builtin,Sem.run_bind,Sem.run_pure,Result.andThen_ok,List.map_toArray,List.map_cons,List.map_nil,hs,hx,hr]
 exact h v' w' h2 h3 h4
theorem Reads.pre{w:World}{size n c:Nat}{ad:Option Addr}{xs:List Value}(h:Reads w size (.slice ad n c) n xs)(k:Nat)(hk:k≤n):Reads w size (.slice ad k c) k (xs.take (k*size)):=by
 obtain⟨ad',c',he,h1,h2,h3,h4⟩:=h
 simp only [Value.slice.injEq,true_and] at he
 obtain⟨rfl,rfl⟩:=he
 have hm:k*size≤n*size:=Nat.mul_le_mul_right _ hk
 refine⟨ad,c,rfl,by omega,by rw [List.length_take,h2];omega,h3,fun j u hj=>h4 j u ?_⟩
 rw [List.getElem?_take] at hj
 split at hj
 ·exact hj
 ·simp at hj
theorem Reads.suf{w:World}{size n c g o:Nat}{xs:List Value}(h:Reads w size (.slice (some ⟨g,o,none⟩) n c) n xs)(k:Nat)(hk:k≤n):Reads w size (.slice (some ⟨g,o+k*size,none⟩) (n-k) (c-k)) (n-k) (xs.drop (k*size)):=by
 obtain⟨ad',c',he,h1,h2,h3,h4⟩:=h
 simp only [Value.slice.injEq,true_and] at he
 obtain⟨rfl,rfl⟩:=he
 refine⟨_,_,rfl,by omega,by rw [List.length_drop,h2,Nat.sub_mul],by simp,fun j u hj=> ?_⟩
 rw [List.getElem?_drop] at hj
 obtain⟨g',o',he,hc⟩:=h4 _ u hj
 simp only [Option.some.injEq,Addr.mk.injEq,and_true] at he
 obtain⟨rfl,rfl⟩:=he
 exact⟨g,o+k*size,rfl,by rw [Nat.add_assoc];exact hc⟩
theorem Reads.none_of{w:World}{size:Nat}{ad:Option Addr}{c:Nat}(h:ad=none→c=0):Reads w size (.slice ad 0 c) 0 []:=⟨ad,c,rfl,Nat.zero_le _,by simp,h,fun j u hj=>by simp at hj⟩
theorem Reads.drew{w:World}{size:Nat}{x:Value}{m:Nat}{news:List Value}(h:Reads w size x m news):Reads w.drew size x m news:=h.keeps (Keeps.drew (S:=fun _=>False) _) (by simp)
theorem Reads.alloc{w:World}{size:Nat}{x:Value}{m:Nat}{news:List Value}(h:Reads w size x m news)(o:Obj):Reads (w.alloc o) size x m news:=h.keeps (Keeps.alloc (S:=fun _=>False) _ _) (by simp)
theorem Reads.blk{w:World}{g:Nat}{cs:Array Value}{e:TypeId}{fz:Nat×Nat}{size n:Nat}(hb:w.heap[g]?=some (.cells cs e fz))(hs:cs.size=n*size):Reads w size (.slice (some ⟨g,0,none⟩) n n) n cs.toList:=
 ⟨some ⟨g,0,none⟩,n,rfl,Nat.le_refl _,by simpa using hs,by simp,fun j u hj=>⟨g,0,rfl,by
  rw [cell_of_cells hb,Nat.zero_add]
  simpa using hj⟩⟩
theorem get_some{α:Type}{L:List α}{k:Nat}(h:k<L.length):∃x,L[k]?=some x:=⟨L[k],List.getElem?_eq_getElem h⟩
theorem take_snoc'{α:Type}{L:List α}{k:Nat}{x:α}(h:L[k]?=some x):L.take (k+1)=L.take k++ [x]:=by rw [List.take_add_one,h];rfl
def Fresh(w0 w:World)(v:Value):Prop:=Keeps (fun _=>False) w0 w∧∀g,v.ownBlock=some g→w0.heap.size≤g
theorem Fresh.nil(w:World):Fresh w w (.slice none 0 0):=⟨Keeps.refl _ _,by simp [Value.ownBlock]⟩
theorem Fresh.keep{w0 w w':World}{v:Value}(h:Fresh w0 w v)(hk:Keeps (fun _=>False) w w'):Fresh w0 w' v:=⟨h.1.trans (hk.mono (by simp)),h.2⟩
theorem Fresh.app{w0 w w':World}{v v':Value}(h:Fresh w0 w v)(hk:Keeps (fun k=>v.ownBlock=some k) w w')(hf:v'.ownBlock=v.ownBlock∨∃g,v'.ownBlock=some g∧w.heap.size≤g):Fresh w0 w' v':=by
 have hs:=h.1.size
 refine⟨h.1.trans (hk.mono fun k _ hk'=> .inr (h.2 k hk')),fun g hg=> ?_⟩
 rcases hf with hf|⟨g',hg',hh⟩
 ·exact h.2 g (by rw [←hf];exact hg)
 ·rw [hg'] at hg;simp only [Option.some.injEq] at hg;omega
theorem Fresh.set{w0 w:World}{v:Value}{g j:Nat}(h:Fresh w0 w v)(hg:v.ownBlock=some g)(u:Value):Fresh w0 (w.setCell ⟨g,j,none⟩ u) v:=
 ⟨h.1.trans (Keeps.setCell _ _ _ (.inr (h.2 g hg))),h.2⟩
theorem Fresh.cell{w0 w:World}{v:Value}(h:Fresh w0 w v){p:Addr}(hp:p.block<w0.heap.size):w.cell? p=w0.cell? p:=h.1.cell hp (by simp)
end Go.Proofs.YthcmpcekmkioaaaGreat
namespace Go.Proofs.YthcmpcekmkioaaaGreat
open Go.RowKit
theorem Keeps.nt{a b c:World}(h:Keeps (fun _=>False) a b)(k:Keeps (fun _=>False) b c):Keeps (fun _=>False) a c:=h.trans (k.mono (by simp))
theorem Keeps.trans_drew{S:Nat→Prop}{w w':World}(h:Keeps S w w'):Keeps S w w'.drew:=h.trans (Keeps.drew _)
theorem Keeps.trans_drewN{S:Nat→Prop}{w w':World}{n:Nat}(h:Keeps S w w'):Keeps S w (w'.drewN n):=h.trans (Keeps.drewN _ _)
theorem Keeps.trans_alloc{S:Nat→Prop}{w w':World}{o:Obj}(h:Keeps S w w'):Keeps S w (w'.alloc o):=h.trans (Keeps.alloc _ _)
theorem _root_.Go.World.ownsRow.of_keeps{w w':World}{base:Nat}{e:TypeId}{size:Nat}{v:Value}{n:Nat}{xs:List Value}(h:w.ownsRow base e size v n xs)(hk:Keeps (fun _=>False) w w'):w'.ownsRow base e size v n xs:=hk.row h (by simp)
section
variable {P:Program} {md:Region.Mode} {ops:Array Oper} {Q:Exit→Act→World→Prop} {S:World→Prop}
def PureAt(P:Program)(v:Value)(w:World)(r:Result Next):Prop:=
 r= .ok (.value v) w∨∃f args,r= .ok (.enter f args) w∧Calls P f args w fun e w''=>e= .returned v∧w''=w
def YieldsP(P:Program)(ops:Array Oper)(S:World→Prop)(o:Oper)(v:Value)(a:Act):Prop:=
 (Region.wanted o (yielded ops a.tmps)=true∧∀w,S w→PureAt P v w ((execOp a.eval o).run P w))∨(Region.wanted o (yielded ops a.tmps)=false∧v=undef)
theorem YieldsP.wpOp{i:Nat}{o:Oper}{v:Value}{a:Act}(hi:ops[i]?=some o)(hy:YieldsP P ops S o v a){K:Act→World→Prop}{w:World}(hS:S w)(h:K (a.put o.dst v) w):wpOp P ops Q i K a w:=by
 unfold Go.wpOp
 rw [hi]
 rcases hy with⟨hw,hv⟩|⟨hw,rfl⟩
 ·show if Region.wanted o (yielded ops a.tmps)=true then _ else _
  rw [if_pos hw]
  refine .inl ?_
  unfold Oper.wp
  rcases hv w hS with hr|⟨f,args,hr,hc⟩
  ·rw [hr];exact h
  ·rw [hr]
   refine Calls.mono hc ?_
   rintro e w'' ⟨rfl,rfl⟩
   exact h
 ·show if Region.wanted o (yielded ops a.tmps)=true then _ else _
  rw [if_neg (by rw [hw];exact Bool.false_ne_true)]
  exact h
theorem YieldsP.same{o:Oper}{v:Value}{a a':Act}(hy:YieldsP P ops S o v a)(he:execOp a'.eval o=execOp a.eval o)(hw:Region.wanted o (yielded ops a'.tmps)=Region.wanted o (yielded ops a.tmps)):YieldsP P ops S o v a':=by
 unfold YieldsP;rw [he,hw];exact hy
theorem wpOp_slip{j:Nat}{oj:Oper}{d:Option Tmp}{v:Value}(hj:ops[j]?=some oj)(h1:∀t,d=some t→t∉oj.looksAt ops)(h2:∀t,d=some t→oj.dst≠some t)(hsj:∀cs b,oj.op≠ .select cs b)
  (hQ:∀c a w,Q (.panic c) (a.put d v) w→Q (.panic c) a w) {Y:Act→Prop} (hY:∀a u,Y a→Y (a.put oj.dst u)) (hYd:∀(a:Act) x,Y a→Y { a with defers:=x::a.defers }) {K:Act→World→Prop} {a:Act} {w:World}
  (hy:Y a) (h:wpOp P ops Q j K (a.put d v) w):wpOp P ops Q j (fun a' w'=>Y a'∧K (a'.put d v) w') a w:=by
 have hput:∀(b:Act) u,K ((b.put d v).put oj.dst u)=K ((b.put oj.dst u).put d v):=fun b u=>by rw [Act.put_comm b v u h2]
 unfold Go.wpOp at h⊢
 rw [hj] at h⊢
 have h':if Region.wanted oj (yielded ops (a.put d v).tmps)=true then Oper.wp P oj (a.put d v) w K Q∨(oj.asks P (a.put d v) w∧LetsOut Q) else K ((a.put d v).put oj.dst undef) w:=h
 rw [wanted_put oj a d v h1] at h'
 show if Region.wanted oj (yielded ops a.tmps)=true then _ else _
 by_cases hw:Region.wanted oj (yielded ops a.tmps)=true
 ·rw [if_pos hw] at h'⊢
  rcases h' with h'|⟨ha,hl⟩
  ·refine .inl ?_
   unfold Oper.wp at h'⊢
   rw [execOp_put oj hsj a d v h1] at h'
   rcases hr:(execOp a.eval oj).run P w with⟨n,w'⟩|⟨x,w'⟩
   ·rw [hr] at h'
    cases n with
    |value u=>exact⟨hY a u hy,by rw [←hput];exact h'⟩
    |skip=>exact⟨hY a _ hy,by rw [←hput];exact h'⟩
    |defer x=>
     refine⟨hY _ _ (hYd a x hy), ?_⟩
     rw [←hput,←Act.put_defers]
     exact h'
    |enter f args=>
     refine Calls.mono h' fun e w'' he=> ?_
     cases e with
     |returned u=>exact⟨hY a u hy,by rw [←hput];exact he⟩
     |panicked c=>exact hQ _ _ _ he
     |outgrown=>exact he
    |row f args=>exact Rows.mono h' fun u w'' he=>⟨hY a u hy,by rw [←hput];exact he⟩
    |_=>exact h'
   ·rw [hr] at h'
    cases x with
    |panic u=>exact hQ _ _ _ h'
    |_=>exact h'
  ·exact .inr ⟨by unfold Oper.asks at ha⊢;rw [execOp_put oj hsj a d v h1] at ha;exact ha,hl⟩
 ·rw [if_neg hw] at h'⊢
  exact⟨hY a _ hy,by rw [←hput];exact h'⟩
def wpAnyM(P:Program)(md:Region.Mode)(ops:Array Oper)(Q:Exit→Act→World→Prop)(S:World→Prop)(z:Nat):Nat→Array Bool→Act→World→Prop
 |0,listed,a,w=>Region.ready md ops listed= []∧Q .normal a w
 |fuel+1,listed,a,w=>(Region.ready md ops listed= []→Q .normal a w)∧
   ∀i∈Region.ready md ops listed,wpOp P ops Q i (fun a' w'=>(i=z∨S w')∧wpAnyM P md ops Q S z fuel (listed.setIfInBounds i true) a' w') a w
theorem wpAny_of_M{z:Nat}:∀(fuel:Nat) (listed:Array Bool) (a:Act) (w:World),wpAnyM P md ops Q S z fuel listed a w→wpAny P md ops Q fuel listed a w
 |0,_,_,_,h=>h
 |fuel+1,_,_,_,h=>⟨h.1,fun i hi=>wpOp_mono (fun a' w' h'=>wpAny_of_M fuel _ a' w' h'.2) (h.2 i hi)⟩
theorem wpAnyM_done{z:Nat}{listed:Array Bool}{a:Act}{w:World}(hr:Region.ready md ops listed= [])(h:Q .normal a w):∀fuel,wpAnyM P md ops Q S z fuel listed a w
 |0=>⟨hr,h⟩
 |_+1=>⟨fun _=>h,by rw [hr];simp⟩
def lastB(md:Region.Mode)(ops:Array Oper)(z:Nat):Bool:=match ops[z]? with
 |none=>true
 |some o=>(List.range ops.size).all fun k=>k==z||o.after.any fun e=>Region.binds md e&&e.on==k
theorem wpAnyM_slip{z i:Nat}{oi:Oper}{v:Value}(hi:ops[i]?=some oi)(hz:lastB md ops z=true)(hiz:i≠z)(hsel:∀(j:Nat) (o:Oper) cs b,ops[j]?=some o→o.op≠ .select cs b)(hQ:∀c a w,Q (.panic c) (a.put oi.dst v) w→Q (.panic c) a w):
  ∀(fuel:Nat) (listed:Array Bool) (a:Act) (w:World),i∈Region.ready md ops listed→YieldsP P ops S oi v a→S w→
   (∀j oj,ops[j]?=some oj→j≠i→listed.getD j true=false→(∀e∈oj.after,Region.binds md e=true→e.on≠i)→oi.apart ops oj=true)→
   wpAnyM P md ops Q S z fuel (listed.setIfInBounds i true) (a.put oi.dst v) w→wpAnyM P md ops Q S z (fuel+1) listed a w
 |0,listed,a,w,hr,hy,hS,hfree,H=>by
  refine⟨fun h=>absurd hr (by rw [h];simp),fun j hj=> ?_⟩
  by_cases hji:j=i
  ·subst hji;exact hy.wpOp hi hS ⟨.inr hS,H⟩
  ·have hc:=ready_mono hj hji
   rw [H.1] at hc
   simp at hc
 |fuel+1,listed,a,w,hr,hy,hS,hfree,H=>by
  refine⟨fun h=>absurd hr (by rw [h];simp),fun j hj=> ?_⟩
  by_cases hji:j=i
  ·subst hji;exact hy.wpOp hi hS ⟨.inr hS,H⟩
  obtain⟨hun,oj,hoj,hall⟩:=mem_ready.1 hj
  have hi0:=(mem_ready.1 hr).1
  have hno:∀e∈oj.after,Region.binds md e=true→e.on≠i:=by
   intro e he hb heq
   have ht:=hall e he hb
   rw [heq] at ht
   rcases Nat.lt_or_ge i listed.size with hlt|hge
   ·have e1:listed.getD i true=listed[i]:=by simp [hlt]
    have e2:listed.getD i false=listed[i]:=by simp [hlt]
    rw [e1] at hi0;rw [e2,hi0] at ht;simp at ht
   ·have e2:listed.getD i false=false:=by simp [Array.getElem?_eq_none hge]
    rw [e2] at ht;simp at ht
  have hjz:j≠z:=by
   intro e
   subst e
   unfold lastB at hz
   rw [hoj] at hz
   have hil:i<ops.size:=by
    rcases Nat.lt_or_ge i ops.size with h|h
    ·exact h
    ·rw [Array.getElem?_eq_none h] at hi;simp at hi
   have hk:=List.all_eq_true.1 hz i (List.mem_range.2 hil)
   simp only [Bool.or_eq_true,beq_iff_eq,Array.any_eq_true',Bool.and_eq_true] at hk
   rcases hk with h|⟨e,he,hb,ho⟩
   ·exact hji h.symm
   ·exact hno e he hb ho
  obtain⟨p1,p2,p3⟩:=Oper.apart_spec (hfree j oj hoj hji hun hno)
  have hstep:=wpOp_slip hoj p1 p2 (hsel j oj · · hoj) hQ (Y:=YieldsP P ops S oi v) (fun a u hy=>hy.same (execOp_put oi (hsel i oi · · hi) a oj.dst u p3) (wanted_put oi a oj.dst u p3)) (fun a x hy=>hy.same rfl rfl) hy (H.2 j (ready_mono hj hji))
  refine wpOp_mono (fun a' w' h3=>⟨h3.2.1, ?_⟩) hstep
  have hS':S w':=h3.2.1.resolve_left hjz
  have hfree':∀k ok,ops[k]?=some ok→k≠i→(listed.setIfInBounds j true).getD k true=false→(∀e∈ok.after,Region.binds md e=true→e.on≠i)→oi.apart ops ok=true:=by
   intro k ok hk hki hku hkn
   by_cases hjk:j=k
   ·subst hjk;exact hfree j ok hk hki hun hkn
   ·rw [getD_set_ne true hjk] at hku;exact hfree k ok hk hki hku hkn
  refine wpAnyM_slip hi hz hiz hsel hQ fuel _ a' w' (ready_mono hr (Ne.symm hji)) h3.1 hS' hfree' ?_
  rw [Array.setIfInBounds_comm _ _ hji]
  exact h3.2.2
inductive MO where
 |done
 |take (i:Nat) (r:MO)
 |move (i:Nat) (r:MO)
 |fork (i:Nat) (r:MO) (j:Nat) (s:MO)
 |fork3 (i:Nat) (r:MO) (j:Nat) (s:MO) (k:Nat) (u:MO)
def MO.depth:MO→Nat
 | .done=>0
 | .take _ r=>r.depth+1
 | .move _ r=>r.depth+1
 | .fork _ r _ s=>max r.depth s.depth+1
 | .fork3 _ r _ s _ u=>max (max r.depth s.depth) u.depth+1
def MO.isDone:MO→Bool
 | .done=>true
 |_=>false
def mixB(md:Region.Mode)(ops:Array Oper)(z:Nat):MO→Array Bool→Bool
 | .done,listed=>(Region.ready md ops listed).isEmpty
 | .take i r,listed=>(((Region.ready md ops listed).contains i&&Region.free md ops listed i)&&i !=z)&&mixB md ops z r (listed.setIfInBounds i true)
 | .move i r,listed=>(Region.ready md ops listed== [i]&&(i !=z||r.isDone))&&mixB md ops z r (listed.setIfInBounds i true)
 | .fork i r j s,listed=>((Region.ready md ops listed== [i,j]&&i !=z)&&j !=z)&&(mixB md ops z r (listed.setIfInBounds i true)&&mixB md ops z s (listed.setIfInBounds j true))
 | .fork3 i r j s k u,listed=>(((Region.ready md ops listed== [i,j,k]&&i !=z)&&j !=z)&&k !=z)&&(mixB md ops z r (listed.setIfInBounds i true)&&(mixB md ops z s (listed.setIfInBounds j true)&&mixB md ops z u (listed.setIfInBounds k true)))
def Mix(P:Program)(ops:Array Oper)(Q:Exit→Act→World→Prop)(S:World→Prop)(z:Nat):MO→Act→World→Prop
 | .done,a,w=>Q .normal a w
 | .take i r,a,w=>∃o v,ops[i]?=some o∧YieldsP P ops S o v a∧Mix P ops Q S z r (a.put o.dst v) w
 | .move i r,a,w=>(∃o v,ops[i]?=some o∧YieldsP P ops S o v a∧Mix P ops Q S z r (a.put o.dst v) w)∨wpOp P ops Q i (fun a' w'=>(i=z∨S w')∧Mix P ops Q S z r a' w') a w
 | .fork i r j s,a,w=>wpOp P ops Q i (fun a' w'=>(i=z∨S w')∧Mix P ops Q S z r a' w') a w∧wpOp P ops Q j (fun a' w'=>(j=z∨S w')∧Mix P ops Q S z s a' w') a w
 | .fork3 i r j s k u,a,w=>wpOp P ops Q i (fun a' w'=>(i=z∨S w')∧Mix P ops Q S z r a' w') a w∧wpOp P ops Q j (fun a' w'=>(j=z∨S w')∧Mix P ops Q S z s a' w') a w∧wpOp P ops Q k (fun a' w'=>(k=z∨S w')∧Mix P ops Q S z u a' w') a w
theorem Mix.sound{z:Nat}(hs:Region.noSelect ops=true)(hz:lastB md ops z=true)(hQ:∀(d:Option Tmp) (v:Value) c a w,Q (.panic c) (a.put d v) w→Q (.panic c) a w):
  ∀(ord:MO) (fuel:Nat) (listed:Array Bool) (a:Act) (w:World),ord.depth≤fuel→mixB md ops z ord listed=true→(ord.isDone=true∨S w)→Mix P ops Q S z ord a w→wpAnyM P md ops Q S z fuel listed a w
 | .done,fuel,listed,a,w,_,hB,_,h=>wpAnyM_done (by simpa [mixB] using hB) h _
 | .take i r,fuel,listed,a,w,hd,hB,hS,h=>by
  simp only [mixB,Bool.and_eq_true,bne_iff_ne] at hB
  obtain⟨⟨⟨h1,h2⟩,hiz⟩,h3⟩:=hB
  obtain⟨o,v,hi,hy,h⟩:=h
  have hS':S w:=hS.resolve_left (by simp [MO.isDone])
  cases fuel with
  |zero=>simp [MO.depth] at hd
  |succ fuel=>
   refine wpAnyM_slip hi hz hiz (Region.noSelect_spec hs) (hQ o.dst v) fuel listed a w (by simpa using h1) hy hS' (Region.free_spec hi h2) ?_
   exact Mix.sound hs hz hQ r fuel _ _ _ (by simp only [MO.depth] at hd;omega) h3 (.inr hS') h
 | .move i r,fuel,listed,a,w,hd,hB,hS,h=>by
  simp only [mixB,Bool.and_eq_true,beq_iff_eq,Bool.or_eq_true,bne_iff_ne] at hB
  obtain⟨⟨h1,h2⟩,h3⟩:=hB
  have hS':S w:=hS.resolve_left (by simp [MO.isDone])
  cases fuel with
  |zero=>simp [MO.depth] at hd
  |succ fuel=>
   have hd':r.depth≤fuel:=by simp only [MO.depth] at hd;omega
   refine⟨fun e=>by rw [h1] at e;simp at e,fun j hj=> ?_⟩
   obtain rfl:j=i:=by rw [h1] at hj;simpa using hj
   rcases h with⟨o,v,hi,hy,h⟩|h
   ·exact hy.wpOp hi hS' ⟨.inr hS',Mix.sound hs hz hQ r fuel _ _ _ hd' h3 (.inr hS') h⟩
   ·refine wpOp_mono (fun a' w' hh=>⟨hh.1,Mix.sound hs hz hQ r fuel _ _ _ hd' h3 ?_ hh.2⟩) h
    rcases hh.1 with e|e
    ·exact .inl (h2.resolve_left fun hn=>hn e)
    ·exact .inr e
 | .fork i r j s,fuel,listed,a,w,hd,hB,hS,h=>by
  simp only [mixB,Bool.and_eq_true,beq_iff_eq,bne_iff_ne] at hB
  obtain⟨⟨⟨h1,hiz⟩,hjz⟩,h3,h4⟩:=hB
  cases fuel with
  |zero=>simp [MO.depth] at hd
  |succ fuel=>
   have hd1:r.depth≤fuel:=by simp only [MO.depth] at hd;omega
   have hd2:s.depth≤fuel:=by simp only [MO.depth] at hd;omega
   refine⟨fun e=>by rw [h1] at e;simp at e,fun k hk=> ?_⟩
   rw [h1] at hk
   rcases(by simpa using hk:k=i∨k=j) with rfl|rfl
   ·exact wpOp_mono (fun a' w' hh=>⟨hh.1,Mix.sound hs hz hQ r fuel _ _ _ hd1 h3 (.inr (hh.1.resolve_left hiz)) hh.2⟩) h.1
   ·exact wpOp_mono (fun a' w' hh=>⟨hh.1,Mix.sound hs hz hQ s fuel _ _ _ hd2 h4 (.inr (hh.1.resolve_left hjz)) hh.2⟩) h.2
 | .fork3 i r j s l u,fuel,listed,a,w,hd,hB,hS,h=>by
  simp only [mixB,Bool.and_eq_true,beq_iff_eq,bne_iff_ne] at hB
  obtain⟨⟨⟨⟨h1,hiz⟩,hjz⟩,hlz⟩,h3,h4,h5⟩:=hB
  cases fuel with
  |zero=>simp [MO.depth] at hd
  |succ fuel=>
   have hd1:r.depth≤fuel:=by simp only [MO.depth] at hd;omega
   have hd2:s.depth≤fuel:=by simp only [MO.depth] at hd;omega
   have hd3:u.depth≤fuel:=by simp only [MO.depth] at hd;omega
   refine⟨fun e=>by rw [h1] at e;simp at e,fun k hk=> ?_⟩
   rw [h1] at hk
   rcases(by simpa using hk:k=i∨k=j∨k=l) with rfl|rfl|rfl
   ·exact wpOp_mono (fun a' w' hh=>⟨hh.1,Mix.sound hs hz hQ r fuel _ _ _ hd1 h3 (.inr (hh.1.resolve_left hiz)) hh.2⟩) h.1
   ·exact wpOp_mono (fun a' w' hh=>⟨hh.1,Mix.sound hs hz hQ s fuel _ _ _ hd2 h4 (.inr (hh.1.resolve_left hjz)) hh.2⟩) h.2.1
   ·exact wpOp_mono (fun a' w' hh=>⟨hh.1,Mix.sound hs hz hQ u fuel _ _ _ hd3 h5 (.inr (hh.1.resolve_left hlz)) hh.2⟩) h.2.2
theorem wp_region_mixz{id:Nat}{a:Act}{w:World}{l:List Oper}(S:World→Prop)(z:Nat)(ord:MO)(hm:P.follows .mixedOrders=true)(hB:((mixB .any l.toArray z ord (Array.replicate l.toArray.size false)&&lastB .any l.toArray z)&&(Region.noSelect l.toArray&&Nat.ble ord.depth l.toArray.size))=true)
  (hS:S w.drew) (h:∀w1,S w1→Keeps (fun _=>False) w w1→Mix P l.toArray (NoPanic Q) S z ord a w1):(Code.region id l.toArray true).wp P Q a w:=by
 simp only [Bool.and_eq_true,Nat.ble_eq] at hB
 obtain⟨⟨h1,h0⟩,h2,h3⟩:=hB
 exact wp_region_noPanic (wp_region_any hm (wpAny_of_M _ _ _ _ (Mix.sound h2 h0 (fun _ _ _ _ _ hh=>(show False from hh).elim) ord _ _ _ _ h3 h1 (.inr hS) (h _ hS (Keeps.drew _)))))
theorem wp_region_mixw{id:Nat}{a:Act}{w:World}{l:List Oper}(S:World→Prop)(ord:MO)(hm:P.follows .mixedOrders=true)(hB:((mixB .any l.toArray l.toArray.size ord (Array.replicate l.toArray.size false)&&lastB .any l.toArray l.toArray.size)&&(Region.noSelect l.toArray&&Nat.ble ord.depth l.toArray.size))=true)
  (hS:S w.drew) (h:∀w1,S w1→Keeps (fun _=>False) w w1→Mix P l.toArray (NoPanic Q) S l.toArray.size ord a w1):(Code.region id l.toArray true).wp P Q a w:=wp_region_mixz S _ ord hm hB hS h
theorem mix_done{z:Nat}{a:Act}{w:World}(h:Q .normal a w):Mix P ops (NoPanic Q) S z .done a w:=h
section
variable {z:Nat} {dst:Option Tmp} {op:Op} {ty:TypeId} {pos:String} {af:Array Edge} {gd:Option (Nat×Bool)} {i:Nat} {r:MO} {v:Value} {a:Act} {w:World}
theorem mix_skip(hi:ops[i]?=some ⟨dst,op,ty,pos,af,gd⟩)(hw:Region.wanted ⟨dst,op,ty,pos,af,gd⟩ (yielded ops a.tmps)=false)(h:Mix P ops Q S z r (a.put dst undef) w):Mix P ops Q S z (.take i r) a w:=⟨_,undef,hi, .inr ⟨hw,rfl⟩,h⟩
theorem mix_skipm(hi:ops[i]?=some ⟨dst,op,ty,pos,af,gd⟩)(hw:Region.wanted ⟨dst,op,ty,pos,af,gd⟩ (yielded ops a.tmps)=false)(h:Mix P ops Q S z r (a.put dst undef) w):Mix P ops Q S z (.move i r) a w:= .inl ⟨_,undef,hi, .inr ⟨hw,rfl⟩,h⟩
theorem mix_take(hi:ops[i]?=some ⟨dst,op,ty,pos,af,gd⟩)(hw:Region.wanted ⟨dst,op,ty,pos,af,gd⟩ (yielded ops a.tmps)=true)
  (hy:∀w,S w→(execOp a.eval ⟨dst,op,ty,pos,af,gd⟩).run P w= .ok (.value v) w) (h:Mix P ops Q S z r (a.put dst v) w):Mix P ops Q S z (.take i r) a w:=⟨_,v,hi, .inl ⟨hw,fun w hS=> .inl (hy w hS)⟩,h⟩
theorem mix_pure(hi:ops[i]?=some ⟨dst,op,ty,pos,af,gd⟩)(hw:Region.wanted ⟨dst,op,ty,pos,af,gd⟩ (yielded ops a.tmps)=true)(f:FuncId)(args:Array Value)
  (hr:∀w,S w→(execOp a.eval ⟨dst,op,ty,pos,af,gd⟩).run P w= .ok (.enter f args) w) (hy:∀w,S w→Calls P f args w fun e w''=>e= .returned v∧w=w'') (h:Mix P ops Q S z r (a.put dst v) w):Mix P ops Q S z (.take i r) a w:=
 ⟨_,v,hi, .inl ⟨hw,fun w hS=> .inr ⟨f,args,hr w hS,(hy w hS).mono fun e w'' ⟨h1,h2⟩=>⟨h1,h2.symm⟩⟩⟩,h⟩
theorem mix_move(hi:ops[i]?=some ⟨dst,op,ty,pos,af,gd⟩)
  (h:∀K:Act→World→Prop,Shut (∀a' w',S w'→Mix P ops Q S z r a' w'→K a' w')→if Region.wanted ⟨dst,op,ty,pos,af,gd⟩ (yielded ops a.tmps)=true then Oper.wp P ⟨dst,op,ty,pos,af,gd⟩ a w K Q else K (a.put dst undef) w):
  Mix P ops Q S z (.move i r) a w:= .inr (wpOp_step hi fun K hK=>h K fun a' w' hS hM=>hK a' w' ⟨.inr hS,hM⟩)
theorem mix_last(hi:ops[i]?=some ⟨dst,op,ty,pos,af,gd⟩)
  (h:∀K:Act→World→Prop,Shut (∀a' w',Mix P ops Q S i r a' w'→K a' w')→if Region.wanted ⟨dst,op,ty,pos,af,gd⟩ (yielded ops a.tmps)=true then Oper.wp P ⟨dst,op,ty,pos,af,gd⟩ a w K Q else K (a.put dst undef) w):
  Mix P ops Q S i (.move i r) a w:= .inr (wpOp_step hi fun K hK=>h K fun a' w' hM=>hK a' w' ⟨.inl rfl,hM⟩)
theorem mix_to{i:Nat}{r:MO}(h:Mix P ops Q S z (.move i r) a w)(hS:S w):wpOp P ops Q i (fun a' w'=>(i=z∨S w')∧Mix P ops Q S z r a' w') a w:=by
 rcases h with⟨o,v,hi,hy,h⟩|h
 ·exact hy.wpOp hi hS ⟨.inr hS,h⟩
 ·exact h
theorem mix_fork3{j k:Nat}{s u:MO}(h1:Mix P ops Q S z (.move i r) a w)(h2:Mix P ops Q S z (.move j s) a w)(h3:Mix P ops Q S z (.move k u) a w)(hS:S w):Mix P ops Q S z (.fork3 i r j s k u) a w:=⟨mix_to h1 hS,mix_to h2 hS,mix_to h3 hS⟩
theorem mix_fork{j:Nat}{s:MO}(h1:Mix P ops Q S z (.move i r) a w)(h2:Mix P ops Q S z (.move j s) a w)(hS:S w):Mix P ops Q S z (.fork i r j s) a w:=by
 refine⟨?_, ?_⟩
 ·rcases h1 with⟨o,v,hi,hy,h⟩|h
  ·exact hy.wpOp hi hS ⟨.inr hS,h⟩
  ·exact h
 ·rcases h2 with⟨o,v,hi,hy,h⟩|h
  ·exact hy.wpOp hi hS ⟨.inr hS,h⟩
  ·exact h
end
end
end Go.Proofs.YthcmpcekmkioaaaGreat
namespace Go.Proofs.YthcmpcekmkioaaaGreat
open Go.RowKit
section
variable {α:Type} {f:α→List Value} {size:Nat} (hf:∀x,(f x).length=size)
include hf
theorem flat_takek(L:List α)(k:Nat):(L.flatMap f).take (k*size)=(L.take k).flatMap f:=by
 induction L generalizing k with
 |nil=>simp
 |cons a l ih=>
  cases k with
  |zero=>simp
  |succ k=>
   rw [List.flatMap_cons,List.take_succ_cons,List.flatMap_cons,←ih,Nat.succ_mul,Nat.add_comm,←hf a,List.take_length_add_append]
theorem flat_dropk(L:List α)(k:Nat):(L.flatMap f).drop (k*size)=(L.drop k).flatMap f:=by
 induction L generalizing k with
 |nil=>simp
 |cons a l ih=>
  cases k with
  |zero=>simp
  |succ k=>
   rw [List.flatMap_cons,List.drop_succ_cons,←ih,Nat.succ_mul,Nat.add_comm,←hf a,List.drop_length_add_append]
theorem Reads.preL{w:World}{n c:Nat}{ad:Option Addr}{L:List α}(h:Reads w size (.slice ad n c) n (L.flatMap f))(k:Nat)(hk:k≤n):Reads w size (.slice ad k c) k ((L.take k).flatMap f):=by
 rw [←flat_takek hf];exact h.pre k hk
theorem Reads.sufL{w:World}{n c g o:Nat}{L:List α}(h:Reads w size (.slice (some ⟨g,o,none⟩) n c) n (L.flatMap f))(k:Nat)(hk:k≤n):Reads w size (.slice (some ⟨g,o+k*size,none⟩) (n-k) (c-k)) (n-k) ((L.drop k).flatMap f):=by
 rw [←flat_dropk hf];exact h.suf k hk
end
theorem wp_scope_jumps2{P:Program}{a:Act}{w:World}{Q:Exit→Act→World→Prop}{c rest:Code}(l:Nat)(J:Act→World→Prop)(M:Act→World→Nat)(hf:findLabel c l=some rest)
  (round:∀a w,J a w→rest.wp P (Exit.jump l (fun a' w'=>J a' w'∧M a' w'<M a w) Q) a w)
  (first:(∀a w,J a w→rest.wp P (Exit.jump l J Q) a w)→c.wp P (Exit.jump l J Q) a w):(Code.scope c).wp P Q a w:=by
 refine wp_scope_jumps l J M hf (first fun a w hJ=>Code.wp_mono ?_ (round a w hJ)) round
 intro e a' w' h
 cases e with
 |goto k=>exact⟨h.1,h.2.1⟩
 |_=>exact h
theorem Reads.litAt(w:World)(cs:Array Value)(e:TypeId)(size n B:Nat)(hB:B=w.heap.size)(hs:cs.size=n*size):Reads (w.alloc (.cells cs e)) size (.slice (some ⟨B,0,none⟩) n n) n cs.toList:=by subst hB;exact Reads.lit w cs e size n hs
def i64c(z:Int):List Value:= [.int .i64 z]
theorem i64c_length(z:Int):(i64c z).length=1:=rfl
theorem i64c_one(L:List Int):∀u∈L.flatMap i64c,u.oneCell'=true:=by
 intro u hu
 obtain⟨d,_,hd⟩:=List.mem_flatMap.1 hu
 simp only [i64c,List.mem_cons,List.not_mem_nil,or_false] at hd
 subst hd;rfl
theorem Reads.lt{w:World}{size:Nat}{x:Value}{m:Nat}{news:List Value}(h:Reads w size x m news)(hn:news≠ []):∃g,x.ownBlock=some g∧g<w.heap.size:=by
 obtain⟨ad,c,rfl,h1,h2,h3,h4⟩:=h
 rcases news with _|⟨u,news⟩
 ·exact absurd rfl hn
 ·obtain⟨g,o,rfl,hc⟩:=h4 0 u rfl
  exact⟨g,rfl,cell_lt hc⟩
end Go.Proofs.YthcmpcekmkioaaaGreat
namespace Go.Proofs.YthcmpcekmkioaaaGreat
open Go.RowKit
structure Tn where
 rate:Int
 grace:Bool
deriving DecidableEq,Inhabited
def Tn.cells(d:Tn):List Value:= [.int .i64 d.rate, .bool d.grace]
theorem Tn.cells_length(d:Tn):d.cells.length=2:=rfl
theorem Tn.one(L:List Tn):∀u∈L.flatMap Tn.cells,u.oneCell'=true:=by
 intro u hu
 obtain⟨d,_,hd⟩:=List.mem_flatMap.1 hu
 simp only [Tn.cells,List.mem_cons,List.not_mem_nil,or_false] at hd
 rcases hd with rfl|rfl<;>rfl
structure Ev where
 kind:Int
 day:Int
 tranche:Int
 amount:Int
 ref:Int
deriving DecidableEq,Inhabited
def Ev.cells(d:Ev):List Value:= [.int .i64 d.kind, .int .i64 d.day, .int .i64 d.tranche, .int .i64 d.amount, .int .i64 d.ref]
theorem Ev.cells_length(d:Ev):d.cells.length=5:=rfl
theorem Ev.one(L:List Ev):∀u∈L.flatMap Ev.cells,u.oneCell'=true:=by
 intro u hu
 obtain⟨d,_,hd⟩:=List.mem_flatMap.1 hu
 simp only [Ev.cells,List.mem_cons,List.not_mem_nil,or_false] at hd
 rcases hd with rfl|rfl|rfl|rfl|rfl<;>rfl
structure Tm where
 limit:Int
 cyc:Int
 due:Int
 minFixed:Int
 minPart:Int
 start:Int
 trs:List Tn
def Tm.val(t:Tm)(v:Value):Value:= .agg #[.int .i64 t.limit,v, .int .i64 t.cyc, .int .i64 t.due, .int .i64 t.minFixed, .int .i64 t.minPart, .int .i64 t.start]
def Ev.agg(e:Ev):Value:= .agg #[.int .i64 e.kind, .int .i64 e.day, .int .i64 e.tranche, .int .i64 e.amount, .int .i64 e.ref]
def inB(v a b:Int):Bool:=decide (a≤v)&&decide (v≤b)
def Tn.okB(x:Tn):Bool:=inB x.rate 0 10000000
def Tm.okB(t:Tm):Bool:=inB t.limit 0 1000000000000000&&inB t.trs.length 1 8&&t.trs.all Tn.okB&&(inB t.cyc 1 28&&inB t.due 1 25&&inB t.minFixed 0 1000000000000000&&inB t.minPart 0 1000&&inB t.start (-135140) 2922896)
def Tm.err(t:Tm):Int:=if t.okB then 0 else 6
set_option maxRecDepth 100000
set_option maxHeartbeats 400000
theorem tmBetween_any(v a b:Int)(w:World):Calls Tryz.prog 117 #[.int .i64 v, .int .i64 a, .int .i64 b] w fun e w'=>e= .returned (.bool (inB v a b))∧w=w':=by
 by_cases h1:a≤v
 ·by_cases h2:v≤b
  ·have h:inB v a b=true:=by simp [inB,h1,h2]
   have H:=Lib.hid h;clear h
   go_enter Tryz.func117,Tryz.ntmps117
   go_wp2
   go_ret
   exact⟨by rw [H.out];rfl,rfl⟩
  ·have h:inB v a b=false:=by simp [inB,h2]
   have h2':b<v:=by omega
   have H:=Lib.hid h;clear h
   go_enter Tryz.func117,Tryz.ntmps117
   go_wp2
   go_ret
   exact⟨by rw [H.out];rfl,rfl⟩
 ·have h:inB v a b=false:=by simp [inB,h1]
  have h1':v<a:=by omega
  have H:=Lib.hid h;clear h
  go_enter Tryz.func117,Tryz.ntmps117
  go_wp2
  go_ret
  exact⟨by rw [H.out];rfl,rfl⟩
theorem tmBetween_at{v a b:Int}{r:Bool}(hr:inB v a b=r)(w:World):Calls Tryz.prog 117 #[.int .i64 v, .int .i64 a, .int .i64 b] w fun e w'=>e= .returned (.bool r)∧w=w':=by
 subst hr;exact tmBetween_any v a b w
set_option maxHeartbeats 3200000
theorem tmRight_any (t : Tm) (ad : Option Addr) (cap : Nat) (w : World) (hr : Reads w 2 (.slice ad t.trs.length cap) t.trs.length (t.trs.flatMap Tn.cells)) (hl : t.trs.length ≤ 1000000) :
    Calls Tryz.prog 95 #[t.val (.slice ad t.trs.length cap)] w fun e w' => e = .returned (.int .i64 t.err) ∧ Keeps (fun _ => False) w w' := by
  obtain ⟨li, cy, du, mf, mp, st, L⟩ := t
  simp only [Tm.val] at hr hl ⊢
  rcases b1 : inB li 0 1000000000000000 with _ | _
  · have hf : Tm.err ⟨li, cy, du, mf, mp, st, L⟩ = 6 := by simp [Tm.err, Tm.okB, b1]
    obtain ⟨Hr, Hf, B1⟩ := hid3 hr hf b1; clear b1 hf hr
    go_enter Tryz.func95, Tryz.ntmps95
    go_wp2
    refine wp_scope_ahead 0 rfl ?_
    go_wp2_with (go_at_call 117; ((with_reducible refine (tmBetween_at B1.out _).mono ?_); rintro e w1 ⟨rfl, rfl⟩))
    go_step3
    go_wp2
    refine jump_goto ?_
    go_wp2
    rw [Exit.noGoto_ret]
    go_ret
    exact ⟨by rw [Hf.out]; rfl, by (repeat (first | exact Keeps.refl _ _ | exact Keeps.alloc _ _ | exact Keeps.drew _ | exact Keeps.drewN _ _ | refine Keeps.trans_drew ?_ | refine Keeps.trans_drewN ?_ | refine Keeps.trans_alloc ?_))⟩
  obtain ⟨n, hn⟩ : ∃ n, L.length = n := ⟨_, rfl⟩
  have hf0 : Tm.err ⟨li, cy, du, mf, mp, st, L⟩ = if (inB (n : Int) 1 8 && L.all Tn.okB && (inB cy 1 28 && inB du 1 25 && inB mf 0 1000000000000000 && inB mp 0 1000 && inB st (-135140) 2922896)) = true then 0 else 6 := by
    simp only [Tm.err, Tm.okB, b1, hn, Bool.true_and]
  rw [hn] at hr hl ⊢
  by_cases l1 : n < 1
  · have hf : Tm.err ⟨li, cy, du, mf, mp, st, L⟩ = 6 := by rw [hf0]; have : inB (n : Int) 1 8 = false := by simp [inB]; omega
                                                           simp [this]
    obtain rfl : n = 0 := by omega
    obtain ⟨Hr, Hf, B1, Hf0, Hn⟩ := hid5 hr hf b1 hf0 hn; clear hn hf0 b1 hf hr
    go_enter Tryz.func95, Tryz.ntmps95
    go_wp2
    refine wp_scope_ahead 0 rfl ?_
    go_wp2_with (go_at_call 117; ((with_reducible refine (tmBetween_at B1.out _).mono ?_); rintro e w1 ⟨rfl, rfl⟩))
    go_step3
    go_wp2
    refine jump_goto ?_
    go_wp2
    rw [Exit.noGoto_ret]
    go_ret
    exact ⟨by rw [Hf.out]; rfl, by (repeat (first | exact Keeps.refl _ _ | exact Keeps.alloc _ _ | exact Keeps.drew _ | exact Keeps.drewN _ _ | refine Keeps.trans_drew ?_ | refine Keeps.trans_drewN ?_ | refine Keeps.trans_alloc ?_))⟩
  by_cases l2 : 8 < n
  · have hf : Tm.err ⟨li, cy, du, mf, mp, st, L⟩ = 6 := by rw [hf0]; have : inB (n : Int) 1 8 = false := by simp [inB]; omega
                                                           simp [this]
    have l2' : (8 : Int) < (n : Int) := by omega
    obtain ⟨Hr, Hf, B1, Hf0, Hn⟩ := hid5 hr hf b1 hf0 hn; clear hn hf0 b1 hf hr
    go_enter Tryz.func95, Tryz.ntmps95
    go_wp2
    refine wp_scope_ahead 0 rfl ?_
    go_wp2_with (go_at_call 117; ((with_reducible refine (tmBetween_at B1.out _).mono ?_); rintro e w1 ⟨rfl, rfl⟩))
    go_step3
    go_wp2
    refine jump_goto ?_
    go_wp2
    rw [Exit.noGoto_ret]
    go_ret
    exact ⟨by rw [Hf.out]; rfl, by (repeat (first | exact Keeps.refl _ _ | exact Keeps.alloc _ _ | exact Keeps.drew _ | exact Keeps.drewN _ _ | refine Keeps.trans_drew ?_ | refine Keeps.trans_drewN ?_ | refine Keeps.trans_alloc ?_))⟩
  have l1' : (1 : Int) ≤ (n : Int) := by omega
  have l2' : (n : Int) ≤ 8 := by omega
  have b2 : inB (n : Int) 1 8 = true := by simp [inB]; omega
  rw [b2, Bool.true_and] at hf0
  have hbox := heap_alloc_new w (.cells #[.int .i64 li, .slice ad n cap, .int .i64 cy, .int .i64 du, .int .i64 mf, .int .i64 mp, .int .i64 st] 38)
  obtain ⟨Hr, B1, B2, Hf0, Hn, Hbox⟩ := hid6 hr b1 b2 hf0 hn hbox; clear hbox hn hf0 b2 b1 hr
  go_enter Tryz.func95, Tryz.ntmps95
  go_wp2
  refine wp_scope_ahead 0 rfl ?_
  go_wp2_with (go_at_call 117; ((with_reducible refine (tmBetween_at B1.out _).mono ?_); rintro e w1 ⟨rfl, rfl⟩))
  go_loopw [24] (fun c wr => ∃ j : Nat, j ≤ n ∧ c = .int .i64 (j : Nat) ∧ (L.take j).all Tn.okB = true ∧ Keeps (fun _ => False) w wr ∧ wr.heap[w.heap.size]? = some (.cells #[.int .i64 li, .slice ad n cap, .int .i64 cy, .int .i64 du, .int .i64 mf, .int .i64 mp, .int .i64 st] 38 (0, 0))) (fun c _ => n - (intOf c).toNat)
  case atStart => exact ⟨0, Nat.zero_le _, rfl, rfl, Keeps.alloc _ _, Hbox.out⟩
  case round =>
    obtain ⟨j, hj, rfl, hok, hk, hb⟩ := hrel
    have hbl := lt_of_block hb
    by_cases hjl : j < n
    · obtain ⟨⟨xr, xg⟩, hx⟩ := get_some (L := L) (k := j) (by rw [Hn.out]; exact hjl)
      obtain ⟨g, o, c, he, hc⟩ := (Hr.out.keeps hk (by simp)).elem Tn.cells_length hx (by decide)
      simp only [Value.slice.injEq, true_and] at he
      obtain ⟨rfl, rfl⟩ := he
      have x0 : wr.cell? ⟨g, o + j * 2, none⟩ = some (.int .i64 xr) := hc 0 (by decide)
      have x1 : wr.cell? ⟨g, o + j * 2 + 1, none⟩ = some (.bool xg) := hc 1 (by decide)
      have hgl := cell_lt x0
      clear hc
      rcases b3 : inB xr 0 10000000 with _ | _
      · have hall : L.all Tn.okB = false := by
          rw [Bool.eq_false_iff]; intro hm
          have := List.all_eq_true.1 hm _ (List.mem_of_getElem? hx)
          simp only [Tn.okB, b3] at this; simp at this
        have hf : Tm.err ⟨li, cy, du, mf, mp, st, L⟩ = 6 := by rw [Hf0.out, hall]; simp
        obtain ⟨Hx, Hok, Hk, Hb, B3, Hall, Hf⟩ := hid7 hx hok hk hb b3 hall hf; clear hf hall b3 hb hk hok hx
        go_wp2_with (go_at_call 117; ((with_reducible refine (tmBetween_at B3.out _).mono ?_); rintro e w1 ⟨rfl, rfl⟩))
        go_step3
        go_wp2
        refine jump_goto ?_
        go_wp2
        rw [Exit.noGoto_ret]
        go_ret
        exact ⟨by rw [Hf.out]; rfl, Hk.out.nt (by (repeat (first | exact Keeps.refl _ _ | exact Keeps.alloc _ _ | exact Keeps.drew _ | exact Keeps.drewN _ _ | refine Keeps.trans_drew ?_ | refine Keeps.trans_drewN ?_ | refine Keeps.trans_alloc ?_)))⟩
      · have hok' : (L.take (j + 1)).all Tn.okB = true := by rw [take_snoc' hx, List.all_append, hok]; simp [Tn.okB, b3]
        obtain ⟨Hx, Hok, Hk, Hb, B3, Hok'⟩ := hid6 hx hok hk hb b3 hok'; clear hok' b3 hb hk hok hx
        go_wp2_with (go_at_call 117; ((with_reducible refine (tmBetween_at B3.out _).mono ?_); rintro e w1 ⟨rfl, rfl⟩))
        go_roundw
        case rel => exact ⟨j + 1, by omega, by go_num, Hok'.out, Hk.out.nt (by (repeat (first | exact Keeps.refl _ _ | exact Keeps.alloc _ _ | exact Keeps.drew _ | exact Keeps.drewN _ _ | refine Keeps.trans_drew ?_ | refine Keeps.trans_drewN ?_ | refine Keeps.trans_alloc ?_))), box_alloc Hb.out _⟩
        case measure => simp [intOf]; omega
    · obtain rfl : j = n := by omega
      have hall : L.all Tn.okB = true := by rw [List.take_of_length_le (by rw [Hn.out]; exact Nat.le_refl _)] at hok; exact hok
      have hf1 := Hf0.out
      rw [hall, Bool.true_and] at hf1
      have c2 : wr.cell? ⟨w.heap.size, 2, none⟩ = some (.int .i64 cy) := cell_of_cells hb 2
      have c3 : wr.cell? ⟨w.heap.size, 3, none⟩ = some (.int .i64 du) := cell_of_cells hb 3
      have c4 : wr.cell? ⟨w.heap.size, 4, none⟩ = some (.int .i64 mf) := cell_of_cells hb 4
      have c5 : wr.cell? ⟨w.heap.size, 5, none⟩ = some (.int .i64 mp) := cell_of_cells hb 5
      have c6 : wr.cell? ⟨w.heap.size, 6, none⟩ = some (.int .i64 st) := cell_of_cells hb 6
      have f1 : inB cy 1 28 = (decide (1 ≤ cy) && decide (cy ≤ 28)) := rfl
      have f2 : inB du 1 25 = (decide (1 ≤ du) && decide (du ≤ 25)) := rfl
      have f3 : inB st (-135140) 2922896 = (decide (-135140 ≤ st) && decide (st ≤ 2922896)) := rfl
      have F1 := Lib.hid f1; clear f1
      have F2 := Lib.hid f2; clear f2
      have F3 := Lib.hid f3; clear f3
      by_cases q : cy < 1
      · have hz : inB cy 1 28 = false := by rw [F1.out]; simp; omega
        have hf : Tm.err ⟨li, cy, du, mf, mp, st, L⟩ = 6 := by rw [hf1, hz]; simp
        obtain ⟨Hok, Hk, Hb, Hall, Hf, Hf1, Hz⟩ := hid7 hok hk hb hall hf hf1 hz; clear hz hf1 hf hall hb hk hok
        go_wp2_with fail
        go_step3
        go_wp2
        refine jump_goto ?_
        go_wp2
        rw [Exit.noGoto_ret]
        go_ret
        exact ⟨by rw [Hf.out]; rfl, Hk.out⟩
      have p1 : 1 ≤ cy := by omega
      clear q
      by_cases q : 28 < cy
      · have hz : inB cy 1 28 = false := by rw [F1.out]; simp; omega
        have hf : Tm.err ⟨li, cy, du, mf, mp, st, L⟩ = 6 := by rw [hf1, hz]; simp
        obtain ⟨Hok, Hk, Hb, Hall, Hf, Hf1, Hz⟩ := hid7 hok hk hb hall hf hf1 hz; clear hz hf1 hf hall hb hk hok
        go_wp2_with fail
        go_step3
        go_wp2
        refine jump_goto ?_
        go_wp2
        rw [Exit.noGoto_ret]
        go_ret
        exact ⟨by rw [Hf.out]; rfl, Hk.out⟩
      have p2 : cy ≤ 28 := by omega
      clear q
      by_cases q : du < 1
      · have hz : inB du 1 25 = false := by rw [F2.out]; simp; omega
        have hf : Tm.err ⟨li, cy, du, mf, mp, st, L⟩ = 6 := by rw [hf1, hz]; simp
        obtain ⟨Hok, Hk, Hb, Hall, Hf, Hf1, Hz⟩ := hid7 hok hk hb hall hf hf1 hz; clear hz hf1 hf hall hb hk hok
        go_wp2_with fail
        go_step3
        go_wp2
        refine jump_goto ?_
        go_wp2
        rw [Exit.noGoto_ret]
        go_ret
        exact ⟨by rw [Hf.out]; rfl, Hk.out⟩
      have p3 : 1 ≤ du := by omega
      clear q
      by_cases q : 25 < du
      · have hz : inB du 1 25 = false := by rw [F2.out]; simp; omega
        have hf : Tm.err ⟨li, cy, du, mf, mp, st, L⟩ = 6 := by rw [hf1, hz]; simp
        obtain ⟨Hok, Hk, Hb, Hall, Hf, Hf1, Hz⟩ := hid7 hok hk hb hall hf hf1 hz; clear hz hf1 hf hall hb hk hok
        go_wp2_with fail
        go_step3
        go_wp2
        refine jump_goto ?_
        go_wp2
        rw [Exit.noGoto_ret]
        go_ret
        exact ⟨by rw [Hf.out]; rfl, Hk.out⟩
      have p4 : du ≤ 25 := by omega
      clear q
      rcases bf : inB mf 0 1000000000000000 with _ | _
      · have hf : Tm.err ⟨li, cy, du, mf, mp, st, L⟩ = 6 := by rw [hf1, bf]; simp
        obtain ⟨Hok, Hk, Hb, Hall, Hf, Hf1, Bf⟩ := hid7 hok hk hb hall hf hf1 bf; clear bf hf1 hf hall hb hk hok
        go_wp2_with (go_at_call 117; ((with_reducible refine (tmBetween_at Bf.out _).mono ?_); rintro e w1 ⟨rfl, rfl⟩))
        go_step3
        go_wp2
        refine jump_ret ?_
        go_ret
        exact ⟨by rw [Hf.out]; rfl, Hk.out⟩
      rcases bp : inB mp 0 1000 with _ | _
      · have hf : Tm.err ⟨li, cy, du, mf, mp, st, L⟩ = 6 := by rw [hf1, bp]; simp
        obtain ⟨Hok, Hk, Hb, Hall, Hf, Hf1, Bf, Bp⟩ := hid8 hok hk hb hall hf hf1 bf bp; clear bp bf hf1 hf hall hb hk hok
        go_wp2_with (first | (go_at_call 117; ((with_reducible refine (tmBetween_at Bf.out _).mono ?_); rintro e w1 ⟨rfl, rfl⟩)) | (go_at_call 117; ((with_reducible refine (tmBetween_at Bp.out _).mono ?_); rintro e w1 ⟨rfl, rfl⟩)))
        go_step3
        go_wp2
        refine jump_ret ?_
        go_ret
        exact ⟨by rw [Hf.out]; rfl, Hk.out⟩
      by_cases q : st < -135140
      · have hz : inB st (-135140) 2922896 = false := by rw [F3.out]; simp; omega
        have hf : Tm.err ⟨li, cy, du, mf, mp, st, L⟩ = 6 := by rw [hf1, hz]; simp
        obtain ⟨Hok, Hk, Hb, Hall, Hf, Hf1, Hz, Bf, Bp⟩ := hid9 hok hk hb hall hf hf1 hz bf bp; clear bp bf hz hf1 hf hall hb hk hok
        go_wp2_with (first | (go_at_call 117; ((with_reducible refine (tmBetween_at Bf.out _).mono ?_); rintro e w1 ⟨rfl, rfl⟩)) | (go_at_call 117; ((with_reducible refine (tmBetween_at Bp.out _).mono ?_); rintro e w1 ⟨rfl, rfl⟩)))
        go_step3
        go_wp2
        refine jump_ret ?_
        go_ret
        exact ⟨by rw [Hf.out]; rfl, Hk.out⟩
      have p5 : -135140 ≤ st := by omega
      clear q
      by_cases q : 2922896 < st
      · have hz : inB st (-135140) 2922896 = false := by rw [F3.out]; simp; omega
        have hf : Tm.err ⟨li, cy, du, mf, mp, st, L⟩ = 6 := by rw [hf1, hz]; simp
        obtain ⟨Hok, Hk, Hb, Hall, Hf, Hf1, Hz, Bf, Bp⟩ := hid9 hok hk hb hall hf hf1 hz bf bp; clear bp bf hz hf1 hf hall hb hk hok
        go_wp2_with (first | (go_at_call 117; ((with_reducible refine (tmBetween_at Bf.out _).mono ?_); rintro e w1 ⟨rfl, rfl⟩)) | (go_at_call 117; ((with_reducible refine (tmBetween_at Bp.out _).mono ?_); rintro e w1 ⟨rfl, rfl⟩)))
        go_step3
        go_wp2
        refine jump_ret ?_
        go_ret
        exact ⟨by rw [Hf.out]; rfl, Hk.out⟩
      have p6 : st ≤ 2922896 := by omega
      clear q
      have hf : Tm.err ⟨li, cy, du, mf, mp, st, L⟩ = 0 := by rw [hf1, bf, bp, F1.out, F2.out, F3.out]; simp; omega
      obtain ⟨Hok, Hk, Hb, Hall, Hf, Hf1, Bf, Bp⟩ := hid8 hok hk hb hall hf hf1 bf bp; clear bp bf hf1 hf hall hb hk hok
      go_wp2_with (first | (go_at_call 117; ((with_reducible refine (tmBetween_at Bf.out _).mono ?_); rintro e w1 ⟨rfl, rfl⟩)) | (go_at_call 117; ((with_reducible refine (tmBetween_at Bp.out _).mono ?_); rintro e w1 ⟨rfl, rfl⟩)))
      refine jump_ret ?_
      go_ret
      exact ⟨by rw [Hf.out]; rfl, Hk.out⟩
open Go.ChangeShapes Go.WideShapes Go.RowKit Go.Deep
def Ev.wf(a:Ev):Prop:=(Lit.int .i64 a.kind).wf=true∧(Lit.int .i64 a.day).wf=true∧(Lit.int .i64 a.tranche).wf=true∧(Lit.int .i64 a.amount).wf=true∧(Lit.int .i64 a.ref).wf=true
theorem open_Ev{H:Type}{enc:TypeId×Value→H}{w:World}{spare:Nat→Bool}{held:Bool}(n:Nat)(cs:List Value)(d:DataW H×List MemPlace)(h:DataW.trod enc Tryz.prog w 0 spare held n 26 cs=some d):∃a:Ev,cs=a.cells∧a.wf:=by
 obtain⟨xs,m,rfl,_,hlen,hxs,hf⟩:=DataW.trod_struct Tryz.underlying26 h
 have hl:cs.length=5:=hlen.trans (by kernel_rfl)
 have hx:xs.length=5:=hxs
 have g0:=hf 0 _ rfl
 rw [show Tryz.prog.cellsOf _=1 from by kernel_rfl,List.getElem?_eq_getElem (show 0<xs.length by omega)] at g0
 have g1:=hf 1 _ rfl
 rw [show Tryz.prog.cellsOf _=1 from by kernel_rfl,List.getElem?_eq_getElem (show 1<xs.length by omega)] at g1
 have g2:=hf 2 _ rfl
 rw [show Tryz.prog.cellsOf _=1 from by kernel_rfl,List.getElem?_eq_getElem (show 2<xs.length by omega)] at g2
 have g3:=hf 3 _ rfl
 rw [show Tryz.prog.cellsOf _=1 from by kernel_rfl,List.getElem?_eq_getElem (show 3<xs.length by omega)] at g3
 have g4:=hf 4 _ rfl
 rw [show Tryz.prog.cellsOf _=1 from by kernel_rfl,List.getElem?_eq_getElem (show 4<xs.length by omega)] at g4
 match cs,hl with
 | [c0,c1,c2,c3,c4],_=>
  obtain⟨a0,e0,_,w0⟩:=DataW.trod_int Tryz.underlying3 g0
  simp at e0
  subst e0
  obtain⟨a1,e1,_,w1⟩:=DataW.trod_int Tryz.underlying3 g1
  simp at e1
  subst e1
  obtain⟨a2,e2,_,w2⟩:=DataW.trod_int Tryz.underlying3 g2
  simp at e2
  subst e2
  obtain⟨a3,e3,_,w3⟩:=DataW.trod_int Tryz.underlying2 g3
  simp at e3
  subst e3
  obtain⟨a4,e4,_,w4⟩:=DataW.trod_int Tryz.underlying3 g4
  simp at e4
  subst e4
  exact⟨⟨a0,a1,a2,a3,a4⟩,rfl,w0,w1,w2,w3,w4⟩
def Tn.wf(a:Tn):Prop:=(Lit.int .i64 a.rate).wf=true∧True
def Tm.list(t:Tm)(ad:Option Addr)(cap:Nat):List Value:= [.int .i64 t.limit, .slice ad t.trs.length cap, .int .i64 t.cyc, .int .i64 t.due, .int .i64 t.minFixed, .int .i64 t.minPart, .int .i64 t.start]
def Tm.wf(t:Tm):Prop:=(Lit.int .i64 t.limit).wf=true∧(Lit.int .i64 t.start).wf=true
def aheadB(hi:Bool)(a b:Int):Bool:=if hi=true then decide (b<a) else decide (a<b)
def rt(R:List Int)(k:Int):Int:=R.getD (k-1).toNat 0
def plR(hi:Bool)(R:List Int)(r:Int)(O:List Int):Nat→Nat
 |0=>0
 |k+1=>if aheadB hi r (rt R (O.getD k 0))=true then plR hi R r O k else k+1
def insR(hi:Bool)(R:List Int)(n:Nat)(O:List Int):List Int:=O.take (plR hi R (R.getD n 0) O O.length)++ [(n:Int)+1]++O.drop (plR hi R (R.getD n 0) O O.length)
def rankN(hi:Bool)(R:List Int):Nat→List Int
 |0=> []
 |n+1=>insR hi R n (rankN hi R n)
def rankL(hi:Bool)(R:List Int):List Int:=rankN hi R R.length
theorem plR_le(hi:Bool)(R:List Int)(r:Int)(O:List Int):∀k,plR hi R r O k≤k
 |0=>Nat.le_refl _
 |k+1=>by
  unfold plR
  split
  ·exact Nat.le_succ_of_le (plR_le hi R r O k)
  ·exact Nat.le_refl _
theorem insR_length(hi:Bool)(R:List Int)(n:Nat)(O:List Int):(insR hi R n O).length=O.length+1:=by
 have:=plR_le hi R (R.getD n 0) O O.length
 simp only [insR,List.length_append,List.length_take,List.length_drop,List.length_cons,List.length_nil];omega
theorem rankN_length(hi:Bool)(R:List Int):∀n,(rankN hi R n).length=n
 |0=>rfl
 |n+1=>by unfold rankN;rw [insR_length,rankN_length hi R n]
theorem rankL_length(hi:Bool)(R:List Int):(rankL hi R).length=R.length:=rankN_length hi R _
theorem mem_insR{hi:Bool}{R:List Int}{n:Nat}{O:List Int}{x:Int}(h:x∈insR hi R n O):x∈O∨x=(n:Int)+1:=by
 unfold insR at h
 rcases List.mem_append.1 h with h|h
 ·rcases List.mem_append.1 h with h|h
  ·exact .inl (List.mem_of_mem_take h)
  ·exact .inr (List.mem_singleton.1 h)
 ·exact .inl (List.mem_of_mem_drop h)
theorem rankN_mem{hi:Bool}{R:List Int}:∀{n:Nat} {x:Int},x∈rankN hi R n→1≤x∧x≤n
 |0,x,h=>by simp [rankN] at h
 |n+1,x,h=>by
  rcases mem_insR h with h|h
  ·have:=rankN_mem h;omega
  ·omega
theorem rankN_nodup(hi:Bool)(R:List Int):∀n,(rankN hi R n).Nodup
 |0=>List.nodup_nil
 |n+1=>by
  have ih:=rankN_nodup hi R n
  have hm:=fun x=>rankN_mem (hi:=hi) (R:=R) (n:=n) (x:=x)
  unfold rankN insR
  obtain⟨O,hO⟩:∃O,rankN hi R n=O:=⟨_,rfl⟩
  rw [hO] at ih hm⊢
  obtain⟨p,hp⟩:∃p,plR hi R (R.getD n 0) O O.length=p:=⟨_,rfl⟩
  rw [hp]
  rw [←List.take_append_drop p O,List.nodup_append] at ih
  obtain⟨h1,h2,h3⟩:=ih
  rw [List.append_assoc,List.nodup_append]
  refine⟨h1, ?_,fun a ha b hb=> ?_⟩
  ·show List.Nodup (_::_)
   rw [List.nodup_cons]
   exact⟨fun h=>by have:=(hm _ (List.mem_of_mem_drop h)).2;omega,h2⟩
  ·rcases List.mem_cons.1 (show b∈_::_ from hb) with rfl|hb
   ·intro e;have:=(hm _ (List.mem_of_mem_take ha)).2;omega
   ·exact h3 a ha b hb
def minI(a b:Int):Int:=if a≤b then a else b
def intoS(B:List Int):List Int→List Int×Int→List Int×Int
 | [],s=>s
 |k::O,s=>intoS B O (s.1.set (k-1).toNat (minI s.2 (B.getD (k-1).toNat 0)),s.2-minI s.2 (B.getD (k-1).toNat 0))
def intoL(B O:List Int)(a:Int):List Int×Int:=intoS B O (List.replicate B.length 0,a)
theorem intoS_length(B:List Int):∀(O:List Int) (s:List Int×Int),(intoS B O s).1.length=s.1.length
 | [],s=>rfl
 |k::O,s=>by unfold intoS;rw [intoS_length B O];simp
theorem intoL_length(B O:List Int)(a:Int):(intoL B O a).1.length=B.length:=by unfold intoL;rw [intoS_length];simp
def moneyP(v:Int):Bool:=decide (0≤v)&&decide (v≤1000000000000000)
theorem moneyP_iff(v:Int):moneyP v=true↔0≤v∧v≤1000000000000000:=by simp [moneyP]
theorem intoS_bd {B : List Int} (hB : ∀ x ∈ B, 0 ≤ x) : ∀ (O : List Int) (s : List Int × Int), 0 ≤ s.2 → (∀ j x, s.1[j]? = some x → 0 ≤ x ∧ x ≤ B.getD j 0) → (∀ k ∈ O, 1 ≤ k ∧ k ≤ s.1.length) → s.1.length = B.length →
    0 ≤ (intoS B O s).2 ∧ (intoS B O s).2 ≤ s.2 ∧ ∀ j x, (intoS B O s).1[j]? = some x → 0 ≤ x ∧ x ≤ B.getD j 0
  | [], s, h0, h1, _, _ => ⟨h0, Int.le_refl _, h1⟩
  | k :: O, s, h0, h1, hk, hl => by
    have hkk := hk k (List.mem_cons_self ..)
    have hb : 0 ≤ B.getD (k - 1).toNat 0 := by
      rw [List.getD_eq_getElem?_getD, List.getElem?_eq_getElem (by omega)]
      exact hB _ (List.getElem_mem _)
    have hm : 0 ≤ minI s.2 (B.getD (k - 1).toNat 0) ∧ minI s.2 (B.getD (k - 1).toNat 0) ≤ s.2 ∧ minI s.2 (B.getD (k - 1).toNat 0) ≤ B.getD (k - 1).toNat 0 := by unfold minI; split <;> omega
    unfold intoS
    obtain ⟨e1, e2, e3⟩ := intoS_bd hB O (s.1.set (k - 1).toNat (minI s.2 (B.getD (k - 1).toNat 0)), s.2 - minI s.2 (B.getD (k - 1).toNat 0)) (by show 0 ≤ _ - _; omega) (fun j x hj => by
      simp only [List.getElem?_set] at hj
      split at hj
      · rename_i he
        split at hj
        · simp only [Option.some.injEq] at hj; subst hj; subst he; exact ⟨hm.1, hm.2.2⟩
        · cases hj
      · exact h1 j x hj) (fun z hz => by have := hk z (List.mem_cons_of_mem _ hz); simpa using this) (by simpa using hl)
    exact ⟨e1, by have : (intoS B O (s.1.set (k - 1).toNat (minI s.2 (B.getD (k - 1).toNat 0)), s.2 - minI s.2 (B.getD (k - 1).toNat 0))).2 ≤ s.2 - minI s.2 (B.getD (k - 1).toNat 0) := e2
                  omega, e3⟩
theorem intoL_bd{B O:List Int}{a:Int}(hB:∀x∈B,0≤x)(ha:0≤a)(hO:∀k∈O,1≤k∧k≤B.length):0≤(intoL B O a).2∧(intoL B O a).2≤a∧∀j x,(intoL B O a).1[j]?=some x→0≤x∧x≤B.getD j 0:=by
 unfold intoL
 refine intoS_bd hB O _ ha (fun j x hj=> ?_) (fun k hk=>by have:=hO k hk;simpa using this) (by simp)
 rw [List.getElem?_replicate] at hj
 split at hj
 ·rename_i hlt
  simp only [Option.some.injEq] at hj
  subst hj
  refine⟨Int.le_refl _, ?_⟩
  rw [List.getD_eq_getElem?_getD,List.getElem?_eq_getElem hlt]
  exact hB _ (List.getElem_mem _)
 ·cases hj
theorem wp_scope_back{P:Program}{a:Act}{w:World}{Q:Exit→Act→World→Prop}{c rest:Code}(l:Nat)(J:Act→World→Prop)(M:Act→World→Nat)(hf:findLabel c l=some (Code.skip.seq rest))
  (round:∀a w,J a w→rest.wp P (Exit.jump l (fun a' w'=>J a' w'∧M a' w'<M a w) Q) a w)
  (first:(∀a w,J a w→rest.wp P (Exit.jump l J Q) a w)→c.wp P (Exit.jump l J Q) a w):(Code.scope c).wp P Q a w:=by
 refine wp_scope_jumps2 l J M hf (fun a w hJ=>wp_seq (wp_skip (round a w hJ))) fun _=>first fun a w hJ=>Code.wp_mono ?_ (round a w hJ)
 intro e a' w' h
 cases e with
 |goto k=>exact⟨h.1,h.2.1⟩
 |_=>exact h
theorem own_lt{w:World}{base:Nat}{e:TypeId}{size:Nat}{v:Value}{n:Nat}{xs:List Value}(h:w.ownsRow base e size v n xs){g:Nat}(hv:v.ownBlock=some g):g<w.heap.size:=by
 rcases h.2 with⟨rfl,_⟩|⟨g',cap,cur,rfl,_,hh,_⟩
 ·simp [Value.ownBlock] at hv
 ·simp only [Value.ownBlock,Option.some.injEq] at hv;subst hv;exact lt_of_block hh
theorem rows_ne{w:World}{e e':TypeId}{b b' size size' n n':Nat}{v v':Value}{xs xs':List Value}(h:w.ownsRow b e size v n xs)(h':w.ownsRow b' e' size' v' n' xs')(hne:e≠e'){g:Nat}(hg:v.ownBlock=some g)(hg':v'.ownBlock=some g):False:=by
 rcases h.2 with⟨rfl,_⟩|⟨g1,cap1,cur1,rfl,_,hh,_⟩
 ·simp [Value.ownBlock] at hg
 ·simp only [Value.ownBlock,Option.some.injEq] at hg
  subst hg
  exact ownsRow_ne h' hh hne hg'
theorem info_tInt:(Tryz.prog.info? 3).map (fun i=>(i.zero,i.size,i.bytes))=some (some (.int .i64 0),1,8):=by kernel_rfl
set_option maxHeartbeats 400000
theorem rankHigh1_any(a b:Int)(w:World):Calls Tryz.prog 86 #[.int .i64 a, .int .i64 b] w fun e w'=>e= .returned (.bool (aheadB true a b))∧w=w':=by
 go_enter Tryz.func86,Tryz.ntmps86
 go_wp2
 go_ret
 exact⟨rfl,rfl⟩
theorem rankLow1_any(a b:Int)(w:World):Calls Tryz.prog 115 #[.int .i64 a, .int .i64 b] w fun e w'=>e= .returned (.bool (aheadB false a b))∧w=w':=by
 go_enter Tryz.func115,Tryz.ntmps115
 go_wp2
 go_ret
 exact⟨rfl,rfl⟩
def RowI(W:World)(g n cap:Nat)(O:List Int):Prop:=W.ownsRow 0 3 1 (.slice (some ⟨g,0,none⟩) n cap) n (O.flatMap i64c)∧O.length=n
theorem RowI.cell{W:World}{g n cap:Nat}{O:List Int}(h:RowI W g n cap O){k:Nat}{x:Int}(hx:O[k]?=some x):W.cell? ⟨g,k,none⟩=some (.int .i64 x):=by
 obtain⟨h,rfl⟩:=h
 have:=owns_elem i64c_length h hx 0 (by decide)
 rw [Nat.mul_one,Nat.add_zero] at this;exact this
theorem RowI.free{W:World}{g n cap:Nat}{O:List Int}(h:RowI W g n cap O)(j:Nat):W.frozen? ⟨g,j,none⟩=false:=by
 rcases h.1.2 with⟨h0,_⟩|⟨g1,cap1,cur,h0,_,hh,_⟩
 ·simp at h0
 ·simp only [Value.slice.injEq,Option.some.injEq,Addr.mk.injEq,and_true,true_and] at h0
  obtain⟨rfl,_⟩:=h0
  exact free_of_cells hh j
theorem RowI.set{W:World}{g n cap:Nat}{O:List Int}(h:RowI W g n cap O){k:Nat}(hk:k<n)(x:Int):RowI (W.setCell ⟨g,k,none⟩ (.int .i64 x)) g n cap (O.set k x):=by
 obtain⟨h1,h2⟩:=h
 obtain⟨y,hy⟩:=get_some (L:=O) (k:=k) (by omega)
 subst h2
 have:=owns_store i64c_length h1 hy 0 (by decide) (y:=x) (u:= .int .i64 x) rfl
 simp only [Nat.mul_one,Nat.add_zero] at this
 exact⟨this,by simp⟩
theorem RowI.keep{W W':World}{g n cap:Nat}{O:List Int}(h:RowI W g n cap O)(hk:Keeps (fun _=>False) W W'):RowI W' g n cap O:=⟨h.1.of_keeps hk,h.2⟩
theorem RowI.lt{W:World}{g n cap:Nat}{O:List Int}(h:RowI W g n cap O):g<W.heap.size:=own_lt h.1 rfl
theorem jump_normal{l:Nat}{J:Act→World→Prop}{Q:Exit→Act→World→Prop}{a:Act}{w:World}(h:Q .normal a w):Exit.jump l J Q .normal a w:=h
def slotNatR(i:Nat)(a':Act):Nat:=match a'.tmps.getD i undef with| .int _ n=>n.toNat|_=>0
def rkFr(vR clo vO:Value)(i n k:Nat)(r:Int)(u:Nat→Value):Act:={ tmps:= #[vR,clo,undef,undef, .slice none 0 0,vO, .int .i64 ((i:Nat):Int), .int .i64 r, .int .i64 ((k:Nat):Int),vR, .int .i64 ((n:Nat):Int), .int .i64 ((i:Nat):Int),u 12,u 13,u 14,u 15,u 16,u 17,u 18,u 19,u 20,u 21,u 22,u 23,u 24,u 25,u 26,u 27,u 28,u 29,u 30,u 31,u 32,u 33,u 34,u 35,u 36,u 37,u 38,u 39,u 40,u 41,u 42,u 43,u 44,u 45,u 46,u 47,u 48,u 49,u 50,u 51,u 52,u 53,u 54,u 55,u 56,undef],defers:= [] }
structure RkAt(hi:Bool)(R:List Int)(i:Nat)(w:World)(g c k:Nat)(W:World):Prop where
 ki:k≤i
 row:RowI W g (i+1) c ((rankN hi R i).take k++ [(i:Int)+1]++(rankN hi R i).drop k)
 pl:plR hi R (R.getD i 0) (rankN hi R i) i=plR hi R (R.getD i 0) (rankN hi R i) k
 fr:Fresh w W (.slice (some ⟨g,0,none⟩) (i+1) c)
def rkJ(hi:Bool)(R:List Int)(i:Nat)(w:World)(vR clo:Value)(n:Nat)(a':Act)(W:World):Prop:=∃(k g c:Nat) (u:Nat→Value),a'=rkFr vR clo (.slice (some ⟨g,0,none⟩) (i+1) c) i n k (R.getD i 0) u∧RkAt hi R i w g c k W
theorem rkJ.mk{hi:Bool}{R:List Int}{i:Nat}{w:World}{vR clo:Value}{n:Nat}{a':Act}{W:World}(k g c:Nat)(h:a'=rkFr vR clo (.slice (some ⟨g,0,none⟩) (i+1) c) i n k (R.getD i 0) (fun j=>a'.tmps.getD j undef))(hr:RkAt hi R i w g c k W):rkJ hi R i w vR clo n a' W:=⟨k,g,c,_,h,hr⟩
theorem swap_back{O:List Int}{k:Nat}{x y:Int}(hk:O[k]?=some y):((O.take (k+1)++ [x]++O.drop (k+1)).set k x).set (k+1) y=O.take k++ [x]++O.drop k:=by
 have hl:k<O.length:=(List.getElem?_eq_some_iff.1 hk).1
 have h1:O.take (k+1)=O.take k++ [y]:=by rw [List.take_add_one,hk];rfl
 have h2:O.drop k=y::O.drop (k+1):=by rw [List.drop_eq_getElem_cons hl];congr 1;exact(List.getElem?_eq_some_iff.1 hk).2
 have hlen:(O.take k).length=k:=by rw [List.length_take];omega
 rw [h1,h2]
 simp only [List.append_assoc,List.cons_append,List.nil_append]
 rw [List.set_append_right _ _ (by omega),hlen,Nat.sub_self,List.set_cons_zero,List.set_append_right _ _ (by omega),hlen,show k+1-k=1 by omega]
 rfl
theorem mid_get{O:List Int}{k:Nat}{x:Int}(hk:k≤O.length):(O.take k++ [x]++O.drop k)[k]?=some x:=by
 rw [List.append_assoc,List.getElem?_append_right (by rw [List.length_take];omega),List.length_take,show k-min k O.length=0 by omega];rfl
theorem mid_prev{O:List Int}{k:Nat}{x y:Int}(hk:O[k]?=some y):(O.take (k+1)++ [x]++O.drop (k+1))[k]?=some y:=by
 have hl:k<O.length:=(List.getElem?_eq_some_iff.1 hk).1
 rw [List.append_assoc,List.getElem?_append_left (by rw [List.length_take];omega),List.getElem?_take,if_pos (by omega),hk]
set_option maxHeartbeats 3200000
theorem rankRanked_hi(R:List Int)(ad:Option Addr)(cap:Nat)(w:World)(hr:Reads w 1 (.slice ad R.length cap) R.length (R.flatMap i64c))(hl:R.length≤1000):
  Calls Tryz.prog 85 #[.slice ad R.length cap, .func (.func 86) #[] #[]] w fun e w'=>∃v',e= .returned v'∧w'.ownsRow 0 3 1 v' R.length ((rankL true R).flatMap i64c)∧Fresh w w' v':=by
 obtain⟨i0,hi,hi0,hi1,hi2⟩:=info_parts info_tInt
 unfold rankL
 obtain⟨n,hn⟩:∃n,R.length=n:=⟨_,rfl⟩
 rw [hn] at hr hl⊢
 obtain⟨Hr,Hn,Hi,Hi0,Hi1,Hi2⟩:=hid6 hr hn hi hi0 hi1 hi2;clear hi2 hi1 hi0 hi hn hr
 go_enter Tryz.func85,Tryz.ntmps85
 go_wp2
 go_loopw [5,11] (fun x y wx=>∃i:Nat,y= .int .i64 (i:Nat)∧i≤n∧wx.ownsRow 0 3 1 x i ((rankN true R i).flatMap i64c)∧Fresh w wx x) (fun _ y _=>n-(intOf y).toNat)
 case atStart=>exact⟨0,rfl,Nat.zero_le _,World.ownsRow_nil _ _ _ _,Fresh.nil w⟩
 case round=>
  obtain⟨i,rfl,hin,hrow,hfr⟩:=hrel
  obtain⟨W1,hW1⟩:∃x,x=wr:=⟨_,rfl⟩
  subst hW1
  obtain⟨adv,cv,hv,_,_⟩:=ownsRow_shape hrow
  subst hv
  by_cases hlt:i<n
  ·have hltI:(i:Int)<(n:Int):=by omega
   obtain⟨r,hx⟩:=get_some (L:=R) (k:=i) (by rw [Hn.out];exact hlt)
   have hri:R.getD i 0=r:=by rw [List.getD_eq_getElem?_getD,hx];rfl
   obtain⟨gR,oR,he,hc⟩:=(Hr.out.keeps hfr.1 (by simp)).int (k:= .i64) hx
   subst he
   have hgl:=cell_lt hc
   obtain⟨Hrow,Hfr,Hx,Hri⟩:=hid4 hrow hfr hx hri;clear hri hx hfr hrow
   go_wp2_with fail
   refine wp_scope_back 0 (rkJ true R i w (.slice (some ⟨gR,oR,none⟩) n cap) (.func (.func 86) #[] #[]) n) (fun a' _=>slotNatR 8 a') rfl ?_ ?_
   ·rintro a' W ⟨k,g,c,u,rfl,hat⟩
    unfold rkFr
    rw [Hri.out]
    have hki:=hat.ki
    have hlen:=rankN_length true R i
    rcases k with _|k
    ·have hp0:plR true R r (rankN true R i) 0=0:=rfl
     have hpl:=hat.pl
     rw [Hri.out,hp0] at hpl
     have hend:rankN true R (i+1)=(rankN true R i).take 0++ [(i:Int)+1]++(rankN true R i).drop 0:=by
      show insR true R i (rankN true R i)=_
      unfold insR
      rw [hlen,Hri.out,hpl]
     have hrow2:=hat.row.1
     rw [←hend] at hrow2
     obtain⟨Hat,Hend,Hrow2,Hpl,Hlen,Hp0⟩:=hid6 hat hend hrow2 hpl hlen hp0;clear hp0 hlen hpl hrow2 hend hat
     go_wp2
     refine jump_normal ?_
     go_wp2
     go_roundw
     case rel=>exact⟨i+1,by go_num,by omega,Hrow2.out,Hat.out.fr⟩
     case measure=>simp [intOf];omega
    ·obtain⟨y,hy⟩:=get_some (L:=rankN true R i) (k:=k) (by omega)
     obtain⟨y1,y2⟩:=rankN_mem (List.mem_of_getElem? hy)
     have hyD:(rankN true R i).getD k 0=y:=by rw [List.getD_eq_getElem?_getD,hy];rfl
     obtain⟨m,hm⟩:∃m:Nat,(m:Int)=y-1:=⟨(y-1).toNat,by omega⟩
     obtain⟨v,hv⟩:=get_some (L:=R) (k:=m) (by rw [Hn.out];omega)
     have hrt:rt R y=v:=by unfold rt;rw [show(y-1).toNat=m by omega,List.getD_eq_getElem?_getD,hv];rfl
     have hpl:=hat.pl
     rw [Hri.out] at hpl
     have hps:plR true R r (rankN true R i) (k+1)=if aheadB true r v=true then plR true R r (rankN true R i) k else k+1:=by show(if _ then _ else _)=_;rw [hyD,hrt]
     rw [hps] at hpl
     obtain⟨g3,o3,he3,hc3⟩:=(Hr.out.keeps hat.fr.1 (by simp)).int (k:= .i64) hv
     simp only [Option.some.injEq,Addr.mk.injEq,and_true] at he3
     obtain⟨rfl,rfl⟩:=he3
     have cR:=hc3
     have lR:=cell_lt hc3
     have ck:=hat.row.cell (mid_prev (x:=(i:Int)+1) hy)
     have ck1:=hat.row.cell (mid_get (O:=rankN true R i) (x:=(i:Int)+1) (k:=k+1) (by omega))
     have fk:=hat.row.free k
     have fk1:=hat.row.free (k+1)
     have lg:=hat.row.lt
     have hset:=((hat.row.set (k:=k) (by omega) ((i:Int)+1)).set (k:=k+1) (by omega) y).keep (Keeps.drew _)
     rw [swap_back hy] at hset
     have hfr2:=((hat.fr.set (g:=g) (j:=k) rfl (.int .i64 ((i:Int)+1))).set (g:=g) (j:=k+1) rfl (.int .i64 y)).keep (Keeps.drew _)
     have q1:(0:Int)≤y-1:=by omega
     have q2:y-1<(n:Int):=by omega
     have q3:(y-1).toNat=m:=by omega
     have q4:IntKind.i64.wrap (y-1)=y-1:=IntWalk.i64_in _ ⟨by omega,by omega⟩
     have q5:IntKind.i64.wrap (k:Int)=(k:Int):=IntWalk.i64_in _ ⟨by omega,by omega⟩
     have q6:(k:Int)+1<(i:Int)+1:=by omega
     have q7:(k:Int)<(i:Int)+1:=by omega
     have q8:((k:Int)+1).toNat=k+1:=by omega
     have q9:(0:Int)≤(k:Int)+1:=by omega
     have hcl:=fun W=>rankHigh1_any r v W
     by_cases hah:aheadB true r v=true
     ·rw [if_pos hah] at hpl
      rw [hah] at hcl
      obtain⟨Hat,Hy,HyD,Hm,Hv,Hrt,Hpl,Hps,Hset⟩:=hid9 hat hy hyD hm hv hrt hpl hps hset;clear hset hps hpl hrt hv hm hyD hy hat;obtain⟨Hfr2,Hcl,Hlen,Hah⟩:=hid4 hfr2 hcl hlen hah;clear hah hlen hcl hfr2
      go_wp2_with (go_at_call 86;(refine(Hcl.out _).mono ?_);rintro e w1 ⟨rfl,rfl⟩)
      go_region
      all_goals go_wp2_with fail
      all_goals go_step3
      all_goals go_wp2
      all_goals exact jump_goto ⟨rkJ.mk k g c (by rw [Hri.out];rfl) ⟨by omega,Hset.out,by rw [Hri.out];exact Hpl.out,Hfr2.out⟩,by simp [slotNatR]⟩
     ·rw [if_neg hah] at hpl
      have hah2:aheadB true r v=false:=by simpa using hah
      rw [hah2] at hcl
      have hend:rankN true R (i+1)=(rankN true R i).take (k+1)++ [(i:Int)+1]++(rankN true R i).drop (k+1):=by
       show insR true R i (rankN true R i)=_
       unfold insR
       rw [hlen,Hri.out,hpl]
      have hrow2:=hat.row.1
      rw [←hend] at hrow2
      obtain⟨Hat,Hy,HyD,Hm,Hv,Hrt,Hpl,Hps,Hset⟩:=hid9 hat hy hyD hm hv hrt hpl hps hset;clear hset hps hpl hrt hv hm hyD hy hat;obtain⟨Hfr2,Hcl,Hlen,Hah,Hah2,Hend,Hrow2⟩:=hid7 hfr2 hcl hlen hah hah2 hend hrow2;clear hrow2 hend hah2 hah hlen hcl hfr2
      go_wp2_with (go_at_call 86;(refine(Hcl.out _).mono ?_);rintro e w1 ⟨rfl,rfl⟩)
      refine jump_normal ?_
      go_wp2
      go_roundw
      case rel=>exact⟨i+1,by go_num,by omega,Hrow2.out,Hat.out.fr⟩
      case measure=>simp [intOf];omega
   ·intro hfirst
    have Hfirst:=Lib.hid hfirst;clear hfirst
    go_wp2_with (at_builtin;refine wpList_append_row rfl (.tmp 16) (.tmp 19) 99 rfl 0 3 i0 _ 1 8 Tryz.underlying99 Hi.out Hi0.out Hi1.out Hi2.out rfl (by decide) _ i _ rfl (Hrow.out.alloc _) _ 1 _ rfl (Reads.litAt _ _ _ 1 1 _ (by first|rfl|simp) rfl) (by simp [Value.oneCell']) (by unfold maxLen;omega) (by omega) (Nat.zero_le _) ?_;intro v4 w4 hown4 hk4 hf4;have hfr4:=(Hfr.out.keep (Keeps.alloc _ _)).app hk4 hf4;obtain⟨g,c,hv4,hc4⟩:=owns_some hown4 (by omega);subst hv4;have Hown4:=Lib.hid hown4;have Hfr4:=Lib.hid hfr4;clear hown4 hk4 hf4 hfr4)
    go_step3
    rename_i hK
    refine hK _ _ ?_
    refine Hfirst.out _ _ ?_
    have hlen:=rankN_length true R i
    refine rkJ.mk i g c (by rw [Hri.out];rfl) ⟨Nat.le_refl _,⟨?_, ?_⟩,rfl,Hfr4.out⟩
    ·rw [List.take_of_length_le (by omega),List.drop_eq_nil_of_le (by omega),List.append_nil,List.flatMap_append];exact Hown4.out
    ·rw [List.take_of_length_le (by omega),List.drop_eq_nil_of_le (by omega)];simp [hlen]
  ·obtain rfl:i=n:=by omega
   obtain⟨Hrow,Hfr⟩:=hid2 hrow hfr;clear hfr hrow
   go_wp2
   go_ret
   exact⟨_,rfl,Hrow.out,Hfr.out⟩
theorem rankRanked_lo(R:List Int)(ad:Option Addr)(cap:Nat)(w:World)(hr:Reads w 1 (.slice ad R.length cap) R.length (R.flatMap i64c))(hl:R.length≤1000):
  Calls Tryz.prog 85 #[.slice ad R.length cap, .func (.func 115) #[] #[]] w fun e w'=>∃v',e= .returned v'∧w'.ownsRow 0 3 1 v' R.length ((rankL false R).flatMap i64c)∧Fresh w w' v':=by
 obtain⟨i0,hi,hi0,hi1,hi2⟩:=info_parts info_tInt
 unfold rankL
 obtain⟨n,hn⟩:∃n,R.length=n:=⟨_,rfl⟩
 rw [hn] at hr hl⊢
 obtain⟨Hr,Hn,Hi,Hi0,Hi1,Hi2⟩:=hid6 hr hn hi hi0 hi1 hi2;clear hi2 hi1 hi0 hi hn hr
 go_enter Tryz.func85,Tryz.ntmps85
 go_wp2
 go_loopw [5,11] (fun x y wx=>∃i:Nat,y= .int .i64 (i:Nat)∧i≤n∧wx.ownsRow 0 3 1 x i ((rankN false R i).flatMap i64c)∧Fresh w wx x) (fun _ y _=>n-(intOf y).toNat)
 case atStart=>exact⟨0,rfl,Nat.zero_le _,World.ownsRow_nil _ _ _ _,Fresh.nil w⟩
 case round=>
  obtain⟨i,rfl,hin,hrow,hfr⟩:=hrel
  obtain⟨W1,hW1⟩:∃x,x=wr:=⟨_,rfl⟩
  subst hW1
  obtain⟨adv,cv,hv,_,_⟩:=ownsRow_shape hrow
  subst hv
  by_cases hlt:i<n
  ·have hltI:(i:Int)<(n:Int):=by omega
   obtain⟨r,hx⟩:=get_some (L:=R) (k:=i) (by rw [Hn.out];exact hlt)
   have hri:R.getD i 0=r:=by rw [List.getD_eq_getElem?_getD,hx];rfl
   obtain⟨gR,oR,he,hc⟩:=(Hr.out.keeps hfr.1 (by simp)).int (k:= .i64) hx
   subst he
   have hgl:=cell_lt hc
   obtain⟨Hrow,Hfr,Hx,Hri⟩:=hid4 hrow hfr hx hri;clear hri hx hfr hrow
   go_wp2_with fail
   refine wp_scope_back 0 (rkJ false R i w (.slice (some ⟨gR,oR,none⟩) n cap) (.func (.func 115) #[] #[]) n) (fun a' _=>slotNatR 8 a') rfl ?_ ?_
   ·rintro a' W ⟨k,g,c,u,rfl,hat⟩
    unfold rkFr
    rw [Hri.out]
    have hki:=hat.ki
    have hlen:=rankN_length false R i
    rcases k with _|k
    ·have hp0:plR false R r (rankN false R i) 0=0:=rfl
     have hpl:=hat.pl
     rw [Hri.out,hp0] at hpl
     have hend:rankN false R (i+1)=(rankN false R i).take 0++ [(i:Int)+1]++(rankN false R i).drop 0:=by
      show insR false R i (rankN false R i)=_
      unfold insR
      rw [hlen,Hri.out,hpl]
     have hrow2:=hat.row.1
     rw [←hend] at hrow2
     obtain⟨Hat,Hend,Hrow2,Hpl,Hlen,Hp0⟩:=hid6 hat hend hrow2 hpl hlen hp0;clear hp0 hlen hpl hrow2 hend hat
     go_wp2
     refine jump_normal ?_
     go_wp2
     go_roundw
     case rel=>exact⟨i+1,by go_num,by omega,Hrow2.out,Hat.out.fr⟩
     case measure=>simp [intOf];omega
    ·obtain⟨y,hy⟩:=get_some (L:=rankN false R i) (k:=k) (by omega)
     obtain⟨y1,y2⟩:=rankN_mem (List.mem_of_getElem? hy)
     have hyD:(rankN false R i).getD k 0=y:=by rw [List.getD_eq_getElem?_getD,hy];rfl
     obtain⟨m,hm⟩:∃m:Nat,(m:Int)=y-1:=⟨(y-1).toNat,by omega⟩
     obtain⟨v,hv⟩:=get_some (L:=R) (k:=m) (by rw [Hn.out];omega)
     have hrt:rt R y=v:=by unfold rt;rw [show(y-1).toNat=m by omega,List.getD_eq_getElem?_getD,hv];rfl
     have hpl:=hat.pl
     rw [Hri.out] at hpl
     have hps:plR false R r (rankN false R i) (k+1)=if aheadB false r v=true then plR false R r (rankN false R i) k else k+1:=by show(if _ then _ else _)=_;rw [hyD,hrt]
     rw [hps] at hpl
     obtain⟨g3,o3,he3,hc3⟩:=(Hr.out.keeps hat.fr.1 (by simp)).int (k:= .i64) hv
     simp only [Option.some.injEq,Addr.mk.injEq,and_true] at he3
     obtain⟨rfl,rfl⟩:=he3
     have cR:=hc3
     have lR:=cell_lt hc3
     have ck:=hat.row.cell (mid_prev (x:=(i:Int)+1) hy)
     have ck1:=hat.row.cell (mid_get (O:=rankN false R i) (x:=(i:Int)+1) (k:=k+1) (by omega))
     have fk:=hat.row.free k
     have fk1:=hat.row.free (k+1)
     have lg:=hat.row.lt
     have hset:=((hat.row.set (k:=k) (by omega) ((i:Int)+1)).set (k:=k+1) (by omega) y).keep (Keeps.drew _)
     rw [swap_back hy] at hset
     have hfr2:=((hat.fr.set (g:=g) (j:=k) rfl (.int .i64 ((i:Int)+1))).set (g:=g) (j:=k+1) rfl (.int .i64 y)).keep (Keeps.drew _)
     have q1:(0:Int)≤y-1:=by omega
     have q2:y-1<(n:Int):=by omega
     have q3:(y-1).toNat=m:=by omega
     have q4:IntKind.i64.wrap (y-1)=y-1:=IntWalk.i64_in _ ⟨by omega,by omega⟩
     have q5:IntKind.i64.wrap (k:Int)=(k:Int):=IntWalk.i64_in _ ⟨by omega,by omega⟩
     have q6:(k:Int)+1<(i:Int)+1:=by omega
     have q7:(k:Int)<(i:Int)+1:=by omega
     have q8:((k:Int)+1).toNat=k+1:=by omega
     have q9:(0:Int)≤(k:Int)+1:=by omega
     have hcl:=fun W=>rankLow1_any r v W
     by_cases hah:aheadB false r v=true
     ·rw [if_pos hah] at hpl
      rw [hah] at hcl
      obtain⟨Hat,Hy,HyD,Hm,Hv,Hrt,Hpl,Hps,Hset⟩:=hid9 hat hy hyD hm hv hrt hpl hps hset;clear hset hps hpl hrt hv hm hyD hy hat;obtain⟨Hfr2,Hcl,Hlen,Hah⟩:=hid4 hfr2 hcl hlen hah;clear hah hlen hcl hfr2
      go_wp2_with (go_at_call 115;(refine(Hcl.out _).mono ?_);rintro e w1 ⟨rfl,rfl⟩)
      go_region
      all_goals go_wp2_with fail
      all_goals go_step3
      all_goals go_wp2
      all_goals exact jump_goto ⟨rkJ.mk k g c (by rw [Hri.out];rfl) ⟨by omega,Hset.out,by rw [Hri.out];exact Hpl.out,Hfr2.out⟩,by simp [slotNatR]⟩
     ·rw [if_neg hah] at hpl
      have hah2:aheadB false r v=false:=by simpa using hah
      rw [hah2] at hcl
      have hend:rankN false R (i+1)=(rankN false R i).take (k+1)++ [(i:Int)+1]++(rankN false R i).drop (k+1):=by
       show insR false R i (rankN false R i)=_
       unfold insR
       rw [hlen,Hri.out,hpl]
      have hrow2:=hat.row.1
      rw [←hend] at hrow2
      obtain⟨Hat,Hy,HyD,Hm,Hv,Hrt,Hpl,Hps,Hset⟩:=hid9 hat hy hyD hm hv hrt hpl hps hset;clear hset hps hpl hrt hv hm hyD hy hat;obtain⟨Hfr2,Hcl,Hlen,Hah,Hah2,Hend,Hrow2⟩:=hid7 hfr2 hcl hlen hah hah2 hend hrow2;clear hrow2 hend hah2 hah hlen hcl hfr2
      go_wp2_with (go_at_call 115;(refine(Hcl.out _).mono ?_);rintro e w1 ⟨rfl,rfl⟩)
      refine jump_normal ?_
      go_wp2
      go_roundw
      case rel=>exact⟨i+1,by go_num,by omega,Hrow2.out,Hat.out.fr⟩
      case measure=>simp [intOf];omega
   ·intro hfirst
    have Hfirst:=Lib.hid hfirst;clear hfirst
    go_wp2_with (at_builtin;refine wpList_append_row rfl (.tmp 16) (.tmp 19) 99 rfl 0 3 i0 _ 1 8 Tryz.underlying99 Hi.out Hi0.out Hi1.out Hi2.out rfl (by decide) _ i _ rfl (Hrow.out.alloc _) _ 1 _ rfl (Reads.litAt _ _ _ 1 1 _ (by first|rfl|simp) rfl) (by simp [Value.oneCell']) (by unfold maxLen;omega) (by omega) (Nat.zero_le _) ?_;intro v4 w4 hown4 hk4 hf4;have hfr4:=(Hfr.out.keep (Keeps.alloc _ _)).app hk4 hf4;obtain⟨g,c,hv4,hc4⟩:=owns_some hown4 (by omega);subst hv4;have Hown4:=Lib.hid hown4;have Hfr4:=Lib.hid hfr4;clear hown4 hk4 hf4 hfr4)
    go_step3
    rename_i hK
    refine hK _ _ ?_
    refine Hfirst.out _ _ ?_
    have hlen:=rankN_length false R i
    refine rkJ.mk i g c (by rw [Hri.out];rfl) ⟨Nat.le_refl _,⟨?_, ?_⟩,rfl,Hfr4.out⟩
    ·rw [List.take_of_length_le (by omega),List.drop_eq_nil_of_le (by omega),List.append_nil,List.flatMap_append];exact Hown4.out
    ·rw [List.take_of_length_le (by omega),List.drop_eq_nil_of_le (by omega)];simp [hlen]
  ·obtain rfl:i=n:=by omega
   obtain⟨Hrow,Hfr⟩:=hid2 hrow hfr;clear hfr hrow
   go_wp2
   go_ret
   exact⟨_,rfl,Hrow.out,Hfr.out⟩
set_option maxHeartbeats 800000
theorem rankHigh_any(R:List Int)(ad:Option Addr)(cap:Nat)(w:World)(hr:Reads w 1 (.slice ad R.length cap) R.length (R.flatMap i64c))(hl:R.length≤1000):
  Calls Tryz.prog 53 #[.slice ad R.length cap] w fun e w'=>∃v',e= .returned v'∧w'.ownsRow 0 3 1 v' R.length ((rankL true R).flatMap i64c)∧Fresh w w' v':=by
 have hc:=rankRanked_hi R ad cap w hr hl
 obtain⟨Hc,Hr⟩:=hid2 hc hr;clear hr hc
 go_enter Tryz.func53,Tryz.ntmps53
 go_wp2_with fail
 refine Hc.out.mono ?_
 rintro e w1 ⟨v,rfl,hr1,hf1⟩
 have Hr1:=Lib.hid hr1
 have Hf1:=Lib.hid hf1
 obtain⟨adv,cv,rfl,_,_⟩:=ownsRow_shape hr1
 clear hr1 hf1
 go_wp2
 go_ret
 exact⟨_,rfl,Hr1.out,Hf1.out⟩
theorem rankLow_any(R:List Int)(ad:Option Addr)(cap:Nat)(w:World)(hr:Reads w 1 (.slice ad R.length cap) R.length (R.flatMap i64c))(hl:R.length≤1000):
  Calls Tryz.prog 84 #[.slice ad R.length cap] w fun e w'=>∃v',e= .returned v'∧w'.ownsRow 0 3 1 v' R.length ((rankL false R).flatMap i64c)∧Fresh w w' v':=by
 have hc:=rankRanked_lo R ad cap w hr hl
 obtain⟨Hc,Hr⟩:=hid2 hc hr;clear hr hc
 go_enter Tryz.func84,Tryz.ntmps84
 go_wp2_with fail
 refine Hc.out.mono ?_
 rintro e w1 ⟨v,rfl,hr1,hf1⟩
 have Hr1:=Lib.hid hr1
 have Hf1:=Lib.hid hf1
 obtain⟨adv,cv,rfl,_,_⟩:=ownsRow_shape hr1
 clear hr1 hf1
 go_wp2
 go_ret
 exact⟨_,rfl,Hr1.out,Hf1.out⟩
def Exit.jump2(l1:Nat)(J1:Act→World→Prop)(l2:Nat)(J2:Act→World→Prop)(Q:Exit→Act→World→Prop):Exit→Act→World→Prop
 | .goto l',a,w=>(l'=l1∧J1 a w)∨(l'=l2∧J2 a w)
 |e,a,w=>Q e a w
theorem jump2_1{l1 l2:Nat}{J1 J2:Act→World→Prop}{Q:Exit→Act→World→Prop}{a:Act}{w:World}(h:J1 a w):Exit.jump2 l1 J1 l2 J2 Q (.goto l1) a w:= .inl ⟨rfl,h⟩
theorem jump2_2{l1 l2:Nat}{J1 J2:Act→World→Prop}{Q:Exit→Act→World→Prop}{a:Act}{w:World}(h:J2 a w):Exit.jump2 l1 J1 l2 J2 Q (.goto l2) a w:= .inr ⟨rfl,h⟩
theorem jump2_ret{l1 l2:Nat}{J1 J2:Act→World→Prop}{Q:Exit→Act→World→Prop}{a:Act}{w:World}(h:Q .ret a w):Exit.jump2 l1 J1 l2 J2 Q .ret a w:=h
theorem wp_scope_ahead2{P:Program}{a:Act}{w:World}{Q:Exit→Act→World→Prop}{c rest1 rest2:Code}(l1 l2:Nat)(hf1:findLabel c l1=some rest1)(hf2:findLabel c l2=some rest2)
  (h:c.wp P (Exit.jump2 l1 (fun a' w'=>rest1.wp P (Exit.noGoto Q) a' w') l2 (fun a' w'=>rest2.wp P (Exit.noGoto Q) a' w') Q) a w):(Code.scope c).wp P Q a w:=by
 intro b k cs
 have key:∀(rest:Code) (a:Act) (w:World),rest.wp P (Exit.noGoto Q) a w→∃e a' w',Q e a' w'∧Arrives P (lone (b.at a (.code rest:: .inScope c::k)) cs w) b k cs e a' w':=by
  intro rest a w hJ
  obtain⟨e,a₁,w₁,hq,harr⟩:=hJ b (.inScope c::k) cs
  cases e with
  |normal=>exact⟨.normal,a₁,w₁,hq,Steps.trans harr (.one step_inScope)⟩
  |exit id=>exact⟨.exit id,a₁,w₁,hq,fun k' hk=>harr k' (by simp [exitTo,hk])⟩
  |goto l'=>exact hq.elim
  |ret=>exact⟨_,a₁,w₁,hq,harr⟩
  |panic ch=>exact⟨_,a₁,w₁,hq,harr⟩
  |outgrown=>exact⟨_,a₁,w₁,hq,harr⟩
 obtain⟨e,a₁,w₁,hq,harr⟩:=h b (.inScope c::k) cs
 cases e with
 |normal=>exact⟨.normal,a₁,w₁,hq, .head step_scope (Steps.trans harr (.one step_inScope))⟩
 |exit id=>exact⟨.exit id,a₁,w₁,hq,fun k' hk=> .head step_scope (harr k' (by simp [exitTo,hk]))⟩
 |goto l'=>
  rcases hq with⟨rfl,hJ'⟩|⟨rfl,hJ'⟩
  ·obtain⟨e₂,a₂,w₂,hq₂,harr₂⟩:=key _ a₁ w₁ hJ'
   exact⟨e₂,a₂,w₂,hq₂, .of_steps (.head step_scope (harr _ (by simp [gotoIn,hf1]))) harr₂⟩
  ·obtain⟨e₂,a₂,w₂,hq₂,harr₂⟩:=key _ a₁ w₁ hJ'
   exact⟨e₂,a₂,w₂,hq₂, .of_steps (.head step_scope (harr _ (by simp [gotoIn,hf2]))) harr₂⟩
 |ret=>exact⟨_,a₁,w₁,hq, .of_steps (.one step_scope) harr⟩
 |panic ch=>exact⟨_,a₁,w₁,hq, .of_steps (.one step_scope) harr⟩
 |outgrown=>exact⟨_,a₁,w₁,hq, .of_steps (.one step_scope) harr⟩
theorem wp_scope_two{P:Program}{a:Act}{w:World}{Q:Exit→Act→World→Prop}{c rest1 rest2:Code}(l1 l2:Nat)(J1 J2:Act→World→Prop)(M1 M2:Act→World→Nat)(hf1:findLabel c l1=some rest1)(hf2:findLabel c l2=some rest2)
  (pass1:∀a w,J1 a w→rest1.wp P (Exit.jump2 l1 (fun a' w'=>J1 a' w'∧M1 a' w'<M1 a w) l2 (fun a' w'=>J2 a' w'∧M2 a' w'<M1 a w) Q) a w)
  (pass2:∀a w,J2 a w→rest2.wp P (Exit.jump2 l1 (fun a' w'=>J1 a' w'∧M1 a' w'<M2 a w) l2 (fun a' w'=>J2 a' w'∧M2 a' w'<M2 a w) Q) a w)
  (first:c.wp P (Exit.jump2 l1 J1 l2 J2 Q) a w):(Code.scope c).wp P Q a w:=by
 intro b k cs
 have hg1:gotoIn l1 (.inScope c::k)=some (.code rest1:: .inScope c::k):=by simp [gotoIn,hf1]
 have hg2:gotoIn l2 (.inScope c::k)=some (.code rest2:: .inScope c::k):=by simp [gotoIn,hf2]
 have key:∀n,(∀a w,M1 a w=n→J1 a w→∃e a' w',Q e a' w'∧Arrives P (lone (b.at a (.code rest1:: .inScope c::k)) cs w) b k cs e a' w')∧(∀a w,M2 a w=n→J2 a w→∃e a' w',Q e a' w'∧Arrives P (lone (b.at a (.code rest2:: .inScope c::k)) cs w) b k cs e a' w'):=by
  intro n
  induction n using Nat.strongRecOn with
  |_ n ih=>
   refine⟨fun a w hn hJ=> ?_,fun a w hn hJ=> ?_⟩
   ·obtain⟨e,a₁,w₁,hq,harr⟩:=pass1 a w hJ b (.inScope c::k) cs
    cases e with
    |normal=>exact⟨.normal,a₁,w₁,hq,Steps.trans harr (.one step_inScope)⟩
    |exit id=>exact⟨.exit id,a₁,w₁,hq,fun k' hk=>harr k' (by simp [exitTo,hk])⟩
    |goto l'=>
     rcases hq with⟨rfl,hJ',hlt⟩|⟨rfl,hJ',hlt⟩
     ·obtain⟨e₂,a₂,w₂,hq₂,harr₂⟩:=(ih _ (by omega)).1 a₁ w₁ rfl hJ'
      exact⟨e₂,a₂,w₂,hq₂, .of_steps (harr _ hg1) harr₂⟩
     ·obtain⟨e₂,a₂,w₂,hq₂,harr₂⟩:=(ih _ (by omega)).2 a₁ w₁ rfl hJ'
      exact⟨e₂,a₂,w₂,hq₂, .of_steps (harr _ hg2) harr₂⟩
    |ret=>exact⟨_,a₁,w₁,hq,harr⟩
    |panic ch=>exact⟨_,a₁,w₁,hq,harr⟩
    |outgrown=>exact⟨_,a₁,w₁,hq,harr⟩
   ·obtain⟨e,a₁,w₁,hq,harr⟩:=pass2 a w hJ b (.inScope c::k) cs
    cases e with
    |normal=>exact⟨.normal,a₁,w₁,hq,Steps.trans harr (.one step_inScope)⟩
    |exit id=>exact⟨.exit id,a₁,w₁,hq,fun k' hk=>harr k' (by simp [exitTo,hk])⟩
    |goto l'=>
     rcases hq with⟨rfl,hJ',hlt⟩|⟨rfl,hJ',hlt⟩
     ·obtain⟨e₂,a₂,w₂,hq₂,harr₂⟩:=(ih _ (by omega)).1 a₁ w₁ rfl hJ'
      exact⟨e₂,a₂,w₂,hq₂, .of_steps (harr _ hg1) harr₂⟩
     ·obtain⟨e₂,a₂,w₂,hq₂,harr₂⟩:=(ih _ (by omega)).2 a₁ w₁ rfl hJ'
      exact⟨e₂,a₂,w₂,hq₂, .of_steps (harr _ hg2) harr₂⟩
    |ret=>exact⟨_,a₁,w₁,hq,harr⟩
    |panic ch=>exact⟨_,a₁,w₁,hq,harr⟩
    |outgrown=>exact⟨_,a₁,w₁,hq,harr⟩
 obtain⟨e,a₁,w₁,hq,harr⟩:=first b (.inScope c::k) cs
 cases e with
 |normal=>exact⟨.normal,a₁,w₁,hq, .head step_scope (Steps.trans harr (.one step_inScope))⟩
 |exit id=>exact⟨.exit id,a₁,w₁,hq,fun k' hk=> .head step_scope (harr k' (by simp [exitTo,hk]))⟩
 |goto l'=>
  rcases hq with⟨rfl,hJ'⟩|⟨rfl,hJ'⟩
  ·obtain⟨e₂,a₂,w₂,hq₂,harr₂⟩:=(key _).1 a₁ w₁ rfl hJ'
   exact⟨e₂,a₂,w₂,hq₂, .of_steps (.head step_scope (harr _ hg1)) harr₂⟩
  ·obtain⟨e₂,a₂,w₂,hq₂,harr₂⟩:=(key _).2 a₁ w₁ rfl hJ'
   exact⟨e₂,a₂,w₂,hq₂, .of_steps (.head step_scope (harr _ hg2)) harr₂⟩
 |ret=>exact⟨_,a₁,w₁,hq, .of_steps (.one step_scope) harr⟩
 |panic ch=>exact⟨_,a₁,w₁,hq, .of_steps (.one step_scope) harr⟩
 |outgrown=>exact⟨_,a₁,w₁,hq, .of_steps (.one step_scope) harr⟩
theorem wp_jump2_mono{P:Program}{c:Code}{a:Act}{w:World}{l1 l2:Nat}{J1 J2 K1 K2:Act→World→Prop}{Q:Exit→Act→World→Prop}(h1:∀a w,J1 a w→K1 a w)(h2:∀a w,J2 a w→K2 a w)(h:c.wp P (Exit.jump2 l1 J1 l2 J2 Q) a w):c.wp P (Exit.jump2 l1 K1 l2 K2 Q) a w:=by
 refine Code.wp_mono ?_ h
 intro e a' w' h
 cases e with
 |goto k=>exact h.imp (fun h=>⟨h.1,h1 _ _ h.2⟩) (fun h=>⟨h.1,h2 _ _ h.2⟩)
 |_=>exact h
theorem wp_scope_back2{P:Program}{a:Act}{w:World}{Q:Exit→Act→World→Prop}{c rest1 rest2:Code}(l1 l2:Nat)(J1 J2:Act→World→Prop)(M1 M2:Act→World→Nat)(hf1:findLabel c l1=some (Code.skip.seq rest1))(hf2:findLabel c l2=some (Code.skip.seq rest2))
  (pass2:∀a w,J2 a w→rest2.wp P (Exit.jump2 l1 (fun a' w'=>J1 a' w'∧M1 a' w'<M2 a w) l2 (fun a' w'=>J2 a' w'∧M2 a' w'<M2 a w) Q) a w)
  (pass1:Hid (∀a w,J2 a w→rest2.wp P (Exit.jump2 l1 (fun a' w'=>J1 a' w'∧M1 a' w'<M2 a w) l2 (fun a' w'=>J2 a' w'∧M2 a' w'<M2 a w) Q) a w)→∀a w,J1 a w→rest1.wp P (Exit.jump2 l1 (fun a' w'=>J1 a' w'∧M1 a' w'<M1 a w) l2 (fun a' w'=>J2 a' w'∧M2 a' w'<M1 a w) Q) a w)
  (first:Hid (∀a w,J1 a w→rest1.wp P (Exit.jump2 l1 J1 l2 J2 Q) a w)→c.wp P (Exit.jump2 l1 J1 l2 J2 Q) a w):(Code.scope c).wp P Q a w:=by
 have h1:=pass1 (Lib.hid pass2)
 refine wp_scope_two l1 l2 J1 J2 M1 M2 hf1 hf2 (fun a w hJ=>wp_seq (wp_skip (h1 a w hJ))) (fun a w hJ=>wp_seq (wp_skip (pass2 a w hJ))) (first (Lib.hid fun a w hJ=>wp_jump2_mono (fun _ _ h=>h.1) (fun _ _ h=>h.1) (h1 a w hJ)))
def leapB(y:Int):Bool:=decide (y % 4=0)&&(decide (¬y % 100=0)||decide (y % 400=0))
def mlen(y m:Int):Int:=if m=2 then(if leapB y=true then 29 else 28) else if m=4∨m=6∨m=9∨m=11 then 30 else if 1≤m∧m≤12 then 31 else 0
def ylen(y:Int):Int:=if leapB y=true then 366 else 365
def nY(y:Int):Int:= -135140+365*(y-1600)+(y-1600+3) / 4-(y-1600+99) / 100+(y-1600+399) / 400
theorem leapB_iff(y:Int):leapB y=true↔(y % 4=0∧(¬y % 100=0∨y % 400=0)):=by simp [leapB]
theorem nY_succ{y:Int}(_:1600≤y):nY (y+1)=nY y+ylen y:=by
 unfold nY ylen
 by_cases h:leapB y=true
 ·rw [if_pos h]
  have:=(leapB_iff y).1 h
  omega
 ·rw [if_neg h]
  have:¬(y % 4=0∧(¬y % 100=0∨y % 400=0)):=fun hh=>h ((leapB_iff y).2 hh)
  omega
theorem ylen_pos(y:Int):365≤ylen y∧ylen y≤366:=by unfold ylen;split<;>omega
theorem nY_add{y:Int}(h:1600≤y):∀k:Nat,nY y≤nY (y+k)
 |0=>by simp
 |k+1=>by
  have h1:=nY_add h k
  have h2:=nY_succ (y:=y+k) (by omega)
  have h3:=ylen_pos (y+k)
  rw [show y+((k+1:Nat):Int)=y+k+1 by omega]
  omega
theorem nY_mono{x y:Int}(h:1600≤x)(hxy:x≤y):nY x≤nY y:=by
 have:=nY_add h (y-x).toNat
 rwa [show x+((y-x).toNat:Int)=y by omega] at this
theorem nY_lt{x y:Int}(h:1600≤x)(hy:1600≤y)(hl:nY x<nY (y+1)):x≤y:=by
 by_cases h':y<x
 ·have:=nY_mono (x:=y+1) (y:=x) (by omega) (by omega);omega
 ·omega
def yrW(n:Int):Nat→Int→Int
 |0,y=>y
 |f+1,y=>if nY (y+1)≤n then yrW n f (y+1) else y
def yearF(n:Int):Int:=yrW n 8400 1600
theorem yrW_eq{n y:Int}(h1:nY y≤n)(h2:n<nY (y+1)):∀(f:Nat) (y0:Int),1600≤y0→y0≤y→y-y0≤f→yrW n f y0=y
 |0,y0,_,h4,h5=>by unfold yrW;omega
 |f+1,y0,h3,h4,h5=>by
  unfold yrW
  by_cases he:y0=y
  ·subst he;rw [if_neg (by omega)]
  ·have:=nY_mono (x:=y0+1) (y:=y) (by omega) (by omega)
   rw [if_pos (by omega)]
   exact yrW_eq h1 h2 f (y0+1) (by omega) (by omega) (by omega)
theorem yearF_eq {n y : Int} (h0 : 1600 ≤ y) (h1 : nY y ≤ n) (h2 : n < nY (y + 1)) (h3 : n ≤ 2932896) : yearF n = y ∧ y ≤ 9999 := by
  have h4 : y ≤ 9999 := nY_lt h0 (by omega) (by have : nY (9999 + 1) = 2932897 := by decide
                                                omega)
  exact ⟨yrW_eq h1 h2 8400 1600 (by omega) h0 (by omega), h4⟩
def moW(y:Int):Nat→Int→Int→Int×Int
 |0,m,r=>(m,r)
 |f+1,m,r=>if mlen y m≤r then moW y f (m+1) (r-mlen y m) else(m,r)
def cumT(y m:Int):Int:=if m≤2 then 31*(m-1) else(if leapB y=true then 1 else 0)+(if m=3 then 59 else if m=4 then 90 else if m=5 then 120 else if m=6 then 151 else if m=7 then 181 else if m=8 then 212 else if m=9 then 243 else if m=10 then 273 else if m=11 then 304 else if m=12 then 334 else 365)
theorem cumT_succ{y m:Int}(h1:1≤m)(h2:m≤12):cumT y (m+1)=cumT y m+mlen y m∧28≤mlen y m∧mlen y m≤31:=by
 obtain rfl|rfl|rfl|rfl|rfl|rfl|rfl|rfl|rfl|rfl|rfl|rfl:m=1∨m=2∨m=3∨m=4∨m=5∨m=6∨m=7∨m=8∨m=9∨m=10∨m=11∨m=12:=by omega
 all_goals (unfold cumT mlen;rcases leapB y<;>decide)
theorem cumT_end(y:Int):cumT y 13=ylen y:=by unfold cumT ylen;rcases leapB y<;>rfl
theorem cumT_one(y:Int):cumT y 1=0:=rfl
structure MoAt(y r:Int)(j:Nat)(q:Int):Prop where
 lo:1≤j
 hi:j≤12
 sum:q+cumT y j=r
 q0:0≤q
 eq:moW y 12 1 r=moW y (13-j) j q
theorem MoAt.start{y r:Int}(h0:0≤r):MoAt y r 1 r:=⟨by omega,by omega,by simp [cumT],h0,rfl⟩
theorem MoAt.next{y r:Int}{j:Nat}{q:Int}(h:MoAt y r j q)(hr:r<ylen y)(hq:mlen y j≤q):MoAt y r (j+1) (q-mlen y j):=by
 obtain⟨lo,hi,sum,q0,eq⟩:=h
 have hc:=(cumT_succ (y:=y) (m:=j) (by omega) (by omega)).1
 have hj:j≤11:=by
  rcases Nat.lt_or_ge 11 j with h|h
  ·exfalso
   obtain rfl:j=12:=by omega
   have:=cumT_end y
   rw [show((12:Nat):Int)+1=13 by rfl,this] at hc
   omega
  ·exact h
 refine⟨by omega,by omega,by rw [show((j+1:Nat):Int)=(j:Int)+1 by omega,hc];omega,by omega, ?_⟩
 rw [eq,show 13-j=(13-(j+1))+1 by omega]
 show(if mlen y j≤q then _ else _)=_
 rw [if_pos hq,show((j+1:Nat):Int)=(j:Int)+1 by omega]
theorem MoAt.done{y r:Int}{j:Nat}{q:Int}(h:MoAt y r j q)(hq:¬mlen y j≤q):moW y 12 1 r=((j:Int),q):=by
 rw [h.eq,show 13-j=(13-(j+1))+1 by have:=h.hi;omega]
 show(if mlen y j≤q then _ else _)=_
 rw [if_neg hq]
def dY(n:Int):Int:=yearF n
def dM(n:Int):Int:=(moW (yearF n) 12 1 (n-nY (yearF n))).1
def dD(n:Int):Int:=(moW (yearF n) 12 1 (n-nY (yearF n))).2+1
def dayIn(n:Int):Bool:=decide (-135140≤n∧n≤2932896)
theorem tm4{y:Int}(h:0≤y)(k:Int):y.tmod k=y % k:=Int.tmod_eq_emod_of_nonneg h
theorem dayLeap_any(y:Int)(h:0≤y)(w:World):Calls Tryz.prog 153 #[.int .i64 y] w fun e w'=>e= .returned (.bool (leapB y))∧w=w':=by
 have q4:=tm4 h 4
 have q100:=tm4 h 100
 have q400:=tm4 h 400
 by_cases h4:y % 4=0
 ·by_cases h100:y % 100=0
  ·by_cases h400:y % 400=0
   ·have hf:leapB y=true:=(leapB_iff y).2 ⟨h4, .inr h400⟩
    have Hf:=Lib.hid hf;clear hf
    go_enter Tryz.func153,Tryz.ntmps153
    go_wp2
    go_ret
    exact⟨by rw [Hf.out];rfl,rfl⟩
   ·have hf:leapB y=false:=by rw [Bool.eq_false_iff];intro hh;have:=(leapB_iff y).1 hh;omega
    have b4:(y % 400==0)=false:=beq_eq_false_iff_ne.2 h400
    have Hf:=Lib.hid hf;clear hf
    go_enter Tryz.func153,Tryz.ntmps153
    go_wp2
    go_ret
    exact⟨by rw [Hf.out];rfl,rfl⟩
  ·have hf:leapB y=true:=(leapB_iff y).2 ⟨h4, .inl h100⟩
   have b1:(y % 100 !=0)=true:=by simp [h100]
   have Hf:=Lib.hid hf;clear hf
   go_enter Tryz.func153,Tryz.ntmps153
   go_wp2
   go_ret
   exact⟨by rw [Hf.out];rfl,rfl⟩
 ·have hf:leapB y=false:=by rw [Bool.eq_false_iff];intro hh;have:=(leapB_iff y).1 hh;omega
  have b4:(y % 4==0)=false:=beq_eq_false_iff_ne.2 h4
  have Hf:=Lib.hid hf;clear hf
  go_enter Tryz.func153,Tryz.ntmps153
  go_wp2
  go_ret
  exact⟨by rw [Hf.out];rfl,rfl⟩
set_option maxHeartbeats 1600000
theorem dayLength_any(y m:Int)(h:0≤y)(h1:1≤m)(h2:m≤12)(w:World):Calls Tryz.prog 140 #[.int .i64 y, .int .i64 m] w fun e w'=>e= .returned (.int .i64 (mlen y m))∧w=w':=by
 have hlp:=dayLeap_any y h w
 obtain rfl|rfl|rfl|rfl|rfl|rfl|rfl|rfl|rfl|rfl|rfl|rfl:m=1∨m=2∨m=3∨m=4∨m=5∨m=6∨m=7∨m=8∨m=9∨m=10∨m=11∨m=12:=by omega
 ·have hm:mlen y 1=mlen y 1:=rfl
  have Hm:=Lib.hid hm;clear hm
  go_enter Tryz.func140,Tryz.ntmps140
  go_wp2
  go_ret
  exact⟨rfl,rfl⟩
 ·rcases hb:leapB y with _|_
  ·rw [hb] at hlp
   have hf:mlen y 2=28:=by unfold mlen;rw [hb];rfl
   obtain⟨Hlp,Hf⟩:=hid2 hlp hf;clear hf hlp
   go_enter Tryz.func140,Tryz.ntmps140
   go_wp2_with (go_at_call 153;(refine Hlp.out.mono ?_);rintro e w1 ⟨rfl,rfl⟩)
   go_ret
   exact⟨by rw [Hf.out];rfl,rfl⟩
  ·rw [hb] at hlp
   have hf:mlen y 2=29:=by unfold mlen;rw [hb];rfl
   obtain⟨Hlp,Hf⟩:=hid2 hlp hf;clear hf hlp
   go_enter Tryz.func140,Tryz.ntmps140
   go_wp2_with (go_at_call 153;(refine Hlp.out.mono ?_);rintro e w1 ⟨rfl,rfl⟩)
   go_ret
   exact⟨by rw [Hf.out];rfl,rfl⟩
 ·have hm:mlen y 3=mlen y 3:=rfl
  have Hm:=Lib.hid hm;clear hm
  go_enter Tryz.func140,Tryz.ntmps140
  go_wp2
  go_ret
  exact⟨rfl,rfl⟩
 ·have hm:mlen y 4=mlen y 4:=rfl
  have Hm:=Lib.hid hm;clear hm
  go_enter Tryz.func140,Tryz.ntmps140
  go_wp2
  go_ret
  exact⟨rfl,rfl⟩
 ·have hm:mlen y 5=mlen y 5:=rfl
  have Hm:=Lib.hid hm;clear hm
  go_enter Tryz.func140,Tryz.ntmps140
  go_wp2
  go_ret
  exact⟨rfl,rfl⟩
 ·have hm:mlen y 6=mlen y 6:=rfl
  have Hm:=Lib.hid hm;clear hm
  go_enter Tryz.func140,Tryz.ntmps140
  go_wp2
  go_ret
  exact⟨rfl,rfl⟩
 ·have hm:mlen y 7=mlen y 7:=rfl
  have Hm:=Lib.hid hm;clear hm
  go_enter Tryz.func140,Tryz.ntmps140
  go_wp2
  go_ret
  exact⟨rfl,rfl⟩
 ·have hm:mlen y 8=mlen y 8:=rfl
  have Hm:=Lib.hid hm;clear hm
  go_enter Tryz.func140,Tryz.ntmps140
  go_wp2
  go_ret
  exact⟨rfl,rfl⟩
 ·have hm:mlen y 9=mlen y 9:=rfl
  have Hm:=Lib.hid hm;clear hm
  go_enter Tryz.func140,Tryz.ntmps140
  go_wp2
  go_ret
  exact⟨rfl,rfl⟩
 ·have hm:mlen y 10=mlen y 10:=rfl
  have Hm:=Lib.hid hm;clear hm
  go_enter Tryz.func140,Tryz.ntmps140
  go_wp2
  go_ret
  exact⟨rfl,rfl⟩
 ·have hm:mlen y 11=mlen y 11:=rfl
  have Hm:=Lib.hid hm;clear hm
  go_enter Tryz.func140,Tryz.ntmps140
  go_wp2
  go_ret
  exact⟨rfl,rfl⟩
 ·have hm:mlen y 12=mlen y 12:=rfl
  have Hm:=Lib.hid hm;clear hm
  go_enter Tryz.func140,Tryz.ntmps140
  go_wp2
  go_ret
  exact⟨rfl,rfl⟩
set_option maxHeartbeats 800000
theorem dayNewYear_any(y:Int)(h1:1600≤y)(h2:y≤100000)(w:World):Calls Tryz.prog 152 #[.int .i64 y] w fun e w'=>e= .returned (.int .i64 (nY y))∧w=w':=by
 have t4:(y-1600+3).tdiv 4=(y-1600+3) / 4:=Int.tdiv_eq_ediv_of_nonneg (by omega)
 have t100:(y-1600+99).tdiv 100=(y-1600+99) / 100:=Int.tdiv_eq_ediv_of_nonneg (by omega)
 have t400:(y-1600+399).tdiv 400=(y-1600+399) / 400:=Int.tdiv_eq_ediv_of_nonneg (by omega)
 have hf:nY y= -135140+365*(y-1600)+(y-1600+3) / 4-(y-1600+99) / 100+(y-1600+399) / 400:=rfl
 have Hf:=Lib.hid hf;clear hf
 go_enter Tryz.func152,Tryz.ntmps152
 go_wp2
 go_ret
 refine⟨?_,rfl⟩
 rw [Hf.out]
 rfl
end Go.Proofs.YthcmpcekmkioaaaGreat
namespace Go.Proofs.YthcmpcekmkioaaaGreat
open Go.RowKit
def cellInt(W:World)(B j:Nat):Int:=match W.cell? ⟨B,j,none⟩ with|some (.int _ n)=>n|_=>0
theorem halloc_at2(w:World)(o:Obj){i:Nat}(h:i=w.heap.size):(w.alloc o).heap[i]?=some o:=by subst h;exact heap_alloc_new w o
theorem cellInt_of{W:World}{B j:Nat}{n:Int}(h:W.cell? ⟨B,j,none⟩=some (.int .i64 n)):cellInt W B j=n:=by unfold cellInt;rw [h]
def ddFr(n:Int)(b:Nat)(u:Nat→Value):Act:={ tmps:= #[.int .i64 n,u 1,(.pointer (some ⟨b,0,none⟩)),u 3,(.pointer (some ⟨b+1,0,none⟩)),u 5,u 6,u 7,u 8,u 9,u 10,u 11,u 12,u 13,u 14,u 15,u 16,u 17,u 18,u 19,u 20,u 21,u 22,u 23,u 24,u 25,u 26,u 27,u 28,u 29,u 30,u 31,u 32,u 33,u 34,u 35,u 36,u 37,u 38,u 39,u 40,u 41,u 42,u 43,u 44,u 45,u 46,u 47,u 48,u 49,u 50,u 51,u 52,u 53,u 54,u 55],defers:= [] }
structure DdW(w:World)(y m d:Int)(W:World):Prop where
 kp:Keeps (fun _=>False) w W
 res:W.heap[w.heap.size]?=some (.cells #[.int .i64 0, .int .i64 0, .int .i64 0] 119 (0,0))
 box:W.heap[w.heap.size+1]?=some (.cells #[.int .i64 y, .int .i64 m, .int .i64 d] 119 (0,0))
def YrOk(n:Int):Prop:=1600≤yearF n∧yearF n≤9999∧nY (yearF n)≤n∧n<nY (yearF n+1)
def ddJ1(w:World)(n:Int)(a':Act)(W:World):Prop:=∃(y:Int) (u:Nat→Value),a'=ddFr n w.heap.size u∧DdW w y 1 1 W∧1600≤y∧y≤9999∧nY y≤n
def ddJ2(w:World)(n:Int)(a':Act)(W:World):Prop:=∃(j:Nat) (q:Int) (u:Nat→Value),a'=ddFr n w.heap.size u∧DdW w (yearF n) j (q+1) W∧MoAt (yearF n) (n-nY (yearF n)) j q∧YrOk n
theorem ddJ1.mk{w:World}{n:Int}{a':Act}{W:World}(y:Int)(h:a'=ddFr n w.heap.size (fun i=>a'.tmps.getD i undef))(hw:DdW w y 1 1 W)(h1:1600≤y)(h2:y≤9999)(h3:nY y≤n):ddJ1 w n a' W:=⟨y,_,h,hw,h1,h2,h3⟩
theorem ddJ2.mk{w:World}{n:Int}{a':Act}{W:World}(j:Nat)(q:Int)(h:a'=ddFr n w.heap.size (fun i=>a'.tmps.getD i undef))(hw:DdW w (yearF n) j (q+1) W)(hm:MoAt (yearF n) (n-nY (yearF n)) j q)(hy:YrOk n):ddJ2 w n a' W:=⟨j,q,_,h,hw,hm,hy⟩
section
variable {w W:World} {y m d:Int}
theorem DdW.set0(h:DdW w y m d W)(v:Int):DdW w v m d (W.setCell ⟨w.heap.size+1,0,none⟩ (.int .i64 v)):=
 ⟨h.kp.trans (Keeps.setCell _ _ _ (.inr (by simp))),box_old h.res (Keeps.setCell (S:=fun i=>i=w.heap.size+1) _ _ _ rfl) (by simp),(heap_setCell_same _ _ 0 _ _ _ h.box).trans rfl⟩
theorem DdW.set1(h:DdW w y m d W)(v:Int):DdW w y v d (W.setCell ⟨w.heap.size+1,1,none⟩ (.int .i64 v)):=
 ⟨h.kp.trans (Keeps.setCell _ _ _ (.inr (by simp))),box_old h.res (Keeps.setCell (S:=fun i=>i=w.heap.size+1) _ _ _ rfl) (by simp),(heap_setCell_same _ _ 1 _ _ _ h.box).trans rfl⟩
theorem DdW.set2(h:DdW w y m d W)(v:Int):DdW w y m v (W.setCell ⟨w.heap.size+1,2,none⟩ (.int .i64 v)):=
 ⟨h.kp.trans (Keeps.setCell _ _ _ (.inr (by simp))),box_old h.res (Keeps.setCell (S:=fun i=>i=w.heap.size+1) _ _ _ rfl) (by simp),(heap_setCell_same _ _ 2 _ _ _ h.box).trans rfl⟩
theorem DdW.keep{W':World}(h:DdW w y m d W)(hk:Keeps (fun _=>False) W W'):DdW w y m d W':=⟨h.kp.nt hk,box_old h.res hk (by simp),box_old h.box hk (by simp)⟩
end
def ddS(b:Nat)(y d:Int)(W:World):Prop:=W.cell? ⟨b,0,none⟩=some (.int .i64 y)∧W.cell? ⟨b,2,none⟩=some (.int .i64 d)∧W.frozen? ⟨b,2,none⟩=false
set_option maxRecDepth 100000
set_option maxHeartbeats 1600000
theorem dayDate_any (n : Int) (w : World) (hn : -9000000000000000000 ≤ n ∧ n ≤ 9000000000000000000) : Calls Tryz.prog 139 #[.int .i64 n] w fun e w' => e = .returned (.tuple #[.agg (if dayIn n = true then #[.int .i64 (dY n), .int .i64 (dM n), .int .i64 (dD n)] else #[.int .i64 0, .int .i64 0, .int .i64 0]), .int .i64 (if dayIn n = true then 0 else 10)]) ∧ Keeps (fun _ => False) w w' := by
  by_cases hin : -135140 ≤ n ∧ n ≤ 2932896
  · have hd : dayIn n = true := by simp [dayIn, hin]
    rw [if_pos hd, if_pos hd]
    obtain ⟨rY, hrY⟩ : ∃ a, dY n = a := ⟨_, rfl⟩
    obtain ⟨rM, hrM⟩ : ∃ a, dM n = a := ⟨_, rfl⟩
    obtain ⟨rD, hrD⟩ : ∃ a, dD n = a := ⟨_, rfl⟩
    rw [hrY, hrM, hrD]
    obtain ⟨hn1, hn2⟩ := hin
    obtain ⟨Hd, HrY, HrM, HrD⟩ := hid4 hd hrY hrM hrD; clear hrD hrM hrY hd
    go_enter Tryz.func139, Tryz.ntmps139
    go_wp2
    refine wp_scope_back2 0 1 (ddJ1 w n) (ddJ2 w n) (fun _ W => (20000 - cellInt W (w.heap.size + 1) 0).toNat + 100) (fun _ W => (20 - cellInt W (w.heap.size + 1) 1).toNat) rfl rfl ?_ ?_ ?_
    · rintro a' W ⟨j, q, u, rfl, hw, hm, hy⟩
      unfold ddFr
      obtain ⟨y, hyy⟩ : ∃ y, yearF n = y := ⟨_, rfl⟩
      unfold YrOk at hy
      rw [hyy] at hw hm hy
      obtain ⟨h1, h2, h3, h4⟩ := hy
      have hlo := hm.lo
      have hhi := hm.hi
      have hq0 := hm.q0
      have hsum := hm.sum
      have hsucc := nY_succ h1
      have hyl := ylen_pos y
      have hml := (cumT_succ (y := y) (m := j) (by omega) (by omega)).2
      have hcall := fun W => dayLength_any y j (by omega) (by omega) (by omega) W
      obtain ⟨l, hl⟩ : ∃ l, mlen y j = l := ⟨_, rfl⟩
      rw [hl] at hcall hml
      have hcum : 0 ≤ cumT y j := by unfold cumT; split <;> (try split) <;> omega
      have c0 := cell_of_cells hw.box 0
      have c1 := cell_of_cells hw.box 1
      have c2 := cell_of_cells hw.box 2
      have f0 := free_of_cells hw.box 0
      have f1 := free_of_cells hw.box 1
      have f2 := free_of_cells hw.box 2
      have bl := lt_of_block hw.box
      have e0 := free_of_cells hw.res 0
      have e1 := free_of_cells hw.res 1
      have e2 := free_of_cells hw.res 2
      have d0 := cell_of_cells hw.res 0
      have d1 := cell_of_cells hw.res 1
      have d2 := cell_of_cells hw.res 2
      have dl := lt_of_block hw.res
      have hq1 : q ≤ 400 := by omega
      by_cases hgo : l ≤ q
      · have hnx := hm.next (by omega) (by rw [hl]; exact hgo)
        rw [hl] at hnx
        obtain ⟨Hw, Hm, Hcall, Hl, Hyy, Hnx, Hsum, Hsucc, Hcum⟩ := hid9 hw hm hcall hl hyy hnx hsum hsucc hcum; clear hcum hsucc hsum hnx hyy hl hcall hm hw
        go_wp2_with fail
        refine (Hcall.out W).mono ?_
        rintro e w1 ⟨rfl, rfl⟩
        go_wp2_with fail
        go_step3
        go_wp2
        have hd2 : DdW w (yearF n) ((j + 1 : Nat) : Int) (q - l + 1) ((W.setCell ⟨w.heap.size + 1, 2, none⟩ (.int .i64 (q + 1 - l))).setCell ⟨w.heap.size + 1, 1, none⟩ (.int .i64 ((j : Int) + 1))) := by
          rw [Hyy.out, show q - l + 1 = q + 1 - l by omega, show ((j + 1 : Nat) : Int) = (j : Int) + 1 by omega]
          exact (Hw.out.set2 _).set1 _
        refine jump2_2 ⟨ddJ2.mk (j + 1) (q - l) rfl hd2 (by rw [Hyy.out]; exact Hnx.out) (by unfold YrOk; rw [Hyy.out]; exact ⟨h1, h2, h3, h4⟩), ?_⟩
        have e1 := cellInt_of (cell_of_cells hd2.box 1)
        have e2 := cellInt_of (cell_of_cells Hw.out.box 1)
        show (20 - cellInt _ _ 1).toNat < (20 - cellInt _ _ 1).toNat
        rw [e1, e2]
        omega
      · have hdone := hm.done (by rw [hl]; exact hgo)
        obtain ⟨Hw, Hm, Hcall, Hl, Hyy, Hdone, Hsum, Hsucc, Hcum⟩ := hid9 hw hm hcall hl hyy hdone hsum hsucc hcum; clear hcum hsucc hsum hdone hyy hl hcall hm hw
        go_wp2_with fail
        refine (Hcall.out W).mono ?_
        rintro e w1 ⟨rfl, rfl⟩
        go_wp2
        refine jump2_ret ?_
        obtain rfl : rY = y := HrY.out.symm.trans Hyy.out
        obtain rfl : rM = j := HrM.out.symm.trans (by unfold dM; rw [Hyy.out, Hdone.out])
        obtain rfl : rD = q + 1 := HrD.out.symm.trans (by unfold dD; rw [Hyy.out, Hdone.out])
        have hb3 : (((W.setCell ⟨w.heap.size, 0, none⟩ (.int .i64 rY)).setCell ⟨w.heap.size, 1, none⟩ (.int .i64 (j : Int))).setCell ⟨w.heap.size, 2, none⟩ (.int .i64 (q + 1))).heap[w.heap.size]? = some (.cells #[.int .i64 rY, .int .i64 (j : Int), .int .i64 (q + 1)] 119 (0, 0)) := (heap_setCell_same _ _ 2 _ _ _ ((heap_setCell_same _ _ 1 _ _ _ ((heap_setCell_same _ _ 0 _ _ _ Hw.out.res).trans rfl)).trans rfl)).trans rfl
        have r0 := cell_of_cells hb3 0
        have r1 := cell_of_cells hb3 1
        have r2 := cell_of_cells hb3 2
        clear d0 d1 d2 c0 c1 c2
        exact bodyPost_ret (v := .tuple #[.agg #[.int .i64 rY, .int .i64 (j : Int), .int .i64 (q + 1)], .int .i64 0]) (by simp [results, Tryz.results139, go_sem, r0, r1, r2]) rfl ⟨rfl, Hw.out.kp.trans ((((Keeps.setCell (S := fun i => w.heap.size ≤ i) _ _ _ (Nat.le_refl _)).trans (Keeps.setCell _ _ _ (.inl (Nat.le_refl _)))).trans (Keeps.setCell _ _ _ (.inl (Nat.le_refl _)))).mono fun i _ h => .inr h)⟩
    · intro hp2
      rintro a' W ⟨y, u, rfl, hw, h1, h2, h3⟩
      unfold ddFr
      have hcall := fun W => dayNewYear_any (y + 1) (by omega) (by omega) W
      have hcall2 := fun W => dayNewYear_any y h1 (by omega) W
      obtain ⟨z, hz⟩ : ∃ z, nY (y + 1) = z := ⟨_, rfl⟩
      obtain ⟨v, hv⟩ : ∃ v, nY y = v := ⟨_, rfl⟩
      have hsucc := nY_succ h1
      have hyl := ylen_pos y
      have c0 := cell_of_cells hw.box 0
      have c1 := cell_of_cells hw.box 1
      have c2 := cell_of_cells hw.box 2
      have f0 := free_of_cells hw.box 0
      have f1 := free_of_cells hw.box 1
      have f2 := free_of_cells hw.box 2
      have bl := lt_of_block hw.box
      by_cases hgo : nY (y + 1) ≤ n
      · have hy9 : y + 1 ≤ 9999 := nY_lt (by omega) (by omega) (by have : nY (9999 + 1) = 2932897 := by decide
                                                                   omega)
        have h3' := hgo
        rw [hz] at hcall hgo
        rw [hv] at hcall2
        obtain ⟨Hw, Hcall, Hcall2, Hz, Hv, H3', H3, Hsucc⟩ := hid8 hw hcall hcall2 hz hv h3' h3 hsucc; clear hsucc h3 h3' hv hz hcall2 hcall hw
        go_wp2_with fail
        refine (Hcall.out W).mono ?_
        rintro e w1 ⟨rfl, rfl⟩
        go_wp2_with fail
        go_step3
        go_wp2
        refine jump2_1 ⟨ddJ1.mk (y + 1) rfl (Hw.out.set0 _) (by omega) (by omega) H3'.out, ?_⟩
        have e1 := cellInt_of (cell_of_cells (Hw.out.set0 (y + 1)).box 0)
        have e2 := cellInt_of (cell_of_cells Hw.out.box 0)
        show (20000 - cellInt _ _ 0).toNat + 100 < (20000 - cellInt _ _ 0).toNat + 100
        rw [e1, e2]
        omega
      · obtain ⟨hyf, _⟩ := yearF_eq h1 h3 (by omega) hn2
        have hok : YrOk n := by unfold YrOk; rw [hyf]; exact ⟨h1, h2, h3, by omega⟩
        have hn0 : 0 ≤ n - v := by omega
        have hw1 : IntKind.i64.wrap (n - v) = n - v := IntWalk.i64_in _ ⟨by omega, by omega⟩
        have hw2 : IntKind.i64.wrap (1 + (n - v)) = 1 + (n - v) := IntWalk.i64_in _ ⟨by omega, by omega⟩
        rw [hz] at hcall hgo
        rw [hv] at hcall2
        have hS : ∀ W', Keeps (fun _ => False) W W' → ddS (w.heap.size + 1) y 1 W' := fun W' hk => ⟨cell_of_cells (box_old hw.box hk (by simp)) 0, cell_of_cells (box_old hw.box hk (by simp)) 2, free_of_cells (box_old hw.box hk (by simp)) 2⟩
        obtain ⟨Hw, Hcall, Hcall2, Hz, Hv, H3, Hyf, Hok, Hsucc⟩ := hid9 hw hcall hcall2 hz hv h3 hyf hok hsucc; clear hsucc hok hyf h3 hv hz hcall2 hcall hw; have HS := Lib.hid hS; clear hS
        go_wp2_with fail
        refine (Hcall.out W).mono ?_
        rintro e w1 ⟨rfl, rfl⟩
        go_wp2_with fail
        refine wp_region_mixz (ddS (w.heap.size + 1) y 1) 9 (.take 0 (.take 1 (.take 2 (.take 3 (.take 4 (.take 5 (.take 6 (.take 7 (.take 8 (.move 9 .done)))))))))) (by kernel_rfl) (by kernel_rfl) ?_ ?_
        · exact HS.out _ (Keeps.drew _)
        intro w2 hs2 hk2
        repeat (first
          | (refine mix_skip rfl (by rfl) ?_; try simp only [Act.put, List.setIfInBounds_toArray, List.set_cons_zero, List.set_cons_succ])
          | (refine mix_skipm rfl (by rfl) ?_; try simp only [Act.put, List.setIfInBounds_toArray, List.set_cons_zero, List.set_cons_succ])
          | (refine mix_take (v := ?_) rfl (by rfl) ?_ ?_; rotate_left; (· intro w' hSw; unfold ddS at hSw; go_simp; (try with_reducible rfl)); rotate_right; try simp only [Act.put, List.setIfInBounds_toArray, List.set_cons_zero, List.set_cons_succ]))
        refine mix_pure (v := ?_) rfl (by rfl) ?_ ?_ ?_ ?_ ?_
        rotate_left 3
        · intro w' hSw; unfold ddS at hSw; go_simp; (first | done | (constructor <;> with_reducible rfl) | with_reducible rfl)
        · intro w' hSw; exact (Hcall2.out _)
        rotate_right 3
        try simp only [Act.put, List.setIfInBounds_toArray, List.set_cons_zero, List.set_cons_succ]
        repeat (first
          | (refine mix_skip rfl (by rfl) ?_; try simp only [Act.put, List.setIfInBounds_toArray, List.set_cons_zero, List.set_cons_succ])
          | (refine mix_skipm rfl (by rfl) ?_; try simp only [Act.put, List.setIfInBounds_toArray, List.set_cons_zero, List.set_cons_succ])
          | (refine mix_take (v := ?_) rfl (by rfl) ?_ ?_; rotate_left; (· intro w' hSw; unfold ddS at hSw; go_simp; (try with_reducible rfl)); rotate_right; try simp only [Act.put, List.setIfInBounds_toArray, List.set_cons_zero, List.set_cons_succ]))
        have hs3 := hs2
        unfold ddS at hs3
        obtain ⟨k0, k2, k3⟩ := hs3
        have k4 := cell_lt k2
        refine mix_last rfl (fun K hK => ?_)
        go_simp
        refine hK.out _ _ ?_
        clear hK K
        try simp only [Act.put, List.setIfInBounds_toArray, List.set_cons_zero, List.set_cons_succ]
        refine mix_done ?_
        have hw3 := (Hw.out.keep hk2).set2 (1 + (n - v))
        have hd2 : DdW w (yearF n) ((1 : Nat) : Int) (n - v + 1) (w2.setCell ⟨w.heap.size + 1, 2, none⟩ (.int .i64 (1 + (n - v)))) := by
          rw [Hyf.out, show n - v + 1 = 1 + (n - v) by omega]; exact hw3
        have hmo : MoAt (yearF n) (n - nY (yearF n)) 1 (n - v) := by rw [Hyf.out, Hv.out]; exact MoAt.start hn0
        obtain ⟨Hd2, Hmo, Hw3⟩ := hid3 hd2 hmo hw3; clear hw3 hmo hd2
        clear hs2 hk2 k0 k2 k3 k4
        go_wp2_with fail
        go_step3
        rename_i hK
        refine hK _ _ ?_
        refine wp_jump2_mono ?_ ?_ (hp2.out _ _ (ddJ2.mk 1 (n - v) rfl Hd2.out Hmo.out Hok.out))
        · intro a' w' h
          refine ⟨h.1, Nat.lt_of_lt_of_le h.2 ?_⟩
          have e1 := cellInt_of (cell_of_cells Hd2.out.box 1)
          show (20 - cellInt _ _ 1).toNat ≤ (20000 - cellInt _ _ 0).toNat + 100
          rw [e1]; omega
        · intro a' w' h
          refine ⟨h.1, Nat.lt_of_lt_of_le h.2 ?_⟩
          have e1 := cellInt_of (cell_of_cells Hd2.out.box 1)
          show (20 - cellInt _ _ 1).toNat ≤ (20000 - cellInt _ _ 0).toNat + 100
          rw [e1]; omega
    · intro hp1
      go_wp2_with fail
      go_step3
      rename_i hK
      refine hK _ _ ?_
      refine hp1.out _ _ ?_
      refine ddJ1.mk (1600 + (n + 135140) / 366) rfl ⟨by (repeat (first | exact Keeps.refl _ _ | exact Keeps.alloc _ _ | exact Keeps.drew _ | exact Keeps.drewN _ _ | refine Keeps.trans_drew ?_ | refine Keeps.trans_drewN ?_ | refine Keeps.trans_alloc ?_)), box_alloc (heap_alloc_new w _) _, halloc_at2 _ _ (by simp)⟩ (by omega) (by omega) (by unfold nY; omega)
  · have hd : dayIn n = false := by simp [dayIn]; omega
    have hdd : ¬ dayIn n = true := by rw [hd]; decide
    rw [if_neg hdd, if_neg hdd]
    have hc : n < -135140 ∨ 2932896 < n := by omega
    clear hin
    obtain ⟨Hd, Hdd⟩ := hid2 hd hdd; clear hdd hd
    go_enter Tryz.func139, Tryz.ntmps139
    go_wp2
    refine wp_scope_ahead2 0 1 rfl rfl ?_
    rcases hc with hc | hc
    · go_wp2
      refine jump2_ret ?_
      exact bodyPost_ret (v := .tuple #[.agg #[.int .i64 0, .int .i64 0, .int .i64 0], .int .i64 10]) (by simp [results, Tryz.results139, go_sem]) rfl ⟨rfl, by (repeat (first | exact Keeps.refl _ _ | exact Keeps.alloc _ _ | exact Keeps.drew _ | exact Keeps.drewN _ _ | refine Keeps.trans_drew ?_ | refine Keeps.trans_drewN ?_ | refine Keeps.trans_alloc ?_))⟩
    · have hc2 : ¬ n < -135140 := by omega
      go_wp2
      refine jump2_ret ?_
      exact bodyPost_ret (v := .tuple #[.agg #[.int .i64 0, .int .i64 0, .int .i64 0], .int .i64 10]) (by simp [results, Tryz.results139, go_sem]) rfl ⟨rfl, by (repeat (first | exact Keeps.refl _ _ | exact Keeps.alloc _ _ | exact Keeps.drew _ | exact Keeps.drewN _ _ | refine Keeps.trans_drew ?_ | refine Keeps.trans_drewN ?_ | refine Keeps.trans_alloc ?_))⟩
end Go.Proofs.YthcmpcekmkioaaaGreat
namespace Go.Proofs.YthcmpcekmkioaaaGreat
open Go.RowKit
theorem haltD{p:Prop}(h:Hid p):p:=h.out
theorem info_tInt64:(Tryz.prog.info? 2).map (fun i=>(i.zero,i.size,i.bytes))=some (some (.int .i64 0),1,8):=by kernel_rfl
def badM(v:Int):Bool:= !moneyP v
set_option maxRecDepth 100000
set_option maxHeartbeats 400000
theorem fallMay1_any(v:Int)(w:World):Calls Tryz.prog 114 #[.int .i64 v] w fun e w'=>e= .returned (.bool (badM v))∧w=w':=by
 by_cases h1:v<0
 ·have hf:badM v=true:=by simp [badM,moneyP,h1]
  have Hf:=Lib.hid hf;clear hf
  go_enter Tryz.func114,Tryz.ntmps114
  go_wp2
  go_ret
  exact⟨by rw [Hf.out];rfl,rfl⟩
 ·by_cases h2:1000000000000000<v
  ·have hf:badM v=true:=by simp [badM,moneyP];omega
   have Hf:=Lib.hid hf;clear hf
   go_enter Tryz.func114,Tryz.ntmps114
   go_wp2
   go_ret
   exact⟨by rw [Hf.out];rfl,rfl⟩
  ·have hf:badM v=false:=by simp [badM,moneyP];omega
   have Hf:=Lib.hid hf;clear hf
   go_enter Tryz.func114,Tryz.ntmps114
   go_wp2
   go_ret
   exact⟨by rw [Hf.out];rfl,rfl⟩
theorem any_take_snoc{q:Int→Bool}{L:List Int}{k:Nat}{x:Int}(h:L[k]?=some x):(L.take (k+1)).any q=((L.take k).any q||q x):=by rw [take_snoc' h,List.any_append];simp
theorem any_of_get{q:Int→Bool}{L:List Int}{k:Nat}{x:Int}(h:L[k]?=some x)(hx:q x=true):L.any q=true:=List.any_eq_true.2 ⟨x,List.mem_of_getElem? h,hx⟩
set_option maxHeartbeats 800000
theorem indexFall(ad:Option Addr)(cap:Nat)(L:List Int)(w:World)(hr:Reads w 1 (.slice ad L.length cap) L.length (L.flatMap i64c))(hl:L.length≤1000):
  Calls Tryz.prog 81 #[.slice ad L.length cap, .func (.func 114) #[] #[]] w fun e w'=>∃r:Int,e= .returned (.int .i64 r)∧decide (0≤r)=L.any badM∧w=w':=by
 have Hr:=Lib.hid hr;clear hr
 go_enter Tryz.func81,Tryz.ntmps81
 go_wp2_with fail
 go_loop [8] (fun c=>∃j:Nat,j≤L.length∧c= .int .i64 (j:Nat)∧(L.take j).any badM=false) (fun c=>L.length-(intOf c).toNat)
 case atStart=>exact⟨0,Nat.zero_le _,rfl,rfl⟩
 case round=>
  obtain⟨j,hj,rfl,hok⟩:=hrel
  by_cases hjl:j<L.length
  ·obtain⟨x,hx⟩:=get_some hjl
   obtain⟨g,o,rfl,x0⟩:=Hr.out.int hx
   have hsn:=any_take_snoc (q:=badM) hx
   rw [hok] at hsn
   have hcl:=fun W=>fallMay1_any x W
   rcases m1:badM x with _|_
   ·have hok':(L.take (j+1)).any badM=false:=by rw [hsn,m1];rfl
    rw [m1] at hcl
    obtain⟨Hsn,Hx,Hok,Hok',Hcl⟩:=hid5 hsn hx hok hok' hcl;clear hcl hok' hok hx hsn
    go_wp2_with (go_at_call 114;((with_reducible refine(Hcl.out _).mono ?_);rintro e w1 ⟨rfl,rfl⟩))
    go_round
    case rel=>exact⟨j+1,by omega,by go_num,Hok'.out⟩
    case measure=>simp [intOf];omega
   ·have hf:=any_of_get (q:=badM) hx m1
    have hj0:decide ((0:Int)≤(j:Int))=true:=by simp
    rw [m1] at hcl
    obtain⟨Hf,Hsn,Hx,Hj0,Hcl⟩:=hid5 hf hsn hx hj0 hcl;clear hcl hj0 hx hsn hf
    go_wp2_with (go_at_call 114;((with_reducible refine(Hcl.out _).mono ?_);rintro e w1 ⟨rfl,rfl⟩))
    go_ret
    exact⟨_,rfl,by rw [Hf.out,Hj0.out],rfl⟩
  ·obtain rfl:j=L.length:=by omega
   rw [List.take_length] at hok
   have Hok:=Lib.hid hok;clear hok
   go_wp2_with fail
   go_ret
   exact⟨_,rfl,by rw [Hok.out];rfl,rfl⟩
set_option maxHeartbeats 400000
theorem containsFall(ad:Option Addr)(cap:Nat)(L:List Int)(w:World)(hr:Reads w 1 (.slice ad L.length cap) L.length (L.flatMap i64c))(hl:L.length≤1000):
  Calls Tryz.prog 46 #[.slice ad L.length cap, .func (.func 114) #[] #[]] w fun e w'=>e= .returned (.bool (L.any badM))∧w=w':=by
 have Hr:=Lib.hid hr;clear hr
 go_enter Tryz.func46,Tryz.ntmps46
 go_wp2_with (go_at_call 81;refine(indexFall _ _ L _ Hr.out hl).mono ?_;rintro e w1 ⟨r,rfl,hd,rfl⟩;have Hd:=Lib.hid hd;clear hd)
 go_ret
 exact⟨by rw [←Hd.out];rfl,rfl⟩
theorem fallMay_any(ad:Option Addr)(cap:Nat)(L:List Int)(w:World)(hr:Reads w 1 (.slice ad L.length cap) L.length (L.flatMap i64c))(hl:L.length≤1000):
  Calls Tryz.prog 82 #[.slice ad L.length cap] w fun e w'=>e= .returned (.bool (L.all moneyP))∧w=w':=by
 have hc:=containsFall ad cap L w hr hl
 have he:L.any badM= !(L.all moneyP):=by rw [List.all_eq_not_any_not];simp only [Bool.not_not];rfl
 rw [he] at hc
 obtain⟨Hr,Hc⟩:=hid2 hr hc;clear hc hr
 go_enter Tryz.func82,Tryz.ntmps82
 go_wp2_with fail
 refine Hc.out.mono ?_
 rintro e w1 ⟨rfl,rfl⟩
 go_wp2
 go_ret
 exact⟨by simp,rfl⟩
def RowZ(W:World)(e:TypeId)(g n cap:Nat)(O:List Int):Prop:=W.ownsRow 0 e 1 (.slice (some ⟨g,0,none⟩) n cap) n (O.flatMap i64c)∧O.length=n
theorem RowZ.cell{W:World}{e:TypeId}{g n cap:Nat}{O:List Int}(h:RowZ W e g n cap O){k:Nat}{x:Int}(hx:O[k]?=some x):W.cell? ⟨g,k,none⟩=some (.int .i64 x):=by
 obtain⟨h,rfl⟩:=h
 have:=owns_elem i64c_length h hx 0 (by decide)
 rw [Nat.mul_one,Nat.add_zero] at this;exact this
theorem RowZ.free{W:World}{e:TypeId}{g n cap:Nat}{O:List Int}(h:RowZ W e g n cap O)(j:Nat):W.frozen? ⟨g,j,none⟩=false:=by
 rcases h.1.2 with⟨h0,_⟩|⟨g1,cap1,cur,h0,_,hh,_⟩
 ·simp at h0
 ·simp only [Value.slice.injEq,Option.some.injEq,Addr.mk.injEq,and_true,true_and] at h0
  obtain⟨rfl,_⟩:=h0
  exact free_of_cells hh j
theorem RowZ.set{W:World}{e:TypeId}{g n cap:Nat}{O:List Int}(h:RowZ W e g n cap O){k:Nat}(hk:k<n)(x:Int):RowZ (W.setCell ⟨g,k,none⟩ (.int .i64 x)) e g n cap (O.set k x):=by
 obtain⟨h1,h2⟩:=h
 obtain⟨y,hy⟩:=get_some (L:=O) (k:=k) (by omega)
 subst h2
 have:=owns_store i64c_length h1 hy 0 (by decide) (y:=x) (u:= .int .i64 x) rfl
 simp only [Nat.mul_one,Nat.add_zero] at this
 exact⟨this,by simp⟩
theorem RowZ.keep{W W':World}{e:TypeId}{g n cap:Nat}{O:List Int}(h:RowZ W e g n cap O)(hk:Keeps (fun _=>False) W W'):RowZ W' e g n cap O:=⟨h.1.of_keeps hk,h.2⟩
theorem RowZ.lt{W:World}{e:TypeId}{g n cap:Nat}{O:List Int}(h:RowZ W e g n cap O):g<W.heap.size:=own_lt h.1 rfl
theorem RowZ.reads{W:World}{e:TypeId}{g n cap:Nat}{O:List Int}(h:RowZ W e g n cap O):Reads W 1 (.slice (some ⟨g,0,none⟩) n cap) n (O.flatMap i64c):=Reads.of_owns h.1
theorem made_ints(n:Nat):(madeCells (Value.int .i64 0).cells n).toList=(List.replicate n (0:Int)).flatMap i64c:=by
 have hL:((List.replicate n (0:Int)).flatMap i64c).length=n:=by rw [flat_length i64c_length];simp
 have hM:(madeCells (Value.int .i64 0).cells n).toList.length=n:=by simp [madeCells]
 apply List.ext_getElem?
 intro i
 by_cases h:i<n
 ·have h2:((List.replicate n (0:Int)).flatMap i64c)[i]?=some (.int .i64 0):=by
   have:=flat_get i64c_length (L:=List.replicate n (0:Int)) (k:=i) (j:=0) (x:=0) (by simp [h]) (by decide)
   rw [Nat.mul_one,Nat.add_zero] at this;exact this
  rw [h2]
  simp [madeCells,Value.cells,h,Nat.mod_one]
 ·rw [List.getElem?_eq_none (by omega),List.getElem?_eq_none (by omega)]
theorem RowZ.made(w:World)(e:TypeId)(n:Nat)(hn:n≤maxLen):RowZ (w.alloc (.cells (madeCells (Value.int .i64 0).cells n) e)) e w.heap.size n n (List.replicate n 0):=by
 have hL:((List.replicate n (0:Int)).flatMap i64c).length=n*1:=by rw [flat_length i64c_length];simp
 refine⟨⟨hL, .inr ⟨_,_,_,rfl,Nat.zero_le _,heap_alloc_new w _,Nat.le_refl _,hn,by simp [madeCells], ?_⟩⟩,by simp⟩
 rw [made_ints,List.take_of_length_le (by rw [hL];exact Nat.le_refl _)]
def inFr(vB vO:Value)(a:Int)(g n j:Nat)(u:Nat→Value):Act:={ tmps:= #[vB,vO, .int .i64 a,u 3,u 4,u 5,u 6,u 7, .slice (some ⟨g,0,none⟩) n n, .int .i64 ((j:Nat):Int),u 10,u 11,u 12,u 13,u 14,u 15,u 16,u 17,u 18,u 19,u 20,u 21,u 22,u 23,u 24,u 25,u 26,u 27,u 28,u 29,u 30,u 31,u 32,u 33,u 34,u 35,u 36,u 37,u 38,u 39,u 40,u 41],defers:= [] }
structure InAt(B O:List Int)(a00:Int)(w:World)(g j:Nat)(out:List Int)(a:Int)(W:World):Prop where
 jl:j≤O.length
 a0:0≤a
 a1:a≤1000000000000000
 row:RowZ W 2 g B.length B.length out
 eq:intoL B O a00=intoS B (O.drop j) (out,a)
 kp:Keeps (fun _=>False) w W
 gg:w.heap.size≤g
def inJ(B O:List Int)(a0:Int)(w:World)(vB vO:Value)(n:Nat)(a':Act)(W:World):Prop:=∃(g j:Nat) (out:List Int) (a:Int) (u:Nat→Value),a'=inFr vB vO a g n j u∧InAt B O a0 w g j out a W
theorem inJ.mk{B O:List Int}{a0:Int}{w:World}{vB vO:Value}{n:Nat}{a':Act}{W:World}(g j:Nat)(out:List Int)(a:Int)(h:a'=inFr vB vO a g n j (fun i=>a'.tmps.getD i undef))(hi:InAt B O a0 w g j out a W):inJ B O a0 w vB vO n a' W:=⟨g,j,out,a,_,h,hi⟩
def IntoPost(r:List Int×Int)(w:World)(e:Ending)(w':World):Prop:=∃g,e= .returned (.tuple #[.slice (some ⟨g,0,none⟩) r.1.length r.1.length, .int .i64 r.2])∧RowZ w' 2 g r.1.length r.1.length r.1∧Keeps (fun _=>False) w w'∧w.heap.size≤g
set_option maxHeartbeats 1600000
theorem fallInto0_any(B O:List Int)(a:Int)(adB adO:Option Addr)(cB cO:Nat)(w:World)(hB:Reads w 1 (.slice adB B.length cB) B.length (B.flatMap i64c))(hO:Reads w 1 (.slice adO O.length cO) O.length (O.flatMap i64c))(hm:∀x∈B,0≤x∧x≤1000000000000000)(ha:0≤a∧a≤1000000000000000)
  (hok:∀k∈O,1≤k∧k≤B.length) (hl:B.length≤1000) (hl2:O.length≤1000):Calls Tryz.prog 83 #[.slice adB B.length cB, .slice adO O.length cO, .int .i64 a] w (IntoPost (intoL B O a) w):=by
 obtain⟨i0,hi,hi0,hi1,hi2⟩:=info_parts info_tInt64
 have hrl:=intoL_length B O a
 obtain⟨n,hn⟩:∃n,B.length=n:=⟨_,rfl⟩
 obtain⟨m,hmO⟩:∃m,O.length=m:=⟨_,rfl⟩
 obtain⟨r,hr⟩:∃r,intoL B O a=r:=⟨_,rfl⟩
 rw [hn] at hB hok hl hrl⊢
 rw [hmO] at hO hl2⊢
 rw [hr] at hrl⊢
 have hmk:=fun(W:World)=>run_makeSlice (P:=Tryz.prog) W 22 2 i0 (.int .i64 0) Tryz.underlying22 hi hi0 .i64 .i64 (n:Int) (n:Int) (by omega) (by omega) (by rw [hi1];omega) (by rw [hi2];omega) (by omega)
 simp only [Int.toNat_natCast,hi1,Nat.mul_one] at hmk
 obtain⟨Z,hZ⟩:∃Z,Z=madeCells (Value.int .i64 0).cells n:=⟨_,rfl⟩
 rw [←hZ] at hmk
 obtain⟨ha0,ha1⟩:=ha
 obtain⟨HB,HO,Hm,Hok,Hn,HmO,Hr,Hrl,Hi⟩:=hid9 hB hO hm hok hn hmO hr hrl hi;clear hi hrl hr hmO hn hok hm hO hB;obtain⟨Hi0,Hi1,Hi2,HZ⟩:=hid4 hi0 hi1 hi2 hZ;clear hZ hi2 hi1 hi0
 go_enter Tryz.func83,Tryz.ntmps83
 go_wp2_with fail
 refine wp_scope_back 0 (inJ B O a w (.slice adB n cB) (.slice adO m cO) n) (fun a' _=>m-slotNatR 9 a') rfl ?_ ?_
 ·rintro a' W ⟨g,j,out,b,u,rfl,hat⟩
  unfold inFr
  have hjl:=hat.jl
  have hb0:=hat.a0
  have hb1:=hat.a1
  have hrow:=hat.row
  rw [Hn.out] at hrow
  rw [HmO.out] at hjl
  by_cases hlt:j<m
  ·have hltI:(j:Int)<(m:Int):=by omega
   obtain⟨k,hk⟩:=get_some (L:=O) (k:=j) (by rw [HmO.out];exact hlt)
   obtain⟨k1,k2⟩:=Hok.out k (List.mem_of_getElem? hk)
   obtain⟨i,hi⟩:∃i:Nat,(i:Int)=k-1:=⟨(k-1).toNat,by omega⟩
   obtain⟨x,hx⟩:=get_some (L:=B) (k:=i) (by rw [Hn.out];omega)
   obtain⟨x1,x2⟩:=Hm.out x (List.mem_of_getElem? hx)
   obtain⟨gO,oO,he,hcO⟩:=(HO.out.keeps hat.kp (by simp)).int (k:= .i64) hk
   subst he
   obtain⟨gB,oB,he,hcB⟩:=(HB.out.keeps hat.kp (by simp)).int (k:= .i64) hx
   subst he
   obtain⟨y,hy⟩:=get_some (L:=out) (k:=i) (by rw [hrow.2];omega)
   have cy:=hrow.cell hy
   have fy:=hrow.free i
   have lO:=cell_lt hcO
   have lB:=cell_lt hcB
   have lg:=hrow.lt
   have q1:(0:Int)≤k-1:=by omega
   have q2:k-1<(n:Int):=by omega
   have q3:(k-1).toNat=i:=by omega
   have q4:IntKind.i64.wrap (k-1)=k-1:=IntWalk.i64_in _ ⟨by omega,by omega⟩
   have hstep:intoS B (O.drop j) (out,b)=intoS B (O.drop (j+1)) (out.set i (minI b x),b-minI b x):=by
    obtain⟨h1,h2⟩:=List.getElem?_eq_some_iff.1 hk
    rw [List.drop_eq_getElem_cons h1,h2]
    show intoS B (O.drop (j+1)) _=_
    rw [q3,List.getD_eq_getElem?_getD,hx]
    rfl
   have hat2:∀v:Int,minI b x=v→0≤v→v≤b→InAt B O a w g (j+1) (out.set i v) (b-v) (W.setCell ⟨g,i,none⟩ (.int .i64 v)):=fun v hv h0 h1=>
    ⟨by rw [HmO.out];omega,by omega,by omega,by rw [Hn.out];exact hrow.set (by omega) v,by rw [hat.eq,hstep,hv],hat.kp.trans (Keeps.setCell _ _ _ (.inr hat.gg)),hat.gg⟩
   by_cases hmin:b≤x
   ·have h2:=hat2 b (by unfold minI;rw [if_pos hmin]) (by omega) (by omega)
    rw [Int.sub_self] at h2
    clear hat2
    obtain⟨Hat,Hrow,Hk,Hx,Hy,Hstep,Hi,H2⟩:=hid8 hat hrow hk hx hy hstep hi h2;clear h2 hi hstep hy hx hk hrow hat
    go_wp2
    go_step3
    go_wp2
    exact jump_goto ⟨inJ.mk g (j+1) (out.set i b) 0 rfl H2.out,by simp [slotNatR];omega⟩
   ·have h2:=hat2 x (by unfold minI;rw [if_neg hmin]) (by omega) (by omega)
    clear hat2
    obtain⟨Hat,Hrow,Hk,Hx,Hy,Hstep,Hi,H2⟩:=hid8 hat hrow hk hx hy hstep hi h2;clear h2 hi hstep hy hx hk hrow hat
    go_wp2
    go_step3
    go_wp2
    exact jump_goto ⟨inJ.mk g (j+1) (out.set i x) (b-x) rfl H2.out,by simp [slotNatR];omega⟩
  ·obtain rfl:j=m:=by omega
   have he:=hat.eq
   rw [Hr.out,List.drop_eq_nil_of_le (by rw [HmO.out];exact Nat.le_refl _)] at he
   have he2:r=(out,b):=he
   subst he2
   have hkp:=hat.kp
   have hgg:=hat.gg
   obtain⟨Hat,He,Hrow,Hkp,Hgg⟩:=hid5 hat he hrow hkp hgg;clear hgg hkp hrow he hat
   go_wp2
   refine jump_ret ?_
   have hpost:IntoPost (out,b) w (.returned (.tuple #[.slice (some ⟨g,0,none⟩) n n, .int .i64 b])) W:=⟨g,by simp only;rw [Hrl.out],by simp only;rw [Hrl.out];exact Hrow.out,Hkp.out,Hgg.out⟩
   exact bodyPost_ret (v:= .tuple #[.slice (some ⟨g,0,none⟩) n n, .int .i64 b]) (by simp [results,Tryz.results83,go_sem]) rfl hpost
 ·intro hfirst
  have Hfirst:=Lib.hid hfirst;clear hfirst
  go_wp2_with fail
  go_step3
  rename_i hK
  refine hK _ _ ?_
  refine Hfirst.out _ _ ?_
  have hmd:=RowZ.made w 2 n (by unfold maxLen;omega)
  rw [←HZ.out] at hmd
  exact inJ.mk w.heap.size 0 (List.replicate n 0) a rfl ⟨Nat.zero_le _,ha0,ha1,by rw [Hn.out];exact hmd,by unfold intoL;rw [Hn.out];rfl,by(repeat (first|exact Keeps.refl _ _|exact Keeps.alloc _ _|exact Keeps.drew _|exact Keeps.drewN _ _|refine Keeps.trans_drew ?_|refine Keeps.trans_drewN ?_|refine Keeps.trans_alloc ?_)),Nat.le_refl _⟩
structure Ps where
 bal:List Int
 cr:Int
 du:Int
def Ps.val(p:Ps)(v:Value):Value:= .agg #[v, .int .i64 p.cr, .int .i64 p.du]
def sumI:List Int→Int
 | []=>0
 |x::L=>x+sumI L
theorem sumI_app(A B:List Int):sumI (A++B)=sumI A+sumI B:=by
 induction A with
 |nil=>simp [sumI]
 |cons x A ih=>simp only [List.cons_append,sumI,ih];omega
theorem sumI_snoc{L:List Int}{k:Nat}{x:Int}(h:L[k]?=some x):sumI (L.take (k+1))=sumI (L.take k)+x:=by rw [take_snoc' h,sumI_app];simp [sumI]
theorem sumI_nonneg{L:List Int}(h:L.all moneyP=true):0≤sumI L:=by
 induction L with
 |nil=>exact Int.le_refl _
 |cons x L ih=>
  simp only [List.all_cons,Bool.and_eq_true] at h
  have:=ih h.2
  have:=(moneyP_iff x).1 h.1
  simp only [sumI];omega
def scanB(L:List Int):Bool:=L.all moneyP&&moneyP (sumI L)
theorem scan_bad1{L:List Int}{k:Nat}{x:Int}(h:L[k]?=some x)(hx:moneyP x=false):scanB L=false:=by
 have:L.all moneyP=false:=by
  rw [Bool.eq_false_iff];intro hh
  have:=List.all_eq_true.1 hh x (List.mem_of_getElem? h)
  rw [hx] at this;cases this
 unfold scanB;rw [this];rfl
theorem scan_bad2{L:List Int}{k:Nat}(hk:1000000000000000<sumI (L.take k)):scanB L=false:=by
 rcases ha:L.all moneyP with _|_
 ·unfold scanB;rw [ha];rfl
 ·have hd:(L.drop k).all moneyP=true:=List.all_eq_true.2 fun x hx=>List.all_eq_true.1 ha x (List.mem_of_mem_drop hx)
  have h1:=sumI_nonneg hd
  have h2:sumI L=sumI (L.take k)+sumI (L.drop k):=by rw [←sumI_app,List.take_append_drop]
  unfold scanB
  rw [show moneyP (sumI L)=false by simp [moneyP];omega];simp
def Ps.rightB(p:Ps):Bool:=scanB p.bal&&(decide (1≤p.bal.length)&&(decide (p.bal.length≤8)&&(moneyP p.cr&&(moneyP p.du&&(decide (p.cr=0)||decide (sumI p.bal=0))))))
end Go.Proofs.YthcmpcekmkioaaaGreat
