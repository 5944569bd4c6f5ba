/- Part 1 of the proof of ReplayRuns: walks and plain laws. -/
import Derived.Test.YtgfkeeicjjbnpaaGreatM0
set_option maxRecDepth 100000
set_option maxHeartbeats 3200000
namespace Go.Proofs.YtgfkeeicjjbnpaaGreat
open Go.RowKit
theorem hid2{a0 a1:Prop}(h0:a0)(h1:a1):Hid a0/\Hid a1:=⟨h0,h1⟩
theorem hid3{a0 a1 a2:Prop}(h0:a0)(h1:a1)(h2:a2):Hid a0/\Hid a1/\Hid a2:=⟨h0,h1,h2⟩
theorem hid4{a0 a1 a2 a3:Prop}(h0:a0)(h1:a1)(h2:a2)(h3:a3):Hid a0/\Hid a1/\Hid a2/\Hid a3:=⟨h0,h1,h2,h3⟩
theorem hid5{a0 a1 a2 a3 a4:Prop}(h0:a0)(h1:a1)(h2:a2)(h3:a3)(h4:a4):Hid a0/\Hid a1/\Hid a2/\Hid a3/\Hid a4:=⟨h0,h1,h2,h3,h4⟩
theorem hid6{a0 a1 a2 a3 a4 a5:Prop}(h0:a0)(h1:a1)(h2:a2)(h3:a3)(h4:a4)(h5:a5):Hid a0/\Hid a1/\Hid a2/\Hid a3/\Hid a4/\Hid a5:=⟨h0,h1,h2,h3,h4,h5⟩
theorem hid7{a0 a1 a2 a3 a4 a5 a6:Prop}(h0:a0)(h1:a1)(h2:a2)(h3:a3)(h4:a4)(h5:a5)(h6:a6):Hid a0/\Hid a1/\Hid a2/\Hid a3/\Hid a4/\Hid a5/\Hid a6:=⟨h0,h1,h2,h3,h4,h5,h6⟩
theorem hid8{a0 a1 a2 a3 a4 a5 a6 a7:Prop}(h0:a0)(h1:a1)(h2:a2)(h3:a3)(h4:a4)(h5:a5)(h6:a6)(h7:a7):Hid a0/\Hid a1/\Hid a2/\Hid a3/\Hid a4/\Hid a5/\Hid a6/\Hid a7:=⟨h0,h1,h2,h3,h4,h5,h6,h7⟩
theorem hid9{a0 a1 a2 a3 a4 a5 a6 a7 a8:Prop}(h0:a0)(h1:a1)(h2:a2)(h3:a3)(h4:a4)(h5:a5)(h6:a6)(h7:a7)(h8:a8):Hid a0/\Hid a1/\Hid a2/\Hid a3/\Hid a4/\Hid a5/\Hid a6/\Hid a7/\Hid a8:=⟨h0,h1,h2,h3,h4,h5,h6,h7,h8⟩
theorem aps:(∀ (a:Act) (d:Tmp) (v:Value),a.put (some d) v={a with tmps:=a.tmps.setIfInBounds d v})/\(∀ (a:Act) (v:Value),a.put none v=a)/\(∀ (l:List Value) (i:Nat) (v:Value),l.toArray.setIfInBounds i v=(l.set i v).toArray)/\(∀ (a b:Value) (l:List Value),(a::l).set 0 b=b::l)/\∀ (a b:Value) (l:List Value) (n:Nat),(a::l).set (n+1) b=a::l.set n b:=⟨λ_ _ _=>rfl,λ_ _=>rfl,λ_ _ _=>by simp,λ_ _ _=>rfl,λ_ _ _ _=>rfl⟩
theorem Bi{P:Program}{a:Act}{w:World}{Q:Exit->Act->World->Prop}{c rest:Code}(l:Nat)(hf:findLabel c l=some rest)
  (h:c.wp P (Exit.jump l (λa' w'=>rest.wp P (Exit.noGoto Q) a' w') Q) a w):(Code.scope c).wp P Q a w:=by
 refine wp_scope_jumps l (λa' w'=>rest.wp P (Exit.noGoto Q) a' w') (λ_ _=>0) hf h ?_;intro a w hJ;refine Code.wp_mono ?_ hJ;intro e a w hq
 cases e<;>first|exact hq|exact hq.elim
theorem Bn{l:Nat}{J:Act->World->Prop}{Q:Exit->Act->World->Prop}{a:Act}{w:World}(h:J a w):Exit.jump l J Q (.goto l) a w:=⟨rfl,h⟩
theorem Bu{l:Nat}{J:Act->World->Prop}{Q:Exit->Act->World->Prop}{a:Act}{w:World}(h:Q .ret a w):Exit.jump l J Q .ret a w:=h
structure Keeps(S:Nat->Prop)(w w':World):Prop where
 os:w'.os=w.os
 tape:w'.tape=w.tape
 output:w'.output=w.output
 size:w.heap.size<=w'.heap.size
 block:∀k,k<w.heap.size->¬S k->w'.heap[k]?=w.heap[k]?
theorem Keeps.refl(S:Nat->Prop)(w:World):Keeps S w w:=⟨rfl,rfl,rfl,Nat.le_refl _,λ_ _ _=>rfl⟩
theorem Keeps.mono{S T:Nat->Prop}{w w':World}(h:Keeps S w w')(hST:∀k,k<w.heap.size->S k->T k):Keeps T w w':=
 ⟨h.os,h.tape,h.output,h.size,λk hk hn=>h.block k hk λhs=>hn (hST k hk hs)⟩
theorem Keeps.trans{S:Nat->Prop}{a b c:World}(h:Keeps S a b)(k:Keeps (λi=>S i\/a.heap.size<=i) b c):Keeps S a c:=
 ⟨k.os.trans h.os,k.tape.trans h.tape,k.output.trans h.output,Nat.le_trans h.size k.size,
  λi hi hn=>(k.block i (Nat.lt_of_lt_of_le hi h.size) (λhh=>hh.elim hn (λhh=>by omega))).trans (h.block i hi hn)⟩
theorem Keeps.below{S:Nat->Prop}{B:Nat}{w w':World}(h:Keeps S w w')(hS:∀k,k<B->¬S k)(hB:B<=w.heap.size):Below B w w':=
 ⟨h.os,h.tape,h.output,h.size,λk hk=>h.block k (by omega) (hS k hk)⟩
theorem Keeps.grown{w w':World}{row:Option Nat}(h:w.grownBy w' row):Keeps (λk=>row=some k) w w':=⟨h.os,h.tape,h.output,h.size,λk hk hn=>h.block k hk λe=>hn e.symm⟩
theorem Keeps.grownBy{w w':World}{row:Option Nat}(h:Keeps (λk=>row=some k) w w'):w.grownBy w' row:=⟨h.os,h.tape,h.output,h.size,λk hk hn=>h.block k hk λe=>hn e.symm⟩
theorem Keeps.drewN{S:Nat->Prop}(w:World)(n:Nat):Keeps S w (w.drewN n):=⟨rfl,rfl,rfl,Nat.le_refl _,λ_ _ _=>rfl⟩
theorem Keeps.drew{S:Nat->Prop}(w:World):Keeps S w w.drew:=⟨rfl,rfl,rfl,Nat.le_refl _,λ_ _ _=>rfl⟩
theorem Keeps.alloc{S:Nat->Prop}(w:World)(o:Obj):Keeps S w (w.alloc o):=⟨rfl,rfl,rfl,by simp,λk hk _=>Below.heap_alloc _ _ _ hk⟩
theorem Keeps.setCell{S:Nat->Prop}(w:World)(a:Addr)(u:Value)(h:S a.block):Keeps S w (w.setCell a u):=
 ⟨rfl,rfl,rfl,by simp [World.setCell],λk _ hn=>Below.heap_setCell _ _ _ _ (λe=>hn (e▸h))⟩
theorem Keeps.cell{S:Nat->Prop}{w w':World}(h:Keeps S w w'){p:Addr}(hp:p.block<w.heap.size)(hn:¬S p.block):w'.cell? p=w.cell? p:=World.cell?_of_block (w:=w) (h.block p.block hp hn)
theorem Keeps.row{S:Nat->Prop}{w w':World}(h:Keeps S w w'){base:Nat}{e:TypeId}{size:Nat}{v:Value}{n:Nat}{xs:List Value}(hown:w.ownsRow base e size v n xs)(hn:∀k,v.ownBlock=some k->¬S k):
  w'.ownsRow base e size v n xs:=by
 obtain⟨h1,h2⟩:=hown;refine⟨h1, ?_⟩;rcases h2 with h2|⟨g,cap,cur,hv,hg,hh,r⟩
 ·exact .inl h2
 ·exact .inr ⟨g,cap,cur,hv,hg,by rw [h.block g (lt_of_block hh) (hn g (by rw [hv];rfl))];exact hh,r⟩
theorem Ai{w:World}{a:Addr}{u:Value}(ha:w.cell? a=some u):a.block<w.heap.size:=by
 unfold World.cell? at ha;rcases hb:w.heap[a.block]? with _|o
 ·rw [hb] at ha;simp at ha
 ·exact lt_of_block hb
theorem Uq(g o j:Nat):(⟨g,o,none⟩:Addr).add j=⟨g,o+j,none⟩:=by unfold Addr.add;split<;>simp_all
def Reads(w:World)(size:Nat)(x:Value)(m:Nat)(news:List Value):Prop:=
 ∃ad c,x= .slice ad m c/\m<=c/\news.length=m*size/\(ad=none->c=0)/\∀j u,news[j]?=some u->∃g o,ad=some ⟨g,o,none⟩/\w.cell? ⟨g,o+j,none⟩=some u
theorem Reads.Ay{w:World}{base:Nat}{e:TypeId}{size:Nat}{v:Value}{n:Nat}{xs:List Value}(h:w.ownsRow base e size v n xs):Reads w size v n xs:=by
 have hc:=λg (hg:v.ownBlock=some g)=>h.cells hg;obtain⟨h1,⟨rfl,rfl⟩|⟨g,cap,cur,rfl,_,_,hn,_⟩⟩:=h
 ·exact⟨none,0,rfl,Nat.le_refl _,h1,λ_=>rfl,λj u hj=>by have:xs= []:=List.eq_nil_of_length_eq_zero (by simpa using h1);subst this;simp at hj⟩
 ·exact⟨some ⟨g,0,none⟩,cap,rfl,hn,h1,by simp,λj u hj=>⟨g,0,rfl,by rw [<-Uq];exact hc g rfl j u hj⟩⟩
theorem Reads.nil(w:World)(size:Nat):Reads w size (.slice none 0 0) 0 []:=⟨none,0,rfl,Nat.le_refl _,by simp,λ_=>rfl,λj u hj=>by simp at hj⟩
theorem Reads.keeps{S:Nat->Prop}{w w':World}{size:Nat}{x:Value}{m:Nat}{news:List Value}(h:Reads w size x m news)(hk:Keeps S w w')
  (hS:∀k,x.ownBlock=some k->¬S k):Reads w' size x m news:=by
 obtain⟨ad,c,rfl,h1,h2,h3,h4⟩:=h;refine⟨ad,c,rfl,h1,h2,h3,λj u hj=> ?_⟩;obtain⟨g,o,rfl,ha⟩:=h4 j u hj;exact⟨g,o,rfl,by rw [hk.cell (Ai ha) (hS g rfl)];exact ha⟩
theorem Jj{P:Program}(w:World)(base:Nat)(t ty e:TypeId)(i:TypeInfo)(z:Value)(size bytes:Nat)(ht:P.underlying t=some (.slice e))(hi:P.info? e=some i)(hz:i.zero=some z)
  (hsize:i.size=size) (hby:i.bytes=bytes) (hzs:z.cells.size=size) (hsz:0<size)
  (v:Value) (n:Nat) (xs:List Value) (hown:w.ownsRow base e size v n xs)
  (x:Value) (m:Nat) (news:List Value) (hx:Reads w size x m news) (h1:∀u∈news,u.oneCell'=true)
  (h63:n+m<=maxLen) (hbytes:(n+m)*bytes<=140737488355328) (hbase:base<=w.heap.size):
  ∃v' w',(Builtin.append_ #[t,t] ty #[v,x]).run P w= .ok v' w'/\w'.ownsRow base e size v' (n+m) (xs++news)/\Keeps (λk=>v.ownBlock=some k) w w'/\
   (v'.ownBlock=v.ownBlock\/∃g,v'.ownBlock=some g/\w.heap.size<=g)/\(v'= .slice none 0 0↔v= .slice none 0 0/\m=0):=by
 obtain⟨ad,c,rfl,hmc,hl,hnone,hnews⟩:=hx;rcases ad with _|a
 ·have hc0:=hnone rfl;subst hc0;obtain rfl:m=0:=by omega
  obtain rfl:news= []:=List.eq_nil_of_length_eq_zero (by simpa using hl);have hr:=run_append_owned_none (P:=P) w base t ty e i size ht hi v n xs hown;exact⟨v,w,hr,by simpa using hown,Keeps.refl _ _,.inl rfl,by simp⟩
 ·have hnews':∀j u,news[j]?=some u->w.cell? (a.add j)=some u:=λj u hj=>by
   obtain⟨g,o,ha',hh⟩:=hnews j u hj
   cases ha'
   rw [Uq];exact hh
  obtain⟨v',w',hr,hown',hgr,hnil⟩:=run_append_own (P:=P) w base t ty e i z size bytes ht hi hz hsize hby hzs hsz v n xs hown a m c news hl hnews' h1 h63 hbytes hbase;refine⟨v',w',hr,hown',Keeps.grown hgr, ?_,hnil⟩;subst hsize;subst hby
  have hm63:n+m<=9223372036854775807:=by simp only [maxLen] at h63;omega
  rcases hown.2 with⟨rfl,rfl⟩|⟨g,cap,cur,rfl,hbg,hg,hnc,hcm,hcs,htake⟩
  ·by_cases hm:m=0
   ·left;rw [hnil.2 ⟨rfl,hm⟩]
   ·have hr2:=run_append_nil (P:=P) w t ty e i z ht hi hz a m c news hl hnews' j1 j1 (by have hb:=hbytes;simp only [Nat.zero_add] at hb;omega);exact j36
  ·by_cases hroom:n+m<=cap
   ·have hfit:n*i.size+news.length<=cur.size:=by rw [hl,hcs,<-Nat.add_mul];exact Nat.mul_le_mul_right _ hroom
    have hr2:=run_append_room (P:=P) w t ty e i ht hi g n cap cur hg a m c news hl hnews' h1 hroom hfit;rw [hr2] at hr;injection hr with hv hw
    left
    rw [<-hv];rfl
   ·have holds:∀j u,xs[j]?=some u->w.cell? ((⟨g,0,none⟩:Addr).add j)=some u:=hown.cells (g:=g) rfl;have hr2:=run_append_grow (P:=P) w t ty e i z ht hi hz ⟨g,0,none⟩ n cap xs hown.1 holds a m c news hl hnews' j1 j1 (growslice_fits j1 hbytes);exact j36
theorem Ba{P:Program}{w:World}{ops:Array Oper}{rest:List Oper}{o:Oper}{a:Act}{Q:Exit->Act->World->Prop}(hgd:o.guard=none)(s x:Operand)(t:TypeId)
  (ho:o.op= .call { callee:= .builtin .append,args:= #[s,x],argTypes:= #[t,t] })
  (base:Nat) (e:TypeId) (i:TypeInfo) (z:Value) (size bytes:Nat) (ht:P.underlying t=some (.slice e)) (hi:P.info? e=some i) (hz:i.zero=some z)
  (hsize:i.size=size) (hby:i.bytes=bytes) (hzs:z.cells.size=size) (hsz:0<size)
  (v:Value) (n:Nat) (xs:List Value) (hs:a.eval s=v) (hown:w.ownsRow base e size v n xs)
  (xv:Value) (m:Nat) (news:List Value) (hx:a.eval x=xv) (hxr:Reads w size xv m news) (h1:∀u∈news,u.oneCell'=true)
  (h63:n+m<=maxLen) (hbytes:(n+m)*bytes<=140737488355328) (hbase:base<=w.heap.size)
  (h:∀v' w',w'.ownsRow base e size v' (n+m) (xs++news)->Keeps (λk=>v.ownBlock=some k) w w'->(v'.ownBlock=v.ownBlock\/∃g,v'.ownBlock=some g/\w.heap.size<=g)->wpList P ops Q rest (a.put o.dst v') w'):wpList P ops Q (o::rest) a w:=by
 refine wpList_plain hgd λK hK=> ?_;obtain⟨v',w',hr,h2,h3,h4,_⟩:=Jj (P:=P) w base t o.type e i z size bytes ht hi hz hsize hby hzs hsz v n xs hown xv m news hxr h1 h63 hbytes hbase;refine j0F ?_;exact hK _ _ (h v' w' h2 h3 h4)
theorem Aa{w:World}{b:Nat}{c:Array Value}{t:TypeId}{fz:Nat×Nat}(hb:w.heap[b]?=some (.cells c t fz))(j:Nat):w.cell? ⟨b,j,none⟩=c[j]?:=by simp [World.cell?,hb]
theorem Reads.lit(w:World)(cs:Array Value)(e:TypeId)(size n:Nat)(hs:cs.size=n*size):Reads (w.alloc (.cells cs e)) size (.slice (some ⟨w.heap.size,0,none⟩) n n) n cs.toList:=
 ⟨some ⟨w.heap.size,0,none⟩,n,rfl,Nat.le_refl _,by simpa using hs,by simp,λj u hj=>⟨w.heap.size,0,rfl,by
  have hb:(w.alloc (.cells cs e)).heap[w.heap.size]?=some (.cells cs e (0,0)):=heap_alloc_new w _;rw [Aa hb,Nat.zero_add]
  simpa using hj⟩⟩
theorem Ag{w:World}{base:Nat}{e:TypeId}{size:Nat}{v:Value}{n:Nat}{xs:List Value}(h:w.ownsRow base e size v n xs){b:Nat}{c:Array Value}{t:TypeId}{fz:Nat×Nat}
  (hb:w.heap[b]?=some (.cells c t fz)) (hne:t≠e):v.ownBlock≠some b:=by
 intro hv;rcases h.2 with⟨rfl,_⟩|⟨g,cap,cur,rfl,_,hg,_⟩
 ·simp [Value.ownBlock] at hv
 ·simp only [Value.ownBlock,Option.some.injEq] at hv;subst hv;rw [hb] at hg;injection hg with hg;injection hg with _ he _;exact hne he
theorem Ad{w:World}{base:Nat}{e:TypeId}{size:Nat}{v:Value}{n:Nat}{xs:List Value}(h:w.ownsRow base e size v n xs):∃ad cap,v= .slice ad n cap/\n<=cap/\(ad=none->cap=0):=by
 rcases h.2 with⟨h,h'⟩|⟨g,cap,cur,h,_,_,h',_⟩
 ·exact⟨none,0,by rw [h,h'],by omega,λ_=>rfl⟩
 ·exact⟨_,cap,h,h',by simp⟩
theorem Ab{w:World}{b:Nat}{c:Array Value}{t:TypeId}(hb:w.heap[b]?=some (.cells c t (0,0)))(j:Nat):w.frozen? ⟨b,j,none⟩=false:=by simp [World.frozen?,hb]
section flat
variable {α:Type} {f:α->List Value} {size:Nat} (hf:∀x,(f x).length=size)
include hf
theorem Cu(L:List α):(L.flatMap f).length=L.length*size:=by
 induction L with
 |nil=>simp
 |cons a l ih=>simp [List.flatMap_cons,hf,ih,Nat.add_mul];omega
theorem flat_get{L:List α}{k j:Nat}{x:α}(hx:L[k]?=some x)(hj:j<size):(L.flatMap f)[k*size+j]?=(f x)[j]?:=by
 induction L generalizing k with
 |nil=>simp at hx
 |cons a l ih=>
  rw [List.flatMap_cons]
  cases k with
  |zero=>
   simp only [List.getElem?_cons_zero,Option.some.injEq] at hx;subst hx;rw [List.getElem?_append_left (by rw [hf];omega)];simp
  |succ k=>
   have hx':l[k]?=some x:=by simpa using hx
   rw [List.getElem?_append_right (by rw [hf,Nat.succ_mul];omega),hf,<-ih hx']
   congr 1
   rw [Nat.succ_mul];omega
theorem flat_set{L:List α}{k j:Nat}{x y:α}{u:Value}(hx:L[k]?=some x)(hj:j<size)(hy:(f x).set j u=f y):(L.flatMap f).set (k*size+j) u=(L.set k y).flatMap f:=by
 induction L generalizing k with
 |nil=>simp at hx
 |cons a l ih=>
  rw [List.flatMap_cons]
  cases k with
  |zero=>
   simp only [List.getElem?_cons_zero,Option.some.injEq] at hx;subst hx;rw [List.set_append_left _ _ (by rw [hf];omega)];simp [hy]
  |succ k=>
   have hx':l[k]?=some x:=by simpa using hx
   rw [List.set_append_right _ _ (by rw [hf,Nat.succ_mul];omega),hf,List.set_cons_succ,List.flatMap_cons,<-ih hx']
   congr 2
   rw [Nat.succ_mul];omega
theorem De{w:World}{base:Nat}{e:TypeId}{g cap:Nat}{L:List α}(h:w.ownsRow base e size (.slice (some ⟨g,0,none⟩) L.length cap) L.length (L.flatMap f)){k:Nat}{x:α}(hx:L[k]?=some x)(j:Nat)(hj:j<size):
  w.cell? ⟨g,k*size+j,none⟩=(f x)[j]?:=by
 have hk:k<L.length:=by
  exact j37
 have:(k+1)*size<=L.length*size:=Nat.mul_le_mul_right _ hk;rw [Nat.succ_mul] at this;rw [h.cellAt _ j1,flat_get hf hx hj]
theorem Reads.elem{w:World}{x:Value}{n:Nat}{L:List α}(h:Reads w size x n (L.flatMap f)){k:Nat}{a:α}(hx:L[k]?=some a)(hs:0<size):
  ∃g o c,x= .slice (some ⟨g,o,none⟩) n c/\∀j,j<size->w.cell? ⟨g,o+k*size+j,none⟩=(f a)[j]?:=by
 obtain⟨ad,c,rfl,h1,h2,h3,h4⟩:=h;have key:∀j,j<size->∃u,(f a)[j]?=some u:=λj hj=>⟨(f a)[j]'(by rw [hf];exact hj),List.getElem?_eq_getElem _⟩;obtain⟨u0,hu0⟩:=key 0 hs;obtain⟨g,o,rfl,_⟩:=h4 (k*size+0) u0 (by rw [flat_get hf hx hs];exact hu0);refine⟨g,o,c,rfl,λj hj=> ?_⟩;obtain⟨u,hu⟩:=key j hj;obtain⟨g',o',he,hc⟩:=h4 (k*size+j) u (by rw [flat_get hf hx hj];exact hu);simp only [Option.some.injEq,Addr.mk.injEq,and_true] at he;obtain⟨rfl,rfl⟩:=he;rw [hu,Nat.add_assoc];exact hc
theorem Gw{w:World}{base:Nat}{e:TypeId}{g cap:Nat}{L:List α}(h:w.ownsRow base e size (.slice (some ⟨g,0,none⟩) L.length cap) L.length (L.flatMap f)){k:Nat}{x y:α}(hx:L[k]?=some x)(j:Nat)(hj:j<size)
  {u:Value} (hy:(f x).set j u=f y):(w.setCell ⟨g,k*size+j,none⟩ u).ownsRow base e size (.slice (some ⟨g,0,none⟩) L.length cap) L.length ((L.set k y).flatMap f):=by
 have:=(h.stored (k*size+j) u).1
 rwa [flat_set hf hx hj hy] at this
end flat
theorem Fa{w:World}{base:Nat}{e:TypeId}{size:Nat}{v:Value}{n:Nat}{xs:List Value}(h:w.ownsRow base e size v n xs)(hn:0<n):∃g cap,v= .slice (some ⟨g,0,none⟩) n cap/\g<w.heap.size:=by
 rcases h.2 with⟨_,h'⟩|⟨g,cap,cur,h,_,hh,_⟩
 ·omega
 ·exact⟨g,cap,h,lt_of_block hh⟩
theorem Cj{α:Type}{L:List α}{k:Nat}{x:α}(hx:L[k]?=some x):k<L.length:=by
 exact j37
theorem Below.keeps{B:Nat}{w a b:World}{S:Nat->Prop}(h:Below B w a)(hk:Keeps S a b)(hS:∀k,S k->B<=k)(hB:B<=w.heap.size):Below B w b:=
 h.trans (hk.below (λk hk hs=>by have:=hS k hs;omega) (Nat.le_trans hB h.size))
section
open Go.ChangeShapes Go.WideShapes Go.ChangeAt Go.RowKit Go.Deep
theorem own:ownKnob Tryz.prog.godebug=none:=by kernel_rfl
theorem laidOut:laidOutB Tryz.prog=true:=by kernel_rfl
section
variable {H:Type} {enc:TypeId×Value->H} {w:World} {spare:Nat->Bool} {held:Bool}
theorem list_of{α:Type}{p:Nat->α->Prop}:∀n:Nat,(∀i,i<n->∃a,p i a)->∃L:List α,L.length=n/\∀i (a:α),L[i]?=some a->p i a
 |0,_=>⟨[],rfl,λi a h=>by simp at h⟩
 |n+1,h=>by
  obtain⟨L,h1,h2⟩:=list_of n λi hi=>h i (by omega);obtain⟨a,ha⟩:=h n (by omega);refine⟨L++ [a],by simp [h1],λi b hb=> ?_⟩;rcases Nat.lt_or_ge i n with hi|hi
  ·rw [List.getElem?_append_left (by omega)] at hb;exact h2 i b hb
  ·rw [List.getElem?_append_right (by omega),h1] at hb
   obtain rfl:i=n:=by
    rcases Nat.lt_or_ge n i with h'|h'
    ·rw [List.getElem?_eq_none (by simp;omega)] at hb;simp at hb
    ·omega
   simp at hb;subst hb;exact ha
theorem flat_at{α:Type}{f:α->List Value}{size:Nat}(hf:∀x,(f x).length=size)(hs:0<size){L:List α}{j:Nat}{u:Value}(h:(L.flatMap f)[j]?=some u):∃a,L[j / size]?=some a/\(f a)[j % size]?=some u:=by
 have hj:j<L.length*size:=by rw [<-Cu hf L];exact Cj h
 have hk:j / size<L.length:=Nat.div_lt_of_lt_mul (by rw [Nat.mul_comm];exact hj);refine⟨L[j / size],List.getElem?_eq_getElem hk, ?_⟩;have:=flat_get hf (List.getElem?_eq_getElem hk) (Nat.mod_lt j hs);rw [<-this,Nat.mul_comm,Nat.div_add_mod];exact h
theorem Qh{α:Type}{f:α->List Value}{size:Nat}(hf:∀x,(f x).length=size)(hs:0<size){p:α->Prop}{t e:TypeId}{fuel:Nat}{ad:Option Addr}{len cap:Nat}{x:DataW H×List MemPlace}
  (ht:Tryz.prog.underlying t=some (.slice e)) (hc:Tryz.prog.cellsOf e=size)
  (hel:∀n cs d,DataW.trod enc Tryz.prog w 0 spare held n e cs=some d->∃a:α,cs=f a/\p a)
  (h:DataW.trod enc Tryz.prog w 0 spare held fuel t [.slice ad len cap]=some x):
  ∃L:List α,L.length=len/\Reads w size (.slice ad len cap) L.length (L.flatMap f)/\(∀a∈L,p a)/\L.length<=maxLen:=by
 rcases open_slice ht h with⟨h0,_⟩|⟨a,len',cap',m,n,D,Pl,h0,_,hl,hm,hmm,_,hx⟩
 ·simp only [List.cons.injEq,and_true,Value.slice.injEq] at h0;obtain⟨rfl,rfl,rfl⟩:=h0;exact⟨[],rfl,Reads.nil _ _,by simp,Nat.zero_le _⟩
 ·simp only [List.cons.injEq,and_true,Value.slice.injEq] at h0;obtain⟨rfl,rfl,rfl⟩:=h0;rw [hc] at hx;have hlm:len<=m:=by rw [hmm];split<;>omega
  obtain⟨L,hL,hLp⟩:=list_of (p:=λi (b:α)=>w.cells? 0 (a.add (i*size)) size=some (f b)/\p b) len λi hi=>by
   obtain⟨cs,h1,h2⟩:=hx i j1;obtain⟨b,rfl,hb⟩:=hel _ _ _ h2;exact⟨b,h1,hb⟩
  refine⟨L,hL,⟨some a,cap,by rw [hL],by omega,Cu hf L,by simp,λj u hj=> ?_⟩,λb hb=> ?_,by omega⟩
  ·obtain⟨b,hb,hu⟩:=flat_at hf hs hj;obtain⟨h1,_⟩:=hLp _ b hb;obtain⟨_,hlen,hcell⟩:=World.cells?_some h1;have hc1:=hcell (j % size) (Nat.mod_lt j hs);rw [hu] at hc1
   have hadd:((a.add (j / size*size)).add (j % size))=a.add j:=by
    have hj:j / size*size+j % size=j:=by rw [Nat.mul_comm];exact Nat.div_add_mod j size
    unfold Addr.add
    split<;>split<;>split<;>simp_all<;>omega
   rw [hadd] at hc1;obtain⟨ab,ao,asp⟩:=a;rcases asp with _|sp
   ·exact⟨ab,ao,rfl,by rw [<-Uq];exact hc1⟩
   ·-- an address with a spot reads no cell at its own place
    exfalso
    have hk:0<L.length:=by
     rcases Nat.eq_zero_or_pos L.length with h'|h'
     ·rw [List.eq_nil_of_length_eq_zero h'] at hj;simp at hj
     ·exact h'
    obtain⟨h1',_⟩:=hLp 0 _ (List.getElem?_eq_getElem hk);obtain⟨_,hlen',hcell'⟩:=World.cells?_some h1';have hc0:=hcell' 0 hs;rw [List.getElem?_eq_getElem j1] at hc0;unfold World.cell? at hc0;simp only [Nat.zero_mul,Addr.add,if_true] at hc0
    split at hc0<;>simp at hc0
  ·obtain⟨i,hi⟩:=List.getElem?_of_mem hb;exact(hLp i b hi).2
end
end
theorem Kb{S:Nat->Prop}{w w':World}{cs:Array Value}{t:TypeId}(h:Keeps S (w.alloc (.cells cs t)) w')(hS:¬S w.heap.size):w'.heap[w.heap.size]?=some (.cells cs t (0,0)):=by
 rw [h.block _ (by simp) hS];exact heap_alloc_new w _
theorem Ac{S:Nat->Prop}{w w':World}{b:Nat}{o:Obj}(hb:w.heap[b]?=some o)(h:Keeps S w w')(hS:¬S b):w'.heap[b]?=some o:=by
 rw [h.block _ (lt_of_block hb) hS];exact hb
theorem Ap{w:World}{b:Nat}{o:Obj}(hb:w.heap[b]?=some o)(o':Obj):(w.alloc o').heap[b]?=some o:=(Below.heap_alloc _ _ _ (lt_of_block hb)).trans hb
theorem Reads.below{w w':World}{size:Nat}{x:Value}{m:Nat}{news:List Value}(h:Reads w size x m news)(hb:Below w.heap.size w w'):Reads w' size x m news:=by
 obtain⟨ad,c,rfl,h1,h2,h3,h4⟩:=h;refine⟨ad,c,rfl,h1,h2,h3,λj u hj=> ?_⟩;obtain⟨g,o,rfl,ha⟩:=h4 j u hj;exact⟨g,o,rfl,by rw [hb.cell (Ai ha)];exact ha⟩
theorem Reads.int{w:World}{k:IntKind}{ad:Option Addr}{n c:Nat}{L:List Int}(h:Reads w 1 (.slice ad n c) n (L.flatMap λz=> [Value.int k z])){i:Nat}{x:Int}(hx:L[i]?=some x):
  ∃g o,ad=some ⟨g,o,none⟩/\w.cell? ⟨g,o+i,none⟩=some (.int k x):=by
 obtain⟨g,o,c',he,hc⟩:=Reads.elem (f:=λz=> [Value.int k z]) (λ_=>rfl) h hx j2;exact j38
theorem Reads.bool{w:World}{ad:Option Addr}{n c:Nat}{L:List Bool}(h:Reads w 1 (.slice ad n c) n (L.flatMap λz=> [Value.bool z])){i:Nat}{x:Bool}(hx:L[i]?=some x):
  ∃g o,ad=some ⟨g,o,none⟩/\w.cell? ⟨g,o+i,none⟩=some (.bool x):=by
 obtain⟨g,o,c',he,hc⟩:=Reads.elem (f:=λz=> [Value.bool z]) (λ_=>rfl) h hx j2;exact j38
theorem wf_i64{n:Int}(h:(Lit.int .i64 n).wf=true): -9223372036854775808<=n/\n<=9223372036854775807:=by
 simp [Lit.wf,IntKind.min,IntKind.max,IntKind.signed,IntKind.bits] at h;omega
theorem Ah{P:Program}{ops:Array Oper}{o:Oper}{a:Act}{w:World}{K:Act->World->Prop}{Q:Exit->Act->World->Prop}{E:Prop}(hgd:o.guard=none)(s x:Operand)(t:TypeId)
  (ho:o.op= .call { callee:= .builtin .append,args:= #[s,x],argTypes:= #[t,t] })
  (base:Nat) (e:TypeId) (i:TypeInfo) (z:Value) (size bytes:Nat) (ht:P.underlying t=some (.slice e)) (hi:P.info? e=some i) (hz:i.zero=some z)
  (hsize:i.size=size) (hby:i.bytes=bytes) (hzs:z.cells.size=size) (hsz:0<size)
  (v:Value) (n:Nat) (xs:List Value) (hs:a.eval s=v) (hown:w.ownsRow base e size v n xs)
  (xv:Value) (m:Nat) (news:List Value) (hx:a.eval x=xv) (hxr:Reads w size xv m news) (h1:∀u∈news,u.oneCell'=true)
  (h63:n+m<=maxLen) (hbytes:(n+m)*bytes<=140737488355328) (hbase:base<=w.heap.size)
  (h:∀v' w',w'.ownsRow base e size v' (n+m) (xs++news)->Keeps (λk=>v.ownBlock=some k) w w'->(v'.ownBlock=v.ownBlock\/∃g,v'.ownBlock=some g/\w.heap.size<=g)->K (a.put o.dst v') w'):
  if Region.wanted o (yielded ops a.tmps)=true then Oper.wp P o a w K Q else E:=by
 have hw:Region.wanted o (yielded ops a.tmps)=true:=by simp [Region.wanted,hgd]
 rw [if_pos hw];obtain⟨v',w',hr,h2,h3,h4,_⟩:=Jj (P:=P) w base t o.type e i z size bytes ht hi hz hsize hby hzs hsz v n xs hown xv m news hxr h1 h63 hbytes hbase;refine j0F ?_;exact h v' w' h2 h3 h4
theorem Reads.pre{w:World}{size n c:Nat}{ad:Option Addr}{xs:List Value}(h:Reads w size (.slice ad n c) n xs)(k:Nat)(hk:k<=n):Reads w size (.slice ad k c) k (xs.take (k*size)):=by
 obtain⟨ad',c',he,h1,h2,h3,h4⟩:=h;simp only [Value.slice.injEq,true_and] at he;obtain⟨rfl,rfl⟩:=he;have hm:k*size<=n*size:=Nat.mul_le_mul_right _ hk;refine⟨ad,c,rfl,by omega,by rw [List.length_take,h2];omega,h3,λj u hj=>h4 j u ?_⟩;rw [List.getElem?_take] at hj
 split at hj
 ·exact hj
 ·simp at hj
theorem Reads.suf{w:World}{size n c g o:Nat}{xs:List Value}(h:Reads w size (.slice (some ⟨g,o,none⟩) n c) n xs)(k:Nat)(hk:k<=n):Reads w size (.slice (some ⟨g,o+k*size,none⟩) (n-k) (c-k)) (n-k) (xs.drop (k*size)):=by
 obtain⟨ad',c',he,h1,h2,h3,h4⟩:=h;simp only [Value.slice.injEq,true_and] at he;obtain⟨rfl,rfl⟩:=he;refine⟨_,_,rfl,by omega,by rw [List.length_drop,h2,Nat.sub_mul],by simp,λj u hj=> ?_⟩;rw [List.getElem?_drop] at hj;obtain⟨g',o',he,hc⟩:=h4 _ u hj;simp only [Option.some.injEq,Addr.mk.injEq,and_true] at he;obtain⟨rfl,rfl⟩:=he;exact⟨g,o+k*size,rfl,by rw [Nat.add_assoc];exact hc⟩
theorem Reads.Ph{w:World}{size:Nat}{ad:Option Addr}{c:Nat}(h:ad=none->c=0):Reads w size (.slice ad 0 c) 0 []:=⟨ad,c,rfl,Nat.zero_le _,by simp,h,λj u hj=>by simp at hj⟩
theorem Reads.drew{w:World}{size:Nat}{x:Value}{m:Nat}{news:List Value}(h:Reads w size x m news):Reads w.drew size x m news:=h.keeps (Keeps.drew (S:=λ_=>False) _) (by simp)
theorem Reads.alloc{w:World}{size:Nat}{x:Value}{m:Nat}{news:List Value}(h:Reads w size x m news)(o:Obj):Reads (w.alloc o) size x m news:=h.keeps (Keeps.alloc (S:=λ_=>False) _ _) (by simp)
theorem Reads.blk{w:World}{g:Nat}{cs:Array Value}{e:TypeId}{fz:Nat×Nat}{size n:Nat}(hb:w.heap[g]?=some (.cells cs e fz))(hs:cs.size=n*size):Reads w size (.slice (some ⟨g,0,none⟩) n n) n cs.toList:=
 ⟨some ⟨g,0,none⟩,n,rfl,Nat.le_refl _,by simpa using hs,by simp,λj u hj=>⟨g,0,rfl,by
  rw [Aa hb,Nat.zero_add]
  simpa using hj⟩⟩
theorem Aj{α:Type}{L:List α}{k:Nat}(h:k<L.length):∃x,L[k]?=some x:=⟨L[k],List.getElem?_eq_getElem h⟩
theorem take_snoc'{α:Type}{L:List α}{k:Nat}{x:α}(h:L[k]?=some x):L.take (k+1)=L.take k++ [x]:=by rw [List.take_add_one,h];rfl
def Fresh(w0 w:World)(v:Value):Prop:=Keeps (λ_=>False) w0 w/\∀g,v.ownBlock=some g->w0.heap.size<=g
theorem Fresh.nil(w:World):Fresh w w (.slice none 0 0):=⟨Keeps.refl _ _,by simp [Value.ownBlock]⟩
theorem Fresh.keep{w0 w w':World}{v:Value}(h:Fresh w0 w v)(hk:Keeps (λ_=>False) w w'):Fresh w0 w' v:=⟨h.1.trans (hk.mono (by simp)),h.2⟩
theorem Fresh.app{w0 w w':World}{v v':Value}(h:Fresh w0 w v)(hk:Keeps (λk=>v.ownBlock=some k) w w')(hf:v'.ownBlock=v.ownBlock\/∃g,v'.ownBlock=some g/\w.heap.size<=g):Fresh w0 w' v':=by
 have hs:=h.1.size;refine⟨h.1.trans (hk.mono λk _ hk'=> .inr (h.2 k hk')),λg hg=> ?_⟩;rcases hf with hf|⟨g',hg',hh⟩
 ·exact h.2 g (by rw [<-hf];exact hg)
 ·rw [hg'] at hg;simp only [Option.some.injEq] at hg;omega
theorem Fresh.set{w0 w:World}{v:Value}{g j:Nat}(h:Fresh w0 w v)(hg:v.ownBlock=some g)(u:Value):Fresh w0 (w.setCell ⟨g,j,none⟩ u) v:=
 ⟨h.1.trans (Keeps.setCell _ _ _ (.inr (h.2 g hg))),h.2⟩
theorem Fresh.cell{w0 w:World}{v:Value}(h:Fresh w0 w v){p:Addr}(hp:p.block<w0.heap.size):w.cell? p=w0.cell? p:=h.1.cell hp (by simp)
theorem Keeps.nt{a b c:World}(h:Keeps (λ_=>False) a b)(k:Keeps (λ_=>False) b c):Keeps (λ_=>False) a c:=h.trans (k.mono (by simp))
theorem Keeps.Am{S:Nat->Prop}{w w':World}(h:Keeps S w w'):Keeps S w w'.drew:=h.trans (Keeps.drew _)
theorem Keeps.Al{S:Nat->Prop}{w w':World}{n:Nat}(h:Keeps S w w'):Keeps S w (w'.drewN n):=h.trans (Keeps.drewN _ _)
theorem Keeps.Af{S:Nat->Prop}{w w':World}{o:Obj}(h:Keeps S w w'):Keeps S w (w'.alloc o):=h.trans (Keeps.alloc _ _)
theorem _root_.Go.World.ownsRow.of_keeps{w w':World}{base:Nat}{e:TypeId}{size:Nat}{v:Value}{n:Nat}{xs:List Value}(h:w.ownsRow base e size v n xs)(hk:Keeps (λ_=>False) w w'):w'.ownsRow base e size v n xs:=hk.row h (by simp)
section
variable {P:Program} {md:Region.Mode} {ops:Array Oper} {Q:Exit->Act->World->Prop} {S:World->Prop}
def PureAt(P:Program)(v:Value)(w:World)(r:Result Next):Prop:=
 r= .ok (.value v) w\/∃f args,r= .ok (.enter f args) w/\Calls P f args w λe w''=>e= .returned v/\w''=w
def Du(P:Program)(ops:Array Oper)(S:World->Prop)(o:Oper)(v:Value)(a:Act):Prop:=
 (Region.wanted o (yielded ops a.tmps)=true/\∀w,S w->PureAt P v w ((execOp a.eval o).run P w))\/(Region.wanted o (yielded ops a.tmps)=false/\v=undef)
theorem Du.wpOp{i:Nat}{o:Oper}{v:Value}{a:Act}(hi:ops[i]?=some o)(hy:Du P ops S o v a){K:Act->World->Prop}{w:World}(hS:S w)(h:K (a.put o.dst v) w):wpOp P ops Q i K a w:=by
 unfold Go.wpOp;rw [hi];rcases hy with⟨hw,hv⟩|⟨hw,rfl⟩
 ·show if Region.wanted o (yielded ops a.tmps)=true then _ else _;rw [if_pos hw];refine .inl ?_;unfold Oper.wp;rcases hv w hS with hr|⟨f,args,hr,hc⟩
  ·rw [hr];exact h
  ·rw [hr];refine Calls.mono hc ?_;rintro e w'' ⟨rfl,rfl⟩;exact h
 ·show if Region.wanted o (yielded ops a.tmps)=true then _ else _;rw [if_neg (by rw [hw];exact Bool.false_ne_true)];exact h
theorem Du.same{o:Oper}{v:Value}{a a':Act}(hy:Du P ops S o v a)(he:execOp a'.eval o=execOp a.eval o)(hw:Region.wanted o (yielded ops a'.tmps)=Region.wanted o (yielded ops a.tmps)):Du P ops S o v a':=by
 unfold Du;rw [he,hw];exact hy
theorem Ro{j:Nat}{oj:Oper}{d:Option Tmp}{v:Value}(hj:ops[j]?=some oj)(h1:∀t,d=some t->t∉oj.looksAt ops)(h2:∀t,d=some t->oj.dst≠some t)(hsj:∀cs b,oj.op≠ .select cs b)
  (hQ:∀c a w,Q (.panic c) (a.put d v) w->Q (.panic c) a w) {Y:Act->Prop} (hY:∀a u,Y a->Y (a.put oj.dst u)) (hYd:∀(a:Act) x,Y a->Y { a with defers:=x::a.defers }) {K:Act->World->Prop} {a:Act} {w:World}
  (hy:Y a) (h:wpOp P ops Q j K (a.put d v) w):wpOp P ops Q j (λa' w'=>Y a'/\K (a'.put d v) w') a w:=by
 have hput:∀(b:Act) u,K ((b.put d v).put oj.dst u)=K ((b.put oj.dst u).put d v):=λb u=>by rw [Act.put_comm b v u h2]
 unfold Go.wpOp at h⊢;rw [hj] at h⊢;have h':if Region.wanted oj (yielded ops (a.put d v).tmps)=true then Oper.wp P oj (a.put d v) w K Q\/(oj.asks P (a.put d v) w/\LetsOut Q) else K ((a.put d v).put oj.dst undef) w:=h;rw [wanted_put oj a d v h1] at h';show if Region.wanted oj (yielded ops a.tmps)=true then _ else _;by_cases hw:Region.wanted oj (yielded ops a.tmps)=true
 ·rw [if_pos hw] at h'⊢;rcases h' with h'|⟨ha,hl⟩
  ·refine .inl ?_;unfold Oper.wp at h'⊢;rw [execOp_put oj hsj a d v h1] at h';rcases hr:(execOp a.eval oj).run P w with⟨n,w'⟩|⟨x,w'⟩
   ·rw [hr] at h'
    cases n with
    |value u=>exact⟨hY a u hy,by rw [<-hput];exact h'⟩
    |skip=>exact⟨hY a _ hy,by rw [<-hput];exact h'⟩
    |defer x=>
     refine⟨hY _ _ (hYd a x hy), ?_⟩;rw [<-hput,<-Act.put_defers];exact h'
    |enter f args=>
     refine Calls.mono h' λe w'' he=> ?_
     cases e with
     |returned u=>exact⟨hY a u hy,by rw [<-hput];exact he⟩
     |panicked c=>exact hQ _ _ _ he
     |outgrown=>exact he
    |row f args=>exact Rows.mono h' λu w'' he=>⟨hY a u hy,by rw [<-hput];exact he⟩
    |_=>exact h'
   ·rw [hr] at h'
    cases x with
    |panic u=>exact hQ _ _ _ h'
    |_=>exact h'
  ·exact .inr ⟨by unfold Oper.asks at ha⊢;rw [execOp_put oj hsj a d v h1] at ha;exact ha,hl⟩
 ·rw [if_neg hw] at h'⊢;exact⟨hY a _ hy,by rw [<-hput];exact h'⟩
def Gr(P:Program)(md:Region.Mode)(ops:Array Oper)(Q:Exit->Act->World->Prop)(S:World->Prop)(z:Nat):Nat->Array Bool->Act->World->Prop
 |0,listed,a,w=>Region.ready md ops listed= []/\Q .normal a w
 |fuel+1,listed,a,w=>(Region.ready md ops listed= []->Q .normal a w)/\
   ∀i∈Region.ready md ops listed,wpOp P ops Q i (λa' w'=>(i=z\/S w')/\Gr P md ops Q S z fuel (listed.setIfInBounds i true) a' w') a w
theorem Ko{z:Nat}:∀(fuel:Nat) (listed:Array Bool) (a:Act) (w:World),Gr P md ops Q S z fuel listed a w->wpAny P md ops Q fuel listed a w
 |0,_,_,_,h=>h
 |fuel+1,_,_,_,h=>⟨h.1,λi hi=>wpOp_mono (λa' w' h'=>Ko fuel _ a' w' h'.2) (h.2 i hi)⟩
theorem Nc{z:Nat}{listed:Array Bool}{a:Act}{w:World}(hr:Region.ready md ops listed= [])(h:Q .normal a w):∀fuel,Gr P md ops Q S z fuel listed a w
 |0=>⟨hr,h⟩
 |_+1=>⟨λ_=>h,by rw [hr];simp⟩
def lastB(md:Region.Mode)(ops:Array Oper)(z:Nat):Bool:=match ops[z]? with
 |none=>true
 |some o=>(List.range ops.size).all λk=>k==z||o.after.any λe=>Region.binds md e&&e.on==k
theorem Nb{z i:Nat}{oi:Oper}{v:Value}(hi:ops[i]?=some oi)(hz:lastB md ops z=true)(hiz:i≠z)(hsel:∀(j:Nat) (o:Oper) cs b,ops[j]?=some o->o.op≠ .select cs b)(hQ:∀c a w,Q (.panic c) (a.put oi.dst v) w->Q (.panic c) a w):
  ∀(fuel:Nat) (listed:Array Bool) (a:Act) (w:World),i∈Region.ready md ops listed->Du P ops S oi v a->S w->
   (∀j oj,ops[j]?=some oj->j≠i->listed.getD j true=false->(∀e∈oj.after,Region.binds md e=true->e.on≠i)->oi.apart ops oj=true)->
   Gr P md ops Q S z fuel (listed.setIfInBounds i true) (a.put oi.dst v) w->Gr P md ops Q S z (fuel+1) listed a w
 |0,listed,a,w,hr,hy,hS,hfree,H=>by
  refine⟨λh=>absurd hr (by rw [h];simp),λj hj=> ?_⟩;by_cases hji:j=i
  ·subst hji;exact hy.wpOp hi hS ⟨.inr hS,H⟩
  ·have hc:=ready_mono hj hji;rw [H.1] at hc;simp at hc
 |fuel+1,listed,a,w,hr,hy,hS,hfree,H=>by
  refine⟨λh=>absurd hr (by rw [h];simp),λj hj=> ?_⟩;by_cases hji:j=i
  ·subst hji;exact hy.wpOp hi hS ⟨.inr hS,H⟩
  obtain⟨hun,oj,hoj,hall⟩:=mem_ready.1 hj;have hi0:=(mem_ready.1 hr).1
  have hno:∀e∈oj.after,Region.binds md e=true->e.on≠i:=by
   intro e he hb heq;have ht:=hall e he hb;rw [heq] at ht;rcases Nat.lt_or_ge i listed.size with hlt|hge
   ·have e1:listed.getD i true=listed[i]:=by simp [hlt]
    have e2:listed.getD i false=listed[i]:=by simp [hlt]
    rw [e1] at hi0;rw [e2,hi0] at ht;simp at ht
   ·have e2:listed.getD i false=false:=by simp [Array.getElem?_eq_none hge]
    rw [e2] at ht;simp at ht
  have hjz:j≠z:=by
   intro e;subst e;unfold lastB at hz;rw [hoj] at hz
   have hil:i<ops.size:=by
    rcases Nat.lt_or_ge i ops.size with h|h
    ·exact h
    ·rw [Array.getElem?_eq_none h] at hi;simp at hi
   have hk:=List.all_eq_true.1 hz i (List.mem_range.2 hil);simp only [Bool.or_eq_true,beq_iff_eq,Array.any_eq_true',Bool.and_eq_true] at hk;rcases hk with h|⟨e,he,hb,ho⟩
   ·exact hji h.symm
   ·exact hno e he hb ho
  obtain⟨p1,p2,p3⟩:=Oper.apart_spec (hfree j oj hoj hji hun hno);have hstep:=Ro hoj p1 p2 (hsel j oj · · hoj) hQ (Y:=Du P ops S oi v) (λa u hy=>hy.same (execOp_put oi (hsel i oi · · hi) a oj.dst u p3) (wanted_put oi a oj.dst u p3)) (λa x hy=>hy.same rfl rfl) hy (H.2 j (ready_mono hj hji));refine wpOp_mono (λa' w' h3=>⟨h3.2.1, ?_⟩) hstep;have hS':S w':=h3.2.1.resolve_left hjz
  have hfree':∀k ok,ops[k]?=some ok->k≠i->(listed.setIfInBounds j true).getD k true=false->(∀e∈ok.after,Region.binds md e=true->e.on≠i)->oi.apart ops ok=true:=by
   intro k ok hk hki hku hkn;by_cases hjk:j=k
   ·subst hjk;exact hfree j ok hk hki hun hkn
   ·rw [getD_set_ne true hjk] at hku;exact hfree k ok hk hki hku hkn
  refine Nb hi hz hiz hsel hQ fuel _ a' w' (ready_mono hr (Ne.symm hji)) h3.1 hS' hfree' ?_;rw [Array.setIfInBounds_comm _ _ hji];exact h3.2.2
inductive MO where
 |done
 |take (i:Nat) (r:MO)
 |move (i:Nat) (r:MO)
 |fork (i:Nat) (r:MO) (j:Nat) (s:MO)
 |fork3 (i:Nat) (r:MO) (j:Nat) (s:MO) (k:Nat) (u:MO)
def MO.depth:MO->Nat
 | .done=>0
 | .take _ r=>r.depth+1
 | .move _ r=>r.depth+1
 | .fork _ r _ s=>max r.depth s.depth+1
 | .fork3 _ r _ s _ u=>max (max r.depth s.depth) u.depth+1
def MO.Jo:MO->Bool
 | .done=>true
 |_=>false
def mixB(md:Region.Mode)(ops:Array Oper)(z:Nat):MO->Array Bool->Bool
 | .done,listed=>(Region.ready md ops listed).isEmpty
 | .take i r,listed=>(((Region.ready md ops listed).contains i&&Region.free md ops listed i)&&i !=z)&&mixB md ops z r (listed.setIfInBounds i true)
 | .move i r,listed=>(Region.ready md ops listed== [i]&&(i !=z||r.Jo))&&mixB md ops z r (listed.setIfInBounds i true)
 | .fork i r j s,listed=>((Region.ready md ops listed== [i,j]&&i !=z)&&j !=z)&&(mixB md ops z r (listed.setIfInBounds i true)&&mixB md ops z s (listed.setIfInBounds j true))
 | .fork3 i r j s k u,listed=>(((Region.ready md ops listed== [i,j,k]&&i !=z)&&j !=z)&&k !=z)&&(mixB md ops z r (listed.setIfInBounds i true)&&(mixB md ops z s (listed.setIfInBounds j true)&&mixB md ops z u (listed.setIfInBounds k true)))
def Mix(P:Program)(ops:Array Oper)(Q:Exit->Act->World->Prop)(S:World->Prop)(z:Nat):MO->Act->World->Prop
 | .done,a,w=>Q .normal a w
 | .take i r,a,w=>∃o v,ops[i]?=some o/\Du P ops S o v a/\Mix P ops Q S z r (a.put o.dst v) w
 | .move i r,a,w=>(∃o v,ops[i]?=some o/\Du P ops S o v a/\Mix P ops Q S z r (a.put o.dst v) w)\/wpOp P ops Q i (λa' w'=>(i=z\/S w')/\Mix P ops Q S z r a' w') a w
 | .fork i r j s,a,w=>wpOp P ops Q i (λa' w'=>(i=z\/S w')/\Mix P ops Q S z r a' w') a w/\wpOp P ops Q j (λa' w'=>(j=z\/S w')/\Mix P ops Q S z s a' w') a w
 | .fork3 i r j s k u,a,w=>wpOp P ops Q i (λa' w'=>(i=z\/S w')/\Mix P ops Q S z r a' w') a w/\wpOp P ops Q j (λa' w'=>(j=z\/S w')/\Mix P ops Q S z s a' w') a w/\wpOp P ops Q k (λa' w'=>(k=z\/S w')/\Mix P ops Q S z u a' w') a w
theorem Mix.sound{z:Nat}(hs:Region.noSelect ops=true)(hz:lastB md ops z=true)(hQ:∀(d:Option Tmp) (v:Value) c a w,Q (.panic c) (a.put d v) w->Q (.panic c) a w):
  ∀(ord:MO) (fuel:Nat) (listed:Array Bool) (a:Act) (w:World),ord.depth<=fuel->mixB md ops z ord listed=true->(ord.Jo=true\/S w)->Mix P ops Q S z ord a w->Gr P md ops Q S z fuel listed a w
 | .done,fuel,listed,a,w,_,hB,_,h=>Nc (by simpa [mixB] using hB) h _
 | .take i r,fuel,listed,a,w,hd,hB,hS,h=>by
  simp only [mixB,Bool.and_eq_true,bne_iff_ne] at hB;obtain⟨⟨⟨h1,h2⟩,hiz⟩,h3⟩:=hB;obtain⟨o,v,hi,hy,h⟩:=h;have hS':S w:=hS.resolve_left (by simp [MO.Jo])
  cases fuel with
  |zero=>simp [MO.depth] at hd
  |succ fuel=>
   refine Nb hi hz hiz (Region.noSelect_spec hs) (hQ o.dst v) fuel listed a w (by simpa using h1) hy hS' (Region.free_spec hi h2) ?_;exact Mix.sound hs hz hQ r fuel _ _ _ (by simp only [MO.depth] at hd;omega) h3 (.inr hS') h
 | .move i r,fuel,listed,a,w,hd,hB,hS,h=>by
  simp only [mixB,Bool.and_eq_true,beq_iff_eq,Bool.or_eq_true,bne_iff_ne] at hB;obtain⟨⟨h1,h2⟩,h3⟩:=hB;have hS':S w:=hS.resolve_left (by simp [MO.Jo])
  cases fuel with
  |zero=>simp [MO.depth] at hd
  |succ fuel=>
   have hd':r.depth<=fuel:=by simp only [MO.depth] at hd;omega
   refine⟨λe=>by rw [h1] at e;simp at e,λj hj=> ?_⟩;obtain rfl:j=i:=by rw [h1] at hj;simpa using hj
   rcases h with⟨o,v,hi,hy,h⟩|h
   ·exact hy.wpOp hi hS' ⟨.inr hS',Mix.sound hs hz hQ r fuel _ _ _ hd' h3 (.inr hS') h⟩
   ·refine wpOp_mono (λa' w' hh=>⟨hh.1,Mix.sound hs hz hQ r fuel _ _ _ hd' h3 ?_ hh.2⟩) h;rcases hh.1 with e|e
    ·exact .inl (h2.resolve_left λhn=>hn e)
    ·exact .inr e
 | .fork i r j s,fuel,listed,a,w,hd,hB,hS,h=>by
  simp only [mixB,Bool.and_eq_true,beq_iff_eq,bne_iff_ne] at hB;obtain⟨⟨⟨h1,hiz⟩,hjz⟩,h3,h4⟩:=hB
  cases fuel with
  |zero=>simp [MO.depth] at hd
  |succ fuel=>
   have hd1:r.depth<=fuel:=by simp only [MO.depth] at hd;omega
   have hd2:s.depth<=fuel:=by simp only [MO.depth] at hd;omega
   refine⟨λe=>by rw [h1] at e;simp at e,λk hk=> ?_⟩;rw [h1] at hk;rcases(by simpa using hk:k=i\/k=j) with rfl|rfl
   ·exact wpOp_mono (λa' w' hh=>⟨hh.1,Mix.sound hs hz hQ r fuel _ _ _ hd1 h3 (.inr (hh.1.resolve_left hiz)) hh.2⟩) h.1
   ·exact wpOp_mono (λa' w' hh=>⟨hh.1,Mix.sound hs hz hQ s fuel _ _ _ hd2 h4 (.inr (hh.1.resolve_left hjz)) hh.2⟩) h.2
 | .fork3 i r j s l u,fuel,listed,a,w,hd,hB,hS,h=>by
  simp only [mixB,Bool.and_eq_true,beq_iff_eq,bne_iff_ne] at hB;obtain⟨⟨⟨⟨h1,hiz⟩,hjz⟩,hlz⟩,h3,h4,h5⟩:=hB
  cases fuel with
  |zero=>simp [MO.depth] at hd
  |succ fuel=>
   have hd1:r.depth<=fuel:=by simp only [MO.depth] at hd;omega
   have hd2:s.depth<=fuel:=by simp only [MO.depth] at hd;omega
   have hd3:u.depth<=fuel:=by simp only [MO.depth] at hd;omega
   refine⟨λe=>by rw [h1] at e;simp at e,λk hk=> ?_⟩;rw [h1] at hk;rcases(by simpa using hk:k=i\/k=j\/k=l) with rfl|rfl|rfl
   ·exact wpOp_mono (λa' w' hh=>⟨hh.1,Mix.sound hs hz hQ r fuel _ _ _ hd1 h3 (.inr (hh.1.resolve_left hiz)) hh.2⟩) h.1
   ·exact wpOp_mono (λa' w' hh=>⟨hh.1,Mix.sound hs hz hQ s fuel _ _ _ hd2 h4 (.inr (hh.1.resolve_left hjz)) hh.2⟩) h.2.1
   ·exact wpOp_mono (λa' w' hh=>⟨hh.1,Mix.sound hs hz hQ u fuel _ _ _ hd3 h5 (.inr (hh.1.resolve_left hlz)) hh.2⟩) h.2.2
theorem Bj{id:Nat}{a:Act}{w:World}{l:List Oper}(S:World->Prop)(z:Nat)(ord:MO)(hm:P.follows .mixedOrders=true)(hB:((mixB .any l.toArray z ord (Array.replicate l.toArray.size false)&&lastB .any l.toArray z)&&(Region.noSelect l.toArray&&Nat.ble ord.depth l.toArray.size))=true)
  (hS:S w.drew) (h:∀w1,S w1->Keeps (λ_=>False) w w1->Mix P l.toArray (NoPanic Q) S z ord a w1):(Code.region id l.toArray true).wp P Q a w:=by
 simp only [Bool.and_eq_true,Nat.ble_eq] at hB;obtain⟨⟨h1,h0⟩,h2,h3⟩:=hB;exact wp_region_noPanic (wp_region_any hm (Ko _ _ _ _ (Mix.sound h2 h0 (λ_ _ _ _ _ hh=>(show False from hh).elim) ord _ _ _ _ h3 h1 (.inr hS) (h _ hS (Keeps.drew _)))))
theorem Ak{id:Nat}{a:Act}{w:World}{l:List Oper}(S:World->Prop)(ord:MO)(hm:P.follows .mixedOrders=true)(hB:((mixB .any l.toArray l.toArray.size ord (Array.replicate l.toArray.size false)&&lastB .any l.toArray l.toArray.size)&&(Region.noSelect l.toArray&&Nat.ble ord.depth l.toArray.size))=true)
  (hS:S w.drew) (h:∀w1,S w1->Keeps (λ_=>False) w w1->Mix P l.toArray (NoPanic Q) S l.toArray.size ord a w1):(Code.region id l.toArray true).wp P Q a w:=Bj S _ ord hm hB hS h
theorem Ao{z:Nat}{a:Act}{w:World}(h:Q .normal a w):Mix P ops (NoPanic Q) S z .done a w:=h
section
variable {z:Nat} {dst:Option Tmp} {op:Op} {ty:TypeId} {pos:String} {af:Array Edge} {gd:Option (Nat×Bool)} {i:Nat} {r:MO} {v:Value} {a:Act} {w:World}
theorem Gl(hi:ops[i]?=some ⟨dst,op,ty,pos,af,gd⟩)(hw:Region.wanted ⟨dst,op,ty,pos,af,gd⟩ (yielded ops a.tmps)=false)(h:Mix P ops Q S z r (a.put dst undef) w):Mix P ops Q S z (.take i r) a w:=⟨_,undef,hi,.inr ⟨hw,rfl⟩,h⟩
theorem Fb(hi:ops[i]?=some ⟨dst,op,ty,pos,af,gd⟩)(hw:Region.wanted ⟨dst,op,ty,pos,af,gd⟩ (yielded ops a.tmps)=false)(h:Mix P ops Q S z r (a.put dst undef) w):Mix P ops Q S z (.move i r) a w:= .inl ⟨_,undef,hi,.inr ⟨hw,rfl⟩,h⟩
theorem Gj(hi:ops[i]?=some ⟨dst,op,ty,pos,af,gd⟩)(hw:Region.wanted ⟨dst,op,ty,pos,af,gd⟩ (yielded ops a.tmps)=true)
  (hy:∀w,S w->(execOp a.eval ⟨dst,op,ty,pos,af,gd⟩).run P w= .ok (.value v) w) (h:Mix P ops Q S z r (a.put dst v) w):Mix P ops Q S z (.take i r) a w:=⟨_,v,hi,.inl ⟨hw,λw hS=> .inl (hy w hS)⟩,h⟩
theorem Jn(hi:ops[i]?=some ⟨dst,op,ty,pos,af,gd⟩)(hw:Region.wanted ⟨dst,op,ty,pos,af,gd⟩ (yielded ops a.tmps)=true)(f:FuncId)(args:Array Value)
  (hr:∀w,S w->(execOp a.eval ⟨dst,op,ty,pos,af,gd⟩).run P w= .ok (.enter f args) w) (hy:∀w,S w->Calls P f args w λe w''=>e= .returned v/\w=w'') (h:Mix P ops Q S z r (a.put dst v) w):Mix P ops Q S z (.take i r) a w:=
 ⟨_,v,hi,.inl ⟨hw,λw hS=> .inr ⟨f,args,hr w hS,(hy w hS).mono λ_ _ ⟨h1,h2⟩=>⟨h1,h2.symm⟩⟩⟩,h⟩
theorem Ae(hi:ops[i]?=some ⟨dst,op,ty,pos,af,gd⟩)
  (h:∀K:Act->World->Prop,Shut (∀a' w',S w'->Mix P ops Q S z r a' w'->K a' w')->if Region.wanted ⟨dst,op,ty,pos,af,gd⟩ (yielded ops a.tmps)=true then Oper.wp P ⟨dst,op,ty,pos,af,gd⟩ a w K Q else K (a.put dst undef) w):
  Mix P ops Q S z (.move i r) a w:= .inr (wpOp_step hi λK hK=>h K λa' w' hS hM=>hK a' w' ⟨.inr hS,hM⟩)
theorem Bt(hi:ops[i]?=some ⟨dst,op,ty,pos,af,gd⟩)
  (h:∀K:Act->World->Prop,Shut (∀a' w',Mix P ops Q S i r a' w'->K a' w')->if Region.wanted ⟨dst,op,ty,pos,af,gd⟩ (yielded ops a.tmps)=true then Oper.wp P ⟨dst,op,ty,pos,af,gd⟩ a w K Q else K (a.put dst undef) w):
  Mix P ops Q S i (.move i r) a w:= .inr (wpOp_step hi λK hK=>h K λa' w' hM=>hK a' w' ⟨.inl rfl,hM⟩)
theorem mix_to{i:Nat}{r:MO}(h:Mix P ops Q S z (.move i r) a w)(hS:S w):wpOp P ops Q i (λa' w'=>(i=z\/S w')/\Mix P ops Q S z r a' w') a w:=by
 rcases h with⟨o,v,hi,hy,h⟩|h
 ·exact hy.wpOp hi hS ⟨.inr hS,h⟩
 ·exact h
theorem Rw{j k:Nat}{s u:MO}(h1:Mix P ops Q S z (.move i r) a w)(h2:Mix P ops Q S z (.move j s) a w)(h3:Mix P ops Q S z (.move k u) a w)(hS:S w):Mix P ops Q S z (.fork3 i r j s k u) a w:=⟨mix_to h1 hS,mix_to h2 hS,mix_to h3 hS⟩
theorem Bz{j:Nat}{s:MO}(h1:Mix P ops Q S z (.move i r) a w)(h2:Mix P ops Q S z (.move j s) a w)(hS:S w):Mix P ops Q S z (.fork i r j s) a w:=by
 refine⟨?_, ?_⟩
 ·rcases h1 with⟨o,v,hi,hy,h⟩|h
  ·exact hy.wpOp hi hS ⟨.inr hS,h⟩
  ·exact h
 ·rcases h2 with⟨o,v,hi,hy,h⟩|h
  ·exact hy.wpOp hi hS ⟨.inr hS,h⟩
  ·exact h
end
end
theorem jR{T P:Prop}(c:T)(h:T->P:=by intro c;(repeat ((first|refine Gl rfl (by rfl) ?_|refine Fb rfl (by rfl) ?_|(refine Gj (v:= ?_) rfl (by rfl) ?_ ?_;rotate_left;(· intro w' hSw;(try have hSw:=And.intro hSw.1 hSw.2);go_simp;(try with_reducible rfl));rotate_right));try simp only [aps]));exact c):P:=h c
section
variable {α:Type} {f:α->List Value} {size:Nat} (hf:∀x,(f x).length=size)
include hf
theorem Yk(L:List α)(k:Nat):(L.flatMap f).take (k*size)=(L.take k).flatMap f:=by
 induction L generalizing k with
 |nil=>simp
 |cons a l ih=>
  cases k with
  |zero=>simp
  |succ k=>
   rw [List.flatMap_cons,List.take_succ_cons,List.flatMap_cons,<-ih,Nat.succ_mul,Nat.add_comm,<-hf a,List.take_length_add_append]
theorem Qo(L:List α)(k:Nat):(L.flatMap f).drop (k*size)=(L.drop k).flatMap f:=by
 induction L generalizing k with
 |nil=>simp
 |cons a l ih=>
  cases k with
  |zero=>simp
  |succ k=>
   rw [List.flatMap_cons,List.drop_succ_cons,<-ih,Nat.succ_mul,Nat.add_comm,<-hf a,List.drop_length_add_append]
theorem Reads.preL{w:World}{n c:Nat}{ad:Option Addr}{L:List α}(h:Reads w size (.slice ad n c) n (L.flatMap f))(k:Nat)(hk:k<=n):Reads w size (.slice ad k c) k ((L.take k).flatMap f):=by
 rw [<-Yk hf];exact h.pre k hk
theorem Reads.sufL{w:World}{n c g o:Nat}{L:List α}(h:Reads w size (.slice (some ⟨g,o,none⟩) n c) n (L.flatMap f))(k:Nat)(hk:k<=n):Reads w size (.slice (some ⟨g,o+k*size,none⟩) (n-k) (c-k)) (n-k) ((L.drop k).flatMap f):=by
 rw [<-Qo hf];exact h.suf k hk
end
theorem Nu{P:Program}{a:Act}{w:World}{Q:Exit->Act->World->Prop}{c rest:Code}(l:Nat)(J:Act->World->Prop)(M:Act->World->Nat)(hf:findLabel c l=some rest)
  (round:∀a w,J a w->rest.wp P (Exit.jump l (λa' w'=>J a' w'/\M a' w'<M a w) Q) a w)
  (first:(∀a w,J a w->rest.wp P (Exit.jump l J Q) a w)->c.wp P (Exit.jump l J Q) a w):(Code.scope c).wp P Q a w:=by
 refine wp_scope_jumps l J M hf (first λa w hJ=>Code.wp_mono ?_ (round a w hJ)) round;intro e a' w' h
 cases e with
 |goto k=>exact⟨h.1,h.2.1⟩
 |_=>exact h
theorem Reads.litAt(w:World)(cs:Array Value)(e:TypeId)(size n B:Nat)(hB:B=w.heap.size)(hs:cs.size=n*size):Reads (w.alloc (.cells cs e)) size (.slice (some ⟨B,0,none⟩) n n) n cs.toList:=by subst hB;exact Reads.lit w cs e size n hs
def i64c(z:Int):List Value:= [.int .i64 z]
theorem Bg(z:Int):(i64c z).length=1:=rfl
theorem Bo(L:List Int):∀u∈L.flatMap i64c,u.oneCell'=true:=by
 intro u hu;obtain⟨d,_,hd⟩:=List.mem_flatMap.1 hu;simp only [i64c,List.mem_cons,List.not_mem_nil,or_false] at hd;subst hd;rfl
def bt(B:List Int)(k:Nat):Int:=B.getD k 0
theorem Reads.lt{w:World}{size:Nat}{x:Value}{m:Nat}{news:List Value}(h:Reads w size x m news)(hn:news≠ []):∃g,x.ownBlock=some g/\g<w.heap.size:=by
 obtain⟨ad,c,rfl,h1,h2,h3,h4⟩:=h;rcases news with _|⟨u,news⟩
 ·exact absurd rfl hn
 ·obtain⟨g,o,rfl,hc⟩:=h4 0 u rfl;exact⟨g,rfl,Ai hc⟩
section
structure Tn where
 rate:Int
 grace:Bool
deriving DecidableEq,Inhabited
def Tn.cells(d:Tn):List Value:= [.int .i64 d.rate,.bool d.grace]
theorem Tn.Aq(d:Tn):d.cells.length=2:=rfl
theorem Tn.one(L:List Tn):∀u∈L.flatMap Tn.cells,u.oneCell'=true:=by
 intro u hu;obtain⟨d,_,hd⟩:=List.mem_flatMap.1 hu;simp only [Tn.cells,List.mem_cons,List.not_mem_nil,or_false] at hd;rcases hd with rfl|rfl<;>rfl
structure Ev where
 kind:Int
 day:Int
 tranche:Int
 amount:Int
 ref:Int
deriving DecidableEq,Inhabited
def Ev.cells(d:Ev):List Value:= [.int .i64 d.kind,.int .i64 d.day,.int .i64 d.tranche,.int .i64 d.amount,.int .i64 d.ref]
theorem Ev.Aq(d:Ev):d.cells.length=5:=rfl
theorem Ev.one(L:List Ev):∀u∈L.flatMap Ev.cells,u.oneCell'=true:=by
 intro u hu;obtain⟨d,_,hd⟩:=List.mem_flatMap.1 hu;simp only [Ev.cells,List.mem_cons,List.not_mem_nil,or_false] at hd;rcases hd with rfl|rfl|rfl|rfl|rfl<;>rfl
structure Tm where
 limit:Int
 cyc:Int
 due:Int
 minFixed:Int
 minPart:Int
 start:Int
 trs:List Tn
def Tm.val(t:Tm)(v:Value):Value:= .agg #[.int .i64 t.limit,v,.int .i64 t.cyc,.int .i64 t.due,.int .i64 t.minFixed,.int .i64 t.minPart,.int .i64 t.start]
def Ev.agg(e:Ev):Value:= .agg #[.int .i64 e.kind,.int .i64 e.day,.int .i64 e.tranche,.int .i64 e.amount,.int .i64 e.ref]
def inB(v a b:Int):Bool:=decide (a<=v)&&decide (v<=b)
def Tn.okB(x:Tn):Bool:=inB x.rate 0 10000000
def Tm.okB(t:Tm):Bool:=inB t.limit 0 1000000000000000&&inB t.trs.length 1 8&&t.trs.all Tn.okB&&(inB t.cyc 1 28&&inB t.due 1 25&&inB t.minFixed 0 1000000000000000&&inB t.minPart 0 1000&&inB t.start (-135140) 2922896)
def Tm.err(t:Tm):Int:=if t.okB then 0 else 6
theorem Qu(v a b:Int)(w:World):Calls Tryz.prog 119 #[.int .i64 v,.int .i64 a,.int .i64 b] w λe w'=>e= .returned (.bool (inB v a b))/\w=w':=by
 by_cases h1:a<=v
 ·by_cases h2:v<=b
  ·have h:inB v a b=true:=by simp [inB,h1,h2]
   exact j1G
  ·have h:inB v a b=false:=by simp [inB,h2]
   have h2':b<v:=j3;exact j1G
 ·have h:inB v a b=false:=by simp [inB,h1]
  have h1':v<a:=j3;exact j1G
theorem Bw{v a b:Int}{r:Bool}(hr:inB v a b=r)(w:World):Calls Tryz.prog 119 #[.int .i64 v,.int .i64 a,.int .i64 b] w λe w'=>e= .returned (.bool r)/\w=w':=by
 subst hr;exact Qu v a b w
theorem Qy(v a b:Int)(w:World):Calls Tryz.prog 101 #[.int .i64 v,.int .i64 a,.int .i64 b] w λe w'=>e= .returned (.bool (inB v a b))/\w=w':=by
 by_cases h1:a<=v
 ·by_cases h2:v<=b
  ·have h:inB v a b=true:=by simp [inB,h1,h2]
   exact j1H
  ·have h:inB v a b=false:=by simp [inB,h2]
   have h2':b<v:=j3;exact j1H
 ·have h:inB v a b=false:=by simp [inB,h1]
  have h1':v<a:=j3;exact j1H
theorem Au{v a b:Int}{r:Bool}(hr:inB v a b=r)(w:World):Calls Tryz.prog 101 #[.int .i64 v,.int .i64 a,.int .i64 b] w λe w'=>e= .returned (.bool r)/\w=w':=by
 subst hr;exact Qy v a b w
theorem Nf(t:Tm)(ad:Option Addr)(cap:Nat)(w:World)(hr:Reads w 2 (.slice ad t.trs.length cap) t.trs.length (t.trs.flatMap Tn.cells))(hl:t.trs.length<=1000000):
  Calls Tryz.prog 60 #[t.val (.slice ad t.trs.length cap)] w λe w'=>e= .returned (.int .i64 t.err)/\Keeps (λ_=>False) w w':=by
 obtain⟨li,cy,du,mf,mp,st,L⟩:=t;simp only [Tm.val] at hr hl⊢;rcases b1:inB li 0 1000000000000000 with _|_
 ·have hf:Tm.err ⟨li,cy,du,mf,mp,st,L⟩=6:=by simp [Tm.err,Tm.okB,b1]
  obtain⟨Hr,Hf,B1⟩:=hid3 hr hf b1;clear b1 hf hr;exact j1I
 obtain⟨n,hn⟩:∃n,L.length=n:=⟨_,rfl⟩
 have hf0:Tm.err ⟨li,cy,du,mf,mp,st,L⟩=if(inB (n:Int) 1 8&&L.all Tn.okB&&(inB cy 1 28&&inB du 1 25&&inB mf 0 1000000000000000&&inB mp 0 1000&&inB st (-135140) 2922896))=true then 0 else 6:=by
  simp only [Tm.err,Tm.okB,b1,hn,Bool.true_and]
 rw [hn] at hr hl⊢;by_cases l1:n<1
 ·have hf:Tm.err ⟨li,cy,du,mf,mp,st,L⟩=6:=by rw [hf0];have:inB (n:Int) 1 8=false:=(by simp [inB];omega);simp [this]
  obtain rfl:n=0:=by omega
  obtain⟨Hr,Hf,B1,Hf0,Hn⟩:=hid5 hr hf b1 hf0 hn;clear hn hf0 b1 hf hr;exact j1I
 by_cases l2:8<n
 ·have hf:Tm.err ⟨li,cy,du,mf,mp,st,L⟩=6:=by rw [hf0];have:inB (n:Int) 1 8=false:=(by simp [inB];omega);simp [this]
  have l2':(8:Int)<(n:Int):=j3;obtain⟨Hr,Hf,B1,Hf0,Hn⟩:=hid5 hr hf b1 hf0 hn;clear hn hf0 b1 hf hr;exact j1I
 have l1':(1:Int)<=(n:Int):=j3;have l2':(n:Int)<=8:=j3;have b2:inB (n:Int) 1 8=true:=by simp [inB];omega
 rw [b2,Bool.true_and] at hf0;have hbox:=j39;obtain⟨Hr,B1,B2,Hf0,Hn,Hbox⟩:=hid6 hr b1 b2 hf0 hn hbox;clear hbox hn hf0 b2 b1 hr;go_enter Tryz.func60,Tryz.ntmps60;go_wp2;refine Bi 0 rfl ?_
 go_wp2_with (go_at_call 119;((with_reducible refine(Bw B1.out _).mono ?_);rintro e w1 ⟨rfl,rfl⟩))
 go_loopw [24] (λc wr=>∃j:Nat,j<=n/\c= .int .i64 (j:Nat)/\(L.take j).all Tn.okB=true/\Keeps (λ_=>False) w wr/\wr.heap[w.heap.size]?=some (.cells #[.int .i64 li,.slice ad n cap,.int .i64 cy,.int .i64 du,.int .i64 mf,.int .i64 mp,.int .i64 st] 24 (0,0))) (λc _=>n-(intOf c).toNat)
 case atStart=>exact⟨0,Nat.zero_le _,rfl,rfl,Keeps.alloc _ _,Hbox.out⟩
 case round=>
  obtain⟨j,hj,rfl,hok,hk,hb⟩:=hrel;have hbl:=lt_of_block hb;by_cases hjl:j<n
  ·obtain⟨⟨xr,xg⟩,hx⟩:=Aj (L:=L) (k:=j) (by rw [Hn.out];exact hjl);obtain⟨g,o,c,he,hc⟩:=(Hr.out.keeps hk (by simp)).elem Tn.Aq hx j2;simp only [Value.slice.injEq,true_and] at he;obtain⟨rfl,rfl⟩:=he;have x0:wr.cell? ⟨g,o+j*2,none⟩=some (.int .i64 xr):=hc 0 j2;have x1:wr.cell? ⟨g,o+j*2+1,none⟩=some (.bool xg):=hc 1 j2;have hgl:=Ai x0;clear hc;rcases b3:inB xr 0 10000000 with _|_
   ·have hall:L.all Tn.okB=false:=by
     rw [Bool.eq_false_iff];intro hm;have:=List.all_eq_true.1 hm _ (List.mem_of_getElem? hx);simp only [Tn.okB,b3] at this;simp at this
    have hf:Tm.err ⟨li,cy,du,mf,mp,st,L⟩=6:=by rw [Hf0.out,hall];simp
    obtain⟨Hx,Hok,Hk,Hb,B3,Hall,Hf⟩:=hid7 hx hok hk hb b3 hall hf;clear hf hall b3 hb hk hok hx
    go_wp2_with (go_at_call 119;((with_reducible refine(Bw B3.out _).mono ?_);rintro e w1 ⟨rfl,rfl⟩))
    go_step3;go_wp2;refine Bn ?_;go_wp2;rw [Exit.noGoto_ret];go_ret;exact⟨by rw [Hf.out];rfl,Hk.out.nt j8⟩
   ·have hok':(L.take (j+1)).all Tn.okB=true:=by rw [take_snoc' hx,List.all_append,hok];simp [Tn.okB,b3]
    obtain⟨Hx,Hok,Hk,Hb,B3,Hok'⟩:=hid6 hx hok hk hb b3 hok';clear hok' b3 hb hk hok hx
    go_wp2_with (go_at_call 119;((with_reducible refine(Bw B3.out _).mono ?_);rintro e w1 ⟨rfl,rfl⟩))
    go_roundw
    case rel=>exact⟨j+1,by omega,by go_num,Hok'.out,Hk.out.nt j8,Ap Hb.out _⟩
    case measure=>simp [intOf];omega
  ·obtain rfl:j=n:=by omega
   have hall:L.all Tn.okB=true:=by rw [List.take_of_length_le jS] at hok;exact hok
   have hf1:=Hf0.out;rw [hall,Bool.true_and] at hf1;refine j3a ?_;intro c2 c3 c4 c5 c6;have f1:inB cy 1 28=(decide (1<=cy)&&decide (cy<=28)):=rfl;have f2:inB du 1 25=(decide (1<=du)&&decide (du<=25)):=rfl;have f3:inB st (-135140) 2922896=(decide (-135140<=st)&&decide (st<=2922896)):=rfl;have F1:=Lib.hid f1;clear f1;have F2:=Lib.hid f2;clear f2;have F3:=Lib.hid f3;clear f3;by_cases q:cy<1
   ·have hz:inB cy 1 28=false:=by rw [F1.out];simp;omega
    exact j0G
   have p1:1<=cy:=j3;clear q;by_cases q:28<cy
   ·have hz:inB cy 1 28=false:=by rw [F1.out];simp;omega
    exact j0G
   have p2:cy<=28:=j3;clear q;by_cases q:du<1
   ·have hz:inB du 1 25=false:=by rw [F2.out];simp;omega
    exact j0G
   have p3:1<=du:=j3;clear q;by_cases q:25<du
   ·have hz:inB du 1 25=false:=by rw [F2.out];simp;omega
    exact j0G
   have p4:du<=25:=j3;clear q;rcases bf:inB mf 0 1000000000000000 with _|_
   ·have hf:Tm.err ⟨li,cy,du,mf,mp,st,L⟩=6:=by rw [hf1,bf];simp
    obtain⟨Hok,Hk,Hb,Hall,Hf,Hf1,Bf⟩:=hid7 hok hk hb hall hf hf1 bf;clear bf hf1 hf hall hb hk hok
    go_wp2_with (go_at_call 119;((with_reducible refine(Bw Bf.out _).mono ?_);rintro e w1 ⟨rfl,rfl⟩))
    go_step3;go_wp2;refine Bu ?_;exact jD
   rcases bp:inB mp 0 1000 with _|_
   ·have hf:Tm.err ⟨li,cy,du,mf,mp,st,L⟩=6:=by rw [hf1,bp];simp
    obtain⟨Hok,Hk,Hb,Hall,Hf,Hf1,Bf,Bp⟩:=hid8 hok hk hb hall hf hf1 bf bp;clear bp bf hf1 hf hall hb hk hok;exact j3b
   by_cases q:st< -135140
   ·exact j3c
   have p5: -135140<=st:=j3;clear q;by_cases q:2922896<st
   ·exact j3c
   have p6:st<=2922896:=j3;clear q;have hf:Tm.err ⟨li,cy,du,mf,mp,st,L⟩=0:=by rw [hf1,bf,bp,F1.out,F2.out,F3.out];simp;omega
   obtain⟨Hok,Hk,Hb,Hall,Hf,Hf1,Bf,Bp⟩:=hid8 hok hk hb hall hf hf1 bf bp;clear bp bf hf1 hf hall hb hk hok
   go_wp2_with (first|(go_at_call 119;((with_reducible refine(Bw Bf.out _).mono ?_);rintro e w1 ⟨rfl,rfl⟩))|(go_at_call 119;((with_reducible refine(Bw Bp.out _).mono ?_);rintro e w1 ⟨rfl,rfl⟩)))
   refine Bu ?_;exact jD
open Go.ChangeShapes Go.WideShapes Go.RowKit Go.Deep
def Ev.wf(a:Ev):Prop:=(Lit.int .i64 a.kind).wf=true/\(Lit.int .i64 a.day).wf=true/\(Lit.int .i64 a.tranche).wf=true/\(Lit.int .i64 a.amount).wf=true/\(Lit.int .i64 a.ref).wf=true
theorem open_Ev{H:Type}{enc:TypeId×Value->H}{w:World}{spare:Nat->Bool}{held:Bool}(n:Nat)(cs:List Value)(d:DataW H×List MemPlace)(h:DataW.trod enc Tryz.prog w 0 spare held n 32 cs=some d):∃a:Ev,cs=a.cells/\a.wf:=by
 obtain⟨xs,m,rfl,_,hlen,hxs,hf⟩:=DataW.trod_struct Tryz.underlying32 h;have hl:cs.length=5:=hlen.trans j4;have hx:xs.length=5:=hxs;have g0:=hf 0 _ rfl;rw [show Tryz.prog.cellsOf _=1 from by kernel_rfl,List.getElem?_eq_getElem (show 0<xs.length by omega)] at g0;have g1:=hf 1 _ rfl;rw [show Tryz.prog.cellsOf _=1 from by kernel_rfl,List.getElem?_eq_getElem (show 1<xs.length by omega)] at g1;have g2:=hf 2 _ rfl;rw [show Tryz.prog.cellsOf _=1 from by kernel_rfl,List.getElem?_eq_getElem (show 2<xs.length by omega)] at g2;have g3:=hf 3 _ rfl;rw [show Tryz.prog.cellsOf _=1 from by kernel_rfl,List.getElem?_eq_getElem (show 3<xs.length by omega)] at g3;have g4:=hf 4 _ rfl;rw [show Tryz.prog.cellsOf _=1 from by kernel_rfl,List.getElem?_eq_getElem (show 4<xs.length by omega)] at g4
 match cs,hl with
 | [c0,c1,c2,c3,c4],_=>
  obtain⟨a0,e0,_,w0⟩:=DataW.trod_int Tryz.underlying3 g0;simp at e0;subst e0;obtain⟨a1,e1,_,w1⟩:=DataW.trod_int Tryz.underlying3 g1;simp at e1;subst e1;obtain⟨a2,e2,_,w2⟩:=DataW.trod_int Tryz.underlying3 g2;simp at e2;subst e2;obtain⟨a3,e3,_,w3⟩:=DataW.trod_int Tryz.underlying2 g3;simp at e3;subst e3;obtain⟨a4,e4,_,w4⟩:=DataW.trod_int Tryz.underlying3 g4;simp at e4;subst e4;exact⟨⟨a0,a1,a2,a3,a4⟩,rfl,w0,w1,w2,w3,w4⟩
def Tn.wf(a:Tn):Prop:=(Lit.int .i64 a.rate).wf=true/\True
theorem open_Tn{H:Type}{enc:TypeId×Value->H}{w:World}{spare:Nat->Bool}{held:Bool}(n:Nat)(cs:List Value)(d:DataW H×List MemPlace)(h:DataW.trod enc Tryz.prog w 0 spare held n 100 cs=some d):∃a:Tn,cs=a.cells/\a.wf:=by
 obtain⟨xs,m,rfl,_,hlen,hxs,hf⟩:=DataW.trod_struct Tryz.underlying100 h;have hl:cs.length=2:=hlen.trans j4;have hx:xs.length=2:=hxs;have g0:=hf 0 _ rfl;rw [show Tryz.prog.cellsOf _=1 from by kernel_rfl,List.getElem?_eq_getElem (show 0<xs.length by omega)] at g0;have g1:=hf 1 _ rfl;rw [show Tryz.prog.cellsOf _=1 from by kernel_rfl,List.getElem?_eq_getElem (show 1<xs.length by omega)] at g1
 match cs,hl with
 | [c0,c1],_=>
  obtain⟨a0,e0,_,w0⟩:=DataW.trod_int Tryz.underlying2 g0;simp at e0;subst e0;obtain⟨a1,e1,_⟩:=DataW.trod_bool Tryz.underlying4 g1;simp at e1;subst e1;exact⟨⟨a0,a1⟩,rfl,w0,trivial⟩
def Tm.list(t:Tm)(ad:Option Addr)(cap:Nat):List Value:= [.int .i64 t.limit,.slice ad t.trs.length cap,.int .i64 t.cyc,.int .i64 t.due,.int .i64 t.minFixed,.int .i64 t.minPart,.int .i64 t.start]
def Tm.wf(t:Tm):Prop:=(Lit.int .i64 t.limit).wf=true/\(Lit.int .i64 t.start).wf=true
theorem open_Tm{H:Type}{enc:TypeId×Value->H}{w:World}{spare:Nat->Bool}{held:Bool}(n:Nat)(cs:List Value)(d:DataW H×List MemPlace)(h:DataW.trod enc Tryz.prog w 0 spare held n 24 cs=some d):
  ∃(s:Tm) (ad:Option Addr) (cap:Nat),cs=s.list ad cap/\
   Reads w 2 (.slice ad s.trs.length cap) s.trs.length (s.trs.flatMap Tn.cells)/\s.trs.length<=maxLen:=by
 obtain⟨xs,m,rfl,_,hlen,hxs,hf⟩:=DataW.trod_struct Tryz.underlying24 h;have hl:cs.length=7:=hlen.trans j4;have hx:xs.length=7:=hxs;have g0:=hf 0 _ rfl;have g1:=hf 1 _ rfl;have g2:=hf 2 _ rfl;have g3:=hf 3 _ rfl;have g4:=hf 4 _ rfl;have g5:=hf 5 _ rfl;have g6:=hf 6 _ rfl;rw [show Tryz.prog.cellsOf _=1 from by kernel_rfl,List.getElem?_eq_getElem (show 0<xs.length by omega)] at g0;rw [show Tryz.prog.cellsOf _=1 from by kernel_rfl,List.getElem?_eq_getElem (show 1<xs.length by omega)] at g1;rw [show Tryz.prog.cellsOf _=1 from by kernel_rfl,List.getElem?_eq_getElem (show 2<xs.length by omega)] at g2;rw [show Tryz.prog.cellsOf _=1 from by kernel_rfl,List.getElem?_eq_getElem (show 3<xs.length by omega)] at g3;rw [show Tryz.prog.cellsOf _=1 from by kernel_rfl,List.getElem?_eq_getElem (show 4<xs.length by omega)] at g4;rw [show Tryz.prog.cellsOf _=1 from by kernel_rfl,List.getElem?_eq_getElem (show 5<xs.length by omega)] at g5;rw [show Tryz.prog.cellsOf _=1 from by kernel_rfl,List.getElem?_eq_getElem (show 6<xs.length by omega)] at g6
 match cs,hl with
 | [c0,c1,c2,c3,c4,c5,c6],_=>
  obtain⟨a0,e0,_,w0⟩:=DataW.trod_int Tryz.underlying2 g0;simp at e0;subst e0
  obtain⟨ad,len,cap,e4⟩:∃ad len cap,c1= .slice ad len cap:=by
   rcases open_slice Tryz.underlying22 g1 with⟨h0,_⟩|⟨a,len',cap',m,n,D,Pl,h0,_⟩
   ·simp at h0;exact⟨_,_,_,h0⟩
   ·simp at h0;exact⟨_,_,_,h0⟩
  subst e4;obtain⟨L,hLl,hr,_,hm⟩:=Qh (f:=Tn.cells) (size:=2) Tn.Aq j2 Tryz.underlying22 j4 (λn cs d hd=>open_Tn n cs d hd) g1;subst hLl;obtain⟨a2,e2,_,w2⟩:=DataW.trod_int Tryz.underlying3 g2;simp at e2;subst e2;obtain⟨a3,e3,_,w3⟩:=DataW.trod_int Tryz.underlying3 g3;simp at e3;subst e3;obtain⟨a4,e4,_,w4⟩:=DataW.trod_int Tryz.underlying2 g4;simp at e4;subst e4;obtain⟨a5,e5,_,w5⟩:=DataW.trod_int Tryz.underlying2 g5;simp at e5;subst e5;obtain⟨a6,e6,_,w6⟩:=DataW.trod_int Tryz.underlying3 g6;simp at e6;subst e6;exact⟨⟨a0,a2,a3,a4,a5,a6,L⟩,ad,cap,rfl,hr,hm⟩
def Eh(hi:Bool)(a b:Int):Bool:=if hi=true then decide (b<a) else decide (a<b)
def rt(R:List Int)(k:Int):Int:=R.getD (k-1).toNat 0
def plR(hi:Bool)(R:List Int)(r:Int)(O:List Int):Nat->Nat
 |0=>0
 |k+1=>if Eh hi r (rt R (O.getD k 0))=true then plR hi R r O k else k+1
def insR(hi:Bool)(R:List Int)(n:Nat)(O:List Int):List Int:=O.take (plR hi R (R.getD n 0) O O.length)++ [(n:Int)+1]++O.drop (plR hi R (R.getD n 0) O O.length)
def rankN(hi:Bool)(R:List Int):Nat->List Int
 |0=> []
 |n+1=>insR hi R n (rankN hi R n)
def rankL(hi:Bool)(R:List Int):List Int:=rankN hi R R.length
theorem plR_le(hi:Bool)(R:List Int)(r:Int)(O:List Int):∀k,plR hi R r O k<=k
 |0=>Nat.le_refl _
 |k+1=>by
  unfold plR
  split
  ·exact Nat.le_succ_of_le (plR_le hi R r O k)
  ·exact Nat.le_refl _
theorem Wl(hi:Bool)(R:List Int)(n:Nat)(O:List Int):(insR hi R n O).length=O.length+1:=by
 have:=plR_le hi R (R.getD n 0) O O.length;simp only [insR,List.length_append,List.length_take,List.length_drop,List.length_cons,List.length_nil];omega
theorem Cz(hi:Bool)(R:List Int):∀n,(rankN hi R n).length=n
 |0=>rfl
 |n+1=>by unfold rankN;rw [Wl,Cz hi R n]
theorem Dn(hi:Bool)(R:List Int):(rankL hi R).length=R.length:=Cz hi R _
theorem mem_insR{hi:Bool}{R:List Int}{n:Nat}{O:List Int}{x:Int}(h:x∈insR hi R n O):x∈O\/x=(n:Int)+1:=by
 unfold insR at h;rcases List.mem_append.1 h with h|h
 ·rcases List.mem_append.1 h with h|h
  ·exact .inl (List.mem_of_mem_take h)
  ·exact .inr (List.mem_singleton.1 h)
 ·exact .inl (List.mem_of_mem_drop h)
theorem Dc{hi:Bool}{R:List Int}:∀{n:Nat} {x:Int},x∈rankN hi R n->1<=x/\x<=n
 |0,x,h=>by simp [rankN] at h
 |n+1,x,h=>by
  rcases mem_insR h with h|h
  ·have:=Dc h;omega
  ·omega
theorem Nj(hi:Bool)(R:List Int):∀n,(rankN hi R n).Nodup
 |0=>List.nodup_nil
 |n+1=>by
  have ih:=Nj hi R n;have hm:=λx=>Dc (hi:=hi) (R:=R) (n:=n) (x:=x);unfold rankN insR;obtain⟨O,hO⟩:∃O,rankN hi R n=O:=⟨_,rfl⟩;rw [hO] at ih hm⊢;obtain⟨p,hp⟩:∃p,plR hi R (R.getD n 0) O O.length=p:=⟨_,rfl⟩;rw [hp];rw [<-List.take_append_drop p O,List.nodup_append] at ih;obtain⟨h1,h2,h3⟩:=ih;rw [List.append_assoc,List.nodup_append];refine⟨h1, ?_,λa ha b hb=> ?_⟩
  ·show List.Nodup (_::_);rw [List.nodup_cons];exact⟨λh=>by have:=(hm _ (List.mem_of_mem_drop h)).2;omega,h2⟩
  ·rcases List.mem_cons.1 (show b∈_::_ from hb) with rfl|hb
   ·intro e;have:=(hm _ (List.mem_of_mem_take ha)).2;omega
   ·exact h3 a ha b hb
def minI(a b:Int):Int:=if a<=b then a else b
def intoS(B:List Int):List Int->List Int×Int->List Int×Int
 | [],s=>s
 |k::O,s=>intoS B O (s.1.set (k-1).toNat (minI s.2 (B.getD (k-1).toNat 0)),s.2-minI s.2 (B.getD (k-1).toNat 0))
def intoL(B O:List Int)(a:Int):List Int×Int:=intoS B O (List.replicate B.length 0,a)
theorem Gz(B:List Int):∀(O:List Int) (s:List Int×Int),(intoS B O s).1.length=s.1.length
 | [],s=>rfl
 |k::O,s=>by unfold intoS;rw [Gz B O];simp
theorem Cb(B O:List Int)(a:Int):(intoL B O a).1.length=B.length:=by unfold intoL;rw [Gz];simp
def Az(v:Int):Bool:=decide (0<=v)&&decide (v<=1000000000000000)
theorem Aw(v:Int):Az v=true↔0<=v/\v<=1000000000000000:=by simp [Az]
theorem Wh{B:List Int}(hB:∀x∈B,0<=x):∀(O:List Int) (s:List Int×Int),0<=s.2->(∀j x,s.1[j]?=some x->0<=x/\x<=B.getD j 0)->(∀k∈O,1<=k/\k<=s.1.length)->s.1.length=B.length->
  0<=(intoS B O s).2/\(intoS B O s).2<=s.2/\∀j x,(intoS B O s).1[j]?=some x->0<=x/\x<=B.getD j 0
 | [],s,h0,h1,_,_=>⟨h0,Int.le_refl _,h1⟩
 |k::O,s,h0,h1,hk,hl=>by
  have hkk:=hk k (List.mem_cons_self ..)
  have hb:0<=B.getD (k-1).toNat 0:=by
   rw [List.getD_eq_getElem?_getD,List.getElem?_eq_getElem (by omega)];exact hB _ (List.getElem_mem _)
  have hm:0<=minI s.2 (B.getD (k-1).toNat 0)/\minI s.2 (B.getD (k-1).toNat 0)<=s.2/\minI s.2 (B.getD (k-1).toNat 0)<=B.getD (k-1).toNat 0:=by unfold minI;split<;>omega
  unfold intoS
  obtain⟨e1,e2,e3⟩:=Wh hB O (s.1.set (k-1).toNat (minI s.2 (B.getD (k-1).toNat 0)),s.2-minI s.2 (B.getD (k-1).toNat 0)) (by show 0<=_-_;omega) (λj x hj=>by
   simp only [List.getElem?_set] at hj
   split at hj
   ·rename_i he
    split at hj
    ·simp only [Option.some.injEq] at hj;subst hj;subst he;exact⟨hm.1,hm.2.2⟩
    ·cases hj
   ·exact h1 j x hj) (λz hz=>by have:=hk z (List.mem_cons_of_mem _ hz);simpa using this) (by simpa using hl)
  exact⟨e1,by have:(intoS B O (s.1.set (k-1).toNat (minI s.2 (B.getD (k-1).toNat 0)),s.2-minI s.2 (B.getD (k-1).toNat 0))).2<=s.2-minI s.2 (B.getD (k-1).toNat 0):=e2;omega,e3⟩
theorem Ef{B O:List Int}{a:Int}(hB:∀x∈B,0<=x)(ha:0<=a)(hO:∀k∈O,1<=k/\k<=B.length):0<=(intoL B O a).2/\(intoL B O a).2<=a/\∀j x,(intoL B O a).1[j]?=some x->0<=x/\x<=B.getD j 0:=by
 unfold intoL;refine Wh hB O _ ha (λj x hj=> ?_) (λk hk=>by have:=hO k hk;simpa using this) (by simp);rw [List.getElem?_replicate] at hj
 split at hj
 ·rename_i hlt;simp only [Option.some.injEq] at hj;subst hj;refine⟨Int.le_refl _, ?_⟩;rw [List.getD_eq_getElem?_getD,List.getElem?_eq_getElem hlt];exact hB _ (List.getElem_mem _)
 ·cases hj
theorem Db{P:Program}{a:Act}{w:World}{Q:Exit->Act->World->Prop}{c rest:Code}(l:Nat)(J:Act->World->Prop)(M:Act->World->Nat)(hf:findLabel c l=some (Code.skip.seq rest))
  (round:∀a w,J a w->rest.wp P (Exit.jump l (λa' w'=>J a' w'/\M a' w'<M a w) Q) a w)
  (first:(∀a w,J a w->rest.wp P (Exit.jump l J Q) a w)->c.wp P (Exit.jump l J Q) a w):(Code.scope c).wp P Q a w:=by
 refine Nu l J M hf (λa w hJ=>wp_seq (wp_skip (round a w hJ))) λ_=>first λa w hJ=>Code.wp_mono ?_ (round a w hJ);intro e a' w' h
 cases e with
 |goto k=>exact⟨h.1,h.2.1⟩
 |_=>exact h
theorem Bh{w:World}{base:Nat}{e:TypeId}{size:Nat}{v:Value}{n:Nat}{xs:List Value}(h:w.ownsRow base e size v n xs){g:Nat}(hv:v.ownBlock=some g):g<w.heap.size:=by
 rcases h.2 with⟨rfl,_⟩|⟨g',cap,cur,rfl,_,hh,_⟩
 ·simp [Value.ownBlock] at hv
 ·simp only [Value.ownBlock,Option.some.injEq] at hv;subst hv;exact lt_of_block hh
theorem Cm{w:World}{e e':TypeId}{b b' size size' n n':Nat}{v v':Value}{xs xs':List Value}(h:w.ownsRow b e size v n xs)(h':w.ownsRow b' e' size' v' n' xs')(hne:e≠e'){g:Nat}(hg:v.ownBlock=some g)(hg':v'.ownBlock=some g):False:=by
 rcases h.2 with⟨rfl,_⟩|⟨g1,cap1,cur1,rfl,_,hh,_⟩
 ·simp [Value.ownBlock] at hg
 ·simp only [Value.ownBlock,Option.some.injEq] at hg;subst hg;exact Ag h' hh hne hg'
theorem Jv:(Tryz.prog.info? 3).map (λi=>(i.zero,i.size,i.bytes))=some (some (.int .i64 0),1,8):=by kernel_rfl
theorem Rf(a b:Int)(w:World):Calls Tryz.prog 287 #[.int .i64 a,.int .i64 b] w λe w'=>e= .returned (.bool (Eh true a b))/\w=w':=by
 go_enter Tryz.func287,Tryz.ntmps287;exact jE
theorem Tk(a b:Int)(w:World):Calls Tryz.prog 296 #[.int .i64 a,.int .i64 b] w λe w'=>e= .returned (.bool (Eh false a b))/\w=w':=by
 go_enter Tryz.func296,Tryz.ntmps296;exact jE
def RowI(W:World)(g n cap:Nat)(O:List Int):Prop:=W.ownsRow 0 3 1 (.slice (some ⟨g,0,none⟩) n cap) n (O.flatMap i64c)/\O.length=n
theorem RowI.cell{W:World}{g n cap:Nat}{O:List Int}(h:RowI W g n cap O){k:Nat}{x:Int}(hx:O[k]?=some x):W.cell? ⟨g,k,none⟩=some (.int .i64 x):=by
 obtain⟨h,rfl⟩:=h;have:=De Bg h hx 0 j2;exact j09
theorem RowI.free{W:World}{g n cap:Nat}{O:List Int}(h:RowI W g n cap O)(j:Nat):W.frozen? ⟨g,j,none⟩=false:=by
 exact j1J
theorem RowI.set{W:World}{g n cap:Nat}{O:List Int}(h:RowI W g n cap O){k:Nat}(hk:k<n)(x:Int):RowI (W.setCell ⟨g,k,none⟩ (.int .i64 x)) g n cap (O.set k x):=by
 exact j3d
theorem RowI.keep{W W':World}{g n cap:Nat}{O:List Int}(h:RowI W g n cap O)(hk:Keeps (λ_=>False) W W'):RowI W' g n cap O:=⟨h.1.of_keeps hk,h.2⟩
theorem RowI.lt{W:World}{g n cap:Nat}{O:List Int}(h:RowI W g n cap O):g<W.heap.size:=Bh h.1 rfl
theorem Gc{l:Nat}{J:Act->World->Prop}{Q:Exit->Act->World->Prop}{a:Act}{w:World}(h:Q .normal a w):Exit.jump l J Q .normal a w:=h
def Fg(i:Nat)(a':Act):Nat:=match a'.tmps.getD i undef with| .int _ n=>n.toNat|_=>0
def rkFr(vR clo vO:Value)(i n k:Nat)(r:Int)(u:Nat->Value):Act:={ tmps:= #[vR,clo,undef,undef,.slice none 0 0,vO,.int .i64 ((i:Nat):Int),.int .i64 r,.int .i64 ((k:Nat):Int),vR,.int .i64 ((n:Nat):Int),.int .i64 ((i:Nat):Int),u 12,u 13,u 14,u 15,u 16,u 17,u 18,u 19,u 20,u 21,u 22,u 23,u 24,u 25,u 26,u 27,u 28,u 29,u 30,u 31,u 32,u 33,u 34,u 35,u 36,u 37,u 38,u 39,u 40,u 41,u 42,u 43,u 44,u 45,u 46,u 47,u 48,u 49,u 50,u 51,u 52,u 53,u 54,u 55,u 56,undef],defers:= [] }
structure RkAt(hi:Bool)(R:List Int)(i:Nat)(w:World)(g c k:Nat)(W:World):Prop where
 ki:k<=i
 row:RowI W g (i+1) c ((rankN hi R i).take k++ [(i:Int)+1]++(rankN hi R i).drop k)
 pl:plR hi R (R.getD i 0) (rankN hi R i) i=plR hi R (R.getD i 0) (rankN hi R i) k
 fr:Fresh w W (.slice (some ⟨g,0,none⟩) (i+1) c)
def rkJ(hi:Bool)(R:List Int)(i:Nat)(w:World)(vR clo:Value)(n:Nat)(a':Act)(W:World):Prop:=∃(k g c:Nat) (u:Nat->Value),a'=rkFr vR clo (.slice (some ⟨g,0,none⟩) (i+1) c) i n k (R.getD i 0) u/\RkAt hi R i w g c k W
theorem rkJ.mk{hi:Bool}{R:List Int}{i:Nat}{w:World}{vR clo:Value}{n:Nat}{a':Act}{W:World}(k g c:Nat)(h:a'=rkFr vR clo (.slice (some ⟨g,0,none⟩) (i+1) c) i n k (R.getD i 0) (λj=>a'.tmps.getD j undef))(hr:RkAt hi R i w g c k W):rkJ hi R i w vR clo n a' W:=⟨k,g,c,_,h,hr⟩
theorem Rp{O:List Int}{k:Nat}{x y:Int}(hk:O[k]?=some y):((O.take (k+1)++ [x]++O.drop (k+1)).set k x).set (k+1) y=O.take k++ [x]++O.drop k:=by
 have hl:k<O.length:=(List.getElem?_eq_some_iff.1 hk).1;have h1:O.take (k+1)=O.take k++ [y]:=by rw [List.take_add_one,hk];rfl
 have h2:O.drop k=y::O.drop (k+1):=by rw [List.drop_eq_getElem_cons hl];congr 1;exact(List.getElem?_eq_some_iff.1 hk).2
 have hlen:(O.take k).length=k:=by rw [List.length_take];omega
 rw [h1,h2];simp only [List.append_assoc,List.cons_append,List.nil_append];rw [List.set_append_right _ _ j1,hlen,Nat.sub_self,List.set_cons_zero,List.set_append_right _ _ j1,hlen,show k+1-k=1 by omega];rfl
theorem mid_get{O:List Int}{k:Nat}{x:Int}(hk:k<=O.length):(O.take k++ [x]++O.drop k)[k]?=some x:=by
 rw [List.append_assoc,List.getElem?_append_right (by rw [List.length_take];omega),List.length_take,show k-min k O.length=0 by omega];rfl
theorem Vx{O:List Int}{k:Nat}{x y:Int}(hk:O[k]?=some y):(O.take (k+1)++ [x]++O.drop (k+1))[k]?=some y:=by
 have hl:k<O.length:=(List.getElem?_eq_some_iff.1 hk).1;rw [List.append_assoc,List.getElem?_append_left (by rw [List.length_take];omega),List.getElem?_take,if_pos j1,hk]
theorem Re(R:List Int)(ad:Option Addr)(cap:Nat)(w:World)(hr:Reads w 1 (.slice ad R.length cap) R.length (R.flatMap i64c))(hl:R.length<=1000):
  Calls Tryz.prog 286 #[.slice ad R.length cap,.func (.func 287) #[] #[]] w λe w'=>∃v',e= .returned v'/\w'.ownsRow 0 3 1 v' R.length ((rankL true R).flatMap i64c)/\Fresh w w' v':=by
 obtain⟨i0,hi,hi0,hi1,hi2⟩:=info_parts Jv;unfold rankL;obtain⟨n,hn⟩:∃n,R.length=n:=⟨_,rfl⟩;rw [hn] at hr hl⊢;obtain⟨Hr,Hn,Hi,Hi0,Hi1,Hi2⟩:=hid6 hr hn hi hi0 hi1 hi2;clear hi2 hi1 hi0 hi hn hr;go_enter Tryz.func286,Tryz.ntmps286;go_wp2
 go_loopw [5,11] (λx y wx=>∃i:Nat,y= .int .i64 (i:Nat)/\i<=n/\wx.ownsRow 0 3 1 x i ((rankN true R i).flatMap i64c)/\Fresh w wx x) (λ_ y _=>n-(intOf y).toNat)
 case atStart=>exact⟨0,rfl,Nat.zero_le _,World.ownsRow_nil _ _ _ _,Fresh.nil w⟩
 case round=>
  obtain⟨i,rfl,hin,hrow,hfr⟩:=hrel;obtain⟨W1,hW1⟩:∃x,x=wr:=⟨_,rfl⟩;subst hW1;obtain⟨adv,cv,hv,_,_⟩:=Ad hrow;subst hv;by_cases hlt:i<n
  ·have hltI:(i:Int)<(n:Int):=j3;obtain⟨r,hx⟩:=Aj (L:=R) (k:=i) jy;have hri:R.getD i 0=r:=by rw [List.getD_eq_getElem?_getD,hx];rfl
   obtain⟨gR,oR,he,hc⟩:=(Hr.out.keeps hfr.1 (by simp)).int (k:= .i64) hx;subst he;have hgl:=Ai hc;obtain⟨Hrow,Hfr,Hx,Hri⟩:=hid4 hrow hfr hx hri;clear hri hx hfr hrow;go_wp2_with fail;refine Db 0 (rkJ true R i w (.slice (some ⟨gR,oR,none⟩) n cap) (.func (.func 287) #[] #[]) n) (λa' _=>Fg 8 a') rfl ?_ ?_
   ·rintro a' W ⟨k,g,c,u,rfl,hat⟩;unfold rkFr;rw [Hri.out];have hki:=hat.ki;have hlen:=Cz true R i;rcases k with _|k
    ·have hp0:plR true R r (rankN true R i) 0=0:=rfl;have hpl:=hat.pl;rw [Hri.out,hp0] at hpl
     have hend:rankN true R (i+1)=(rankN true R i).take 0++ [(i:Int)+1]++(rankN true R i).drop 0:=by
      show insR true R i (rankN true R i)=_;exact j0H
     exact j3e
    ·obtain⟨y,hy⟩:=Aj (L:=rankN true R i) (k:=k) j1;obtain⟨y1,y2⟩:=Dc (List.mem_of_getElem? hy);have hyD:(rankN true R i).getD k 0=y:=by rw [List.getD_eq_getElem?_getD,hy];rfl
     obtain⟨m,hm⟩:∃m:Nat,(m:Int)=y-1:=⟨(y-1).toNat,by omega⟩;obtain⟨v,hv⟩:=Aj (L:=R) (k:=m) jG;have hrt:rt R y=v:=by unfold rt;rw [show(y-1).toNat=m by omega,List.getD_eq_getElem?_getD,hv];rfl
     have hpl:=hat.pl;rw [Hri.out] at hpl;have hps:plR true R r (rankN true R i) (k+1)=if Eh true r v=true then plR true R r (rankN true R i) k else k+1:=by show(if _ then _ else _)=_;rw [hyD,hrt]
     rw [hps] at hpl;obtain⟨g3,o3,he3,hc3⟩:=(Hr.out.keeps hat.fr.1 (by simp)).int (k:= .i64) hv;simp only [Option.some.injEq,Addr.mk.injEq,and_true] at he3;obtain⟨rfl,rfl⟩:=he3;have cR:=hc3;have lR:=Ai hc3;have ck:=hat.row.cell (Vx (x:=(i:Int)+1) hy);have ck1:=hat.row.cell (mid_get (O:=rankN true R i) (x:=(i:Int)+1) (k:=k+1) j1);have fk:=hat.row.free k;have fk1:=hat.row.free (k+1);have lg:=hat.row.lt;have hset:=((hat.row.set (k:=k) j1 ((i:Int)+1)).set (k:=k+1) j1 y).keep (Keeps.drew _);rw [Rp hy] at hset;refine j3f ?_;intro hfr2 q1 q2 q3 q4 q5 q6 q7 q8 q9;have hcl:=λW=>Rf r v W;by_cases hah:Eh true r v=true
     ·rw [if_pos hah] at hpl;rw [hah] at hcl;obtain⟨Hat,Hy,HyD,Hm,Hv,Hrt,Hpl,Hps,Hset⟩:=hid9 hat hy hyD hm hv hrt hpl hps hset;clear hset hps hpl hrt hv hm hyD hy hat;obtain⟨Hfr2,Hcl,Hlen,Hah⟩:=hid4 hfr2 hcl hlen hah;clear hah hlen hcl hfr2
      go_wp2_with (go_at_call 287;(refine(Hcl.out _).mono ?_);rintro e w1 ⟨rfl,rfl⟩)
      exact j3g
     ·rw [if_neg hah] at hpl;have hah2:Eh true r v=false:=by simpa using hah
      rw [hah2] at hcl
      have hend:rankN true R (i+1)=(rankN true R i).take (k+1)++ [(i:Int)+1]++(rankN true R i).drop (k+1):=by
       show insR true R i (rankN true R i)=_;exact j0H
      have hrow2:=hat.row.1;rw [<-hend] at hrow2;obtain⟨Hat,Hy,HyD,Hm,Hv,Hrt,Hpl,Hps,Hset⟩:=hid9 hat hy hyD hm hv hrt hpl hps hset;clear hset hps hpl hrt hv hm hyD hy hat;obtain⟨Hfr2,Hcl,Hlen,Hah,Hah2,Hend,Hrow2⟩:=hid7 hfr2 hcl hlen hah hah2 hend hrow2;clear hrow2 hend hah2 hah hlen hcl hfr2
      go_wp2_with (go_at_call 287;(refine(Hcl.out _).mono ?_);rintro e w1 ⟨rfl,rfl⟩)
      exact j1K
   ·intro hfirst;have Hfirst:=Lib.hid hfirst;clear hfirst
    go_wp2_with (at_builtin;refine Ba rfl (.tmp 16) (.tmp 19) 267 rfl 0 3 i0 _ 1 8 Tryz.underlying267 Hi.out Hi0.out Hi1.out Hi2.out rfl j2 _ i _ rfl (Hrow.out.alloc _) _ 1 _ rfl (Reads.litAt _ _ _ 1 1 _ jd rfl) j9 j6 j1 (Nat.zero_le _) ?_;intro v4 w4 hown4 hk4 hf4;have hfr4:=(Hfr.out.keep (Keeps.alloc _ _)).app hk4 hf4;obtain⟨g,c,hv4,hc4⟩:=Fa hown4 j1;subst hv4;have Hown4:=Lib.hid hown4;have Hfr4:=Lib.hid hfr4;clear hown4 hk4 hf4 hfr4)
    go_step3;rename_i hK;refine jT ?_;have hlen:=Cz true R i;exact j3h
  ·exact j3i
theorem Rc(R:List Int)(ad:Option Addr)(cap:Nat)(w:World)(hr:Reads w 1 (.slice ad R.length cap) R.length (R.flatMap i64c))(hl:R.length<=1000):
  Calls Tryz.prog 286 #[.slice ad R.length cap,.func (.func 296) #[] #[]] w λe w'=>∃v',e= .returned v'/\w'.ownsRow 0 3 1 v' R.length ((rankL false R).flatMap i64c)/\Fresh w w' v':=by
 obtain⟨i0,hi,hi0,hi1,hi2⟩:=info_parts Jv;unfold rankL;obtain⟨n,hn⟩:∃n,R.length=n:=⟨_,rfl⟩;rw [hn] at hr hl⊢;obtain⟨Hr,Hn,Hi,Hi0,Hi1,Hi2⟩:=hid6 hr hn hi hi0 hi1 hi2;clear hi2 hi1 hi0 hi hn hr;go_enter Tryz.func286,Tryz.ntmps286;go_wp2
 go_loopw [5,11] (λx y wx=>∃i:Nat,y= .int .i64 (i:Nat)/\i<=n/\wx.ownsRow 0 3 1 x i ((rankN false R i).flatMap i64c)/\Fresh w wx x) (λ_ y _=>n-(intOf y).toNat)
 case atStart=>exact⟨0,rfl,Nat.zero_le _,World.ownsRow_nil _ _ _ _,Fresh.nil w⟩
 case round=>
  obtain⟨i,rfl,hin,hrow,hfr⟩:=hrel;obtain⟨W1,hW1⟩:∃x,x=wr:=⟨_,rfl⟩;subst hW1;obtain⟨adv,cv,hv,_,_⟩:=Ad hrow;subst hv;by_cases hlt:i<n
  ·have hltI:(i:Int)<(n:Int):=j3;obtain⟨r,hx⟩:=Aj (L:=R) (k:=i) jy;have hri:R.getD i 0=r:=by rw [List.getD_eq_getElem?_getD,hx];rfl
   obtain⟨gR,oR,he,hc⟩:=(Hr.out.keeps hfr.1 (by simp)).int (k:= .i64) hx;subst he;have hgl:=Ai hc;obtain⟨Hrow,Hfr,Hx,Hri⟩:=hid4 hrow hfr hx hri;clear hri hx hfr hrow;go_wp2_with fail;refine Db 0 (rkJ false R i w (.slice (some ⟨gR,oR,none⟩) n cap) (.func (.func 296) #[] #[]) n) (λa' _=>Fg 8 a') rfl ?_ ?_
   ·rintro a' W ⟨k,g,c,u,rfl,hat⟩;unfold rkFr;rw [Hri.out];have hki:=hat.ki;have hlen:=Cz false R i;rcases k with _|k
    ·have hp0:plR false R r (rankN false R i) 0=0:=rfl;have hpl:=hat.pl;rw [Hri.out,hp0] at hpl
     have hend:rankN false R (i+1)=(rankN false R i).take 0++ [(i:Int)+1]++(rankN false R i).drop 0:=by
      show insR false R i (rankN false R i)=_;exact j0H
     exact j3e
    ·obtain⟨y,hy⟩:=Aj (L:=rankN false R i) (k:=k) j1;obtain⟨y1,y2⟩:=Dc (List.mem_of_getElem? hy);have hyD:(rankN false R i).getD k 0=y:=by rw [List.getD_eq_getElem?_getD,hy];rfl
     obtain⟨m,hm⟩:∃m:Nat,(m:Int)=y-1:=⟨(y-1).toNat,by omega⟩;obtain⟨v,hv⟩:=Aj (L:=R) (k:=m) jG;have hrt:rt R y=v:=by unfold rt;rw [show(y-1).toNat=m by omega,List.getD_eq_getElem?_getD,hv];rfl
     have hpl:=hat.pl;rw [Hri.out] at hpl;have hps:plR false R r (rankN false R i) (k+1)=if Eh false r v=true then plR false R r (rankN false R i) k else k+1:=by show(if _ then _ else _)=_;rw [hyD,hrt]
     rw [hps] at hpl;obtain⟨g3,o3,he3,hc3⟩:=(Hr.out.keeps hat.fr.1 (by simp)).int (k:= .i64) hv;simp only [Option.some.injEq,Addr.mk.injEq,and_true] at he3;obtain⟨rfl,rfl⟩:=he3;have cR:=hc3;have lR:=Ai hc3;have ck:=hat.row.cell (Vx (x:=(i:Int)+1) hy);have ck1:=hat.row.cell (mid_get (O:=rankN false R i) (x:=(i:Int)+1) (k:=k+1) j1);have fk:=hat.row.free k;have fk1:=hat.row.free (k+1);have lg:=hat.row.lt;have hset:=((hat.row.set (k:=k) j1 ((i:Int)+1)).set (k:=k+1) j1 y).keep (Keeps.drew _);rw [Rp hy] at hset;refine j3f ?_;intro hfr2 q1 q2 q3 q4 q5 q6 q7 q8 q9;have hcl:=λW=>Tk r v W;by_cases hah:Eh false r v=true
     ·rw [if_pos hah] at hpl;rw [hah] at hcl;obtain⟨Hat,Hy,HyD,Hm,Hv,Hrt,Hpl,Hps,Hset⟩:=hid9 hat hy hyD hm hv hrt hpl hps hset;clear hset hps hpl hrt hv hm hyD hy hat;obtain⟨Hfr2,Hcl,Hlen,Hah⟩:=hid4 hfr2 hcl hlen hah;clear hah hlen hcl hfr2
      go_wp2_with (go_at_call 296;(refine(Hcl.out _).mono ?_);rintro e w1 ⟨rfl,rfl⟩)
      exact j3g
     ·rw [if_neg hah] at hpl;have hah2:Eh false r v=false:=by simpa using hah
      rw [hah2] at hcl
      have hend:rankN false R (i+1)=(rankN false R i).take (k+1)++ [(i:Int)+1]++(rankN false R i).drop (k+1):=by
       show insR false R i (rankN false R i)=_;exact j0H
      have hrow2:=hat.row.1;rw [<-hend] at hrow2;obtain⟨Hat,Hy,HyD,Hm,Hv,Hrt,Hpl,Hps,Hset⟩:=hid9 hat hy hyD hm hv hrt hpl hps hset;clear hset hps hpl hrt hv hm hyD hy hat;obtain⟨Hfr2,Hcl,Hlen,Hah,Hah2,Hend,Hrow2⟩:=hid7 hfr2 hcl hlen hah hah2 hend hrow2;clear hrow2 hend hah2 hah hlen hcl hfr2
      go_wp2_with (go_at_call 296;(refine(Hcl.out _).mono ?_);rintro e w1 ⟨rfl,rfl⟩)
      exact j1K
   ·intro hfirst;have Hfirst:=Lib.hid hfirst;clear hfirst
    go_wp2_with (at_builtin;refine Ba rfl (.tmp 16) (.tmp 19) 267 rfl 0 3 i0 _ 1 8 Tryz.underlying267 Hi.out Hi0.out Hi1.out Hi2.out rfl j2 _ i _ rfl (Hrow.out.alloc _) _ 1 _ rfl (Reads.litAt _ _ _ 1 1 _ jd rfl) j9 j6 j1 (Nat.zero_le _) ?_;intro v4 w4 hown4 hk4 hf4;have hfr4:=(Hfr.out.keep (Keeps.alloc _ _)).app hk4 hf4;obtain⟨g,c,hv4,hc4⟩:=Fa hown4 j1;subst hv4;have Hown4:=Lib.hid hown4;have Hfr4:=Lib.hid hfr4;clear hown4 hk4 hf4 hfr4)
    go_step3;rename_i hK;refine jT ?_;have hlen:=Cz false R i;exact j3h
  ·exact j3i
theorem Lh(R:List Int)(ad:Option Addr)(cap:Nat)(w:World)(hr:Reads w 1 (.slice ad R.length cap) R.length (R.flatMap i64c))(hl:R.length<=1000):
  Calls Tryz.prog 260 #[.slice ad R.length cap] w λe w'=>∃v',e= .returned v'/\w'.ownsRow 0 3 1 v' R.length ((rankL true R).flatMap i64c)/\Fresh w w' v':=by
 have hc:=Re R ad cap w hr hl;obtain⟨Hc,Hr⟩:=hid2 hc hr;clear hr hc;go_enter Tryz.func260,Tryz.ntmps260;exact j3j
theorem Vp(R:List Int)(ad:Option Addr)(cap:Nat)(w:World)(hr:Reads w 1 (.slice ad R.length cap) R.length (R.flatMap i64c))(hl:R.length<=1000):
  Calls Tryz.prog 285 #[.slice ad R.length cap] w λe w'=>∃v',e= .returned v'/\w'.ownsRow 0 3 1 v' R.length ((rankL false R).flatMap i64c)/\Fresh w w' v':=by
 have hc:=Rc R ad cap w hr hl;obtain⟨Hc,Hr⟩:=hid2 hc hr;clear hr hc;go_enter Tryz.func285,Tryz.ntmps285;exact j3j
def Exit.jump2(l1:Nat)(J1:Act->World->Prop)(l2:Nat)(J2:Act->World->Prop)(Q:Exit->Act->World->Prop):Exit->Act->World->Prop
 | .goto l',a,w=>(l'=l1/\J1 a w)\/(l'=l2/\J2 a w)
 |e,a,w=>Q e a w
theorem Ub{l1 l2:Nat}{J1 J2:Act->World->Prop}{Q:Exit->Act->World->Prop}{a:Act}{w:World}(h:J1 a w):Exit.jump2 l1 J1 l2 J2 Q (.goto l1) a w:= .inl ⟨rfl,h⟩
theorem Pj{l1 l2:Nat}{J1 J2:Act->World->Prop}{Q:Exit->Act->World->Prop}{a:Act}{w:World}(h:J2 a w):Exit.jump2 l1 J1 l2 J2 Q (.goto l2) a w:= .inr ⟨rfl,h⟩
theorem Gn{l1 l2:Nat}{J1 J2:Act->World->Prop}{Q:Exit->Act->World->Prop}{a:Act}{w:World}(h:Q .ret a w):Exit.jump2 l1 J1 l2 J2 Q .ret a w:=h
theorem Nv{P:Program}{a:Act}{w:World}{Q:Exit->Act->World->Prop}{c rest1 rest2:Code}(l1 l2:Nat)(hf1:findLabel c l1=some rest1)(hf2:findLabel c l2=some rest2)
  (h:c.wp P (Exit.jump2 l1 (λa' w'=>rest1.wp P (Exit.noGoto Q) a' w') l2 (λa' w'=>rest2.wp P (Exit.noGoto Q) a' w') Q) a w):(Code.scope c).wp P Q a w:=by
 intro b k cs
 have key:∀(rest:Code) (a:Act) (w:World),rest.wp P (Exit.noGoto Q) a w->∃e a' w',Q e a' w'/\Arrives P (lone (b.at a (.code rest:: .inScope c::k)) cs w) b k cs e a' w':=by
  intro rest a w hJ;obtain⟨e,a₁,w₁,hq,harr⟩:=hJ b (.inScope c::k) cs
  cases e with
  |normal=>exact⟨.normal,a₁,w₁,hq,Steps.trans harr (.one step_inScope)⟩
  |exit id=>exact⟨.exit id,a₁,w₁,hq,λk' hk=>harr k' (by simp [exitTo,hk])⟩
  |goto l'=>exact hq.elim
  |ret=>exact⟨_,a₁,w₁,hq,harr⟩
  |panic ch=>exact⟨_,a₁,w₁,hq,harr⟩
  |outgrown=>exact⟨_,a₁,w₁,hq,harr⟩
 obtain⟨e,a₁,w₁,hq,harr⟩:=h b (.inScope c::k) cs
 cases e with
 |normal=>exact⟨.normal,a₁,w₁,hq,.head step_scope (Steps.trans harr (.one step_inScope))⟩
 |exit id=>exact⟨.exit id,a₁,w₁,hq,λk' hk=> .head step_scope (harr k' (by simp [exitTo,hk]))⟩
 |goto l'=>
  rcases hq with⟨rfl,hJ'⟩|⟨rfl,hJ'⟩
  ·obtain⟨e₂,a₂,w₂,hq₂,harr₂⟩:=key _ a₁ w₁ hJ';exact⟨e₂,a₂,w₂,hq₂,.of_steps (.head step_scope (harr _ (by simp [gotoIn,hf1]))) harr₂⟩
  ·obtain⟨e₂,a₂,w₂,hq₂,harr₂⟩:=key _ a₁ w₁ hJ';exact⟨e₂,a₂,w₂,hq₂,.of_steps (.head step_scope (harr _ (by simp [gotoIn,hf2]))) harr₂⟩
 |ret=>exact⟨_,a₁,w₁,hq,.of_steps (.one step_scope) harr⟩
 |panic ch=>exact⟨_,a₁,w₁,hq,.of_steps (.one step_scope) harr⟩
 |outgrown=>exact⟨_,a₁,w₁,hq,.of_steps (.one step_scope) harr⟩
theorem Sm{P:Program}{a:Act}{w:World}{Q:Exit->Act->World->Prop}{c rest1 rest2:Code}(l1 l2:Nat)(J1 J2:Act->World->Prop)(M1 M2:Act->World->Nat)(hf1:findLabel c l1=some rest1)(hf2:findLabel c l2=some rest2)
  (pass1:∀a w,J1 a w->rest1.wp P (Exit.jump2 l1 (λa' w'=>J1 a' w'/\M1 a' w'<M1 a w) l2 (λa' w'=>J2 a' w'/\M2 a' w'<M1 a w) Q) a w)
  (pass2:∀a w,J2 a w->rest2.wp P (Exit.jump2 l1 (λa' w'=>J1 a' w'/\M1 a' w'<M2 a w) l2 (λa' w'=>J2 a' w'/\M2 a' w'<M2 a w) Q) a w)
  (first:c.wp P (Exit.jump2 l1 J1 l2 J2 Q) a w):(Code.scope c).wp P Q a w:=by
 intro b k cs;have hg1:gotoIn l1 (.inScope c::k)=some (.code rest1:: .inScope c::k):=by simp [gotoIn,hf1]
 have hg2:gotoIn l2 (.inScope c::k)=some (.code rest2:: .inScope c::k):=by simp [gotoIn,hf2]
 have key:∀n,(∀a w,M1 a w=n->J1 a w->∃e a' w',Q e a' w'/\Arrives P (lone (b.at a (.code rest1:: .inScope c::k)) cs w) b k cs e a' w')/\(∀a w,M2 a w=n->J2 a w->∃e a' w',Q e a' w'/\Arrives P (lone (b.at a (.code rest2:: .inScope c::k)) cs w) b k cs e a' w'):=by
  intro n
  induction n using Nat.strongRecOn with
  |_ n ih=>
   refine⟨λa w hn hJ=> ?_,λa w hn hJ=> ?_⟩
   ·obtain⟨e,a₁,w₁,hq,harr⟩:=pass1 a w hJ b (.inScope c::k) cs;exact j3k
   ·obtain⟨e,a₁,w₁,hq,harr⟩:=pass2 a w hJ b (.inScope c::k) cs;exact j3k
 obtain⟨e,a₁,w₁,hq,harr⟩:=first b (.inScope c::k) cs
 cases e with
 |normal=>exact⟨.normal,a₁,w₁,hq,.head step_scope (Steps.trans harr (.one step_inScope))⟩
 |exit id=>exact⟨.exit id,a₁,w₁,hq,λk' hk=> .head step_scope (harr k' (by simp [exitTo,hk]))⟩
 |goto l'=>
  rcases hq with⟨rfl,hJ'⟩|⟨rfl,hJ'⟩
  ·obtain⟨e₂,a₂,w₂,hq₂,harr₂⟩:=(key _).1 a₁ w₁ rfl hJ';exact⟨e₂,a₂,w₂,hq₂,.of_steps (.head step_scope (harr _ hg1)) harr₂⟩
  ·obtain⟨e₂,a₂,w₂,hq₂,harr₂⟩:=(key _).2 a₁ w₁ rfl hJ';exact⟨e₂,a₂,w₂,hq₂,.of_steps (.head step_scope (harr _ hg2)) harr₂⟩
 |ret=>exact⟨_,a₁,w₁,hq,.of_steps (.one step_scope) harr⟩
 |panic ch=>exact⟨_,a₁,w₁,hq,.of_steps (.one step_scope) harr⟩
 |outgrown=>exact⟨_,a₁,w₁,hq,.of_steps (.one step_scope) harr⟩
theorem Ke{P:Program}{c:Code}{a:Act}{w:World}{l1 l2:Nat}{J1 J2 K1 K2:Act->World->Prop}{Q:Exit->Act->World->Prop}(h1:∀a w,J1 a w->K1 a w)(h2:∀a w,J2 a w->K2 a w)(h:c.wp P (Exit.jump2 l1 J1 l2 J2 Q) a w):c.wp P (Exit.jump2 l1 K1 l2 K2 Q) a w:=by
 refine Code.wp_mono ?_ h;intro e a' w' h
 cases e with
 |goto k=>exact h.imp (λh=>⟨h.1,h1 _ _ h.2⟩) (λh=>⟨h.1,h2 _ _ h.2⟩)
 |_=>exact h
theorem Ji{P:Program}{a:Act}{w:World}{Q:Exit->Act->World->Prop}{c rest1 rest2:Code}(l1 l2:Nat)(J1 J2:Act->World->Prop)(M1 M2:Act->World->Nat)(hf1:findLabel c l1=some (Code.skip.seq rest1))(hf2:findLabel c l2=some (Code.skip.seq rest2))
  (pass2:∀a w,J2 a w->rest2.wp P (Exit.jump2 l1 (λa' w'=>J1 a' w'/\M1 a' w'<M2 a w) l2 (λa' w'=>J2 a' w'/\M2 a' w'<M2 a w) Q) a w)
  (pass1:Hid (∀a w,J2 a w->rest2.wp P (Exit.jump2 l1 (λa' w'=>J1 a' w'/\M1 a' w'<M2 a w) l2 (λa' w'=>J2 a' w'/\M2 a' w'<M2 a w) Q) a w)->∀a w,J1 a w->rest1.wp P (Exit.jump2 l1 (λa' w'=>J1 a' w'/\M1 a' w'<M1 a w) l2 (λa' w'=>J2 a' w'/\M2 a' w'<M1 a w) Q) a w)
  (first:Hid (∀a w,J1 a w->rest1.wp P (Exit.jump2 l1 J1 l2 J2 Q) a w)->c.wp P (Exit.jump2 l1 J1 l2 J2 Q) a w):(Code.scope c).wp P Q a w:=by
 have h1:=pass1 (Lib.hid pass2);refine Sm l1 l2 J1 J2 M1 M2 hf1 hf2 (λa w hJ=>wp_seq (wp_skip (h1 a w hJ))) (λa w hJ=>wp_seq (wp_skip (pass2 a w hJ))) (first (Lib.hid λa w hJ=>Ke (λ_ _ h=>h.1) (λ_ _ h=>h.1) (h1 a w hJ)))
def leapB(y:Int):Bool:=decide (y % 4=0)&&(decide (¬y % 100=0)||decide (y % 400=0))
def mlen(y m:Int):Int:=if m=2 then(if leapB y=true then 29 else 28) else if m=4\/m=6\/m=9\/m=11 then 30 else if 1<=m/\m<=12 then 31 else 0
def ylen(y:Int):Int:=if leapB y=true then 366 else 365
def nY(y:Int):Int:= -135140+365*(y-1600)+(y-1600+3) / 4-(y-1600+99) / 100+(y-1600+399) / 400
theorem Dg(y:Int):leapB y=true↔(y % 4=0/\(¬y % 100=0\/y % 400=0)):=by simp [leapB]
theorem Ga{y:Int}(_:1600<=y):nY (y+1)=nY y+ylen y:=by
 unfold nY ylen;by_cases h:leapB y=true
 ·rw [if_pos h];have:=(Dg y).1 h;omega
 ·rw [if_neg h];have:¬(y % 4=0/\(¬y % 100=0\/y % 400=0)):=λhh=>h ((Dg y).2 hh);omega
theorem Jh(y:Int):365<=ylen y/\ylen y<=366:=by unfold ylen;split<;>omega
theorem nY_add{y:Int}(h:1600<=y):∀k:Nat,nY y<=nY (y+k)
 |0=>by simp
 |k+1=>by
  have h1:=nY_add h k;have h2:=Ga (y:=y+k) (by omega);have h3:=Jh (y+k);rw [show y+((k+1:Nat):Int)=y+k+1 by omega];omega
theorem Gx{x y:Int}(h:1600<=x)(hxy:x<=y):nY x<=nY y:=by
 have:=nY_add h (y-x).toNat
 rwa [show x+((y-x).toNat:Int)=y by omega] at this
theorem nY_lt{x y:Int}(_:1600<=x)(hy:1600<=y)(hl:nY x<nY (y+1)):x<=y:=by
 by_cases h':y<x
 ·have:=Gx (x:=y+1) (y:=x) j1 j1;omega
 ·omega
def yrW(n:Int):Nat->Int->Int
 |0,y=>y
 |f+1,y=>if nY (y+1)<=n then yrW n f (y+1) else y
def yearF(n:Int):Int:=yrW n 8400 1600
theorem yrW_eq{n y:Int}(h1:nY y<=n)(h2:n<nY (y+1)):∀(f:Nat) (y0:Int),1600<=y0->y0<=y->y-y0<=f->yrW n f y0=y
 |0,y0,_,h4,h5=>by unfold yrW;omega
 |f+1,y0,h3,h4,h5=>by
  unfold yrW;by_cases he:y0=y
  ·subst he;rw [if_neg (by omega)]
  ·have:=Gx (x:=y0+1) (y:=y) (by omega) (by omega);rw [if_pos (by omega)];exact yrW_eq h1 h2 f (y0+1) (by omega) (by omega) (by omega)
theorem Pm{n y:Int}(h0:1600<=y)(h1:nY y<=n)(h2:n<nY (y+1))(h3:n<=2932896):yearF n=y/\y<=9999:=by
 have h4:y<=9999:=nY_lt h0 j1 j1L;exact⟨yrW_eq h1 h2 8400 1600 j1 h0 j1,h4⟩
def moW(y:Int):Nat->Int->Int->Int×Int
 |0,m,r=>(m,r)
 |f+1,m,r=>if mlen y m<=r then moW y f (m+1) (r-mlen y m) else(m,r)
def cumT(y m:Int):Int:=if m<=2 then 31*(m-1) else(if leapB y=true then 1 else 0)+(if m=3 then 59 else if m=4 then 90 else if m=5 then 120 else if m=6 then 151 else if m=7 then 181 else if m=8 then 212 else if m=9 then 243 else if m=10 then 273 else if m=11 then 304 else if m=12 then 334 else 365)
theorem Ce{y m:Int}(h1:1<=m)(h2:m<=12):cumT y (m+1)=cumT y m+mlen y m/\28<=mlen y m/\mlen y m<=31:=by
 obtain rfl|rfl|rfl|rfl|rfl|rfl|rfl|rfl|rfl|rfl|rfl|rfl:m=1\/m=2\/m=3\/m=4\/m=5\/m=6\/m=7\/m=8\/m=9\/m=10\/m=11\/m=12:=by omega
 all_goals (unfold cumT mlen;rcases leapB y<;>decide)
theorem Mf(y:Int):cumT y 13=ylen y:=by unfold cumT ylen;rcases leapB y<;>rfl
theorem Me(y:Int):cumT y 1=0:=rfl
structure MoAt(y r:Int)(j:Nat)(q:Int):Prop where
 lo:1<=j
 hi:j<=12
 sum:q+cumT y j=r
 q0:0<=q
 eq:moW y 12 1 r=moW y (13-j) j q
theorem MoAt.start{y r:Int}(h0:0<=r):MoAt y r 1 r:=⟨by omega,by omega,by simp [cumT],h0,rfl⟩
theorem MoAt.next{y r:Int}{j:Nat}{q:Int}(h:MoAt y r j q)(hr:r<ylen y)(hq:mlen y j<=q):MoAt y r (j+1) (q-mlen y j):=by
 obtain⟨lo,hi,sum,q0,eq⟩:=h;have hc:=(Ce (y:=y) (m:=j) j1 j1).1
 have hj:j<=11:=by
  rcases Nat.lt_or_ge 11 j with h|h
  ·exfalso;obtain rfl:j=12:=by omega
   have:=Mf y;rw [show((12:Nat):Int)+1=13 by rfl,this] at hc;omega
  ·exact h
 refine⟨by omega,by omega,by rw [show((j+1:Nat):Int)=(j:Int)+1 by omega,hc];omega,by omega, ?_⟩;rw [eq,show 13-j=(13-(j+1))+1 by omega];show(if mlen y j<=q then _ else _)=_;rw [if_pos hq,show((j+1:Nat):Int)=(j:Int)+1 by omega]
theorem MoAt.done{y r:Int}{j:Nat}{q:Int}(h:MoAt y r j q)(hq:¬mlen y j<=q):moW y 12 1 r=((j:Int),q):=by
 rw [h.eq,show 13-j=(13-(j+1))+1 by have:=h.hi;omega];show(if mlen y j<=q then _ else _)=_;rw [if_neg hq]
def dY(n:Int):Int:=yearF n
def dM(n:Int):Int:=(moW (yearF n) 12 1 (n-nY (yearF n))).1
def dD(n:Int):Int:=(moW (yearF n) 12 1 (n-nY (yearF n))).2+1
def dayIn(n:Int):Bool:=decide (-135140<=n/\n<=2932896)
theorem tm4{y:Int}(h:0<=y)(k:Int):y.tmod k=y % k:=Int.tmod_eq_emod_of_nonneg h
theorem Wu(y:Int)(h:0<=y)(w:World):Calls Tryz.prog 274 #[.int .i64 y] w λe w'=>e= .returned (.bool (leapB y))/\w=w':=by
 have q4:=tm4 h 4;have q100:=tm4 h 100;have q400:=tm4 h 400;by_cases h4:y % 4=0
 ·by_cases h100:y % 100=0
  ·by_cases h400:y % 400=0
   ·have hf:leapB y=true:=(Dg y).2 ⟨h4,.inr h400⟩;exact j0I
   ·have hf:leapB y=false:=by rw [Bool.eq_false_iff];intro hh;have:=(Dg y).1 hh;omega
    have b4:(y % 400==0)=false:=beq_eq_false_iff_ne.2 h400;exact j0I
  ·have hf:leapB y=true:=(Dg y).2 ⟨h4,.inl h100⟩;have b1:(y % 100 !=0)=true:=by simp [h100]
   exact j0I
 ·have hf:leapB y=false:=by rw [Bool.eq_false_iff];intro hh;have:=(Dg y).1 hh;omega
  have b4:(y % 4==0)=false:=beq_eq_false_iff_ne.2 h4;exact j0I
theorem Lf(y:Int)(h:0<=y)(w:World):Calls Tryz.prog 279 #[.int .i64 y] w λe w'=>e= .returned (.bool (leapB y))/\w=w':=by
 have q4:=tm4 h 4;have q100:=tm4 h 100;have q400:=tm4 h 400;by_cases h4:y % 4=0
 ·by_cases h100:y % 100=0
  ·by_cases h400:y % 400=0
   ·have hf:leapB y=true:=(Dg y).2 ⟨h4,.inr h400⟩;exact j0J
   ·have hf:leapB y=false:=by rw [Bool.eq_false_iff];intro hh;have:=(Dg y).1 hh;omega
    have b4:(y % 400==0)=false:=beq_eq_false_iff_ne.2 h400;exact j0J
  ·have hf:leapB y=true:=(Dg y).2 ⟨h4,.inl h100⟩;have b1:(y % 100 !=0)=true:=by simp [h100]
   exact j0J
 ·have hf:leapB y=false:=by rw [Bool.eq_false_iff];intro hh;have:=(Dg y).1 hh;omega
  have b4:(y % 4==0)=false:=beq_eq_false_iff_ne.2 h4;exact j0J
theorem Km(y m:Int)(h:0<=y)(h1:1<=m)(h2:m<=12)(w:World):Calls Tryz.prog 234 #[.int .i64 y,.int .i64 m] w λe w'=>e= .returned (.int .i64 (mlen y m))/\w=w':=by
 have hlp:=Wu y h w;obtain rfl|rfl|rfl|rfl|rfl|rfl|rfl|rfl|rfl|rfl|rfl|rfl:m=1\/m=2\/m=3\/m=4\/m=5\/m=6\/m=7\/m=8\/m=9\/m=10\/m=11\/m=12:=by omega
 ·have hm:mlen y 1=mlen y 1:=rfl;exact jt
 ·rcases hb:leapB y with _|_
  ·rw [hb] at hlp;have hf:mlen y 2=28:=by unfold mlen;rw [hb];rfl
   exact j3l
  ·rw [hb] at hlp;have hf:mlen y 2=29:=by unfold mlen;rw [hb];rfl
   exact j3l
 ·have hm:mlen y 3=mlen y 3:=rfl;exact jt
 ·have hm:mlen y 4=mlen y 4:=rfl;exact jt
 ·have hm:mlen y 5=mlen y 5:=rfl;exact jt
 ·have hm:mlen y 6=mlen y 6:=rfl;exact jt
 ·have hm:mlen y 7=mlen y 7:=rfl;exact jt
 ·have hm:mlen y 8=mlen y 8:=rfl;exact jt
 ·have hm:mlen y 9=mlen y 9:=rfl;exact jt
 ·have hm:mlen y 10=mlen y 10:=rfl;exact jt
 ·have hm:mlen y 11=mlen y 11:=rfl;exact jt
 ·have hm:mlen y 12=mlen y 12:=rfl;exact jt
theorem Py(y m:Int)(h:0<=y)(h1:1<=m)(h2:m<=12)(w:World):Calls Tryz.prog 245 #[.int .i64 y,.int .i64 m] w λe w'=>e= .returned (.int .i64 (mlen y m))/\w=w':=by
 have hlp:=Lf y h w;obtain rfl|rfl|rfl|rfl|rfl|rfl|rfl|rfl|rfl|rfl|rfl|rfl:m=1\/m=2\/m=3\/m=4\/m=5\/m=6\/m=7\/m=8\/m=9\/m=10\/m=11\/m=12:=by omega
 ·have hm:mlen y 1=mlen y 1:=rfl;exact ju
 ·rcases hb:leapB y with _|_
  ·rw [hb] at hlp;have hf:mlen y 2=28:=by unfold mlen;rw [hb];rfl
   exact j3m
  ·rw [hb] at hlp;have hf:mlen y 2=29:=by unfold mlen;rw [hb];rfl
   exact j3m
 ·have hm:mlen y 3=mlen y 3:=rfl;exact ju
 ·have hm:mlen y 4=mlen y 4:=rfl;exact ju
 ·have hm:mlen y 5=mlen y 5:=rfl;exact ju
 ·have hm:mlen y 6=mlen y 6:=rfl;exact ju
 ·have hm:mlen y 7=mlen y 7:=rfl;exact ju
 ·have hm:mlen y 8=mlen y 8:=rfl;exact ju
 ·have hm:mlen y 9=mlen y 9:=rfl;exact ju
 ·have hm:mlen y 10=mlen y 10:=rfl;exact ju
 ·have hm:mlen y 11=mlen y 11:=rfl;exact ju
 ·have hm:mlen y 12=mlen y 12:=rfl;exact ju
theorem Jr(y:Int)(h1:1600<=y)(h2:y<=100000)(w:World):Calls Tryz.prog 273 #[.int .i64 y] w λe w'=>e= .returned (.int .i64 (nY y))/\w=w':=by
 have t4:(y-1600+3).tdiv 4=(y-1600+3) / 4:=Int.tdiv_eq_ediv_of_nonneg j1;have t100:(y-1600+99).tdiv 100=(y-1600+99) / 100:=Int.tdiv_eq_ediv_of_nonneg j1;have t400:(y-1600+399).tdiv 400=(y-1600+399) / 400:=Int.tdiv_eq_ediv_of_nonneg j1;have hf:nY y= -135140+365*(y-1600)+(y-1600+3) / 4-(y-1600+99) / 100+(y-1600+399) / 400:=rfl;have Hf:=Lib.hid hf;clear hf;go_enter Tryz.func273,Tryz.ntmps273;go_wp2;go_ret;refine⟨?_,rfl⟩;rw [Hf.out];rfl
theorem Rb(y:Int)(h:0<=y)(w:World):Calls Tryz.prog 244 #[.int .i64 y] w λe w'=>e= .returned (.int .i64 (ylen y))/\w=w':=by
 have hlp:=Lf y h w;rcases hb:leapB y with _|_
 ·rw [hb] at hlp;have hf:ylen y=365:=by unfold ylen;rw [hb];rfl
  exact j3n
 ·rw [hb] at hlp;have hf:ylen y=366:=by unfold ylen;rw [hb];rfl
  exact j3n
end
def Ci(W:World)(B j:Nat):Int:=match W.cell? ⟨B,j,none⟩ with|some (.int _ n)=>n|_=>0
theorem Av(w:World)(o:Obj){i:Nat}(h:i=w.heap.size):(w.alloc o).heap[i]?=some o:=by subst h;exact heap_alloc_new w o
theorem Cq{W:World}{B j:Nat}{n:Int}(h:W.cell? ⟨B,j,none⟩=some (.int .i64 n)):Ci W B j=n:=by unfold Ci;rw [h]
def ddFr(n:Int)(b:Nat)(u:Nat->Value):Act:={ tmps:= #[.int .i64 n,u 1,(.pointer (some ⟨b,0,none⟩)),u 3,(.pointer (some ⟨b+1,0,none⟩)),u 5,u 6,u 7,u 8,u 9,u 10,u 11,u 12,u 13,u 14,u 15,u 16,u 17,u 18,u 19,u 20,u 21,u 22,u 23,u 24,u 25,u 26,u 27,u 28,u 29,u 30,u 31,u 32,u 33,u 34,u 35,u 36,u 37,u 38,u 39,u 40,u 41,u 42,u 43,u 44,u 45,u 46,u 47,u 48,u 49,u 50,u 51,u 52,u 53,u 54,u 55],defers:= [] }
structure DdW(w:World)(y m d:Int)(W:World):Prop where
 kp:Keeps (λ_=>False) w W
 res:W.heap[w.heap.size]?=some (.cells #[.int .i64 0,.int .i64 0,.int .i64 0] 246 (0,0))
 box:W.heap[w.heap.size+1]?=some (.cells #[.int .i64 y,.int .i64 m,.int .i64 d] 246 (0,0))
def YrOk(n:Int):Prop:=1600<=yearF n/\yearF n<=9999/\nY (yearF n)<=n/\n<nY (yearF n+1)
def ddJ1(w:World)(n:Int)(a':Act)(W:World):Prop:=∃(y:Int) (u:Nat->Value),a'=ddFr n w.heap.size u/\DdW w y 1 1 W/\1600<=y/\y<=9999/\nY y<=n
def ddJ2(w:World)(n:Int)(a':Act)(W:World):Prop:=∃(j:Nat) (q:Int) (u:Nat->Value),a'=ddFr n w.heap.size u/\DdW w (yearF n) j (q+1) W/\MoAt (yearF n) (n-nY (yearF n)) j q/\YrOk n
theorem ddJ1.mk{w:World}{n:Int}{a':Act}{W:World}(y:Int)(h:a'=ddFr n w.heap.size (λi=>a'.tmps.getD i undef))(hw:DdW w y 1 1 W)(h1:1600<=y)(h2:y<=9999)(h3:nY y<=n):ddJ1 w n a' W:=⟨y,_,h,hw,h1,h2,h3⟩
theorem ddJ2.mk{w:World}{n:Int}{a':Act}{W:World}(j:Nat)(q:Int)(h:a'=ddFr n w.heap.size (λi=>a'.tmps.getD i undef))(hw:DdW w (yearF n) j (q+1) W)(hm:MoAt (yearF n) (n-nY (yearF n)) j q)(hy:YrOk n):ddJ2 w n a' W:=⟨j,q,_,h,hw,hm,hy⟩
section
variable {w W:World} {y m d:Int}
theorem DdW.set0(h:DdW w y m d W)(v:Int):DdW w v m d (W.setCell ⟨w.heap.size+1,0,none⟩ (.int .i64 v)):=
 ⟨h.kp.trans (Keeps.setCell _ _ _ (.inr (by simp))),Ac h.res (Keeps.setCell (S:=λi=>i=w.heap.size+1) _ _ _ rfl) (by simp),(heap_setCell_same _ _ 0 _ _ _ h.box).trans rfl⟩
theorem DdW.set1(h:DdW w y m d W)(v:Int):DdW w y v d (W.setCell ⟨w.heap.size+1,1,none⟩ (.int .i64 v)):=
 ⟨h.kp.trans (Keeps.setCell _ _ _ (.inr (by simp))),Ac h.res (Keeps.setCell (S:=λi=>i=w.heap.size+1) _ _ _ rfl) (by simp),(heap_setCell_same _ _ 1 _ _ _ h.box).trans rfl⟩
theorem DdW.set2(h:DdW w y m d W)(v:Int):DdW w y m v (W.setCell ⟨w.heap.size+1,2,none⟩ (.int .i64 v)):=
 ⟨h.kp.trans (Keeps.setCell _ _ _ (.inr (by simp))),Ac h.res (Keeps.setCell (S:=λi=>i=w.heap.size+1) _ _ _ rfl) (by simp),(heap_setCell_same _ _ 2 _ _ _ h.box).trans rfl⟩
theorem DdW.keep{W':World}(h:DdW w y m d W)(hk:Keeps (λ_=>False) W W'):DdW w y m d W':=⟨h.kp.nt hk,Ac h.res hk (by simp),Ac h.box hk (by simp)⟩
end
def ddS(b:Nat)(y d:Int)(W:World):Prop:=W.cell? ⟨b,0,none⟩=some (.int .i64 y)/\W.cell? ⟨b,2,none⟩=some (.int .i64 d)/\W.frozen? ⟨b,2,none⟩=false
theorem Wv(n:Int)(w:World)(hn: -9000000000000000000<=n/\n<=9000000000000000000):Calls Tryz.prog 233 #[.int .i64 n] w λe w'=>e= .returned (.tuple #[.agg (if dayIn n=true then #[.int .i64 (dY n),.int .i64 (dM n),.int .i64 (dD n)] else #[.int .i64 0,.int .i64 0,.int .i64 0]),.int .i64 (if dayIn n=true then 0 else 10)])/\Keeps (λ_=>False) w w':=by
 by_cases hin: -135140<=n/\n<=2932896
 ·have hd:dayIn n=true:=by simp [dayIn,hin]
  rw [if_pos hd,if_pos hd];obtain⟨rY,hrY⟩:∃a,dY n=a:=⟨_,rfl⟩;obtain⟨rM,hrM⟩:∃a,dM n=a:=⟨_,rfl⟩;obtain⟨rD,hrD⟩:∃a,dD n=a:=⟨_,rfl⟩;rw [hrY,hrM,hrD];obtain⟨hn1,hn2⟩:=hin;obtain⟨Hd,HrY,HrM,HrD⟩:=hid4 hd hrY hrM hrD;clear hrD hrM hrY hd;go_enter Tryz.func233,Tryz.ntmps233;go_wp2;refine Ji 0 1 (ddJ1 w n) (ddJ2 w n) (λ_ W=>(20000-Ci W (w.heap.size+1) 0).toNat+100) (λ_ W=>(20-Ci W (w.heap.size+1) 1).toNat) rfl rfl ?_ ?_ ?_
  ·rintro a' W ⟨j,q,u,rfl,hw,hm,hy⟩;unfold ddFr;obtain⟨y,hyy⟩:∃y,yearF n=y:=⟨_,rfl⟩;unfold YrOk at hy;rw [hyy] at hw hm hy;obtain⟨h1,h2,h3,h4⟩:=hy;have hlo:=hm.lo;have hhi:=hm.hi;have hq0:=hm.q0;have hsum:=hm.sum;have hsucc:=Ga h1;have hyl:=Jh y;have hml:=(Ce (y:=y) (m:=j) j1 j1).2;have hcall:=λW=>Km y j j1 j1 j1 W;obtain⟨l,hl⟩:∃l,mlen y j=l:=⟨_,rfl⟩;rw [hl] at hcall hml;have hcum:0<=cumT y j:=by unfold cumT;split<;>(try split)<;>omega
   have c0:=Aa hw.box 0;have c1:=Aa hw.box 1;have c2:=Aa hw.box 2;have f0:=Ab hw.box 0;have f1:=Ab hw.box 1;have f2:=Ab hw.box 2;have bl:=lt_of_block hw.box;have e0:=Ab hw.res 0;have e1:=Ab hw.res 1;have e2:=Ab hw.res 2;have d0:=Aa hw.res 0;have d1:=Aa hw.res 1;have d2:=Aa hw.res 2;have dl:=lt_of_block hw.res;have hq1:q<=400:=j3;by_cases hgo:l<=q
   ·have hnx:=hm.next j1 (by rw [hl];exact hgo);rw [hl] at hnx;obtain⟨Hw,Hm,Hcall,Hl,Hyy,Hnx,Hsum,Hsucc,Hcum⟩:=hid9 hw hm hcall hl hyy hnx hsum hsucc hcum;clear hcum hsucc hsum hnx hyy hl hcall hm hw;go_wp2_with fail;refine(Hcall.out W).mono ?_;rintro e w1 ⟨rfl,rfl⟩;go_wp2_with fail;go_step3;go_wp2
    have hd2:DdW w (yearF n) ((j+1:Nat):Int) (q-l+1) ((W.setCell ⟨w.heap.size+1,2,none⟩ (.int .i64 (q+1-l))).setCell ⟨w.heap.size+1,1,none⟩ (.int .i64 ((j:Int)+1))):=by
     rw [Hyy.out,show q-l+1=q+1-l by omega,show((j+1:Nat):Int)=(j:Int)+1 by omega];exact(Hw.out.set2 _).set1 _
    refine Pj ⟨ddJ2.mk (j+1) (q-l) rfl hd2 (by rw [Hyy.out];exact Hnx.out) (by unfold YrOk;rw [Hyy.out];exact⟨h1,h2,h3,h4⟩), ?_⟩;have e1:=Cq (Aa hd2.box 1);have e2:=Cq (Aa Hw.out.box 1);show(20-Ci _ _ 1).toNat<(20-Ci _ _ 1).toNat;rw [e1,e2];omega
   ·have hdone:=hm.done (by rw [hl];exact hgo);obtain⟨Hw,Hm,Hcall,Hl,Hyy,Hdone,Hsum,Hsucc,Hcum⟩:=hid9 hw hm hcall hl hyy hdone hsum hsucc hcum;clear hcum hsucc hsum hdone hyy hl hcall hm hw;go_wp2_with fail;refine(Hcall.out W).mono ?_;rintro e w1 ⟨rfl,rfl⟩;go_wp2;refine Gn ?_;obtain rfl:rY=y:=HrY.out.symm.trans Hyy.out;obtain rfl:rM=j:=HrM.out.symm.trans (by unfold dM;rw [Hyy.out,Hdone.out]);obtain rfl:rD=q+1:=HrD.out.symm.trans (by unfold dD;rw [Hyy.out,Hdone.out]);have hb3:(((W.setCell ⟨w.heap.size,0,none⟩ (.int .i64 rY)).setCell ⟨w.heap.size,1,none⟩ (.int .i64 (j:Int))).setCell ⟨w.heap.size,2,none⟩ (.int .i64 (q+1))).heap[w.heap.size]?=some (.cells #[.int .i64 rY,.int .i64 (j:Int),.int .i64 (q+1)] 246 (0,0)):=(heap_setCell_same _ _ 2 _ _ _ ((heap_setCell_same _ _ 1 _ _ _ ((heap_setCell_same _ _ 0 _ _ _ Hw.out.res).trans rfl)).trans rfl)).trans rfl;have r0:=Aa hb3 0;have r1:=Aa hb3 1;have r2:=Aa hb3 2;clear d0 d1 d2 c0 c1 c2;exact bodyPost_ret (v:= .tuple #[.agg #[.int .i64 rY,.int .i64 (j:Int),.int .i64 (q+1)],.int .i64 0]) (by simp [results,Tryz.results233,go_sem,r0,r1,r2]) rfl ⟨rfl,Hw.out.kp.trans ((((Keeps.setCell (S:=λi=>w.heap.size<=i) _ _ _ (Nat.le_refl _)).trans (Keeps.setCell _ _ _ (.inl (Nat.le_refl _)))).trans (Keeps.setCell _ _ _ (.inl (Nat.le_refl _)))).mono λi _ h=> .inr h)⟩
  ·intro hp2;rintro a' W ⟨y,u,rfl,hw,h1,h2,h3⟩;unfold ddFr;have hcall:=λW=>Jr (y+1) j1 j1 W;have hcall2:=λW=>Jr y h1 j1 W;obtain⟨z,hz⟩:∃z,nY (y+1)=z:=⟨_,rfl⟩;obtain⟨v,hv⟩:∃v,nY y=v:=⟨_,rfl⟩;have hsucc:=Ga h1;have hyl:=Jh y;have c0:=Aa hw.box 0;have c1:=Aa hw.box 1;have c2:=Aa hw.box 2;have f0:=Ab hw.box 0;have f1:=Ab hw.box 1;have f2:=Ab hw.box 2;have bl:=lt_of_block hw.box;by_cases hgo:nY (y+1)<=n
   ·have hy9:y+1<=9999:=nY_lt j1 j1 j1L;have h3':=hgo;rw [hz] at hcall hgo;rw [hv] at hcall2;obtain⟨Hw,Hcall,Hcall2,Hz,Hv,H3',H3,Hsucc⟩:=hid8 hw hcall hcall2 hz hv h3' h3 hsucc;clear hsucc h3 h3' hv hz hcall2 hcall hw;go_wp2_with fail;refine(Hcall.out W).mono ?_;rintro e w1 ⟨rfl,rfl⟩;go_wp2_with fail;go_step3;go_wp2;refine Ub ⟨ddJ1.mk (y+1) rfl (Hw.out.set0 _) j1 j1 H3'.out, ?_⟩;have e1:=Cq (Aa (Hw.out.set0 (y+1)).box 0);have e2:=Cq (Aa Hw.out.box 0);show(20000-Ci _ _ 0).toNat+100<(20000-Ci _ _ 0).toNat+100;rw [e1,e2];omega
   ·obtain⟨hyf,_⟩:=Pm h1 h3 j1 hn2;have hok:YrOk n:=by unfold YrOk;rw [hyf];exact⟨h1,h2,h3,by omega⟩
    have hn0:0<=n-v:=j3;have hw1:IntKind.i64.wrap (n-v)=n-v:=IntWalk.i64_in _ ⟨by omega,by omega⟩;have hw2:IntKind.i64.wrap (1+(n-v))=1+(n-v):=IntWalk.i64_in _ ⟨by omega,by omega⟩;rw [hz] at hcall hgo;rw [hv] at hcall2;have hS:∀W',Keeps (λ_=>False) W W'->ddS (w.heap.size+1) y 1 W':=λW' hk=>⟨Aa (Ac hw.box hk (by simp)) 0,Aa (Ac hw.box hk (by simp)) 2,Ab (Ac hw.box hk (by simp)) 2⟩;obtain⟨Hw,Hcall,Hcall2,Hz,Hv,H3,Hyf,Hok,Hsucc⟩:=hid9 hw hcall hcall2 hz hv h3 hyf hok hsucc;clear hsucc hok hyf h3 hv hz hcall2 hcall hw;have HS:=Lib.hid hS;clear hS;go_wp2_with fail;refine(Hcall.out W).mono ?_;rintro e w1 ⟨rfl,rfl⟩;go_wp2_with fail;refine Bj (ddS (w.heap.size+1) y 1) 9 (.take 0 (.take 1 (.take 2 (.take 3 (.take 4 (.take 5 (.take 6 (.take 7 (.take 8 (.move 9 .done)))))))))) j4 j4 ?_ ?_
    ·exact HS.out _ (Keeps.drew _)
    intro w2 hs2 hk2;refine jR ?_;refine Jn (v:= ?_) rfl (by rfl) ?_ ?_ ?_ ?_ ?_
    rotate_left 3
    ·intro w' hSw;unfold ddS at hSw;go_simp;(first|done|(constructor<;>with_reducible rfl)|with_reducible rfl)
    ·intro w' hSw;exact(Hcall2.out _)
    rotate_right 3
    try simp only [aps]
    refine jR ?_;have hs3:=hs2;unfold ddS at hs3;obtain⟨k0,k2,k3⟩:=hs3;have k4:=Ai k2;refine jh ?_;have hw3:=(Hw.out.keep hk2).set2 (1+(n-v))
    have hd2:DdW w (yearF n) ((1:Nat):Int) (n-v+1) (w2.setCell ⟨w.heap.size+1,2,none⟩ (.int .i64 (1+(n-v)))):=by
     rw [Hyf.out,show n-v+1=1+(n-v) by omega];exact hw3
    have hmo:MoAt (yearF n) (n-nY (yearF n)) 1 (n-v):=by rw [Hyf.out,Hv.out];exact MoAt.start hn0
    obtain⟨Hd2,Hmo,Hw3⟩:=hid3 hd2 hmo hw3;clear hw3 hmo hd2;clear hs2 hk2 k0 k2 k3 k4;go_wp2_with fail;go_step3;rename_i hK;refine hK _ _ ?_;refine Ke ?_ ?_ (hp2.out _ _ (ddJ2.mk 1 (n-v) rfl Hd2.out Hmo.out Hok.out))
    ·exact j3o
    ·exact j3o
  ·intro hp1;go_wp2_with fail;go_step3;rename_i hK;refine hK _ _ ?_;refine hp1.out _ _ ?_;refine ddJ1.mk (1600+(n+135140) / 366) rfl ⟨by(repeat (first|exact Keeps.refl _ _|exact Keeps.alloc _ _|exact Keeps.drew _|exact Keeps.drewN _ _|refine Keeps.Am ?_|refine Keeps.Al ?_|refine Keeps.Af ?_)),Ap (heap_alloc_new w _) _,Av _ _ (by simp)⟩ j1 j1 (by unfold nY;omega)
 ·have hd:dayIn n=false:=by simp [dayIn];omega
  have hdd:¬dayIn n=true:=by rw [hd];decide
  rw [if_neg hdd,if_neg hdd];have hc:n< -135140\/2932896<n:=j3;clear hin;obtain⟨Hd,Hdd⟩:=hid2 hd hdd;clear hdd hd;go_enter Tryz.func233,Tryz.ntmps233;go_wp2;refine Nv 0 1 rfl rfl ?_;rcases hc with hc|hc
  ·exact j3p
  ·have hc2:¬n< -135140:=j3;exact j3p
theorem haltD{p:Prop}(h:Hid p):p:=h.out
theorem Ti(n:Int)(w:World)(hn: -9000000000000000000<=n/\n<=9000000000000000000):Calls Tryz.prog 195 #[.int .i64 n] w λe w'=>e= .returned (.tuple #[.agg (if dayIn n=true then #[.int .i64 (dY n),.int .i64 (dM n),.int .i64 (dD n)] else #[.int .i64 0,.int .i64 0,.int .i64 0]),.int .i64 (if dayIn n=true then 0 else 10)])/\Keeps (λ_=>False) w w':=by
 by_cases hin: -135140<=n/\n<=2932896
 ·have hd:dayIn n=true:=by simp [dayIn,hin]
  rw [if_pos hd,if_pos hd];obtain⟨rY,hrY⟩:∃a,dY n=a:=⟨_,rfl⟩;obtain⟨rM,hrM⟩:∃a,dM n=a:=⟨_,rfl⟩;obtain⟨rD,hrD⟩:∃a,dD n=a:=⟨_,rfl⟩;rw [hrY,hrM,hrD];obtain⟨hn1,hn2⟩:=hin;obtain⟨L,hL⟩:∃L,n+135140=L:=⟨_,rfl⟩;have hL0:0<=L:=j3;have t1:L.tdiv 146097=L / 146097:=Int.tdiv_eq_ediv_of_nonneg hL0;have t2:L.tmod 146097=L % 146097:=Int.tmod_eq_emod_of_nonneg hL0;obtain⟨Hd,HrY,HrM,HrD⟩:=hid4 hd hrY hrM hrD;clear hrD hrM hrY hd;go_enter Tryz.func195,Tryz.ntmps195;go_wp2
  go_loopw [4,5] (λx z wx=>∃y l:Int,x= .int .i64 l/\z= .int .i64 y/\1600<=y/\0<=l/\nY y+l=n/\wx=w.alloc (.cells #[.int .i64 0,.int .i64 0,.int .i64 0] 246)) (λx _ _=>(intOf x).toNat)
  case atStart=>exact⟨_,_,rfl,rfl,by omega,by omega,by unfold nY;omega,rfl⟩
  case round=>
   obtain⟨y,l,rfl,rfl,hy1,hl0,hyl,rfl⟩:=hrel;have hcall:=λW=>Rb y j1 W;have hsucc:=Ga hy1;have hp:=Jh y;have hy9:y<=9999:=nY_lt hy1 j1 j1L;obtain⟨k,hk⟩:∃k,ylen y=k:=⟨_,rfl⟩;rw [hk] at hcall hsucc hp;have hl9:l<=9000000000:=by have: -135140<=nY y:=(by have:=Gx (x:=1600) (y:=y) j1 hy1;have:nY 1600= -135140:=j2;omega);omega
   by_cases hgo:k<=l
   ·obtain⟨Hcall,Hsucc,Hyl,Hk⟩:=hid4 hcall hsucc hyl hk;clear hk hyl hsucc hcall
    go_wp2_with (go_at_call 244;(refine(Hcall.out _).mono ?_);rintro e w1 ⟨rfl,rfl⟩;refine haltD ?_)
    refine Lib.hid ?_
    go_wp2_with (go_at_call 244;(refine(Hcall.out _).mono ?_);rintro e w1 ⟨rfl,rfl⟩)
    go_roundw
    case rel=>exact⟨y+1,l-k,rfl,rfl,by omega,by omega,by have:=Hsucc.out;have:=Hyl.out;omega,by first|rfl|trivial⟩
    case measure=>simp [intOf];omega
   ·obtain⟨hyf,_⟩:=Pm hy1 j1 j1 hn2;obtain rfl:rY=y:=HrY.out.symm.trans hyf;have hmo:MoAt (yearF n) (n-nY (yearF n)) 1 l:=by rw [hyf,show n-nY rY=l by omega];exact MoAt.start hl0
    have hrl:n-nY rY<ylen rY:=j3;obtain⟨Hcall,Hsucc,Hyl,Hk,Hyf,Hmo,Hrl⟩:=hid7 hcall hsucc hyl hk hyf hmo hrl;clear hrl hmo hyf hk hyl hsucc hcall
    go_wp2_with (go_at_call 244;(refine(Hcall.out _).mono ?_);rintro e w1 ⟨rfl,rfl⟩)
    clear hL0 hL t1 t2
    go_loopw [4,6] (λx z wx=>∃(j:Nat) (q:Int),x= .int .i64 q/\z= .int .i64 (j:Nat)/\MoAt (yearF n) (n-nY (yearF n)) j q/\wx=w.alloc (.cells #[.int .i64 0,.int .i64 0,.int .i64 0] 246)) (λ_ z _=>20-(intOf z).toNat)
    case atStart=>exact⟨1,l,rfl,rfl,Hmo.out,rfl⟩
    case round=>
     obtain⟨j,q,rfl,rfl,hm,rfl⟩:=hrel;rw [Hyf.out] at hm;have hlo:=hm.lo;have hhi:=hm.hi;have hq0:=hm.q0;have hsum:=hm.sum;have hml:=(Ce (y:=rY) (m:=j) j1 j1).2;have hcl:=λW=>Py rY j j1 j1 j1 W;obtain⟨ml,hmle⟩:∃l,mlen rY j=l:=⟨_,rfl⟩;rw [hmle] at hcl hml;have hcum:0<=cumT rY j:=by unfold cumT;split<;>(try split)<;>omega
     have hq1:q<=400:=by have:=Hrl.out;have:=Jh rY;omega
     by_cases hgo2:ml<=q
     ·have hnx:=hm.next Hrl.out (by rw [hmle];exact hgo2);rw [hmle] at hnx;obtain⟨Hm,Hcl,Hmle,Hnx,Hsum,Hcum⟩:=hid6 hm hcl hmle hnx hsum hcum;clear hcum hsum hnx hmle hcl hm
      go_wp2_with (go_at_call 245;(refine(Hcl.out _).mono ?_);rintro e w1 ⟨rfl,rfl⟩;refine haltD ?_)
      refine Lib.hid ?_
      go_wp2_with (go_at_call 245;(refine(Hcl.out _).mono ?_);rintro e w1 ⟨rfl,rfl⟩)
      go_roundw
      case rel=>exact⟨j+1,q-ml,rfl,by go_num,by rw [Hyf.out];exact Hnx.out,by first|rfl|trivial⟩
      case measure=>simp [intOf];omega
     ·have hdone:=hm.done (by rw [hmle];exact hgo2);obtain rfl:rM=j:=HrM.out.symm.trans (by unfold dM;rw [Hyf.out,hdone]);obtain rfl:rD=q+1:=HrD.out.symm.trans (by unfold dD;rw [Hyf.out,hdone]);obtain⟨Hm,Hcl,Hmle,Hdone,Hsum,Hcum⟩:=hid6 hm hcl hmle hdone hsum hcum;clear hcum hsum hdone hmle hcl hm
      go_wp2_with (go_at_call 245;(refine(Hcl.out _).mono ?_);rintro e w1 ⟨rfl,rfl⟩)
      exact bodyPost_ret (v:= .tuple #[.agg #[.int .i64 rY,.int .i64 (j:Int),.int .i64 (q+1)],.int .i64 0]) (by simp [results,Tryz.results195,go_sem]) rfl ⟨rfl,by(repeat (first|exact Keeps.refl _ _|exact Keeps.alloc _ _|exact Keeps.drew _|exact Keeps.drewN _ _|refine Keeps.Am ?_|refine Keeps.Al ?_|refine Keeps.Af ?_))⟩
 ·have hd:dayIn n=false:=by simp [dayIn];omega
  have hdd:¬dayIn n=true:=by rw [hd];decide
  rw [if_neg hdd,if_neg hdd];have hc:n< -135140\/2932896<n:=j3;clear hin;obtain⟨Hd,Hdd⟩:=hid2 hd hdd;clear hdd hd;go_enter Tryz.func195,Tryz.ntmps195;rcases hc with hc|hc
  ·exact j3q
  ·have hc2:¬n< -135140:=j3;exact j3q
theorem Ca:(Tryz.prog.info? 2).map (λi=>(i.zero,i.size,i.bytes))=some (some (.int .i64 0),1,8):=by kernel_rfl
def badM(v:Int):Bool:= !Az v
theorem Uf(v:Int)(w:World):Calls Tryz.prog 295 #[.int .i64 v] w λe w'=>e= .returned (.bool (badM v))/\w=w':=by
 by_cases h1:v<0
 ·have hf:badM v=true:=by simp [badM,Az,h1]
  exact j1M
 ·by_cases h2:1000000000000000<v
  ·have hf:badM v=true:=by simp [badM,Az];omega
   exact j1M
  ·have hf:badM v=false:=by simp [badM,Az];omega
   exact j1M
theorem Eo{q:Int->Bool}{L:List Int}{k:Nat}{x:Int}(h:L[k]?=some x):(L.take (k+1)).any q=((L.take k).any q||q x):=by rw [take_snoc' h,List.any_append];simp
theorem Jc{q:Int->Bool}{L:List Int}{k:Nat}{x:Int}(h:L[k]?=some x)(hx:q x=true):L.any q=true:=List.any_eq_true.2 ⟨x,List.mem_of_getElem? h,hx⟩
theorem indexFall(ad:Option Addr)(cap:Nat)(L:List Int)(w:World)(hr:Reads w 1 (.slice ad L.length cap) L.length (L.flatMap i64c))(hl:L.length<=1000):
  Calls Tryz.prog 251 #[.slice ad L.length cap,.func (.func 295) #[] #[]] w λe w'=>∃r:Int,e= .returned (.int .i64 r)/\decide (0<=r)=L.any badM/\w=w':=by
 have Hr:=Lib.hid hr;clear hr;go_enter Tryz.func251,Tryz.ntmps251;go_wp2_with fail
 go_loop [8] (λc=>∃j:Nat,j<=L.length/\c= .int .i64 (j:Nat)/\(L.take j).any badM=false) (λc=>L.length-(intOf c).toNat)
 case atStart=>exact⟨0,Nat.zero_le _,rfl,rfl⟩
 case round=>
  obtain⟨j,hj,rfl,hok⟩:=hrel;by_cases hjl:j<L.length
  ·obtain⟨x,hx⟩:=Aj hjl;obtain⟨g,o,rfl,x0⟩:=Hr.out.int hx;have hsn:=Eo (q:=badM) hx;rw [hok] at hsn;have hcl:=λW=>Uf x W;rcases m1:badM x with _|_
   ·have hok':(L.take (j+1)).any badM=false:=by rw [hsn,m1];rfl
    rw [m1] at hcl;obtain⟨Hsn,Hx,Hok,Hok',Hcl⟩:=hid5 hsn hx hok hok' hcl;clear hcl hok' hok hx hsn
    go_wp2_with (go_at_call 295;((with_reducible refine(Hcl.out _).mono ?_);rintro e w1 ⟨rfl,rfl⟩))
    exact j0K
   ·have hf:=Jc (q:=badM) hx m1;have hj0:decide ((0:Int)<=(j:Int))=true:=by simp
    rw [m1] at hcl;obtain⟨Hf,Hsn,Hx,Hj0,Hcl⟩:=hid5 hf hsn hx hj0 hcl;clear hcl hj0 hx hsn hf
    go_wp2_with (go_at_call 295;((with_reducible refine(Hcl.out _).mono ?_);rintro e w1 ⟨rfl,rfl⟩))
    exact j0L
  ·exact j0M
theorem Uk(ad:Option Addr)(cap:Nat)(L:List Int)(w:World)(hr:Reads w 1 (.slice ad L.length cap) L.length (L.flatMap i64c))(hl:L.length<=1000):
  Calls Tryz.prog 204 #[.slice ad L.length cap,.func (.func 295) #[] #[]] w λe w'=>e= .returned (.bool (L.any badM))/\w=w':=by
 have Hr:=Lib.hid hr;clear hr;go_enter Tryz.func204,Tryz.ntmps204
 go_wp2_with (go_at_call 251;refine(indexFall _ _ L _ Hr.out hl).mono ?_;rintro e w1 ⟨r,rfl,hd,rfl⟩;have Hd:=Lib.hid hd;clear hd)
 exact j0N
theorem Wo(ad:Option Addr)(cap:Nat)(L:List Int)(w:World)(hr:Reads w 1 (.slice ad L.length cap) L.length (L.flatMap i64c))(hl:L.length<=1000):
  Calls Tryz.prog 283 #[.slice ad L.length cap] w λe w'=>e= .returned (.bool (L.all Az))/\w=w':=by
 have hc:=Uk ad cap L w hr hl;have he:L.any badM= !(L.all Az):=by rw [List.all_eq_not_any_not];simp only [Bool.not_not];rfl
 rw [he] at hc;obtain⟨Hr,Hc⟩:=hid2 hr hc;clear hc hr;go_enter Tryz.func283,Tryz.ntmps283;go_wp2_with fail;refine Hc.out.mono ?_;rintro e w1 ⟨rfl,rfl⟩;go_wp2;go_ret;exact⟨by simp,rfl⟩
def RowZ(W:World)(e:TypeId)(g n cap:Nat)(O:List Int):Prop:=W.ownsRow 0 e 1 (.slice (some ⟨g,0,none⟩) n cap) n (O.flatMap i64c)/\O.length=n
theorem RowZ.cell{W:World}{e:TypeId}{g n cap:Nat}{O:List Int}(h:RowZ W e g n cap O){k:Nat}{x:Int}(hx:O[k]?=some x):W.cell? ⟨g,k,none⟩=some (.int .i64 x):=by
 obtain⟨h,rfl⟩:=h;have:=De Bg h hx 0 j2;exact j09
theorem RowZ.free{W:World}{e:TypeId}{g n cap:Nat}{O:List Int}(h:RowZ W e g n cap O)(j:Nat):W.frozen? ⟨g,j,none⟩=false:=by
 exact j1J
theorem RowZ.set{W:World}{e:TypeId}{g n cap:Nat}{O:List Int}(h:RowZ W e g n cap O){k:Nat}(hk:k<n)(x:Int):RowZ (W.setCell ⟨g,k,none⟩ (.int .i64 x)) e g n cap (O.set k x):=by
 exact j3d
end Go.Proofs.YtgfkeeicjjbnpaaGreat
