/- Part 1 of what the laws of this seat share: walks of functions, and plain laws. -/
import Derived.Test.YtgbgmadkmabeeaaGreatM3
set_option maxRecDepth 100000
set_option maxHeartbeats 3200000
namespace Go.Proofs.YtgbgmadkmabeeaaGreat
open Go.RowKit
theorem hid2{a0 a1:Prop}(h0:a0)(h1:a1):Hid a0/\Hid a1:=⟨h0,h1⟩
theorem hid3{a0 a1 a2:Prop}(h0:a0)(h1:a1)(h2:a2):Hid a0/\Hid a1/\Hid a2:=⟨h0,h1,h2⟩
theorem hid4{a0 a1 a2 a3:Prop}(h0:a0)(h1:a1)(h2:a2)(h3:a3):Hid a0/\Hid a1/\Hid a2/\Hid a3:=⟨h0,h1,h2,h3⟩
theorem hid5{a0 a1 a2 a3 a4:Prop}(h0:a0)(h1:a1)(h2:a2)(h3:a3)(h4:a4):Hid a0/\Hid a1/\Hid a2/\Hid a3/\Hid a4:=⟨h0,h1,h2,h3,h4⟩
theorem hid6{a0 a1 a2 a3 a4 a5:Prop}(h0:a0)(h1:a1)(h2:a2)(h3:a3)(h4:a4)(h5:a5):Hid a0/\Hid a1/\Hid a2/\Hid a3/\Hid a4/\Hid a5:=⟨h0,h1,h2,h3,h4,h5⟩
theorem hid7{a0 a1 a2 a3 a4 a5 a6:Prop}(h0:a0)(h1:a1)(h2:a2)(h3:a3)(h4:a4)(h5:a5)(h6:a6):Hid a0/\Hid a1/\Hid a2/\Hid a3/\Hid a4/\Hid a5/\Hid a6:=⟨h0,h1,h2,h3,h4,h5,h6⟩
theorem hid8{a0 a1 a2 a3 a4 a5 a6 a7:Prop}(h0:a0)(h1:a1)(h2:a2)(h3:a3)(h4:a4)(h5:a5)(h6:a6)(h7:a7):Hid a0/\Hid a1/\Hid a2/\Hid a3/\Hid a4/\Hid a5/\Hid a6/\Hid a7:=⟨h0,h1,h2,h3,h4,h5,h6,h7⟩
theorem hid9{a0 a1 a2 a3 a4 a5 a6 a7 a8:Prop}(h0:a0)(h1:a1)(h2:a2)(h3:a3)(h4:a4)(h5:a5)(h6:a6)(h7:a7)(h8:a8):Hid a0/\Hid a1/\Hid a2/\Hid a3/\Hid a4/\Hid a5/\Hid a6/\Hid a7/\Hid a8:=⟨h0,h1,h2,h3,h4,h5,h6,h7,h8⟩
theorem aps:(∀ (a:Act) (d:Tmp) (v:Value),a.put (some d) v={a with tmps:=a.tmps.setIfInBounds d v})/\(∀ (a:Act) (v:Value),a.put none v=a)/\(∀ (l:List Value) (i:Nat) (v:Value),l.toArray.setIfInBounds i v=(l.set i v).toArray)/\(∀ (a b:Value) (l:List Value),(a::l).set 0 b=b::l)/\∀ (a b:Value) (l:List Value) (n:Nat),(a::l).set (n+1) b=a::l.set n b:=⟨λ_ _ _=>rfl,λ_ _=>rfl,λ_ _ _=>by simp,λ_ _ _=>rfl,λ_ _ _ _=>rfl⟩
theorem Az{P:Program}{a:Act}{w:World}{Q:Exit->Act->World->Prop}{c rest:Code}(l:Nat)(hf:findLabel c l=some rest)
  (h:c.wp P (Exit.jump l (λa' w'=>rest.wp P (Exit.noGoto Q) a' w') Q) a w):(Code.scope c).wp P Q a w:=by
 refine wp_scope_jumps l (λa' w'=>rest.wp P (Exit.noGoto Q) a' w') (λ_ _=>0) hf h ?_;intro a w hJ;refine Code.wp_mono ?_ hJ;intro e a w hq
 cases e<;>first|exact hq|exact hq.elim
theorem Aw{l:Nat}{J:Act->World->Prop}{Q:Exit->Act->World->Prop}{a:Act}{w:World}(h:J a w):Exit.jump l J Q (.goto l) a w:=⟨rfl,h⟩
theorem Bq{l:Nat}{J:Act->World->Prop}{Q:Exit->Act->World->Prop}{a:Act}{w:World}(h:Q .ret a w):Exit.jump l J Q .ret a w:=h
structure Keeps(S:Nat->Prop)(w w':World):Prop where
 os:w'.os=w.os
 tape:w'.tape=w.tape
 output:w'.output=w.output
 size:w.heap.size<=w'.heap.size
 block:∀k,k<w.heap.size->¬S k->w'.heap[k]?=w.heap[k]?
abbrev K0:=Keeps (λ_=>False)
theorem Keeps.refl(S:Nat->Prop)(w:World):Keeps S w w:=⟨rfl,rfl,rfl,Nat.le_refl _,λ_ _ _=>rfl⟩
theorem Keeps.mono{S T:Nat->Prop}{w w':World}(h:Keeps S w w')(hST:∀k,k<w.heap.size->S k->T k):Keeps T w w':=
 ⟨h.os,h.tape,h.output,h.size,λk hk hn=>h.block k hk λhs=>hn (hST k hk hs)⟩
theorem Keeps.trans{S:Nat->Prop}{a b c:World}(h:Keeps S a b)(k:Keeps (λi=>S i\/a.heap.size<=i) b c):Keeps S a c:=
 ⟨k.os.trans h.os,k.tape.trans h.tape,k.output.trans h.output,Nat.le_trans h.size k.size,
  λi hi hn=>(k.block i (Nat.lt_of_lt_of_le hi h.size) (λhh=>hh.elim hn (λhh=>by omega))).trans (h.block i hi hn)⟩
theorem Keeps.below{S:Nat->Prop}{B:Nat}{w w':World}(h:Keeps S w w')(hS:∀k,k<B->¬S k)(hB:B<=w.heap.size):Below B w w':=
 ⟨h.os,h.tape,h.output,h.size,λk hk=>h.block k (by omega) (hS k hk)⟩
theorem Keeps.grown{w w':World}{row:Option Nat}(h:w.grownBy w' row):Keeps (λk=>row=some k) w w':=⟨h.os,h.tape,h.output,h.size,λk hk hn=>h.block k hk λe=>hn e.symm⟩
theorem Keeps.grownBy{w w':World}{row:Option Nat}(h:Keeps (λk=>row=some k) w w'):w.grownBy w' row:=⟨h.os,h.tape,h.output,h.size,λk hk hn=>h.block k hk λe=>hn e.symm⟩
theorem Keeps.drewN{S:Nat->Prop}(w:World)(n:Nat):Keeps S w (w.drewN n):=⟨rfl,rfl,rfl,Nat.le_refl _,λ_ _ _=>rfl⟩
theorem Keeps.drew{S:Nat->Prop}(w:World):Keeps S w w.drew:=⟨rfl,rfl,rfl,Nat.le_refl _,λ_ _ _=>rfl⟩
theorem Keeps.alloc{S:Nat->Prop}(w:World)(o:Obj):Keeps S w (w.alloc o):=⟨rfl,rfl,rfl,by simp,λk hk _=>Below.heap_alloc _ _ _ hk⟩
theorem Keeps.setCell{S:Nat->Prop}(w:World)(a:Addr)(u:Value)(h:S a.block):Keeps S w (w.setCell a u):=
 ⟨rfl,rfl,rfl,by simp [World.setCell],λk _ hn=>Below.heap_setCell _ _ _ _ (λe=>hn (e▸h))⟩
theorem Keeps.cell{S:Nat->Prop}{w w':World}(h:Keeps S w w'){p:Addr}(hp:p.block<w.heap.size)(hn:¬S p.block):w'.cell? p=w.cell? p:=World.cell?_of_block (w:=w) (h.block p.block hp hn)
theorem Keeps.row{S:Nat->Prop}{w w':World}(h:Keeps S w w'){base:Nat}{e:TypeId}{size:Nat}{v:Value}{n:Nat}{xs:List Value}(hown:w.ownsRow base e size v n xs)(hn:∀k,v.ownBlock=some k->¬S k):
  w'.ownsRow base e size v n xs:=by
 obtain⟨h1,h2⟩:=hown;refine⟨h1, ?_⟩;rcases h2 with h2|⟨g,cap,cur,hv,hg,hh,r⟩
 ·exact .inl h2
 ·exact .inr ⟨g,cap,cur,hv,hg,by rw [h.block g (lt_of_block hh) (hn g (by rw [hv];rfl))];exact hh,r⟩
theorem add_block(a:Addr)(n:Nat):(a.add n).block=a.block:=by unfold Addr.add;split<;>rfl
theorem Ag{w:World}{a:Addr}{u:Value}(ha:w.cell? a=some u):a.block<w.heap.size:=by
 unfold World.cell? at ha;rcases hb:w.heap[a.block]? with _|o
 ·rw [hb] at ha;simp at ha
 ·exact lt_of_block hb
theorem Dx(g o j:Nat):(⟨g,o,none⟩:Addr).add j=⟨g,o+j,none⟩:=by unfold Addr.add;split<;>simp_all
def Reads(w:World)(size:Nat)(x:Value)(m:Nat)(news:List Value):Prop:=
 ∃ad c,x= .slice ad m c/\m<=c/\news.length=m*size/\(ad=none->c=0)/\∀j u,news[j]?=some u->∃g o,ad=some ⟨g,o,none⟩/\w.cell? ⟨g,o+j,none⟩=some u
theorem Reads.Bb{w:World}{base:Nat}{e:TypeId}{size:Nat}{v:Value}{n:Nat}{xs:List Value}(h:w.ownsRow base e size v n xs):Reads w size v n xs:=by
 have hc:=λg (hg:v.ownBlock=some g)=>h.cells hg;obtain⟨h1,⟨rfl,rfl⟩|⟨g,cap,cur,rfl,_,_,hn,_⟩⟩:=h
 ·exact⟨none,0,rfl,Nat.le_refl _,h1,λ_=>rfl,λj u hj=>by have:xs= []:=List.eq_nil_of_length_eq_zero (by simpa using h1);subst this;simp at hj⟩
 ·exact⟨some ⟨g,0,none⟩,cap,rfl,hn,h1,by simp,λj u hj=>⟨g,0,rfl,by rw [<-Dx];exact hc g rfl j u hj⟩⟩
theorem Reads.nil(w:World)(size:Nat):Reads w size (.slice none 0 0) 0 []:=⟨none,0,rfl,Nat.le_refl _,by simp,λ_=>rfl,λj u hj=>by simp at hj⟩
theorem Reads.keeps{S:Nat->Prop}{w w':World}{size:Nat}{x:Value}{m:Nat}{news:List Value}(h:Reads w size x m news)(hk:Keeps S w w')
  (hS:∀k,x.ownBlock=some k->¬S k):Reads w' size x m news:=by
 obtain⟨ad,c,rfl,h1,h2,h3,h4⟩:=h;refine⟨ad,c,rfl,h1,h2,h3,λj u hj=> ?_⟩;obtain⟨g,o,rfl,ha⟩:=h4 j u hj;exact⟨g,o,rfl,by rw [hk.cell (Ag ha) (hS g rfl)];exact ha⟩
theorem Lt{P:Program}(w:World)(base:Nat)(t ty e:TypeId)(i:TypeInfo)(z:Value)(size bytes:Nat)(ht:P.underlying t=some (.slice e))(hi:P.info? e=some i)(hz:i.zero=some z)
  (hsize:i.size=size) (hby:i.bytes=bytes) (hzs:z.cells.size=size) (hsz:0<size)
  (v:Value) (n:Nat) (xs:List Value) (hown:w.ownsRow base e size v n xs)
  (x:Value) (m:Nat) (news:List Value) (hx:Reads w size x m news) (h1:∀u∈news,u.oneCell'=true)
  (h63:n+m<=maxLen) (hbytes:(n+m)*bytes<=140737488355328) (hbase:base<=w.heap.size):
  ∃v' w',(Builtin.append_ #[t,t] ty #[v,x]).run P w= .ok v' w'/\w'.ownsRow base e size v' (n+m) (xs++news)/\Keeps (λk=>v.ownBlock=some k) w w'/\
   (v'.ownBlock=v.ownBlock\/∃g,v'.ownBlock=some g/\w.heap.size<=g)/\(v'= .slice none 0 0↔v= .slice none 0 0/\m=0):=by
 obtain⟨ad,c,rfl,hmc,hl,hnone,hnews⟩:=hx;rcases ad with _|a
 ·have hc0:=hnone rfl;subst hc0;obtain rfl:m=0:=by omega
  obtain rfl:news= []:=List.eq_nil_of_length_eq_zero jy;have hr:=run_append_owned_none (P:=P) w base t ty e i size ht hi v n xs hown;exact⟨v,w,hr,by simpa using hown,Keeps.refl _ _,.inl rfl,by simp⟩
 ·have hnews':∀j u,news[j]?=some u->w.cell? (a.add j)=some u:=λj u hj=>by
   obtain⟨g,o,ha',hh⟩:=hnews j u hj
   cases ha'
   rw [Dx];exact hh
  obtain⟨v',w',hr,hown',hgr,hnil⟩:=run_append_own (P:=P) w base t ty e i z size bytes ht hi hz hsize hby hzs hsz v n xs hown a m c news hl hnews' h1 h63 hbytes hbase;refine⟨v',w',hr,hown',Keeps.grown hgr, ?_,hnil⟩;subst hsize;subst hby
  have hm63:n+m<=9223372036854775807:=by simp only [maxLen] at h63;omega
  rcases hown.2 with⟨rfl,rfl⟩|⟨g,cap,cur,rfl,hbg,hg,hnc,hcm,hcs,htake⟩
  ·by_cases hm:m=0
   ·left;rw [hnil.2 ⟨rfl,hm⟩]
   ·have hr2:=run_append_nil (P:=P) w t ty e i z ht hi hz a m c news hl hnews' j6 j6 (by have hb:=hbytes;simp only [Nat.zero_add] at hb;omega);exact j27
  ·by_cases hroom:n+m<=cap
   ·have hfit:n*i.size+news.length<=cur.size:=by rw [hl,hcs,<-Nat.add_mul];exact Nat.mul_le_mul_right _ hroom
    have hr2:=run_append_room (P:=P) w t ty e i ht hi g n cap cur hg a m c news hl hnews' h1 hroom hfit;rw [hr2] at hr;injection hr with hv hw
    left
    rw [<-hv];rfl
   ·have holds:∀j u,xs[j]?=some u->w.cell? ((⟨g,0,none⟩:Addr).add j)=some u:=hown.cells (g:=g) rfl;have hr2:=run_append_grow (P:=P) w t ty e i z ht hi hz ⟨g,0,none⟩ n cap xs hown.1 holds a m c news hl hnews' j6 j6 (growslice_fits j6 hbytes);exact j27
theorem Ap{P:Program}{w:World}{ops:Array Oper}{rest:List Oper}{o:Oper}{a:Act}{Q:Exit->Act->World->Prop}(hgd:o.guard=none)(s x:Operand)(t:TypeId)
  (ho:o.op= .call { callee:= .builtin .append,args:= #[s,x],argTypes:= #[t,t] })
  (base:Nat) (e:TypeId) (i:TypeInfo) (z:Value) (size bytes:Nat) (ht:P.underlying t=some (.slice e)) (hi:P.info? e=some i) (hz:i.zero=some z)
  (hsize:i.size=size) (hby:i.bytes=bytes) (hzs:z.cells.size=size) (hsz:0<size)
  (v:Value) (n:Nat) (xs:List Value) (hs:a.eval s=v) (hown:w.ownsRow base e size v n xs)
  (xv:Value) (m:Nat) (news:List Value) (hx:a.eval x=xv) (hxr:Reads w size xv m news) (h1:∀u∈news,u.oneCell'=true)
  (h63:n+m<=maxLen) (hbytes:(n+m)*bytes<=140737488355328) (hbase:base<=w.heap.size)
  (h:∀v' w',w'.ownsRow base e size v' (n+m) (xs++news)->Keeps (λk=>v.ownBlock=some k) w w'->(v'.ownBlock=v.ownBlock\/∃g,v'.ownBlock=some g/\w.heap.size<=g)->wpList P ops Q rest (a.put o.dst v') w'):wpList P ops Q (o::rest) a w:=by
 refine wpList_plain hgd λK hK=> ?_;obtain⟨v',w',hr,h2,h3,h4,_⟩:=Lt (P:=P) w base t o.type e i z size bytes ht hi hz hsize hby hzs hsz v n xs hown xv m news hxr h1 h63 hbytes hbase;refine j28 ?_;exact hK _ _ (h v' w' h2 h3 h4)
theorem Aa{w:World}{b:Nat}{c:Array Value}{t:TypeId}{fz:Nat×Nat}(hb:w.heap[b]?=some (.cells c t fz))(j:Nat):w.cell? ⟨b,j,none⟩=c[j]?:=by simp [World.cell?,hb]
theorem Reads.lit(w:World)(cs:Array Value)(e:TypeId)(size n:Nat)(hs:cs.size=n*size):Reads (w.alloc (.cells cs e)) size (.slice (some ⟨w.heap.size,0,none⟩) n n) n cs.toList:=
 ⟨some ⟨w.heap.size,0,none⟩,n,rfl,Nat.le_refl _,by simpa using hs,by simp,λj u hj=>⟨w.heap.size,0,rfl,by
  have hb:(w.alloc (.cells cs e)).heap[w.heap.size]?=some (.cells cs e (0,0)):=heap_alloc_new w _;rw [Aa hb,Nat.zero_add]
  simpa using hj⟩⟩
theorem Ai{w:World}{base:Nat}{e:TypeId}{size:Nat}{v:Value}{n:Nat}{xs:List Value}(h:w.ownsRow base e size v n xs){b:Nat}{c:Array Value}{t:TypeId}{fz:Nat×Nat}
  (hb:w.heap[b]?=some (.cells c t fz)) (hne:t≠e):v.ownBlock≠some b:=by
 intro hv;rcases h.2 with⟨rfl,_⟩|⟨g,cap,cur,rfl,_,hg,_⟩
 ·simp [Value.ownBlock] at hv
 ·simp only [Value.ownBlock,Option.some.injEq] at hv;subst hv;rw [hb] at hg;injection hg with hg;injection hg with _ he _;exact hne he
theorem Ae{w:World}{base:Nat}{e:TypeId}{size:Nat}{v:Value}{n:Nat}{xs:List Value}(h:w.ownsRow base e size v n xs):∃ad cap,v= .slice ad n cap/\n<=cap/\(ad=none->cap=0):=by
 rcases h.2 with⟨h,h'⟩|⟨g,cap,cur,h,_,_,h',_⟩
 ·exact⟨none,0,by rw [h,h'],by omega,λ_=>rfl⟩
 ·exact⟨_,cap,h,h',by simp⟩
theorem Ab{w:World}{b:Nat}{c:Array Value}{t:TypeId}(hb:w.heap[b]?=some (.cells c t (0,0)))(j:Nat):w.frozen? ⟨b,j,none⟩=false:=by simp [World.frozen?,hb]
section flat
variable {α:Type} {f:α->List Value} {size:Nat} (hf:∀x,(f x).length=size)
include hf
theorem Df(L:List α):(L.flatMap f).length=L.length*size:=by
 induction L with
 |nil=>simp
 |cons a l ih=>simp [List.flatMap_cons,hf,ih,Nat.add_mul];omega
theorem flat_get{L:List α}{k j:Nat}{x:α}(hx:L[k]?=some x)(hj:j<size):(L.flatMap f)[k*size+j]?=(f x)[j]?:=by
 induction L generalizing k with
 |nil=>simp at hx
 |cons a l ih=>
  rw [List.flatMap_cons]
  cases k with
  |zero=>
   simp only [List.getElem?_cons_zero,Option.some.injEq] at hx;subst hx;rw [List.getElem?_append_left (by rw [hf];omega)];simp
  |succ k=>
   have hx':l[k]?=some x:=by simpa using hx
   rw [List.getElem?_append_right (by rw [hf,Nat.succ_mul];omega),hf,<-ih hx']
   congr 1
   rw [Nat.succ_mul];omega
theorem flat_set{L:List α}{k j:Nat}{x y:α}{u:Value}(hx:L[k]?=some x)(hj:j<size)(hy:(f x).set j u=f y):(L.flatMap f).set (k*size+j) u=(L.set k y).flatMap f:=by
 induction L generalizing k with
 |nil=>simp at hx
 |cons a l ih=>
  rw [List.flatMap_cons]
  cases k with
  |zero=>
   simp only [List.getElem?_cons_zero,Option.some.injEq] at hx;subst hx;rw [List.set_append_left _ _ (by rw [hf];omega)];simp [hy]
  |succ k=>
   have hx':l[k]?=some x:=by simpa using hx
   rw [List.set_append_right _ _ (by rw [hf,Nat.succ_mul];omega),hf,List.set_cons_succ,List.flatMap_cons,<-ih hx']
   congr 2
   rw [Nat.succ_mul];omega
theorem Bu{w:World}{base:Nat}{e:TypeId}{g cap:Nat}{L:List α}(h:w.ownsRow base e size (.slice (some ⟨g,0,none⟩) L.length cap) L.length (L.flatMap f)){k:Nat}{x:α}(hx:L[k]?=some x)(j:Nat)(hj:j<size):
  w.cell? ⟨g,k*size+j,none⟩=(f x)[j]?:=by
 have hk:k<L.length:=by
  exact j0u
 have:(k+1)*size<=L.length*size:=Nat.mul_le_mul_right _ hk;rw [Nat.succ_mul] at this;rw [h.cellAt _ j6,flat_get hf hx hj]
theorem Reads.elem{w:World}{x:Value}{n:Nat}{L:List α}(h:Reads w size x n (L.flatMap f)){k:Nat}{a:α}(hx:L[k]?=some a)(hs:0<size):
  ∃g o c,x= .slice (some ⟨g,o,none⟩) n c/\∀j,j<size->w.cell? ⟨g,o+k*size+j,none⟩=(f a)[j]?:=by
 obtain⟨ad,c,rfl,h1,h2,h3,h4⟩:=h;have key:∀j,j<size->∃u,(f a)[j]?=some u:=λj hj=>⟨(f a)[j]'(by rw [hf];exact hj),List.getElem?_eq_getElem _⟩;obtain⟨u0,hu0⟩:=key 0 hs;obtain⟨g,o,rfl,_⟩:=h4 (k*size+0) u0 (by rw [flat_get hf hx hs];exact hu0);refine⟨g,o,c,rfl,λj hj=> ?_⟩;obtain⟨u,hu⟩:=key j hj;obtain⟨g',o',he,hc⟩:=h4 (k*size+j) u (by rw [flat_get hf hx hj];exact hu);simp only [Option.some.injEq,Addr.mk.injEq,and_true] at he;obtain⟨rfl,rfl⟩:=he;rw [hu,Nat.add_assoc];exact hc
theorem Ja{w:World}{base:Nat}{e:TypeId}{g cap:Nat}{L:List α}(h:w.ownsRow base e size (.slice (some ⟨g,0,none⟩) L.length cap) L.length (L.flatMap f)){k:Nat}{x y:α}(hx:L[k]?=some x)(j:Nat)(hj:j<size)
  {u:Value} (hy:(f x).set j u=f y):(w.setCell ⟨g,k*size+j,none⟩ u).ownsRow base e size (.slice (some ⟨g,0,none⟩) L.length cap) L.length ((L.set k y).flatMap f):=by
 have:=(h.stored (k*size+j) u).1
 rwa [flat_set hf hx hj hy] at this
end flat
theorem Ff{w:World}{base:Nat}{e:TypeId}{size:Nat}{v:Value}{n:Nat}{xs:List Value}(h:w.ownsRow base e size v n xs)(hn:0<n):∃g cap,v= .slice (some ⟨g,0,none⟩) n cap/\g<w.heap.size:=by
 rcases h.2 with⟨_,h'⟩|⟨g,cap,cur,h,_,hh,_⟩
 ·omega
 ·exact⟨g,cap,h,lt_of_block hh⟩
theorem Wn(w:World)(a:Addr)(u v:Value):(w.setCell a u).setCell a v=w.setCell a v:=by
 unfold World.setCell
 congr 1
 apply Array.ext_getElem?
 intro i;simp only [Array.getElem?_modify]
 split
 ·rename_i h;subst h;rcases w.heap[a.block]? with _|o
  ·rfl
  ·cases o<;>simp
   split<;>simp [Array.setIfInBounds_setIfInBounds]
 ·rfl
theorem Dl{α:Type}{L:List α}{k:Nat}{x:α}(hx:L[k]?=some x):k<L.length:=by
 exact j0u
theorem Below.keeps{B:Nat}{w a b:World}{S:Nat->Prop}(h:Below B w a)(hk:Keeps S a b)(hS:∀k,S k->B<=k)(hB:B<=w.heap.size):Below B w b:=
 h.trans (hk.below (λk hk hs=>by have:=hS k hs;omega) (Nat.le_trans hB h.size))
theorem Nb{S:Nat->Prop}{w w':World}{cs:Array Value}{t:TypeId}(h:Keeps S (w.alloc (.cells cs t)) w')(hS:¬S w.heap.size):w'.heap[w.heap.size]?=some (.cells cs t (0,0)):=by
 rw [h.block _ (by simp) hS];exact heap_alloc_new w _
theorem Ad{S:Nat->Prop}{w w':World}{b:Nat}{o:Obj}(hb:w.heap[b]?=some o)(h:Keeps S w w')(hS:¬S b):w'.heap[b]?=some o:=by
 rw [h.block _ (lt_of_block hb) hS];exact hb
theorem Aq{w:World}{b:Nat}{o:Obj}(hb:w.heap[b]?=some o)(o':Obj):(w.alloc o').heap[b]?=some o:=(Below.heap_alloc _ _ _ (lt_of_block hb)).trans hb
theorem Reads.below{w w':World}{size:Nat}{x:Value}{m:Nat}{news:List Value}(h:Reads w size x m news)(hb:Below w.heap.size w w'):Reads w' size x m news:=by
 obtain⟨ad,c,rfl,h1,h2,h3,h4⟩:=h;refine⟨ad,c,rfl,h1,h2,h3,λj u hj=> ?_⟩;obtain⟨g,o,rfl,ha⟩:=h4 j u hj;exact⟨g,o,rfl,by rw [hb.cell (Ag ha)];exact ha⟩
theorem Reads.int{w:World}{k:IntKind}{ad:Option Addr}{n c:Nat}{L:List Int}(h:Reads w 1 (.slice ad n c) n (L.flatMap λz=> [Value.int k z])){i:Nat}{x:Int}(hx:L[i]?=some x):
  ∃g o,ad=some ⟨g,o,none⟩/\w.cell? ⟨g,o+i,none⟩=some (.int k x):=by
 obtain⟨g,o,c',he,hc⟩:=Reads.elem (f:=λz=> [Value.int k z]) (λ_=>rfl) h hx j7;exact j29
theorem Reads.bool{w:World}{ad:Option Addr}{n c:Nat}{L:List Bool}(h:Reads w 1 (.slice ad n c) n (L.flatMap λz=> [Value.bool z])){i:Nat}{x:Bool}(hx:L[i]?=some x):
  ∃g o,ad=some ⟨g,o,none⟩/\w.cell? ⟨g,o+i,none⟩=some (.bool x):=by
 obtain⟨g,o,c',he,hc⟩:=Reads.elem (f:=λz=> [Value.bool z]) (λ_=>rfl) h hx j7;exact j29
theorem Nk{P:Program}(w:World)(dT sT ty elem:TypeId)(size g o dLen dCap:Nat)(a:Addr)(sLen sCap:Nat)(cur:Array Value)(t:TypeId)(cs:List Value)
  (hu:P.underlying dT=some (.slice elem)) (hs:(P.info? elem).map (·.size)=some size)
  (hg:w.heap[g]?=some (.cells cur t (0,0))) (hn:cs.length=Nat.min sLen dLen*size)
  (hsrc:∀j v,cs[j]?=some v->w.cell? (a.add j)=some v) (hfit:o+cs.length<=cur.size) (h1:∀v∈cs,v.oneCell'=true):
  (Builtin.copy_ #[dT,sT] ty #[.slice (some ⟨g,o,none⟩) dLen dCap,.slice (some a) sLen sCap]).run P w=
   .ok (goInt (Nat.min sLen dLen)) (w.setRow g (cur.toList.take o++cs++cur.toList.drop (o+cs.length)).toArray):=by
 have hl:=run_loadCells_list (P:=P) w a cs hsrc;have hst:=run_storeCells_at P g o t cs 0 cur w hg (by simpa using hfit) h1
 cases hq:P.info? elem with
 |none=>simp [hq] at hs
 |some i=>
  have hi:i.size=size:=by simpa [hq] using hs
  simp [Builtin.copy_,run_underlying hu,Builtin.lenOf,Builtin.firstCells,sizeOf,typeInfo,hq,hi,<-hn,hl,hst]
theorem run_append_grow_zeros {P:Program}(w:World)(t tn ty e:TypeId)(i:TypeInfo)(z:Value)(kn:IntKind)(ht:P.underlying t=some (.slice e))(htn:P.underlying tn=some (.int kn))(hi:P.info? e=some i)(hz:i.zero=some z)
  (b:Addr) (sLen sCap:Nat) (olds:List Value) (hlo:olds.length=sLen*i.size) (holds:∀j v,olds[j]?=some v->w.cell? (b.add j)=some v)
  (n:Nat) (h0:0<n) (hs:0<i.size) (hg:sCap<sLen+n) (h63:((sLen+n:Nat):Int)<=9223372036854775807) (h48:n*i.bytes<=281474976710656) (hfit:Builtin.nextslicecap (sLen+n) sCap*i.bytes<=281474976710656):
  (Builtin.append_ #[t,tn] ty #[.slice (some b) sLen sCap,.int kn n]).run P w=
   .ok (.slice (some ⟨w.heap.size,0,none⟩) (sLen+n) (grownCap w (sLen+n) sCap e))
    (w.drew.alloc (.cells (olds.toArray++Builtin.zeroCells z.cells n++Builtin.zeroCells z.cells (grownCap w (sLen+n) sCap e-(sLen+n))) e)):=by
 have hn:n≠0:=j8;have hn':¬(sLen+n<=sCap):=j8;have hw:IntKind.i64.wrap (n:Int)=n:=by rw [IntKind.wrap_i64];omega
 have h63':¬(9223372036854775807<((sLen:Int)+(n:Int))):=j8;have h48':¬(281474976710656<Builtin.nextslicecap (sLen+n) sCap*i.bytes):=j8
 have h48i:¬(281474976710656<(n:Int)*(i.bytes:Int)):=by
  rw [<-Int.natCast_mul];omega
 have hneg:¬((n:Int)<0):=j8;have hns:¬(n*i.size=0):=Nat.mul_ne_zero hn j6;have hfo:=run_firstCells_some (P:=P) w.drew i.size sLen b sLen sCap olds hlo (by simpa using holds);simp [Builtin.append_,run_underlying ht,run_underlying htn,sizeOf,typeInfo,zeroValue,hi,hz,asInt,asIntOf,hw,hn',hneg,hns,h63',h48',h48i,Question.forced,hfo,newRow,grownCap]
theorem ins_room{X1 X2 Z N:List Value}{a b s:Nat}(h1:X1.length=a)(h2:X2.length=b)(hN:N.length=s)(hz:s<=Z.length)(cur c1:List Value)(hcur:cur=X1++(X2++Z))(hc1:c1=cur.take (a+s)++X2++cur.drop (a+s+X2.length)):
  (c1.take a++N++c1.drop (a+N.length)).take (a+s+b)=X1++N++X2:=by
 have e1:cur.take (a+s)=X1++(X2++Z).take s:=by rw [hcur,List.take_append,h1];simp [List.take_of_length_le (show X1.length<=a+s by omega)]
 have l1:((X2++Z).take s).length=s:=by simp;omega
 have e2:c1.take a=X1:=by
  rw [hc1,e1,List.append_assoc,List.append_assoc,List.take_append,h1];simp [List.take_of_length_le (show X1.length<=a by omega)]
 have e3:c1.drop (a+s)=X2++cur.drop (a+s+X2.length):=by
  rw [hc1,e1,List.append_assoc,List.drop_append];simp only [List.length_append,h1,l1];rw [List.drop_eq_nil_of_le (by simp [h1,l1])];simp
 rw [hN,e2,e3,List.append_assoc,List.append_assoc,<-List.append_assoc X1,List.take_append];rw [List.take_of_length_le ji];simp only [List.length_append,h1,hN];rw [show a+s+b-(a+s)=b by omega,List.take_append,h2];simp [List.take_of_length_le (show X2.length<=b by omega)]
theorem ins_grow{X1 X2 Z N:List Value}{a b s:Nat}(h1:X1.length=a)(h2:X2.length=b)(hN:N.length=s)(_:s+b<=Z.length)(cur c1:List Value)(hcur:cur=X1++Z)(hc1:c1=cur.take a++N++cur.drop (a+N.length)):
  (c1.take (a+s)++X2++c1.drop (a+s+X2.length)).take (a+s+b)=X1++N++X2:=by
 have e1:cur.take a=X1:=by rw [hcur,List.take_append,h1];simp [List.take_of_length_le (show X1.length<=a by omega)]
 have e2:c1.take (a+s)=X1++N:=by
  rw [hc1,e1,List.take_append];simp only [List.length_append,h1,hN];rw [List.take_of_length_le ji];simp
 rw [e2,List.take_append];simp only [List.length_append,h1,hN,h2];rw [List.take_of_length_le ji,show a+s+b-(a+s+b)=0 by omega];simp
def laid(cur:List Value)(o:Nat)(cs:List Value):List Value:=cur.take o++cs++cur.drop (o+cs.length)
theorem Fg(cur:List Value)(o:Nat)(cs:List Value)(h:o+cs.length<=cur.length):(laid cur o cs).length=cur.length:=by simp [laid];omega
theorem Ct{P:Program}{w:World}{ops:Array Oper}{rest:List Oper}{o:Oper}{a:Act}{Q:Exit->Act->World->Prop}(hgd:o.guard=none)(d s:Operand)(dT sT:TypeId)
  (ho:o.op= .call { callee:= .builtin .copy,args:= #[d,s],argTypes:= #[dT,sT] }) (elem:TypeId) (size:Nat) (hu:P.underlying dT=some (.slice elem)) (hsz:(P.info? elem).map (·.size)=some size)
  (g off dLen dCap:Nat) (ad:Addr) (sLen sCap:Nat) (hd:a.eval d= .slice (some ⟨g,off,none⟩) dLen dCap) (hs:a.eval s= .slice (some ad) sLen sCap)
  (cur:List Value) (t:TypeId) (hg:w.heap[g]?=some (.cells cur.toArray t (0,0))) (cs:List Value) (m:Nat) (hm:Nat.min sLen dLen=m) (hn:cs.length=m*size)
  (hsrc:∀j v,cs[j]?=some v->w.cell? (ad.add j)=some v) (hfit:off+cs.length<=cur.length) (h1:∀v∈cs,v.oneCell'=true)
  (h:∀w',w'.heap[g]?=some (.cells (laid cur off cs).toArray t (0,0))->Keeps (λk=>k=g) w w'->wpList P ops Q rest (a.put o.dst (.int .i64 (m:Int))) w'):wpList P ops Q (o::rest) a w:=by
 subst hm;refine wpList_plain hgd λK hK=> ?_;refine j2a ?_;intro hrun;exact hK _ _ (h _ (setRow_heap w g _ _ t _ hg) ⟨rfl,rfl,rfl,by simp,λk _ hk=>setRow_other w g k _ hk⟩)
theorem Dj{P:Program}{ops:Array Oper}{o:Oper}{a:Act}{w:World}{K:Act->World->Prop}{Q:Exit->Act->World->Prop}{E:Prop}(hgd:o.guard=none)(d s:Operand)(dT sT:TypeId)
  (ho:o.op= .call { callee:= .builtin .copy,args:= #[d,s],argTypes:= #[dT,sT] }) (elem:TypeId) (size:Nat) (hu:P.underlying dT=some (.slice elem)) (hsz:(P.info? elem).map (·.size)=some size)
  (g off dLen dCap:Nat) (ad:Addr) (sLen sCap:Nat) (hd:a.eval d= .slice (some ⟨g,off,none⟩) dLen dCap) (hs:a.eval s= .slice (some ad) sLen sCap)
  (cur:List Value) (t:TypeId) (hg:w.heap[g]?=some (.cells cur.toArray t (0,0))) (cs:List Value) (m:Nat) (hm:Nat.min sLen dLen=m) (hn:cs.length=m*size)
  (hsrc:∀j v,cs[j]?=some v->w.cell? (ad.add j)=some v) (hfit:off+cs.length<=cur.length) (h1:∀v∈cs,v.oneCell'=true)
  (h:∀w',w'.heap[g]?=some (.cells (laid cur off cs).toArray t (0,0))->Keeps (λk=>k=g) w w'->K (a.put o.dst (.int .i64 (m:Int))) w'):
  if Region.wanted o (yielded ops a.tmps)=true then Oper.wp P o a w K Q else E:=by
 have hw:Region.wanted o (yielded ops a.tmps)=true:=by simp [Region.wanted,hgd]
 rw [if_pos hw];subst hm;refine j2a ?_;intro hrun;exact h _ (setRow_heap w g _ _ t _ hg) ⟨rfl,rfl,rfl,by simp,λk _ hk=>setRow_other w g k _ hk⟩
theorem Ux{w w1:World}{o:Obj}{e:TypeId}{size:Nat}{v v':Value}{n:Nat}{zs:List Value}(h1:w1.ownsRow 0 e size v' n zs)(h2:Keeps (λk=>v.ownBlock=some k) (w.alloc o) w1)(h3:v'.ownBlock=v.ownBlock\/∃g,v'.ownBlock=some g/\w.heap.size+1<=g):
  w1.ownsRow 0 e size v' n zs/\Keeps (λk=>v.ownBlock=some k) w w1/\(v'.ownBlock=v.ownBlock\/∃g,v'.ownBlock=some g/\w.heap.size<=g):=
 ⟨h1,(Keeps.alloc w o).trans (h2.mono λ_ _ h=> .inl h),h3.imp id fun⟨g,hg,hh⟩=>⟨g,hg,by omega⟩⟩
theorem Ng{P:Program}{w:World}{ops:Array Oper}{rest:List Oper}{o:Oper}{a:Act}{Q:Exit->Act->World->Prop}(hgd:o.guard=none)(s x:Operand)(t tn:TypeId)
  (ho:o.op= .call { callee:= .builtin .append,args:= #[s,x],argTypes:= #[t,tn] }) (e:TypeId) (i:TypeInfo) (z:Value) (size bytes:Nat) (kn:IntKind) (ht:P.underlying t=some (.slice e)) (htn:P.underlying tn=some (.int kn)) (hi:P.info? e=some i) (hz:i.zero=some z)
  (hsize:i.size=size) (hby:i.bytes=bytes) (hzs:z.cells.size=size) (hs0:0<size)
  (b:Addr) (sLen sCap:Nat) (olds:List Value) (n:Nat) (hs:a.eval s= .slice (some b) sLen sCap) (hx:a.eval x= .int kn n) (hlo:olds.length=sLen*size) (holds:∀j v,olds[j]?=some v->w.cell? (b.add j)=some v)
  (h0:0<n) (hg:sCap<sLen+n) (h63:sLen+n<=1000000000002) (hbb:bytes<=100)
  (h:∀G Z w',sLen+n<=G->G<=maxLen->Z.length=(G-sLen)*size->w'.heap[w.heap.size]?=some (.cells (olds++Z).toArray e (0,0))->K0 w w'->wpList P ops Q rest (a.put o.dst (.slice (some ⟨w.heap.size,0,none⟩) (sLen+n) G)) w'):
  wpList P ops Q (o::rest) a w:=by
 subst hsize;subst hby
 have hb1:(sLen+n)*i.bytes<=140737488355328:=Nat.le_trans (Nat.mul_le_mul h63 hbb) j6;have hb2:n*i.bytes<=281474976710656:=Nat.le_trans (Nat.mul_le_mul_right _ (Nat.le_add_left n sLen)) j6;have hr:=run_append_grow_zeros (P:=P) w t tn o.type e i z kn ht htn hi hz b sLen sCap olds hlo holds n h0 hs0 hg j6 hb2 (growslice_fits hg hb1);refine Lib.wpList_append_run w hgd s x t tn ho _ _ hs hx _ _ hr ?_;have hge:=grownCap_ge w (sLen+n) sCap e;have hcm:=grownCap_le_maxLen w (sLen+n) sCap e jd;refine h _ ((Builtin.zeroCells z.cells n++Builtin.zeroCells z.cells (grownCap w (sLen+n) sCap e-(sLen+n))).toList) _ hge hcm ?_ ?_ ((Keeps.drew w).trans (Keeps.alloc _ _))
 ·simp only [Array.toList_append,List.length_append,Array.length_toList,size_zeroCells,hzs,<-Nat.add_mul]
  congr 1
  omega
 ·have:=heap_alloc_new w.drew (.cells (olds.toArray++Builtin.zeroCells z.cells n++Builtin.zeroCells z.cells (grownCap w (sLen+n) sCap e-(sLen+n))) e);rw [show w.drew.heap.size=w.heap.size from rfl] at this;rw [this]
  congr 2
  apply Array.ext'
  simp
theorem Ca{P:Program}{ops:Array Oper}{o:Oper}{a:Act}{w:World}{K:Act->World->Prop}{Q:Exit->Act->World->Prop}{E:Prop}(hgd:o.guard=none)(s x:Operand)(t:TypeId)
  (ho:o.op= .call { callee:= .builtin .append,args:= #[s,x],argTypes:= #[t,t] })
  (base:Nat) (e:TypeId) (i:TypeInfo) (z:Value) (size bytes:Nat) (ht:P.underlying t=some (.slice e)) (hi:P.info? e=some i) (hz:i.zero=some z)
  (hsize:i.size=size) (hby:i.bytes=bytes) (hzs:z.cells.size=size) (hsz:0<size)
  (v:Value) (n:Nat) (xs:List Value) (hs:a.eval s=v) (hown:w.ownsRow base e size v n xs)
  (xv:Value) (m:Nat) (news:List Value) (hx:a.eval x=xv) (hxr:Reads w size xv m news) (h1:∀u∈news,u.oneCell'=true)
  (h63:n+m<=maxLen) (hbytes:(n+m)*bytes<=140737488355328) (hbase:base<=w.heap.size)
  (h:∀v' w',w'.ownsRow base e size v' (n+m) (xs++news)->Keeps (λk=>v.ownBlock=some k) w w'->(v'.ownBlock=v.ownBlock\/∃g,v'.ownBlock=some g/\w.heap.size<=g)->K (a.put o.dst v') w'):
  if Region.wanted o (yielded ops a.tmps)=true then Oper.wp P o a w K Q else E:=by
 have hw:Region.wanted o (yielded ops a.tmps)=true:=by simp [Region.wanted,hgd]
 rw [if_pos hw];obtain⟨v',w',hr,h2,h3,h4,_⟩:=Lt (P:=P) w base t o.type e i z size bytes ht hi hz hsize hby hzs hsz v n xs hown xv m news hxr h1 h63 hbytes hbase;refine j28 ?_;exact h v' w' h2 h3 h4
theorem Reads.pre{w:World}{size n c:Nat}{ad:Option Addr}{xs:List Value}(h:Reads w size (.slice ad n c) n xs)(k:Nat)(hk:k<=n):Reads w size (.slice ad k c) k (xs.take (k*size)):=by
 obtain⟨ad',c',he,h1,h2,h3,h4⟩:=h;simp only [Value.slice.injEq,true_and] at he;obtain⟨rfl,rfl⟩:=he;have hm:k*size<=n*size:=Nat.mul_le_mul_right _ hk;refine⟨ad,c,rfl,by omega,by rw [List.length_take,h2];omega,h3,λj u hj=>h4 j u ?_⟩;rw [List.getElem?_take] at hj
 split at hj
 ·exact hj
 ·simp at hj
theorem Reads.suf{w:World}{size n c g o:Nat}{xs:List Value}(h:Reads w size (.slice (some ⟨g,o,none⟩) n c) n xs)(k:Nat)(hk:k<=n):Reads w size (.slice (some ⟨g,o+k*size,none⟩) (n-k) (c-k)) (n-k) (xs.drop (k*size)):=by
 obtain⟨ad',c',he,h1,h2,h3,h4⟩:=h;simp only [Value.slice.injEq,true_and] at he;obtain⟨rfl,rfl⟩:=he;refine⟨_,_,rfl,by omega,by rw [List.length_drop,h2,Nat.sub_mul],by simp,λj u hj=> ?_⟩;rw [List.getElem?_drop] at hj;obtain⟨g',o',he,hc⟩:=h4 _ u hj;simp only [Option.some.injEq,Addr.mk.injEq,and_true] at he;obtain⟨rfl,rfl⟩:=he;exact⟨g,o+k*size,rfl,by rw [Nat.add_assoc];exact hc⟩
theorem Reads.drew{w:World}{size:Nat}{x:Value}{m:Nat}{news:List Value}(h:Reads w size x m news):Reads w.drew size x m news:=h.keeps (Keeps.drew (S:=λ_=>False) _) (by simp)
theorem Reads.alloc{w:World}{size:Nat}{x:Value}{m:Nat}{news:List Value}(h:Reads w size x m news)(o:Obj):Reads (w.alloc o) size x m news:=h.keeps (Keeps.alloc (S:=λ_=>False) _ _) (by simp)
theorem Reads.blk{w:World}{g:Nat}{cs:Array Value}{e:TypeId}{fz:Nat×Nat}{size n:Nat}(hb:w.heap[g]?=some (.cells cs e fz))(hs:cs.size=n*size):Reads w size (.slice (some ⟨g,0,none⟩) n n) n cs.toList:=
 ⟨some ⟨g,0,none⟩,n,rfl,Nat.le_refl _,by simpa using hs,by simp,λj u hj=>⟨g,0,rfl,by
  rw [Aa hb,Nat.zero_add]
  simpa using hj⟩⟩
theorem Au{α:Type}{L:List α}{k:Nat}(h:k<L.length):∃x,L[k]?=some x:=⟨L[k],List.getElem?_eq_getElem h⟩
theorem take_snoc'{α:Type}{L:List α}{k:Nat}{x:α}(h:L[k]?=some x):L.take (k+1)=L.take k++ [x]:=by rw [List.take_add_one,h];rfl
def Fresh(w0 w:World)(v:Value):Prop:=K0 w0 w/\∀g,v.ownBlock=some g->w0.heap.size<=g
theorem Fresh.nil(w:World):Fresh w w (.slice none 0 0):=⟨Keeps.refl _ _,by simp [Value.ownBlock]⟩
theorem Fresh.keep{w0 w w':World}{v:Value}(h:Fresh w0 w v)(hk:K0 w w'):Fresh w0 w' v:=⟨h.1.trans (hk.mono (by simp)),h.2⟩
theorem Fresh.app{w0 w w':World}{v v':Value}(h:Fresh w0 w v)(hk:Keeps (λk=>v.ownBlock=some k) w w')(hf:v'.ownBlock=v.ownBlock\/∃g,v'.ownBlock=some g/\w.heap.size<=g):Fresh w0 w' v':=by
 have hs:=h.1.size;refine⟨h.1.trans (hk.mono λk _ hk'=> .inr (h.2 k hk')),λg hg=> ?_⟩;rcases hf with hf|⟨g',hg',hh⟩
 ·exact h.2 g (by rw [<-hf];exact hg)
 ·rw [hg'] at hg;simp only [Option.some.injEq] at hg;omega
theorem Fresh.set{w0 w:World}{v:Value}{g j:Nat}(h:Fresh w0 w v)(hg:v.ownBlock=some g)(u:Value):Fresh w0 (w.setCell ⟨g,j,none⟩ u) v:=
 ⟨h.1.trans (Keeps.setCell _ _ _ (.inr (h.2 g hg))),h.2⟩
theorem Fresh.cell{w0 w:World}{v:Value}(h:Fresh w0 w v){p:Addr}(hp:p.block<w0.heap.size):w.cell? p=w0.cell? p:=h.1.cell hp (by simp)
theorem Keeps.nt{a b c:World}(h:K0 a b)(k:K0 b c):K0 a c:=h.trans (k.mono (by simp))
theorem Keeps.Am{S:Nat->Prop}{w w':World}(h:Keeps S w w'):Keeps S w w'.drew:=h.trans (Keeps.drew _)
theorem Keeps.Al{S:Nat->Prop}{w w':World}{n:Nat}(h:Keeps S w w'):Keeps S w (w'.drewN n):=h.trans (Keeps.drewN _ _)
theorem Keeps.Af{S:Nat->Prop}{w w':World}{o:Obj}(h:Keeps S w w'):Keeps S w (w'.alloc o):=h.trans (Keeps.alloc _ _)
theorem _root_.Go.World.ownsRow.of_keeps{w w':World}{base:Nat}{e:TypeId}{size:Nat}{v:Value}{n:Nat}{xs:List Value}(h:w.ownsRow base e size v n xs)(hk:K0 w w'):w'.ownsRow base e size v n xs:=hk.row h (by simp)
section
variable {P:Program} {md:Region.Mode} {ops:Array Oper} {Q:Exit->Act->World->Prop} {S:World->Prop}
def PureAt(P:Program)(v:Value)(w:World)(r:Result Next):Prop:=
 r= .ok (.value v) w\/∃f args,r= .ok (.enter f args) w/\Calls P f args w λe w''=>e= .returned v/\w''=w
def Fa(P:Program)(ops:Array Oper)(S:World->Prop)(o:Oper)(v:Value)(a:Act):Prop:=
 (Region.wanted o (yielded ops a.tmps)=true/\∀w,S w->PureAt P v w ((execOp a.eval o).run P w))\/(Region.wanted o (yielded ops a.tmps)=false/\v=undef)
theorem Fa.wpOp{i:Nat}{o:Oper}{v:Value}{a:Act}(hi:ops[i]?=some o)(hy:Fa P ops S o v a){K:Act->World->Prop}{w:World}(hS:S w)(h:K (a.put o.dst v) w):wpOp P ops Q i K a w:=by
 unfold Go.wpOp;rw [hi];rcases hy with⟨hw,hv⟩|⟨hw,rfl⟩
 ·show if Region.wanted o (yielded ops a.tmps)=true then _ else _;rw [if_pos hw];refine .inl ?_;unfold Oper.wp;rcases hv w hS with hr|⟨f,args,hr,hc⟩
  ·rw [hr];exact h
  ·rw [hr];refine Calls.mono hc ?_;rintro e w'' ⟨rfl,rfl⟩;exact h
 ·show if Region.wanted o (yielded ops a.tmps)=true then _ else _;rw [if_neg (by rw [hw];exact Bool.false_ne_true)];exact h
theorem Fa.same{o:Oper}{v:Value}{a a':Act}(hy:Fa P ops S o v a)(he:execOp a'.eval o=execOp a.eval o)(hw:Region.wanted o (yielded ops a'.tmps)=Region.wanted o (yielded ops a.tmps)):Fa P ops S o v a':=by
 unfold Fa;rw [he,hw];exact hy
theorem Xi{j:Nat}{oj:Oper}{d:Option Tmp}{v:Value}(hj:ops[j]?=some oj)(h1:∀t,d=some t->t∉oj.looksAt ops)(h2:∀t,d=some t->oj.dst≠some t)(hsj:∀cs b,oj.op≠ .select cs b)
  (hQ:∀c a w,Q (.panic c) (a.put d v) w->Q (.panic c) a w) {Y:Act->Prop} (hY:∀a u,Y a->Y (a.put oj.dst u)) (hYd:∀(a:Act) x,Y a->Y { a with defers:=x::a.defers }) {K:Act->World->Prop} {a:Act} {w:World}
  (hy:Y a) (h:wpOp P ops Q j K (a.put d v) w):wpOp P ops Q j (λa' w'=>Y a'/\K (a'.put d v) w') a w:=by
 have hput:∀(b:Act) u,K ((b.put d v).put oj.dst u)=K ((b.put oj.dst u).put d v):=λb u=>by rw [Act.put_comm b v u h2]
 unfold Go.wpOp at h⊢;rw [hj] at h⊢;have h':if Region.wanted oj (yielded ops (a.put d v).tmps)=true then Oper.wp P oj (a.put d v) w K Q\/(oj.asks P (a.put d v) w/\LetsOut Q) else K ((a.put d v).put oj.dst undef) w:=h;rw [wanted_put oj a d v h1] at h';show if Region.wanted oj (yielded ops a.tmps)=true then _ else _;by_cases hw:Region.wanted oj (yielded ops a.tmps)=true
 ·rw [if_pos hw] at h'⊢;rcases h' with h'|⟨ha,hl⟩
  ·refine .inl ?_;unfold Oper.wp at h'⊢;rw [execOp_put oj hsj a d v h1] at h';rcases hr:(execOp a.eval oj).run P w with⟨n,w'⟩|⟨x,w'⟩
   ·rw [hr] at h'
    cases n with
    |value u=>exact⟨hY a u hy,by rw [<-hput];exact h'⟩
    |skip=>exact⟨hY a _ hy,by rw [<-hput];exact h'⟩
    |defer x=>
     refine⟨hY _ _ (hYd a x hy), ?_⟩;rw [<-hput,<-Act.put_defers];exact h'
    |enter f args=>
     refine Calls.mono h' λe w'' he=> ?_
     cases e with
     |returned u=>exact⟨hY a u hy,by rw [<-hput];exact he⟩
     |panicked c=>exact hQ _ _ _ he
     |outgrown=>exact he
    |row f args=>exact Rows.mono h' λu w'' he=>⟨hY a u hy,by rw [<-hput];exact he⟩
    |_=>exact h'
   ·rw [hr] at h'
    cases x with
    |panic u=>exact hQ _ _ _ h'
    |_=>exact h'
  ·exact .inr ⟨by unfold Oper.asks at ha⊢;rw [execOp_put oj hsj a d v h1] at ha;exact ha,hl⟩
 ·rw [if_neg hw] at h'⊢;exact⟨hY a _ hy,by rw [<-hput];exact h'⟩
def Kc(P:Program)(md:Region.Mode)(ops:Array Oper)(Q:Exit->Act->World->Prop)(S:World->Prop)(z:Nat):Nat->Array Bool->Act->World->Prop
 |0,listed,a,w=>Region.ready md ops listed= []/\Q .normal a w
 |fuel+1,listed,a,w=>(Region.ready md ops listed= []->Q .normal a w)/\
   ∀i∈Region.ready md ops listed,wpOp P ops Q i (λa' w'=>(i=z\/S w')/\Kc P md ops Q S z fuel (listed.setIfInBounds i true) a' w') a w
theorem Kb{z:Nat}:∀(fuel:Nat) (listed:Array Bool) (a:Act) (w:World),Kc P md ops Q S z fuel listed a w->wpAny P md ops Q fuel listed a w
 |0,_,_,_,h=>h
 |fuel+1,_,_,_,h=>⟨h.1,λi hi=>wpOp_mono (λa' w' h'=>Kb fuel _ a' w' h'.2) (h.2 i hi)⟩
theorem Rm{z:Nat}{listed:Array Bool}{a:Act}{w:World}(hr:Region.ready md ops listed= [])(h:Q .normal a w):∀fuel,Kc P md ops Q S z fuel listed a w
 |0=>⟨hr,h⟩
 |_+1=>⟨λ_=>h,by rw [hr];simp⟩
def lastB(md:Region.Mode)(ops:Array Oper)(z:Nat):Bool:=match ops[z]? with
 |none=>true
 |some o=>(List.range ops.size).all λk=>k==z||o.after.any λe=>Region.binds md e&&e.on==k
theorem Rl{z i:Nat}{oi:Oper}{v:Value}(hi:ops[i]?=some oi)(hz:lastB md ops z=true)(hiz:i≠z)(hsel:∀(j:Nat) (o:Oper) cs b,ops[j]?=some o->o.op≠ .select cs b)(hQ:∀c a w,Q (.panic c) (a.put oi.dst v) w->Q (.panic c) a w):
  ∀(fuel:Nat) (listed:Array Bool) (a:Act) (w:World),i∈Region.ready md ops listed->Fa P ops S oi v a->S w->
   (∀j oj,ops[j]?=some oj->j≠i->listed.getD j true=false->(∀e∈oj.after,Region.binds md e=true->e.on≠i)->oi.apart ops oj=true)->
   Kc P md ops Q S z fuel (listed.setIfInBounds i true) (a.put oi.dst v) w->Kc P md ops Q S z (fuel+1) listed a w
 |0,listed,a,w,hr,hy,hS,hfree,H=>by
  refine⟨λh=>absurd hr (by rw [h];simp),λj hj=> ?_⟩;by_cases hji:j=i
  ·subst hji;exact hy.wpOp hi hS ⟨.inr hS,H⟩
  ·have hc:=ready_mono hj hji;rw [H.1] at hc;simp at hc
 |fuel+1,listed,a,w,hr,hy,hS,hfree,H=>by
  refine⟨λh=>absurd hr (by rw [h];simp),λj hj=> ?_⟩;by_cases hji:j=i
  ·subst hji;exact hy.wpOp hi hS ⟨.inr hS,H⟩
  obtain⟨hun,oj,hoj,hall⟩:=mem_ready.1 hj;have hi0:=(mem_ready.1 hr).1
  have hno:∀e∈oj.after,Region.binds md e=true->e.on≠i:=by
   intro e he hb heq;have ht:=hall e he hb;rw [heq] at ht;rcases Nat.lt_or_ge i listed.size with hlt|hge
   ·have e1:listed.getD i true=listed[i]:=by simp [hlt]
    have e2:listed.getD i false=listed[i]:=by simp [hlt]
    rw [e1] at hi0;rw [e2,hi0] at ht;simp at ht
   ·have e2:listed.getD i false=false:=by simp [Array.getElem?_eq_none hge]
    rw [e2] at ht;simp at ht
  have hjz:j≠z:=by
   intro e;subst e;unfold lastB at hz;rw [hoj] at hz
   have hil:i<ops.size:=by
    rcases Nat.lt_or_ge i ops.size with h|h
    ·exact h
    ·rw [Array.getElem?_eq_none h] at hi;simp at hi
   have hk:=List.all_eq_true.1 hz i (List.mem_range.2 hil);simp only [Bool.or_eq_true,beq_iff_eq,Array.any_eq_true',Bool.and_eq_true] at hk;rcases hk with h|⟨e,he,hb,ho⟩
   ·exact hji h.symm
   ·exact hno e he hb ho
  obtain⟨p1,p2,p3⟩:=Oper.apart_spec (hfree j oj hoj hji hun hno);have hstep:=Xi hoj p1 p2 (hsel j oj · · hoj) hQ (Y:=Fa P ops S oi v) (λa u hy=>hy.same (execOp_put oi (hsel i oi · · hi) a oj.dst u p3) (wanted_put oi a oj.dst u p3)) (λa x hy=>hy.same rfl rfl) hy (H.2 j (ready_mono hj hji));refine wpOp_mono (λa' w' h3=>⟨h3.2.1, ?_⟩) hstep;have hS':S w':=h3.2.1.resolve_left hjz
  have hfree':∀k ok,ops[k]?=some ok->k≠i->(listed.setIfInBounds j true).getD k true=false->(∀e∈ok.after,Region.binds md e=true->e.on≠i)->oi.apart ops ok=true:=by
   intro k ok hk hki hku hkn;by_cases hjk:j=k
   ·subst hjk;exact hfree j ok hk hki hun hkn
   ·rw [getD_set_ne true hjk] at hku;exact hfree k ok hk hki hku hkn
  refine Rl hi hz hiz hsel hQ fuel _ a' w' (ready_mono hr (Ne.symm hji)) h3.1 hS' hfree' ?_;rw [Array.setIfInBounds_comm _ _ hji];exact h3.2.2
inductive MO where
 |done
 |take (i:Nat) (r:MO)
 |move (i:Nat) (r:MO)
 |fork (i:Nat) (r:MO) (j:Nat) (s:MO)
 |fork3 (i:Nat) (r:MO) (j:Nat) (s:MO) (k:Nat) (u:MO)
def MO.depth:MO->Nat
 | .done=>0
 | .take _ r=>r.depth+1
 | .move _ r=>r.depth+1
 | .fork _ r _ s=>max r.depth s.depth+1
 | .fork3 _ r _ s _ u=>max (max r.depth s.depth) u.depth+1
def MO.Mf:MO->Bool
 | .done=>true
 |_=>false
def mixB(md:Region.Mode)(ops:Array Oper)(z:Nat):MO->Array Bool->Bool
 | .done,listed=>(Region.ready md ops listed).isEmpty
 | .take i r,listed=>(((Region.ready md ops listed).contains i&&Region.free md ops listed i)&&i !=z)&&mixB md ops z r (listed.setIfInBounds i true)
 | .move i r,listed=>(Region.ready md ops listed== [i]&&(i !=z||r.Mf))&&mixB md ops z r (listed.setIfInBounds i true)
 | .fork i r j s,listed=>((Region.ready md ops listed== [i,j]&&i !=z)&&j !=z)&&(mixB md ops z r (listed.setIfInBounds i true)&&mixB md ops z s (listed.setIfInBounds j true))
 | .fork3 i r j s k u,listed=>(((Region.ready md ops listed== [i,j,k]&&i !=z)&&j !=z)&&k !=z)&&(mixB md ops z r (listed.setIfInBounds i true)&&(mixB md ops z s (listed.setIfInBounds j true)&&mixB md ops z u (listed.setIfInBounds k true)))
def Mix(P:Program)(ops:Array Oper)(Q:Exit->Act->World->Prop)(S:World->Prop)(z:Nat):MO->Act->World->Prop
 | .done,a,w=>Q .normal a w
 | .take i r,a,w=>∃o v,ops[i]?=some o/\Fa P ops S o v a/\Mix P ops Q S z r (a.put o.dst v) w
 | .move i r,a,w=>(∃o v,ops[i]?=some o/\Fa P ops S o v a/\Mix P ops Q S z r (a.put o.dst v) w)\/wpOp P ops Q i (λa' w'=>(i=z\/S w')/\Mix P ops Q S z r a' w') a w
 | .fork i r j s,a,w=>wpOp P ops Q i (λa' w'=>(i=z\/S w')/\Mix P ops Q S z r a' w') a w/\wpOp P ops Q j (λa' w'=>(j=z\/S w')/\Mix P ops Q S z s a' w') a w
 | .fork3 i r j s k u,a,w=>wpOp P ops Q i (λa' w'=>(i=z\/S w')/\Mix P ops Q S z r a' w') a w/\wpOp P ops Q j (λa' w'=>(j=z\/S w')/\Mix P ops Q S z s a' w') a w/\wpOp P ops Q k (λa' w'=>(k=z\/S w')/\Mix P ops Q S z u a' w') a w
theorem Mix.sound{z:Nat}(hs:Region.noSelect ops=true)(hz:lastB md ops z=true)(hQ:∀(d:Option Tmp) (v:Value) c a w,Q (.panic c) (a.put d v) w->Q (.panic c) a w):
  ∀(ord:MO) (fuel:Nat) (listed:Array Bool) (a:Act) (w:World),ord.depth<=fuel->mixB md ops z ord listed=true->(ord.Mf=true\/S w)->Mix P ops Q S z ord a w->Kc P md ops Q S z fuel listed a w
 | .done,fuel,listed,a,w,_,hB,_,h=>Rm (by simpa [mixB] using hB) h _
 | .take i r,fuel,listed,a,w,hd,hB,hS,h=>by
  simp only [mixB,Bool.and_eq_true,bne_iff_ne] at hB;obtain⟨⟨⟨h1,h2⟩,hiz⟩,h3⟩:=hB;obtain⟨o,v,hi,hy,h⟩:=h;have hS':S w:=hS.resolve_left (by simp [MO.Mf])
  cases fuel with
  |zero=>simp [MO.depth] at hd
  |succ fuel=>
   refine Rl hi hz hiz (Region.noSelect_spec hs) (hQ o.dst v) fuel listed a w (by simpa using h1) hy hS' (Region.free_spec hi h2) ?_;exact Mix.sound hs hz hQ r fuel _ _ _ (by simp only [MO.depth] at hd;omega) h3 (.inr hS') h
 | .move i r,fuel,listed,a,w,hd,hB,hS,h=>by
  simp only [mixB,Bool.and_eq_true,beq_iff_eq,Bool.or_eq_true,bne_iff_ne] at hB;obtain⟨⟨h1,h2⟩,h3⟩:=hB;have hS':S w:=hS.resolve_left (by simp [MO.Mf])
  cases fuel with
  |zero=>simp [MO.depth] at hd
  |succ fuel=>
   have hd':r.depth<=fuel:=by simp only [MO.depth] at hd;omega
   refine⟨λe=>by rw [h1] at e;simp at e,λj hj=> ?_⟩;obtain rfl:j=i:=by rw [h1] at hj;simpa using hj
   rcases h with⟨o,v,hi,hy,h⟩|h
   ·exact hy.wpOp hi hS' ⟨.inr hS',Mix.sound hs hz hQ r fuel _ _ _ hd' h3 (.inr hS') h⟩
   ·refine wpOp_mono (λa' w' hh=>⟨hh.1,Mix.sound hs hz hQ r fuel _ _ _ hd' h3 ?_ hh.2⟩) h;rcases hh.1 with e|e
    ·exact .inl (h2.resolve_left λhn=>hn e)
    ·exact .inr e
 | .fork i r j s,fuel,listed,a,w,hd,hB,hS,h=>by
  simp only [mixB,Bool.and_eq_true,beq_iff_eq,bne_iff_ne] at hB;obtain⟨⟨⟨h1,hiz⟩,hjz⟩,h3,h4⟩:=hB
  cases fuel with
  |zero=>simp [MO.depth] at hd
  |succ fuel=>
   have hd1:r.depth<=fuel:=by simp only [MO.depth] at hd;omega
   have hd2:s.depth<=fuel:=by simp only [MO.depth] at hd;omega
   refine⟨λe=>by rw [h1] at e;simp at e,λk hk=> ?_⟩;rw [h1] at hk;rcases(by simpa using hk:k=i\/k=j) with rfl|rfl
   ·exact wpOp_mono (λa' w' hh=>⟨hh.1,Mix.sound hs hz hQ r fuel _ _ _ hd1 h3 (.inr (hh.1.resolve_left hiz)) hh.2⟩) h.1
   ·exact wpOp_mono (λa' w' hh=>⟨hh.1,Mix.sound hs hz hQ s fuel _ _ _ hd2 h4 (.inr (hh.1.resolve_left hjz)) hh.2⟩) h.2
 | .fork3 i r j s l u,fuel,listed,a,w,hd,hB,hS,h=>by
  simp only [mixB,Bool.and_eq_true,beq_iff_eq,bne_iff_ne] at hB;obtain⟨⟨⟨⟨h1,hiz⟩,hjz⟩,hlz⟩,h3,h4,h5⟩:=hB
  cases fuel with
  |zero=>simp [MO.depth] at hd
  |succ fuel=>
   have hd1:r.depth<=fuel:=by simp only [MO.depth] at hd;omega
   have hd2:s.depth<=fuel:=by simp only [MO.depth] at hd;omega
   have hd3:u.depth<=fuel:=by simp only [MO.depth] at hd;omega
   refine⟨λe=>by rw [h1] at e;simp at e,λk hk=> ?_⟩;rw [h1] at hk;rcases(by simpa using hk:k=i\/k=j\/k=l) with rfl|rfl|rfl
   ·exact wpOp_mono (λa' w' hh=>⟨hh.1,Mix.sound hs hz hQ r fuel _ _ _ hd1 h3 (.inr (hh.1.resolve_left hiz)) hh.2⟩) h.1
   ·exact wpOp_mono (λa' w' hh=>⟨hh.1,Mix.sound hs hz hQ s fuel _ _ _ hd2 h4 (.inr (hh.1.resolve_left hjz)) hh.2⟩) h.2.1
   ·exact wpOp_mono (λa' w' hh=>⟨hh.1,Mix.sound hs hz hQ u fuel _ _ _ hd3 h5 (.inr (hh.1.resolve_left hlz)) hh.2⟩) h.2.2
theorem Ch{id:Nat}{a:Act}{w:World}{l:List Oper}(S:World->Prop)(z:Nat)(ord:MO)(hm:P.follows .mixedOrders=true)(hB:((mixB .any l.toArray z ord (Array.replicate l.toArray.size false)&&lastB .any l.toArray z)&&(Region.noSelect l.toArray&&Nat.ble ord.depth l.toArray.size))=true)
  (hS:S w.drew) (h:∀w1,S w1->K0 w w1->Mix P l.toArray (NoPanic Q) S z ord a w1):(Code.region id l.toArray true).wp P Q a w:=by
 simp only [Bool.and_eq_true,Nat.ble_eq] at hB;obtain⟨⟨h1,h0⟩,h2,h3⟩:=hB;exact wp_region_noPanic (wp_region_any hm (Kb _ _ _ _ (Mix.sound h2 h0 (λ_ _ _ _ _ hh=>(show False from hh).elim) ord _ _ _ _ h3 h1 (.inr hS) (h _ hS (Keeps.drew _)))))
theorem Ak{id:Nat}{a:Act}{w:World}{l:List Oper}(S:World->Prop)(ord:MO)(hm:P.follows .mixedOrders=true)(hB:((mixB .any l.toArray l.toArray.size ord (Array.replicate l.toArray.size false)&&lastB .any l.toArray l.toArray.size)&&(Region.noSelect l.toArray&&Nat.ble ord.depth l.toArray.size))=true)
  (hS:S w.drew) (h:∀w1,S w1->K0 w w1->Mix P l.toArray (NoPanic Q) S l.toArray.size ord a w1):(Code.region id l.toArray true).wp P Q a w:=Ch S _ ord hm hB hS h
theorem Ao{z:Nat}{a:Act}{w:World}(h:Q .normal a w):Mix P ops (NoPanic Q) S z .done a w:=h
section
variable {z:Nat} {dst:Option Tmp} {op:Op} {ty:TypeId} {pos:String} {af:Array Edge} {gd:Option (Nat×Bool)} {i:Nat} {r:MO} {v:Value} {a:Act} {w:World}
theorem Bl(hi:ops[i]?=some ⟨dst,op,ty,pos,af,gd⟩)(hw:Region.wanted ⟨dst,op,ty,pos,af,gd⟩ (yielded ops a.tmps)=false)(h:Mix P ops Q S z r (a.put dst undef) w):Mix P ops Q S z (.take i r) a w:=⟨_,undef,hi,.inr ⟨hw,rfl⟩,h⟩
theorem Be(hi:ops[i]?=some ⟨dst,op,ty,pos,af,gd⟩)(hw:Region.wanted ⟨dst,op,ty,pos,af,gd⟩ (yielded ops a.tmps)=false)(h:Mix P ops Q S z r (a.put dst undef) w):Mix P ops Q S z (.move i r) a w:= .inl ⟨_,undef,hi,.inr ⟨hw,rfl⟩,h⟩
theorem Bh(hi:ops[i]?=some ⟨dst,op,ty,pos,af,gd⟩)(hw:Region.wanted ⟨dst,op,ty,pos,af,gd⟩ (yielded ops a.tmps)=true)
  (hy:∀w,S w->(execOp a.eval ⟨dst,op,ty,pos,af,gd⟩).run P w= .ok (.value v) w) (h:Mix P ops Q S z r (a.put dst v) w):Mix P ops Q S z (.take i r) a w:=⟨_,v,hi,.inl ⟨hw,λw hS=> .inl (hy w hS)⟩,h⟩
theorem Ey(hi:ops[i]?=some ⟨dst,op,ty,pos,af,gd⟩)(hw:Region.wanted ⟨dst,op,ty,pos,af,gd⟩ (yielded ops a.tmps)=true)(f:FuncId)(args:Array Value)
  (hr:∀w,S w->(execOp a.eval ⟨dst,op,ty,pos,af,gd⟩).run P w= .ok (.enter f args) w) (hy:∀w,S w->Calls P f args w λe w''=>e= .returned v/\w=w'') (h:Mix P ops Q S z r (a.put dst v) w):Mix P ops Q S z (.take i r) a w:=
 ⟨_,v,hi,.inl ⟨hw,λw hS=> .inr ⟨f,args,hr w hS,(hy w hS).mono λ_ _ ⟨h1,h2⟩=>⟨h1,h2.symm⟩⟩⟩,h⟩
theorem Ah(hi:ops[i]?=some ⟨dst,op,ty,pos,af,gd⟩)
  (h:∀K:Act->World->Prop,Shut (∀a' w',S w'->Mix P ops Q S z r a' w'->K a' w')->if Region.wanted ⟨dst,op,ty,pos,af,gd⟩ (yielded ops a.tmps)=true then Oper.wp P ⟨dst,op,ty,pos,af,gd⟩ a w K Q else K (a.put dst undef) w):
  Mix P ops Q S z (.move i r) a w:= .inr (wpOp_step hi λK hK=>h K λa' w' hS hM=>hK a' w' ⟨.inr hS,hM⟩)
theorem Cq(hi:ops[i]?=some ⟨dst,op,ty,pos,af,gd⟩)
  (h:∀K:Act->World->Prop,Shut (∀a' w',Mix P ops Q S i r a' w'->K a' w')->if Region.wanted ⟨dst,op,ty,pos,af,gd⟩ (yielded ops a.tmps)=true then Oper.wp P ⟨dst,op,ty,pos,af,gd⟩ a w K Q else K (a.put dst undef) w):
  Mix P ops Q S i (.move i r) a w:= .inr (wpOp_step hi λK hK=>h K λa' w' hM=>hK a' w' ⟨.inl rfl,hM⟩)
theorem mix_to{i:Nat}{r:MO}(h:Mix P ops Q S z (.move i r) a w)(hS:S w):wpOp P ops Q i (λa' w'=>(i=z\/S w')/\Mix P ops Q S z r a' w') a w:=by
 rcases h with⟨o,v,hi,hy,h⟩|h
 ·exact hy.wpOp hi hS ⟨.inr hS,h⟩
 ·exact h
theorem mix_fork3{j k:Nat}{s u:MO}(h1:Mix P ops Q S z (.move i r) a w)(h2:Mix P ops Q S z (.move j s) a w)(h3:Mix P ops Q S z (.move k u) a w)(hS:S w):Mix P ops Q S z (.fork3 i r j s k u) a w:=⟨mix_to h1 hS,mix_to h2 hS,mix_to h3 hS⟩
theorem Dk{j:Nat}{s:MO}(h1:Mix P ops Q S z (.move i r) a w)(h2:Mix P ops Q S z (.move j s) a w)(hS:S w):Mix P ops Q S z (.fork i r j s) a w:=by
 refine⟨?_, ?_⟩
 ·rcases h1 with⟨o,v,hi,hy,h⟩|h
  ·exact hy.wpOp hi hS ⟨.inr hS,h⟩
  ·exact h
 ·rcases h2 with⟨o,v,hi,hy,h⟩|h
  ·exact hy.wpOp hi hS ⟨.inr hS,h⟩
  ·exact h
end
end
theorem jR{T P:Prop}(c:T)(h:T->P:=by intro c;(repeat ((first|refine Bl rfl (by rfl) ?_|refine Be rfl (by rfl) ?_|(refine Bh (v:= ?_) rfl (by rfl) ?_ ?_;rotate_left;(· intro w' hSw;(try have hSw:=And.intro hSw.1 hSw.2);go_simp;(try with_reducible rfl));rotate_right));try simp only [aps]));exact c):P:=h c
section
variable {P:Program}
theorem Ui(w:World)(g o:Nat)(ty:TypeId)(cs:List Value)(d:TypeDesc)(hc:∀j v,cs[j]?=some v->w.cell? ⟨g,o+j,none⟩=some v)
  (hu:P.underlying ty=some d) (hd:(match d with| .struct _| .array _ _=>true|_=>false)=true) (hi:(P.info? ty).map (·.size)=some cs.length):
  (loadVar ty ⟨g,o,none⟩).run P w= .ok (.agg cs.toArray) w:=by
 have hl:=run_loadCells_list (P:=P) w ⟨g,o,none⟩ cs (λj v hv=>by rw [Dx];exact hc j v hv)
 cases hq:P.info? ty with
 |none=>simp [hq] at hi
 |some i=>
  have hs:i.size=cs.length:=by simpa [hq] using hi
  have hagg:(isAgg ty).run P w= .ok true w:=by
   unfold isAgg;rw [Sem.run_bind,run_underlying hu w]
   cases d<;>simp_all
  simp [loadVar,Sem.run_bind,hagg,sizeOf,typeInfo,hq,hs,hl]
theorem Tw{ops:Array Oper}{rest:List Oper}{o:Oper}{a:Act}{w:World}{Q:Exit->Act->World->Prop}(hgd:o.guard=none)(ty:TypeId)(x:Operand)(ho:o.op= .load ty x)
  (g of:Nat) (hx:a.eval x= .pointer (some ⟨g,of,none⟩)) (cs:List Value) (d:TypeDesc) (hc:∀j v,cs[j]?=some v->w.cell? ⟨g,of+j,none⟩=some v)
  (hu:P.underlying ty=some d) (hd:(match d with| .struct _| .array _ _=>true|_=>false)=true) (hi:(P.info? ty).map (·.size)=some cs.length)
  (h:wpList P ops Q rest (a.put o.dst (.agg cs.toArray)) w):wpList P ops Q (o::rest) a w:=
 wpList_plain hgd λK hK=>by
  unfold Oper.wp execOp;simp only [ho,hx,Instr.loadAt,Instr.sureAddr,Sem.run_bind,Sem.run_pure,Result.andThen_ok,Ui w g of ty cs d hc hu hd hi];exact hK _ _ h
def putAt(cur:List Value)(o:Nat)(vs:List Value):List Value:=cur.take o++vs++cur.drop (o+vs.length)
theorem Acx(cur:List Value)(o:Nat)(v:Value)(vs:List Value)(h:o<cur.length):putAt (cur.set o v) (o+1) vs=putAt cur o (v::vs):=by
 unfold putAt
 have h1:(cur.set o v).take (o+1)=cur.take o++ [v]:=by
  rw [List.take_set,List.take_succ_eq_append_getElem h];rw [List.set_append_right _ _ ji];simp [show o-min o cur.length=0 by omega]
 rw [h1,List.drop_set_of_lt j6];simp [show o+1+vs.length=o+(vs.length+1) by omega]
theorem run_storeCells_at(g o:Nat)(t:TypeId):∀(vs:List Value) (i:Nat) (cur:Array Value) (w:World),w.heap[g]?=some (.cells cur t (0,0))->o+i+vs.length<=cur.size->(∀v∈vs,v.oneCell'=true)->
  (storeCells ⟨g,o,none⟩ vs i).run P w= .ok () (w.setRow g (putAt cur.toList (o+i) vs).toArray)
 | [],i,cur,w,hg,hl,_=>by
  have h1:putAt cur.toList (o+i) []=cur.toList:=by simp [putAt]
  simp only [storeCells,h1,Array.toArray_toList,setRow_self w g cur t _ hg];rfl
 |v::rest,i,cur,w,hg,hl,h1=>by
  have hi:o+i<cur.size:=by simp at hl;omega
  have hcell:w.cell? ⟨g,o+i,none⟩=some cur[o+i]:=by simp [World.cell?,hg,hi]
  have hfro:w.frozen? ⟨g,o+i,none⟩=false:=by simp [World.frozen?,hg]
  have hst:(store ((⟨g,o,none⟩:Addr).add i) v).run P w= .ok () (w.setRow g (cur.setIfInBounds (o+i) v)):=by
   rw [Dx,run_store P w _ v _ (h1 v (by simp)),hcell];simp [hfro,setCell_eq_setRow w g (o+i) cur t (0,0) v hg]
  have ih:=run_storeCells_at g o t rest (i+1) (cur.setIfInBounds (o+i) v) (w.setRow g (cur.setIfInBounds (o+i) v)) (setRow_heap w g cur _ t _ hg) (by simp at hl⊢;omega) (λx hx=>h1 x (by simp [hx]));simp only [storeCells,Sem.run_bind,hst,Result.andThen_ok,ih,setRow_setRow]
  congr 3
  rw [Array.toList_setIfInBounds,<-Nat.add_assoc];exact Acx _ _ _ _ (by simpa using hi)
theorem Lh(w:World)(g o:Nat)(t ty:TypeId)(cur:Array Value)(vs:List Value)(hg:w.heap[g]?=some (.cells cur t (0,0)))(hi:(P.info? ty).map (·.size)=some vs.length)
  (hl:o+vs.length<=cur.size) (h1:∀v∈vs,v.oneCell'=true):
  (storeVar ty ⟨g,o,none⟩ (.agg vs.toArray)).run P w= .ok () (w.setRow g (putAt cur.toList o vs).toArray):=by
 have:=run_storeCells_at (P:=P) g o t vs 0 cur w hg j6 h1
 cases hq:P.info? ty with
 |none=>simp [hq] at hi
 |some i=>
  have hs:vs.length=i.size:=by simp [hq] at hi;omega
  simp [storeVar,sizeOf,typeInfo,hq,Value.cells,hs,this]
theorem Sr{ops:Array Oper}{rest:List Oper}{o:Oper}{a:Act}{w:World}{Q:Exit->Act->World->Prop}(hgd:o.guard=none)(ty:TypeId)(x y:Operand)(ho:o.op= .store ty x y)
  (g of:Nat) (vs:List Value) (hx:a.eval x= .pointer (some ⟨g,of,none⟩)) (hy:a.eval y= .agg vs.toArray)
  (t:TypeId) (cur:Array Value) (hg:w.heap[g]?=some (.cells cur t (0,0))) (hi:(P.info? ty).map (·.size)=some vs.length) (hl:of+vs.length<=cur.size) (h1:∀v∈vs,v.oneCell'=true)
  (h:wpList P ops Q rest (a.put o.dst undef) (w.setRow g (putAt cur.toList of vs).toArray)):wpList P ops Q (o::rest) a w:=
 wpList_plain hgd λK hK=>by
  unfold Oper.wp execOp;simp only [ho,hx,hy,Instr.storeAt,Instr.sureAddr,Sem.run_bind,Sem.run_pure,Result.andThen_ok,Lh w g of t ty cur vs hg hi hl h1];exact hK _ _ h
end
section
variable {P:Program} {ops:Array Oper} {Q:Exit->Act->World->Prop} {S:World->Prop} {z:Nat} {dst:Option Tmp} {ty:TypeId} {pos:String} {af:Array Edge} {gd:Option (Nat×Bool)} {i:Nat} {r:MO} {a:Act} {w:World}
theorem Ea{lt:TypeId}{x:Operand}(hi:ops[i]?=some ⟨dst,.load lt x,ty,pos,af,gd⟩)(hw:Region.wanted ⟨dst,.load lt x,ty,pos,af,gd⟩ (yielded ops a.tmps)=true)(g:Nat)(hx:a.eval x= .pointer (some ⟨g,0,none⟩))
  (t:TypeId) (cs:Array Value) (fr:Nat×Nat) (d:TypeDesc) (hg:∀w,S w->w.heap[g]?=some (.cells cs t fr)) (hu:P.underlying lt=some d) (hd:(match d with| .struct _| .array _ _=>true|_=>false)=true) (hs:(P.info? lt).map (·.size)=some cs.size)
  (h:Mix P ops Q S z r (a.put dst (.agg cs)) w):Mix P ops Q S z (.take i r) a w:=
 Bh hi hw (λw hS=>by
  unfold execOp
  simp only [hx,Instr.loadAt,Instr.sureAddr,Sem.run_bind,Sem.run_pure,Result.andThen_ok,run_loadVar_row w g t lt cs fr d (hg w hS) hu hd hs]) h
theorem mix_build{bt:TypeId}{ps:Array (Nat×Operand)}(hi:ops[i]?=some ⟨dst,.build bt ps,ty,pos,af,gd⟩)(hw:Region.wanted ⟨dst,.build bt ps,ty,pos,af,gd⟩ (yielded ops a.tmps)=true)(cells:Array Value)
  (hf:P.built bt (ps.map fun(i,x)=>(i,a.eval x)).toList=some cells) (h:Mix P ops Q S z r (a.put dst (.agg cells)) w):Mix P ops Q S z (.take i r) a w:=
 Bh hi hw (λw _=>by
  unfold execOp;simp only [Sem.run_bind,run_build w bt _ _ hf,Result.andThen_ok]
  rfl) h
theorem Aah{o:Oper}{K:Act->World->Prop}(sty:TypeId)(x y:Operand)(ho:o.op= .store sty x y)
  (g of:Nat) (vs:List Value) (hx:a.eval x= .pointer (some ⟨g,of,none⟩)) (hy:a.eval y= .agg vs.toArray)
  (t:TypeId) (cur:Array Value) (hg:w.heap[g]?=some (.cells cur t (0,0))) (hi:(P.info? sty).map (·.size)=some vs.length) (hl:of+vs.length<=cur.size) (h1:∀v∈vs,v.oneCell'=true)
  (h:K (a.put o.dst undef) (w.setRow g (putAt cur.toList of vs).toArray)):o.wp P a w K Q:=by
 unfold Oper.wp execOp;simp only [ho,hx,hy,Instr.storeAt,Instr.sureAddr,Sem.run_bind,Sem.run_pure,Result.andThen_ok,Lh w g of t sty cur vs hg hi hl h1];exact h
end
theorem Keeps.setRow(w:World)(g:Nat)(cs:Array Value):Keeps (λk=>k=g) w (w.setRow g cs):=⟨rfl,rfl,rfl,by simp,λk _ hk=>setRow_other w g k _ hk⟩
section
variable {α:Type} {f:α->List Value} {size:Nat} (hf:∀x,(f x).length=size)
include hf
theorem Acw{L:List α}{k:Nat}{y:α}(hk:k<L.length)(tl:List Value):putAt (L.flatMap f++tl) (k*size) (f y)=(L.set k y).flatMap f++tl:=by
 induction L generalizing k with
 |nil=>simp at hk
 |cons a l ih=>
  cases k with
  |zero=>
   simp only [putAt,Nat.zero_mul,List.take_zero,List.nil_append,Nat.zero_add,List.flatMap_cons,List.set_cons_zero,List.append_assoc];rw [hf y,<-hf a,List.drop_left]
  |succ k=>
   have hk':k<l.length:=by simpa using hk
   have:=ih (k:=k) hk';simp only [putAt,List.flatMap_cons,List.set_cons_succ,List.append_assoc] at this⊢;rw [Nat.succ_mul,show k*size+size=(f a).length+k*size by rw [hf];omega,List.take_length_add_append,show(f a).length+k*size+(f y).length=(f a).length+(k*size+(f y).length) by omega,List.drop_length_add_append,List.append_assoc,this]
theorem Abd{w:World}{e:TypeId}{g cap:Nat}{L:List α}{k:Nat}{y:α}(_:0<size)(h:w.ownsRow 0 e size (.slice (some ⟨g,0,none⟩) L.length cap) L.length (L.flatMap f))(hk:k<L.length):
  ∃cur,w.heap[g]?=some (.cells cur e (0,0))/\k*size+size<=cur.size/\
   (w.setRow g (putAt cur.toList (k*size) (f y)).toArray).ownsRow 0 e size (.slice (some ⟨g,0,none⟩) L.length cap) L.length ((L.set k y).flatMap f):=by
 obtain⟨h1,h2⟩:=h;rcases h2 with⟨h2,h3⟩|⟨g',cap',cur,hv,hb,hg,hn,hm,hcs,htk⟩
 ·simp at h2
 ·simp only [Value.slice.injEq,Option.some.injEq,Addr.mk.injEq,and_true,true_and] at hv;obtain⟨rfl,rfl⟩:=hv;have hlen:=Df hf L;have hkk:k*size+size<=L.length*size:=by rw [<-Nat.succ_mul];exact Nat.mul_le_mul_right _ hk
  have hcn:L.length*size<=cap*size:=Nat.mul_le_mul_right _ hn;obtain⟨tl,htl⟩:∃tl,cur.toList=L.flatMap f++tl:=⟨cur.toList.drop (L.length*size),by rw [<-htk,List.take_append_drop]⟩;have hp:putAt cur.toList (k*size) (f y)=(L.set k y).flatMap f++tl:=by rw [htl];exact Acw hf hk tl
  have hl2:((L.set k y).flatMap f).length=L.length*size:=by rw [Df hf,List.length_set]
  have hcl:cur.size=L.length*size+tl.length:=by rw [<-Array.length_toList,htl,List.length_append,hlen]
  refine⟨cur,hg,by omega,hl2,.inr ⟨g,cap,_,rfl,Nat.zero_le _,setRow_heap w g _ _ e _ hg,hn,hm, ?_, ?_⟩⟩
  ·rw [hp];simp [hl2];omega
  ·rw [hp,<-hl2,List.toList_toArray,List.take_left]
end
section
variable {α:Type} {f:α->List Value} {size:Nat} (hf:∀x,(f x).length=size)
include hf
theorem Ku(L:List α)(k:Nat):(L.flatMap f).take (k*size)=(L.take k).flatMap f:=by
 induction L generalizing k with
 |nil=>simp
 |cons a l ih=>
  cases k with
  |zero=>simp
  |succ k=>
   rw [List.flatMap_cons,List.take_succ_cons,List.flatMap_cons,<-ih,Nat.succ_mul,Nat.add_comm,<-hf a,List.take_length_add_append]
theorem Pi(L:List α)(k:Nat):(L.flatMap f).drop (k*size)=(L.drop k).flatMap f:=by
 induction L generalizing k with
 |nil=>simp
 |cons a l ih=>
  cases k with
  |zero=>simp
  |succ k=>
   rw [List.flatMap_cons,List.drop_succ_cons,<-ih,Nat.succ_mul,Nat.add_comm,<-hf a,List.drop_length_add_append]
theorem Reads.preL{w:World}{n c:Nat}{ad:Option Addr}{L:List α}(h:Reads w size (.slice ad n c) n (L.flatMap f))(k:Nat)(hk:k<=n):Reads w size (.slice ad k c) k ((L.take k).flatMap f):=by
 rw [<-Ku hf];exact h.pre k hk
theorem Reads.sufL{w:World}{n c g o:Nat}{L:List α}(h:Reads w size (.slice (some ⟨g,o,none⟩) n c) n (L.flatMap f))(k:Nat)(hk:k<=n):Reads w size (.slice (some ⟨g,o+k*size,none⟩) (n-k) (c-k)) (n-k) ((L.drop k).flatMap f):=by
 rw [<-Pi hf];exact h.suf k hk
end
theorem Lg{P:Program}{a:Act}{w:World}{Q:Exit->Act->World->Prop}{c rest:Code}(l:Nat)(J:Act->World->Prop)(M:Act->World->Nat)(hf:findLabel c l=some rest)
  (round:∀a w,J a w->rest.wp P (Exit.jump l (λa' w'=>J a' w'/\M a' w'<M a w) Q) a w)
  (first:(∀a w,J a w->rest.wp P (Exit.jump l J Q) a w)->c.wp P (Exit.jump l J Q) a w):(Code.scope c).wp P Q a w:=by
 refine wp_scope_jumps l J M hf (first λa w hJ=>Code.wp_mono ?_ (round a w hJ)) round;intro e a' w' h
 cases e with
 |goto k=>exact⟨h.1,h.2.1⟩
 |_=>exact h
theorem Reads.litAt(w:World)(cs:Array Value)(e:TypeId)(size n B:Nat)(hB:B=w.heap.size)(hs:cs.size=n*size):Reads (w.alloc (.cells cs e)) size (.slice (some ⟨B,0,none⟩) n n) n cs.toList:=by subst hB;exact Reads.lit w cs e size n hs
def u8c(z:Int):List Value:= [.int .u8 z]
theorem Ty(z:Int):(u8c z).length=1:=rfl
theorem Ke(L:List Int):∀u∈L.flatMap u8c,u.oneCell'=true:=by
 intro u hu;obtain⟨d,_,hd⟩:=List.mem_flatMap.1 hu;simp only [u8c,List.mem_cons,List.not_mem_nil,or_false] at hd;subst hd;rfl
def i64c(z:Int):List Value:= [.int .i64 z]
theorem Dq(z:Int):(i64c z).length=1:=rfl
theorem Jy(L:List Int):∀u∈L.flatMap i64c,u.oneCell'=true:=by
 intro u hu;obtain⟨d,_,hd⟩:=List.mem_flatMap.1 hu;simp only [i64c,List.mem_cons,List.not_mem_nil,or_false] at hd;subst hd;rfl
def bt(B:List Int)(k:Nat):Int:=B.getD k 0
theorem Reads.lt{w:World}{size:Nat}{x:Value}{m:Nat}{news:List Value}(h:Reads w size x m news)(hn:news≠ []):∃g,x.ownBlock=some g/\g<w.heap.size:=by
 obtain⟨ad,c,rfl,h1,h2,h3,h4⟩:=h;rcases news with _|⟨u,news⟩
 ·exact absurd rfl hn
 ·obtain⟨g,o,rfl,hc⟩:=h4 0 u rfl;exact⟨g,rfl,Ag hc⟩
section
theorem Jc:(Tryz.prog.info? 5).map (λi=>(i.zero,i.size,i.bytes))=some (some (.int .u8 0),1,1):=by kernel_rfl
def Exit.jump2(l1:Nat)(J1:Act->World->Prop)(l2:Nat)(J2:Act->World->Prop)(Q:Exit->Act->World->Prop):Exit->Act->World->Prop
 | .goto l',a,w=>(l'=l1/\J1 a w)\/(l'=l2/\J2 a w)
 |e,a,w=>Q e a w
theorem Zh{l1 l2:Nat}{J1 J2:Act->World->Prop}{Q:Exit->Act->World->Prop}{a:Act}{w:World}(h:J1 a w):Exit.jump2 l1 J1 l2 J2 Q (.goto l1) a w:= .inl ⟨rfl,h⟩
theorem Tk{l1 l2:Nat}{J1 J2:Act->World->Prop}{Q:Exit->Act->World->Prop}{a:Act}{w:World}(h:J2 a w):Exit.jump2 l1 J1 l2 J2 Q (.goto l2) a w:= .inr ⟨rfl,h⟩
theorem Jw{l1 l2:Nat}{J1 J2:Act->World->Prop}{Q:Exit->Act->World->Prop}{a:Act}{w:World}(h:Q .ret a w):Exit.jump2 l1 J1 l2 J2 Q .ret a w:=h
theorem Sq{P:Program}{a:Act}{w:World}{Q:Exit->Act->World->Prop}{c rest1 rest2:Code}(l1 l2:Nat)(hf1:findLabel c l1=some rest1)(hf2:findLabel c l2=some rest2)
  (h:c.wp P (Exit.jump2 l1 (λa' w'=>rest1.wp P (Exit.noGoto Q) a' w') l2 (λa' w'=>rest2.wp P (Exit.noGoto Q) a' w') Q) a w):(Code.scope c).wp P Q a w:=by
 intro b k cs
 have key:∀(rest:Code) (a:Act) (w:World),rest.wp P (Exit.noGoto Q) a w->∃e a' w',Q e a' w'/\Arrives P (lone (b.at a (.code rest:: .inScope c::k)) cs w) b k cs e a' w':=by
  intro rest a w hJ;obtain⟨e,a₁,w₁,hq,harr⟩:=hJ b (.inScope c::k) cs
  cases e with
  |normal=>exact⟨.normal,a₁,w₁,hq,Steps.trans harr (.one step_inScope)⟩
  |exit id=>exact⟨.exit id,a₁,w₁,hq,λk' hk=>harr k' (by simp [exitTo,hk])⟩
  |goto l'=>exact hq.elim
  |ret=>exact⟨_,a₁,w₁,hq,harr⟩
  |panic ch=>exact⟨_,a₁,w₁,hq,harr⟩
  |outgrown=>exact⟨_,a₁,w₁,hq,harr⟩
 obtain⟨e,a₁,w₁,hq,harr⟩:=h b (.inScope c::k) cs
 cases e with
 |normal=>exact⟨.normal,a₁,w₁,hq,.head step_scope (Steps.trans harr (.one step_inScope))⟩
 |exit id=>exact⟨.exit id,a₁,w₁,hq,λk' hk=> .head step_scope (harr k' (by simp [exitTo,hk]))⟩
 |goto l'=>
  rcases hq with⟨rfl,hJ'⟩|⟨rfl,hJ'⟩
  ·obtain⟨e₂,a₂,w₂,hq₂,harr₂⟩:=key _ a₁ w₁ hJ';exact⟨e₂,a₂,w₂,hq₂,.of_steps (.head step_scope (harr _ (by simp [gotoIn,hf1]))) harr₂⟩
  ·obtain⟨e₂,a₂,w₂,hq₂,harr₂⟩:=key _ a₁ w₁ hJ';exact⟨e₂,a₂,w₂,hq₂,.of_steps (.head step_scope (harr _ (by simp [gotoIn,hf2]))) harr₂⟩
 |ret=>exact⟨_,a₁,w₁,hq,.of_steps (.one step_scope) harr⟩
 |panic ch=>exact⟨_,a₁,w₁,hq,.of_steps (.one step_scope) harr⟩
 |outgrown=>exact⟨_,a₁,w₁,hq,.of_steps (.one step_scope) harr⟩
theorem Yp{P:Program}{a:Act}{w:World}{Q:Exit->Act->World->Prop}{c rest1 rest2:Code}(l1 l2:Nat)(J1 J2:Act->World->Prop)(M1 M2:Act->World->Nat)(hf1:findLabel c l1=some rest1)(hf2:findLabel c l2=some rest2)
  (pass1:∀a w,J1 a w->rest1.wp P (Exit.jump2 l1 (λa' w'=>J1 a' w'/\M1 a' w'<M1 a w) l2 (λa' w'=>J2 a' w'/\M2 a' w'<M1 a w) Q) a w)
  (pass2:∀a w,J2 a w->rest2.wp P (Exit.jump2 l1 (λa' w'=>J1 a' w'/\M1 a' w'<M2 a w) l2 (λa' w'=>J2 a' w'/\M2 a' w'<M2 a w) Q) a w)
  (first:c.wp P (Exit.jump2 l1 J1 l2 J2 Q) a w):(Code.scope c).wp P Q a w:=by
 intro b k cs;have hg1:gotoIn l1 (.inScope c::k)=some (.code rest1:: .inScope c::k):=by simp [gotoIn,hf1]
 have hg2:gotoIn l2 (.inScope c::k)=some (.code rest2:: .inScope c::k):=by simp [gotoIn,hf2]
 have key:∀n,(∀a w,M1 a w=n->J1 a w->∃e a' w',Q e a' w'/\Arrives P (lone (b.at a (.code rest1:: .inScope c::k)) cs w) b k cs e a' w')/\(∀a w,M2 a w=n->J2 a w->∃e a' w',Q e a' w'/\Arrives P (lone (b.at a (.code rest2:: .inScope c::k)) cs w) b k cs e a' w'):=by
  intro n
  induction n using Nat.strongRecOn with
  |_ n ih=>
   refine⟨λa w hn hJ=> ?_,λa w hn hJ=> ?_⟩
   ·obtain⟨e,a₁,w₁,hq,harr⟩:=pass1 a w hJ b (.inScope c::k) cs;exact j2b
   ·obtain⟨e,a₁,w₁,hq,harr⟩:=pass2 a w hJ b (.inScope c::k) cs;exact j2b
 obtain⟨e,a₁,w₁,hq,harr⟩:=first b (.inScope c::k) cs
 cases e with
 |normal=>exact⟨.normal,a₁,w₁,hq,.head step_scope (Steps.trans harr (.one step_inScope))⟩
 |exit id=>exact⟨.exit id,a₁,w₁,hq,λk' hk=> .head step_scope (harr k' (by simp [exitTo,hk]))⟩
 |goto l'=>
  rcases hq with⟨rfl,hJ'⟩|⟨rfl,hJ'⟩
  ·obtain⟨e₂,a₂,w₂,hq₂,harr₂⟩:=(key _).1 a₁ w₁ rfl hJ';exact⟨e₂,a₂,w₂,hq₂,.of_steps (.head step_scope (harr _ hg1)) harr₂⟩
  ·obtain⟨e₂,a₂,w₂,hq₂,harr₂⟩:=(key _).2 a₁ w₁ rfl hJ';exact⟨e₂,a₂,w₂,hq₂,.of_steps (.head step_scope (harr _ hg2)) harr₂⟩
 |ret=>exact⟨_,a₁,w₁,hq,.of_steps (.one step_scope) harr⟩
 |panic ch=>exact⟨_,a₁,w₁,hq,.of_steps (.one step_scope) harr⟩
 |outgrown=>exact⟨_,a₁,w₁,hq,.of_steps (.one step_scope) harr⟩
theorem Nh{P:Program}{c:Code}{a:Act}{w:World}{l1 l2:Nat}{J1 J2 K1 K2:Act->World->Prop}{Q:Exit->Act->World->Prop}(h1:∀a w,J1 a w->K1 a w)(h2:∀a w,J2 a w->K2 a w)(h:c.wp P (Exit.jump2 l1 J1 l2 J2 Q) a w):c.wp P (Exit.jump2 l1 K1 l2 K2 Q) a w:=by
 refine Code.wp_mono ?_ h;intro e a' w' h
 cases e with
 |goto k=>exact h.imp (λh=>⟨h.1,h1 _ _ h.2⟩) (λh=>⟨h.1,h2 _ _ h.2⟩)
 |_=>exact h
theorem Ll{P:Program}{a:Act}{w:World}{Q:Exit->Act->World->Prop}{c rest1 rest2:Code}(l1 l2:Nat)(J1 J2:Act->World->Prop)(M1 M2:Act->World->Nat)(hf1:findLabel c l1=some (Code.skip.seq rest1))(hf2:findLabel c l2=some (Code.skip.seq rest2))
  (pass2:∀a w,J2 a w->rest2.wp P (Exit.jump2 l1 (λa' w'=>J1 a' w'/\M1 a' w'<M2 a w) l2 (λa' w'=>J2 a' w'/\M2 a' w'<M2 a w) Q) a w)
  (pass1:Hid (∀a w,J2 a w->rest2.wp P (Exit.jump2 l1 (λa' w'=>J1 a' w'/\M1 a' w'<M2 a w) l2 (λa' w'=>J2 a' w'/\M2 a' w'<M2 a w) Q) a w)->∀a w,J1 a w->rest1.wp P (Exit.jump2 l1 (λa' w'=>J1 a' w'/\M1 a' w'<M1 a w) l2 (λa' w'=>J2 a' w'/\M2 a' w'<M1 a w) Q) a w)
  (first:Hid (∀a w,J1 a w->rest1.wp P (Exit.jump2 l1 J1 l2 J2 Q) a w)->c.wp P (Exit.jump2 l1 J1 l2 J2 Q) a w):(Code.scope c).wp P Q a w:=by
 have h1:=pass1 (Lib.hid pass2);refine Yp l1 l2 J1 J2 M1 M2 hf1 hf2 (λa w hJ=>wp_seq (wp_skip (h1 a w hJ))) (λa w hJ=>wp_seq (wp_skip (pass2 a w hJ))) (first (Lib.hid λa w hJ=>Nh (λ_ _ h=>h.1) (λ_ _ h=>h.1) (h1 a w hJ)))
open Go.RowKit Go.IntWalk
structure Lf where
 is:Int
 b:List Int
def b48(b:List Int):List Value:=(List.range 48).map λi=> .int .u8 (b.getD i 0)
def Lf.cells(x:Lf):List Value:= .int .i64 x.is::b48 x.b
theorem Cs(b:List Int):(b48 b).length=48:=by simp [b48]
theorem Lf.Aj(x:Lf):x.cells.length=49:=by simp [Lf.cells,Cs]
theorem b48_one(b:List Int):∀v∈b48 b,v.oneCell'=true:=by
 intro v hv;obtain⟨i,_,rfl⟩:=List.mem_map.1 hv;rfl
theorem Lf.one(x:Lf):∀v∈x.cells,v.oneCell'=true:=by
 intro v hv;rcases List.mem_cons.1 hv with rfl|hv
 ·rfl
 ·exact b48_one _ v hv
def lf0:Lf:=⟨0, []⟩
structure Pd where
 l:List Lf
 sn:Int
 fl:Int
 dn:Bool
structure PadAt(w:World)(P:Nat)(v:Value)(p:Pd):Prop where
 blk:w.heap[P]?=some (.cells #[v,.int .i64 p.sn,.int .i64 p.fl,.bool p.dn] 106 (0,0))
 row:w.ownsRow 0 149 49 v p.l.length (p.l.flatMap Lf.cells)
 n:p.l.length<=20000
 sn0:0<=p.sn/\p.sn<=1000000
 fl0:0<=p.fl/\p.fl<=1000000
def PFoot(P:Nat)(v:Value)(k:Nat):Prop:=k=P\/v.ownBlock=some k
theorem PadAt.keeps{S:Nat->Prop}{w w':World}{P:Nat}{v:Value}{p:Pd}(h:PadAt w P v p)(hk:Keeps S w w')(hS:∀k,PFoot P v k->¬S k):PadAt w' P v p:=
 ⟨by rw [hk.block P (lt_of_block h.blk) (hS P (.inl rfl))];exact h.blk,hk.row h.row λk hk=>hS k (.inr hk),h.n,h.sn0,h.fl0⟩
theorem PadAt.shape{w:World}{P:Nat}{v:Value}{p:Pd}(h:PadAt w P v p):∃ad cap,v= .slice ad p.l.length cap/\p.l.length<=cap:=by
 obtain⟨ad,cap,hv,hc,_⟩:=Ae h.row;exact⟨ad,cap,hv,hc⟩
theorem PadAt.ne{w:World}{P:Nat}{v:Value}{p:Pd}(h:PadAt w P v p):v.ownBlock≠some P:=Ai h.row h.blk (by decide)
theorem PadAt.put{w:World}{P:Nat}{v:Value}{p q:Pd}(h:PadAt w P v p)(hl:q.l=p.l)(hs:0<=q.sn/\q.sn<=1000000)(hf:0<=q.fl/\q.fl<=1000000){w':World}(hk:Keeps (λk=>k=P) w w')
  (hb:w'.heap[P]?=some (.cells #[v,.int .i64 q.sn,.int .i64 q.fl,.bool q.dn] 106 (0,0))):PadAt w' P v q:=
 ⟨hb,by rw [hl];exact hk.row h.row λk hk e=>h.ne (by rw [hk,e]),by rw [hl];exact h.n,hs,hf⟩
def sinkR(p:Pd):Pd:={ p with fl:=if p.dn then p.fl else p.fl+1,dn:=true }
def Cm(p:Pd):Pd:=if p.sn=1 then sinkR { p with sn:=0 } else { p with sn:=if p.sn=0 then 0 else p.sn-1 }
def Uj(p:Pd):Int:=if p.dn then 15 else 0
theorem Ma(P:Nat)(v:Value)(p:Pd)(w:World)(h:PadAt w P v p):Calls Tryz.prog 100 #[(.pointer (some ⟨P,0,none⟩))] w λe w'=>e= .returned (.bool p.dn)/\w'=w:=by
 have c3:w.cell? ⟨P,3,none⟩=some (.bool p.dn):=Aa h.blk 3;have lt:=lt_of_block h.blk;obtain⟨l,sn,fl,dn⟩:=p;have H:=Lib.hid h;clear h;go_enter Tryz.func100,Tryz.ntmps100;exact jk
theorem Kt(P:Nat)(v:Value)(p:Pd)(w:World)(h:PadAt w P v p):Calls Tryz.prog 101 #[(.pointer (some ⟨P,0,none⟩))] w λe w'=>e= .returned (.int .i64 p.fl)/\w'=w:=by
 have c3:w.cell? ⟨P,2,none⟩=some (.int .i64 p.fl):=Aa h.blk 2;have lt:=lt_of_block h.blk;have H:=Lib.hid h;clear h;go_enter Tryz.func101,Tryz.ntmps101;exact jk
theorem Kr(P:Nat)(v:Value)(p:Pd)(w:World)(h:PadAt w P v p):Calls Tryz.prog 26 #[(.pointer (some ⟨P,0,none⟩))] w λe w'=>e= .returned (.int .i64 p.l.length)/\w'=w:=by
 obtain⟨ad,cap,rfl,_⟩:=h.shape;have c3:w.cell? ⟨P,0,none⟩=some (.slice ad p.l.length cap):=Aa h.blk 0;have lt:=lt_of_block h.blk;have H:=Lib.hid h;clear h;go_enter Tryz.func26,Tryz.ntmps26;exact jk
theorem Py(P:Nat)(v:Value)(p:Pd)(w:World)(h:PadAt w P v p):Calls Tryz.prog 145 #[(.pointer (some ⟨P,0,none⟩))] w λe w'=>e= .returned (.int .i64 (Uj p))/\w'=w:=by
 have c3:w.cell? ⟨P,3,none⟩=some (.bool p.dn):=Aa h.blk 3;have lt:=lt_of_block h.blk;obtain⟨l,sn,fl,dn⟩:=p;have H:=Lib.hid h;clear h
 cases dn
 ·go_enter Tryz.func145,Tryz.ntmps145;exact jk
 ·go_enter Tryz.func145,Tryz.ntmps145;exact jk
theorem Kq(P:Nat)(v:Value)(p:Pd)(n:Int)(w:World)(h:PadAt w P v p):Calls Tryz.prog 82 #[(.pointer (some ⟨P,0,none⟩)),.int .i64 n] w λe w'=>e= .returned (.bool (decide (0<=n/\n<p.l.length)))/\w'=w:=by
 obtain⟨ad,cap,rfl,_⟩:=h.shape;have c3:w.cell? ⟨P,0,none⟩=some (.slice ad p.l.length cap):=Aa h.blk 0;have lt:=lt_of_block h.blk;obtain⟨m,hm⟩:=eX p.l.length;rw [hm] at c3⊢;obtain⟨H,Hm⟩:=hid2 h hm;clear hm h;by_cases h0:0<=n
 ·go_enter Tryz.func82,Tryz.ntmps82;go_wp2;go_ret;exact⟨by simp [h0],rfl⟩
 ·go_enter Tryz.func82,Tryz.ntmps82;go_wp2;go_ret;exact⟨by simp;omega,rfl⟩
def Gr(P:Nat)(v:Value)(p:Pd)(w w':World):Prop:=PadAt w' P v p/\Keeps (λk=>k=P) w w'
theorem Aba(P:Nat)(v:Value)(p:Pd)(w:World)(h:PadAt w P v p)(hf:p.fl+1<=1000000):Calls Tryz.prog 86 #[(.pointer (some ⟨P,0,none⟩))] w λe w'=>e= .returned (.tuple #[])/\Gr P v (sinkR p) w w':=by
 have c2:w.cell? ⟨P,2,none⟩=some (.int .i64 p.fl):=Aa h.blk 2;have c3:w.cell? ⟨P,3,none⟩=some (.bool p.dn):=Aa h.blk 3;have f2:=Ab h.blk 2;have f3:=Ab h.blk 3;have lt:=lt_of_block h.blk;obtain⟨fl0,fl1⟩:=h.fl0;obtain⟨l,sn,fl,dn⟩:=p;simp only at c2 c3 fl0 fl1 hf
 cases dn
 ·have hend:Gr P v ⟨l,sn,fl+1,true⟩ w ((w.setCell ⟨P,2,none⟩ (.int .i64 (fl+1))).setCell ⟨P,3,none⟩ (.bool true)):=
   have hk:Keeps (λk=>k=P) w ((w.setCell ⟨P,2,none⟩ (.int .i64 (fl+1))).setCell ⟨P,3,none⟩ (.bool true)):=(Keeps.setCell (S:=λk=>k=P) _ _ _ rfl).trans (Keeps.setCell _ _ _ (.inl rfl))
   ⟨h.put (q:=⟨l,sn,fl+1,true⟩) rfl h.sn0 (by simp only;omega) hk (heap_setCell_same _ _ 3 _ _ _ (heap_setCell_same _ _ 2 _ _ _ h.blk)),hk⟩
  exact j2c
 ·have hend:Gr P v ⟨l,sn,fl,true⟩ w (w.setCell ⟨P,3,none⟩ (.bool true)):=
   have hk:Keeps (λk=>k=P) w (w.setCell ⟨P,3,none⟩ (.bool true)):=Keeps.setCell _ _ _ rfl
   ⟨h.put (q:=⟨l,sn,fl,true⟩) rfl h.sn0 h.fl0 hk (heap_setCell_same _ _ 3 _ _ _ h.blk),hk⟩
  exact j2c
theorem Nn(P:Nat)(v:Value)(p:Pd)(w:World)(h:PadAt w P v p)(hf:p.fl+1<=1000000):Calls Tryz.prog 146 #[(.pointer (some ⟨P,0,none⟩))] w λe w'=>e= .returned (.bool (!decide (p.sn=1)))/\Gr P v (Cm p) w w':=by
 have c1:w.cell? ⟨P,1,none⟩=some (.int .i64 p.sn):=Aa h.blk 1;have f1:=Ab h.blk 1;have lt:=lt_of_block h.blk;obtain⟨s0,s1⟩:=h.sn0;obtain⟨l,sn,fl,dn⟩:=p;simp only at c1 s0 s1 hf⊢;by_cases hs1:sn=1
 ·subst hs1;have hk1:Keeps (λk=>k=P) w (w.setCell ⟨P,1,none⟩ (.int .i64 0)):=Keeps.setCell _ _ _ rfl;have h1:PadAt (w.setCell ⟨P,1,none⟩ (.int .i64 0)) P v ⟨l,0,fl,dn⟩:=h.put (q:=⟨l,0,fl,dn⟩) rfl (by simp) h.fl0 hk1 (heap_setCell_same _ _ 1 _ _ _ h.blk);have hc:=Aba P v _ _ h1 hf;obtain⟨H,H1,Hc,Hk1⟩:=hid4 h h1 hc hk1;clear hk1 hc h1 h;go_enter Tryz.func146,Tryz.ntmps146
  go_wp2_with (go_at_call 86;(with_reducible refine Hc.o.mono ?_);rintro e w1 ⟨rfl,hk2⟩;have Hk2:=Lib.hid hk2;clear hk2)
  go_ret;exact⟨rfl,Hk2.o.1,Hk1.o.trans (Hk2.o.2.mono λk _ e=> .inl e)⟩
 by_cases hs0:sn=0
 ·subst hs0
  have hend:Gr P v ⟨l,0,fl,dn⟩ w ((w.setCell ⟨P,1,none⟩ (.int .i64 (-1))).setCell ⟨P,1,none⟩ (.int .i64 0)):=
   have hk:Keeps (λk=>k=P) w ((w.setCell ⟨P,1,none⟩ (.int .i64 (-1))).setCell ⟨P,1,none⟩ (.int .i64 0)):=(Keeps.setCell (S:=λk=>k=P) _ _ _ rfl).trans (Keeps.setCell _ _ _ (.inl rfl))
   ⟨h.put (q:=⟨l,0,fl,dn⟩) rfl (by simp) h.fl0 hk (heap_setCell_same _ _ 1 _ _ _ (heap_setCell_same _ _ 1 _ _ _ h.blk)),hk⟩
  obtain⟨H,Hend⟩:=hid2 h hend;clear hend h;go_enter Tryz.func146,Tryz.ntmps146;go_wp2;go_ret;exact⟨rfl,Hend.o⟩
 ·obtain⟨N,hN⟩:=eX (sn-1);have hN0:0<N:=j8;have hN1:¬N=0:=j8;have hN2:N<=1000000:=j8;have hR:Cm ⟨l,sn,fl,dn⟩=⟨l,N,fl,dn⟩:=by unfold Cm;simp only;rw [if_neg hs1,if_neg hs0,hN]
  have hend:Gr P v ⟨l,N,fl,dn⟩ w ((w.setCell ⟨P,1,none⟩ (.int .i64 N)).setCell ⟨P,1,none⟩ (.int .i64 N)):=
   have hk:Keeps (λk=>k=P) w ((w.setCell ⟨P,1,none⟩ (.int .i64 N)).setCell ⟨P,1,none⟩ (.int .i64 N)):=(Keeps.setCell (S:=λk=>k=P) _ _ _ rfl).trans (Keeps.setCell _ _ _ (.inl rfl))
   ⟨h.put (q:=⟨l,N,fl,dn⟩) rfl (by simp only;omega) h.fl0 hk (heap_setCell_same _ _ 1 _ _ _ (heap_setCell_same _ _ 1 _ _ _ h.blk)),hk⟩
  have q:wrap64 (sn-1)=N:=by rw [wrap64_in _ j6,hN]
  have q2:IntKind.i64.wrap (sn-1)=N:=by rw [i64_in _ j6,hN]
  rw [hR];obtain⟨H,Hend,HN,HR⟩:=hid4 h hend hN hR;clear hR hN hend h;go_enter Tryz.func146,Tryz.ntmps146;go_wp2;go_ret;exact⟨by simp [hs1],Hend.o⟩
theorem PadAt.Md{w:World}{P g o cap:Nat}{p:Pd}(h:PadAt w P (.slice (some ⟨g,o,none⟩) p.l.length cap) p){k:Nat}{x:Lf}(hx:p.l[k]?=some x):
  ∀j u,x.cells[j]?=some u->w.cell? ⟨g,k*49+j,none⟩=some u:=by
 intro j u hj;have hj9:j<49:=by rw [<-Lf.Aj x];exact(List.getElem?_eq_some_iff.1 hj).1
 have h0:o=0:=by
  rcases h.row.2 with⟨e,_⟩|⟨g',cap',cur,hv,_⟩
  ·simp at e
  ·simp only [Value.slice.injEq,Option.some.injEq,Addr.mk.injEq] at hv;exact hv.1.2.1
 have:=h.row.cells (g:=g) rfl (k*49+j) u (by rw [flat_get Lf.Aj hx hj9];exact hj);rw [Dx] at this
 simpa using this
def Gs(w:World)(b:List Int)(is:Bool)(e:Ending)(w':World):Prop:=e= .returned (.tuple #[.agg (b48 b).toArray,.bool is])/\K0 w w'
theorem Cj{P:Program}{fn:Func}{p q:Tmp}{ty:TypeId}(h:fn.results= #[.cell p ty,.tmp q])(tmps:Array Value)(w:World)(g:Nat)(t:TypeId)(cs:Array Value)(fr:Nat×Nat)(d:TypeDesc)(u:Value)
  (hp:tmps.getD p undef= .pointer (some ⟨g,0,none⟩)) (hq:tmps.getD q undef=u) (hg:w.heap[g]?=some (.cells cs t fr))
  (hu:P.underlying ty=some d) (hd:(match d with| .struct _| .array _ _=>true|_=>false)=true) (hi:(P.info? ty).map (·.size)=some cs.size):
  (results fn tmps).run P w= .ok (.tuple #[.agg cs,u]) w:=by
 have hp':tmps[p]?.getD undef= .pointer (some ⟨g,0,none⟩):=by simpa using hp
 have hq':tmps[q]?.getD undef=u:=by simpa using hq
 simp [results,h,hp',hq',asAddr,run_loadVar_row w g t ty cs fr d hg hu hd hi]
theorem Ay:(Tryz.prog.info? 75).map (·.size)=some 48:=by kernel_rfl
theorem Dh(b:List Int):(b48 b).toArray.all (·.oneCell')=true:=by simp [b48];intro i _;rfl
theorem Acy(P:Nat)(v:Value)(p:Pd)(n:Int)(w:World)(h:PadAt w P v p)(hn:¬(0<=n/\n<p.l.length)):Calls Tryz.prog 38 #[(.pointer (some ⟨P,0,none⟩)),.int .i64 n] w (Gs w [] false):=by
 have hc:=λW (hW:K0 w W)=>Kq P v p n W (h.keeps hW (by simp));rw [decide_eq_false hn] at hc;obtain⟨H,Hc⟩:=hid2 h hc;clear hc h;go_enter Tryz.func38,Tryz.ntmps38
 go_wp2_with (first|(go_at_call 82;(with_reducible refine(Hc.o _ (Keeps.alloc _ _)).mono ?_);rintro e w1 ⟨rfl,hw1⟩;have hb1:w1.heap[w.heap.size]?=some (.cells (b48 []).toArray 75 (0,0)):=j12;have hk1:K0 w w1:=j13;clear hw1;have Hb1:=Lib.hid hb1;have Hk1:=Lib.hid hk1;clear hb1 hk1)|(refine wpList_store_row rfl 75 (.tmp 4) (.tmp 25) rfl w.heap.size (b48 []).toArray rfl rfl 75 (b48 []).toArray Hb1.o Ay rfl (Dh _) ?_))
 exact j2d
theorem Uq(P:Nat)(v:Value)(p:Pd)(k:Nat)(x:Lf)(w:World)(h:PadAt w P v p)(hx:p.l[k]?=some x):Calls Tryz.prog 38 #[(.pointer (some ⟨P,0,none⟩)),.int .i64 k] w (Gs w (if x.is=0 then [] else x.b) (!decide (x.is=0))):=by
 have hkl:=(List.getElem?_eq_some_iff.1 hx).1;have hc:=λW (hW:K0 w W)=>Kq P v p k W (h.keeps hW (by simp));rw [decide_eq_true (show 0<=(k:Int)/\(k:Int)<p.l.length by omega)] at hc;obtain⟨ad,cap,rfl,hcap⟩:=h.shape
 have hown:∃g,ad=some ⟨g,0,none⟩:=by
  exact j2e
 obtain⟨g,rfl⟩:=hown;have hlc:=λW (hW:K0 w W)=>PadAt.Md (h.keeps hW (by simp)) hx;have hblk:=λW (hW:K0 w W)=>(h.keeps hW (by simp)).blk;obtain⟨m,hm⟩:=eX p.l.length;rw [hm] at hkl h hcap hblk;have hkI:(k:Int)<(m:Int):=j8;have hnI:(0:Int)<=(k:Int):=j8;have hb48:∀j u,(b48 x.b)[j]?=some u->x.cells[1+j]?=some u:=λj u hj=>by rw [Nat.add_comm];exact hj
 by_cases hz:x.is=0
 ·obtain⟨H,Hc,Hlc,Hblk,Hx⟩:=hid5 h hc hlc hblk hx;clear hx hblk hlc hc h;go_enter Tryz.func38,Tryz.ntmps38
  go_wp2_with (first|(go_at_call 82;(with_reducible refine(Hc.o _ (Keeps.alloc _ _)).mono ?_);rintro e w1 ⟨rfl,hw1⟩;have hb1:w1.heap[w.heap.size]?=some (.cells (b48 []).toArray 75 (0,0)):=j12;have hk1:K0 w w1:=j13;clear hw1;have c0:=Aa (Hblk.o w1 hk1) 0;have c1:w1.cell? ⟨g,k*49+0,none⟩=some (.int .i64 0):=(Hlc.o w1 hk1 0 _ (by rw [<-hz];rfl));have lt:=Ag c0;have lg:=Ag c1;rw [Nat.add_zero] at c1;have Hb1:=Lib.hid hb1;have Hk1:=Lib.hid hk1;clear hb1 hk1)|(refine wpList_store_row rfl 75 (.tmp 4) (.tmp 25) rfl w.heap.size (b48 []).toArray rfl rfl 75 (b48 []).toArray Hb1.o Ay rfl (Dh _) ?_))
  exact j2d
 ·have hzb:(x.is==0)=false:=beq_eq_false_iff_ne.2 hz;obtain⟨xi,hxi⟩:=eX x.is;rw [hxi] at hz hzb⊢;rw [if_neg hz,decide_eq_false hz];obtain⟨H,Hc,Hlc,Hblk,Hx,Hxi,Hb48⟩:=hid7 h hc hlc hblk hx hxi hb48;clear hb48 hxi hx hblk hlc hc h;go_enter Tryz.func38,Tryz.ntmps38
  go_wp2_with (first|(go_at_call 82;(with_reducible refine(Hc.o _ (Keeps.alloc _ _)).mono ?_);rintro e w1 ⟨rfl,hw1⟩;have hb1:w1.heap[w.heap.size]?=some (.cells (b48 []).toArray 75 (0,0)):=j12;have hk1:K0 w w1:=j13;clear hw1;have c0:=Aa (Hblk.o w1 hk1) 0;have c1:w1.cell? ⟨g,k*49+0,none⟩=some (.int .i64 xi):=(Hlc.o w1 hk1 0 _ (by rw [<-Hxi.o];rfl));have lt:=Ag c0;have lg:=Ag c1;rw [Nat.add_zero] at c1;have Hb1:=Lib.hid hb1;have Hk1:=Lib.hid hk1;clear hb1 hk1)|(refine wpList_store_row rfl 75 (.tmp 4) (.tmp 33) rfl w.heap.size (b48 x.b).toArray rfl rfl 75 (b48 []).toArray Hb1.o Ay rfl (Dh _) ?_)|(refine Tw rfl 75 (.tmp 32) rfl g (k*49+1) rfl (b48 x.b) _ (λj u hj=>by rw [Nat.add_assoc];exact Hlc.o w1 Hk1.o (1+j) u (Hb48.o j u hj)) Tryz.underlying75 rfl Ay ?_))
  exact bodyPost_ret (Cj rfl _ _ w.heap.size 75 (b48 x.b).toArray _ _ _ rfl rfl (setRow_heap _ _ _ _ _ _ Hb1.o) Tryz.underlying75 rfl Ay) rfl ⟨rfl,Hk1.o.trans ((Keeps.setRow _ _ _).mono λk _ e=> .inr (Nat.le_of_eq e.symm))⟩
theorem Uh:(Tryz.prog.info? 149).map (·.size)=some 49:=by kernel_rfl
theorem PadAt.Yu{w:World}{P g cap k:Nat}{p:Pd}(h:PadAt w P (.slice (some ⟨g,0,none⟩) p.l.length cap) p)(hk:k<p.l.length)(y:Lf):
  ∃cur,w.heap[g]?=some (.cells cur 149 (0,0))/\k*49+y.cells.length<=cur.size/\PadAt (w.setRow g (putAt cur.toList (k*49) y.cells).toArray) P (.slice (some ⟨g,0,none⟩) p.l.length cap) { p with l:=p.l.set k y }/\
   Keeps (λi=>i=g) w (w.setRow g (putAt cur.toList (k*49) y.cells).toArray):=by
 obtain⟨cur,h1,h2,h3⟩:=Abd Lf.Aj j7 h.row hk (y:=y);have hne:g≠P:=λe=>h.ne (by rw [<-e];rfl);refine⟨cur,h1,by rw [Lf.Aj];exact h2,⟨?_, ?_, ?_,h.sn0,h.fl0⟩,Keeps.setRow _ _ _⟩
 ·rw [setRow_other _ _ _ _ (Ne.symm hne)];exact h.blk
 ·simp only [List.length_set];exact h3
 ·simp only [List.length_set];exact h.n
def Tt(P:Nat)(v:Value)(p:Pd)(w w':World):Prop:=PadAt w' P v p/\Keeps (PFoot P v) w w'
theorem Xt(P:Nat)(v:Value)(p:Pd)(k:Nat)(x:Lf)(b:List Int)(w:World)(h:PadAt w P v p)(hf:p.fl+1<=1000000)(hd:p.dn=false)(hx:p.l[k]?=some x)(hx0:x.is=0):
  Calls Tryz.prog 112 #[(.pointer (some ⟨P,0,none⟩)),.int .i64 k,.agg (b48 b).toArray] w λe w'=>e= .returned (.int .i64 (if p.sn=1 then 15 else 0))/\Tt P v (Cm { p with l:=p.l.set k ⟨1,b⟩ }) w w':=by
 have hkl:=(List.getElem?_eq_some_iff.1 hx).1;have hr:=λW (hW:K0 w W)=>Py P v p W (h.keeps hW (by simp));have hc:=λW (hW:K0 w W)=>Kq P v p k W (h.keeps hW (by simp));rw [decide_eq_true (show 0<=(k:Int)/\(k:Int)<p.l.length by omega)] at hc;have hr0:Uj p=0:=by unfold Uj;rw [hd];rfl
 rw [hr0] at hr;obtain⟨ad,cap,rfl,hcap⟩:=h.shape
 have hown:∃g,ad=some ⟨g,0,none⟩:=by
  exact j2e
 obtain⟨g,rfl⟩:=hown;obtain⟨q,hq⟩:=eX (Cm { p with l:=p.l.set k ⟨1,b⟩ });rw [hq];obtain⟨wb,hwb⟩:=eY (w.alloc (.cells (b48 b).toArray 75));have hkb:K0 w wb:=by rw [hwb];exact Keeps.alloc _ _
 have hbb:wb.heap[w.heap.size]?=some (.cells (b48 b).toArray 75 (0,0)):=by rw [hwb];exact heap_alloc_new w _
 have hb:=h.keeps hkb (by simp);have c0:=Aa hb.blk 0;have lt:=lt_of_block hb.blk;have cx:wb.cell? ⟨g,k*49+0,none⟩=some (.int .i64 0):=PadAt.Md hb hx 0 _ (by rw [<-hx0];rfl);rw [Nat.add_zero] at cx;have lg:=Ag cx;obtain⟨m,hm⟩:=eX p.l.length;rw [hm] at hkl h hcap c0;have hkI:(k:Int)<(m:Int):=j8;have hnI:(0:Int)<=(k:Int):=j8;obtain⟨H,Hc,Hx,Hr,Hd,Hwb,Hkb,Hbb,Hb⟩:=hid9 h hc hx hr hd hwb hkb hbb hb;clear hb hbb hkb hwb hd hr hx hc h;obtain⟨Hm,Hq⟩:=hid2 hm hq;clear hq hm;go_enter Tryz.func112,Tryz.ntmps112
 go_wp2_with (first|(go_at_call 145;(with_reducible refine(Hr.o _ (Keeps.alloc _ _)).mono ?_);rintro e w1 ⟨rfl,hw1⟩;rw [<-Hwb.o] at hw1;subst w1)|(go_at_call 82;(with_reducible refine(Hc.o wb Hkb.o).mono ?_);rintro e w1 ⟨rfl,hw1⟩;subst w1))
 refine Ch (λW=>(W.cell? ⟨P,0,none⟩=some (.slice (some ⟨g,0,none⟩) m cap)/\P<W.heap.size)/\W.heap[w.heap.size]?=some (.cells (b48 b).toArray 75 (0,0))/\W=wb.drew) 8 (.take 0 (.take 1 (.take 2 (.take 3 (.take 4 (.take 5 (.take 6 (.take 7 (.move 8 .done))))))))) j9 j9 ?_ ?_
 ·exact⟨⟨c0,lt⟩,Hbb.o,rfl⟩
 intro w1 hs1 hk1;have hp1:PadAt w1 P (.slice (some ⟨g,0,none⟩) p.l.length cap) p:=by rw [hs1.2.2];exact Hb.o.keeps (Keeps.drew (S:=λ_=>False) _) (by simp)
 have hkw1:K0 w w1:=by rw [hs1.2.2];exact Keeps.nt Hkb.o (Keeps.drew _)
 obtain⟨cur,hcur,hlc,hp2,hk2⟩:=hp1.Yu (k:=k) (by rw [Hm.o];exact hkl) ⟨1,b⟩;obtain⟨Hs1,Hk1,Hp1,Hkw1,Hcur,Hlc,Hp2,Hk2⟩:=hid8 hs1 hk1 hp1 hkw1 hcur hlc hp2 hk2;clear hk2 hp2 hlc hcur hkw1 hp1 hk1 hs1;refine jR ?_;refine Ea rfl (by rfl) w.heap.size rfl 75 (b48 b).toArray _ _ (λw h=>h.2.1) Tryz.underlying75 rfl Ay ?_;refine mix_build rfl (by rfl) (Lf.cells ⟨1,b⟩).toArray j9 ?_;refine jR ?_;refine Cq rfl (λK hK=> ?_);refine Aah 149 (.tmp 33) (.tmp 32) rfl g (k*49) (Lf.cells ⟨1,b⟩) rfl rfl 149 cur Hcur.o (by rw [Uh,Lf.Aj]) Hlc.o (Lf.one _) ?_;refine hK.out _ _ ?_;clear hK K;obtain⟨W2,hW2⟩:=eY (w1.setRow g (putAt cur.toList (k*49) (Lf.cells ⟨1,b⟩)).toArray);rw [<-hW2];have hp3:=Hp2.o;have hk3:=Hk2.o;rw [<-hW2] at hp3 hk3;clear hW2;have hst:=Nn P _ _ W2 hp3 hf;obtain⟨Hp3,Hk3,Hst⟩:=hid3 hp3 hk3 hst;clear hst hk3 hp3;refine Ao ?_
 go_wp2_with (go_at_call 146;(with_reducible refine Hst.o.mono ?_);rintro e w4 ⟨rfl,hk4⟩;have Hk4:=Lib.hid hk4;clear hk4)
 all_goals
  have hkf:Keeps (PFoot P (.slice (some ⟨g,0,none⟩) p.l.length cap)) w w4:=
   (Hkw1.o.mono λ_ _ h=>h.elim).trans ((Hk3.o.mono λi _ e=> .inl (.inr (by rw [e];rfl))).trans (Hk4.o.2.mono λi _ e=> .inl (.inl (.inl e))))
  go_ret;exact⟨rfl,by rw [<-Hq.o];exact Hk4.o.1,hkf⟩
theorem Cx{P:Program}{a:Act}{w:World}{Q:Exit->Act->World->Prop}{c rest:Code}(l:Nat)(J:Act->World->Prop)(M:Act->World->Nat)(hf:findLabel c l=some (Code.skip.seq rest))
  (round:∀a w,J a w->rest.wp P (Exit.jump l (λa' w'=>J a' w'/\M a' w'<M a w) Q) a w)
  (first:(∀a w,J a w->rest.wp P (Exit.jump l J Q) a w)->c.wp P (Exit.jump l J Q) a w):(Code.scope c).wp P Q a w:=by
 exact j2f
theorem Ci{w:World}{base:Nat}{e:TypeId}{size:Nat}{v:Value}{n:Nat}{xs:List Value}(h:w.ownsRow base e size v n xs){g:Nat}(hv:v.ownBlock=some g):g<w.heap.size:=by
 exact j2g
theorem Ef{w:World}{e e':TypeId}{b b' size size' n n':Nat}{v v':Value}{xs xs':List Value}(h:w.ownsRow b e size v n xs)(h':w.ownsRow b' e' size' v' n' xs')(hne:e≠e'){g:Nat}(hg:v.ownBlock=some g)(hg':v'.ownBlock=some g):False:=by
 rcases h.2 with⟨rfl,_⟩|⟨g1,cap1,cur1,rfl,_,hh,_⟩
 ·simp [Value.ownBlock] at hg
 ·simp only [Value.ownBlock,Option.some.injEq] at hg;subst hg;exact Ai h' hh hne hg'
def Lc(hi:Bool)(a b:Int):Bool:=if hi=true then decide (b<a) else decide (a<b)
def rt(R:List Int)(k:Int):Int:=R.getD (k-1).toNat 0
def plR(hi:Bool)(R:List Int)(r:Int)(O:List Int):Nat->Nat
 |0=>0
 |k+1=>if Lc hi r (rt R (O.getD k 0))=true then plR hi R r O k else k+1
def insR(hi:Bool)(R:List Int)(n:Nat)(O:List Int):List Int:=O.take (plR hi R (R.getD n 0) O O.length)++ [(n:Int)+1]++O.drop (plR hi R (R.getD n 0) O O.length)
def rankN(hi:Bool)(R:List Int):Nat->List Int
 |0=> []
 |n+1=>insR hi R n (rankN hi R n)
def rankL(hi:Bool)(R:List Int):List Int:=rankN hi R R.length
theorem plR_le(hi:Bool)(R:List Int)(r:Int)(O:List Int):∀k,plR hi R r O k<=k
 |0=>Nat.le_refl _
 |k+1=>by
  unfold plR
  split
  ·exact Nat.le_succ_of_le (plR_le hi R r O k)
  ·exact Nat.le_refl _
theorem Abs(hi:Bool)(R:List Int)(n:Nat)(O:List Int):(insR hi R n O).length=O.length+1:=by
 have:=plR_le hi R (R.getD n 0) O O.length;simp only [insR,List.length_append,List.length_take,List.length_drop,List.length_cons,List.length_nil];omega
theorem En(hi:Bool)(R:List Int):∀n,(rankN hi R n).length=n
 |0=>rfl
 |n+1=>by unfold rankN;rw [Abs,En hi R n]
theorem Kn(hi:Bool)(R:List Int):(rankL hi R).length=R.length:=En hi R _
theorem mem_insR{hi:Bool}{R:List Int}{n:Nat}{O:List Int}{x:Int}(h:x∈insR hi R n O):x∈O\/x=(n:Int)+1:=by
 unfold insR at h;rcases List.mem_append.1 h with h|h
 ·rcases List.mem_append.1 h with h|h
  ·exact .inl (List.mem_of_mem_take h)
  ·exact .inr (List.mem_singleton.1 h)
 ·exact .inl (List.mem_of_mem_drop h)
theorem Em{hi:Bool}{R:List Int}:∀{n:Nat} {x:Int},x∈rankN hi R n->1<=x/\x<=n
 |0,x,h=>by simp [rankN] at h
 |n+1,x,h=>by
  rcases mem_insR h with h|h
  ·have:=Em h;omega
  ·omega
theorem Rp(hi:Bool)(R:List Int):∀n,(rankN hi R n).Nodup
 |0=>List.nodup_nil
 |n+1=>by
  have ih:=Rp hi R n;have hm:=λx=>Em (hi:=hi) (R:=R) (n:=n) (x:=x);unfold rankN insR;obtain⟨O,hO⟩:=eX (rankN hi R n);rw [hO] at ih hm⊢;obtain⟨p,hp⟩:=eX (plR hi R (R.getD n 0) O O.length);rw [hp];rw [<-List.take_append_drop p O,List.nodup_append] at ih;obtain⟨h1,h2,h3⟩:=ih;rw [List.append_assoc,List.nodup_append];refine⟨h1, ?_,λa ha b hb=> ?_⟩
  ·show List.Nodup (_::_);rw [List.nodup_cons];exact⟨λh=>by have:=(hm _ (List.mem_of_mem_drop h)).2;omega,h2⟩
  ·rcases List.mem_cons.1 (show b∈_::_ from hb) with rfl|hb
   ·intro e;have:=(hm _ (List.mem_of_mem_take ha)).2;omega
   ·exact h3 a ha b hb
theorem Qx:(Tryz.prog.info? 3).map (λi=>(i.zero,i.size,i.bytes))=some (some (.int .i64 0),1,8):=by kernel_rfl
theorem Wx(a b:Int)(w:World):Calls Tryz.prog 293 #[.int .i64 a,.int .i64 b] w λe w'=>e= .returned (.bool (Lc true a b))/\w=w':=by
 go_enter Tryz.func293,Tryz.ntmps293;exact jk
theorem Zc(a b:Int)(w:World):Calls Tryz.prog 301 #[.int .i64 a,.int .i64 b] w λe w'=>e= .returned (.bool (Lc false a b))/\w=w':=by
 go_enter Tryz.func301,Tryz.ntmps301;exact jk
def RowI(W:World)(g n cap:Nat)(O:List Int):Prop:=W.ownsRow 0 3 1 (.slice (some ⟨g,0,none⟩) n cap) n (O.flatMap i64c)/\O.length=n
theorem RowI.cell{W:World}{g n cap:Nat}{O:List Int}(h:RowI W g n cap O){k:Nat}{x:Int}(hx:O[k]?=some x):W.cell? ⟨g,k,none⟩=some (.int .i64 x):=by
 obtain⟨h,rfl⟩:=h;have:=Bu Dq h hx 0 j7;exact j0b
theorem RowI.free{W:World}{g n cap:Nat}{O:List Int}(h:RowI W g n cap O)(j:Nat):W.frozen? ⟨g,j,none⟩=false:=by
 exact j14
theorem RowI.set{W:World}{g n cap:Nat}{O:List Int}(h:RowI W g n cap O){k:Nat}(hk:k<n)(x:Int):RowI (W.setCell ⟨g,k,none⟩ (.int .i64 x)) g n cap (O.set k x):=by
 exact j2h
theorem RowI.keep{W W':World}{g n cap:Nat}{O:List Int}(h:RowI W g n cap O)(hk:K0 W W'):RowI W' g n cap O:=⟨h.1.of_keeps hk,h.2⟩
theorem RowI.lt{W:World}{g n cap:Nat}{O:List Int}(h:RowI W g n cap O):g<W.heap.size:=Ci h.1 rfl
theorem Gn{l:Nat}{J:Act->World->Prop}{Q:Exit->Act->World->Prop}{a:Act}{w:World}(h:Q .normal a w):Exit.jump l J Q .normal a w:=h
def Dz(i:Nat)(a':Act):Nat:=match a'.tmps.getD i undef with| .int _ n=>n.toNat|_=>0
def rkFr(vR clo vO:Value)(i n k:Nat)(r:Int)(u:Nat->Value):Act:={ tmps:= #[vR,clo,undef,undef,.slice none 0 0,vO,.int .i64 ((i:Nat):Int),.int .i64 r,.int .i64 ((k:Nat):Int),vR,.int .i64 ((n:Nat):Int),.int .i64 ((i:Nat):Int),u 12,u 13,u 14,u 15,u 16,u 17,u 18,u 19,u 20,u 21,u 22,u 23,u 24,u 25,u 26,u 27,u 28,u 29,u 30,u 31,u 32,u 33,u 34,u 35,u 36,u 37,u 38,u 39,u 40,u 41,u 42,u 43,u 44,u 45,u 46,u 47,u 48,u 49,u 50,u 51,u 52,u 53,u 54,u 55,u 56,undef],defers:= [] }
structure RkAt(hi:Bool)(R:List Int)(i:Nat)(w:World)(g c k:Nat)(W:World):Prop where
 ki:k<=i
 row:RowI W g (i+1) c ((rankN hi R i).take k++ [(i:Int)+1]++(rankN hi R i).drop k)
 pl:plR hi R (R.getD i 0) (rankN hi R i) i=plR hi R (R.getD i 0) (rankN hi R i) k
 fr:Fresh w W (.slice (some ⟨g,0,none⟩) (i+1) c)
def rkJ(hi:Bool)(R:List Int)(i:Nat)(w:World)(vR clo:Value)(n:Nat)(a':Act)(W:World):Prop:=∃(k g c:Nat) (u:Nat->Value),a'=rkFr vR clo (.slice (some ⟨g,0,none⟩) (i+1) c) i n k (R.getD i 0) u/\RkAt hi R i w g c k W
theorem rkJ.mk{hi:Bool}{R:List Int}{i:Nat}{w:World}{vR clo:Value}{n:Nat}{a':Act}{W:World}(k g c:Nat)(h:a'=rkFr vR clo (.slice (some ⟨g,0,none⟩) (i+1) c) i n k (R.getD i 0) (λj=>a'.tmps.getD j undef))(hr:RkAt hi R i w g c k W):rkJ hi R i w vR clo n a' W:=⟨k,g,c,_,h,hr⟩
theorem Xo{O:List Int}{k:Nat}{x y:Int}(hk:O[k]?=some y):((O.take (k+1)++ [x]++O.drop (k+1)).set k x).set (k+1) y=O.take k++ [x]++O.drop k:=by
 have hl:k<O.length:=(List.getElem?_eq_some_iff.1 hk).1;have h1:O.take (k+1)=O.take k++ [y]:=by rw [List.take_add_one,hk];rfl
 have h2:O.drop k=y::O.drop (k+1):=by rw [List.drop_eq_getElem_cons hl];congr 1;exact(List.getElem?_eq_some_iff.1 hk).2
 have hlen:(O.take k).length=k:=by rw [List.length_take];omega
 rw [h1,h2];simp only [List.append_assoc,List.cons_append,List.nil_append];rw [List.set_append_right _ _ j6,hlen,Nat.sub_self,List.set_cons_zero,List.set_append_right _ _ j6,hlen,show k+1-k=1 by omega];rfl
theorem mid_get{O:List Int}{k:Nat}{x:Int}(hk:k<=O.length):(O.take k++ [x]++O.drop k)[k]?=some x:=by
 rw [List.append_assoc,List.getElem?_append_right (by rw [List.length_take];omega),List.length_take,show k-min k O.length=0 by omega];rfl
theorem Abf{O:List Int}{k:Nat}{x y:Int}(hk:O[k]?=some y):(O.take (k+1)++ [x]++O.drop (k+1))[k]?=some y:=by
 have hl:k<O.length:=(List.getElem?_eq_some_iff.1 hk).1;rw [List.append_assoc,List.getElem?_append_left (by rw [List.length_take];omega),List.getElem?_take,if_pos j6,hk]
theorem Ww(R:List Int)(ad:Option Addr)(cap:Nat)(w:World)(hr:Reads w 1 (.slice ad R.length cap) R.length (R.flatMap i64c))(hl:R.length<=1000):
  Calls Tryz.prog 292 #[.slice ad R.length cap,.func (.func 293) #[] #[]] w λe w'=>∃v',e= .returned v'/\w'.ownsRow 0 3 1 v' R.length ((rankL true R).flatMap i64c)/\Fresh w w' v':=by
 obtain⟨i0,hi,hi0,hi1,hi2⟩:=info_parts Qx;unfold rankL;obtain⟨n,hn⟩:=eX R.length;rw [hn] at hr hl⊢;obtain⟨Hr,Hn,Hi,Hi0,Hi1,Hi2⟩:=hid6 hr hn hi hi0 hi1 hi2;clear hi2 hi1 hi0 hi hn hr;go_enter Tryz.func292,Tryz.ntmps292;go_wp2
 go_loopw [5,11] (λx y wx=>∃i:Nat,y= .int .i64 (i:Nat)/\i<=n/\wx.ownsRow 0 3 1 x i ((rankN true R i).flatMap i64c)/\Fresh w wx x) (λ_ y _=>n-(intOf y).toNat)
 case atStart=>exact⟨0,rfl,Nat.zero_le _,World.ownsRow_nil _ _ _ _,Fresh.nil w⟩
 case round=>
  obtain⟨i,rfl,hin,hrow,hfr⟩:=hrel;obtain⟨W1,hW1⟩:=eY wr;subst hW1;obtain⟨adv,cv,hv,_,_⟩:=Ae hrow;subst hv;by_cases hlt:i<n
  ·have hltI:(i:Int)<(n:Int):=j8;obtain⟨r,hx⟩:=Au (L:=R) (k:=i) jP;have hri:R.getD i 0=r:=by rw [List.getD_eq_getElem?_getD,hx];rfl
   obtain⟨gR,oR,he,hc⟩:=(Hr.o.keeps hfr.1 (by simp)).int (k:= .i64) hx;subst he;have hgl:=Ag hc;obtain⟨Hrow,Hfr,Hx,Hri⟩:=hid4 hrow hfr hx hri;clear hri hx hfr hrow;go_wp2_with fail;refine Cx 0 (rkJ true R i w (.slice (some ⟨gR,oR,none⟩) n cap) (.func (.func 293) #[] #[]) n) (λa' _=>Dz 8 a') rfl ?_ ?_
   ·rintro a' W ⟨k,g,c,u,rfl,hat⟩;unfold rkFr;rw [Hri.o];have hki:=hat.ki;have hlen:=En true R i;rcases k with _|k
    ·have hp0:plR true R r (rankN true R i) 0=0:=rfl;have hpl:=hat.pl;rw [Hri.o,hp0] at hpl
     have hend:rankN true R (i+1)=(rankN true R i).take 0++ [(i:Int)+1]++(rankN true R i).drop 0:=by
      show insR true R i (rankN true R i)=_;exact j0v
     exact j2i
    ·obtain⟨y,hy⟩:=Au (L:=rankN true R i) (k:=k) j6;obtain⟨y1,y2⟩:=Em (List.mem_of_getElem? hy);have hyD:(rankN true R i).getD k 0=y:=by rw [List.getD_eq_getElem?_getD,hy];rfl
     obtain⟨m,hm⟩:∃m:Nat,(m:Int)=y-1:=⟨(y-1).toNat,by omega⟩;obtain⟨v,hv⟩:=Au (L:=R) (k:=m) jQ;have hrt:rt R y=v:=by unfold rt;rw [show(y-1).toNat=m by omega,List.getD_eq_getElem?_getD,hv];rfl
     have hpl:=hat.pl;rw [Hri.o] at hpl;have hps:plR true R r (rankN true R i) (k+1)=if Lc true r v=true then plR true R r (rankN true R i) k else k+1:=by show(if _ then _ else _)=_;rw [hyD,hrt]
     rw [hps] at hpl;obtain⟨g3,o3,he3,hc3⟩:=(Hr.o.keeps hat.fr.1 (by simp)).int (k:= .i64) hv;simp only [Option.some.injEq,Addr.mk.injEq,and_true] at he3;obtain⟨rfl,rfl⟩:=he3;have cR:=hc3;have lR:=Ag hc3;have ck:=hat.row.cell (Abf (x:=(i:Int)+1) hy);have ck1:=hat.row.cell (mid_get (O:=rankN true R i) (x:=(i:Int)+1) (k:=k+1) j6);have fk:=hat.row.free k;have fk1:=hat.row.free (k+1);have lg:=hat.row.lt;have hset:=((hat.row.set (k:=k) j6 ((i:Int)+1)).set (k:=k+1) j6 y).keep (Keeps.drew _);rw [Xo hy] at hset;refine j2j ?_;intro hfr2 q1 q2 q3 q4 q5 q6 q7 q8 q9;have hcl:=λW=>Wx r v W;by_cases hah:Lc true r v=true
     ·rw [if_pos hah] at hpl;rw [hah] at hcl;obtain⟨Hat,Hy,HyD,Hm,Hv,Hrt,Hpl,Hps,Hset⟩:=hid9 hat hy hyD hm hv hrt hpl hps hset;clear hset hps hpl hrt hv hm hyD hy hat;obtain⟨Hfr2,Hcl,Hlen,Hah⟩:=hid4 hfr2 hcl hlen hah;clear hah hlen hcl hfr2
      go_wp2_with (go_at_call 293;(refine(Hcl.o _).mono ?_);rintro e w1 ⟨rfl,rfl⟩)
      exact j2k
     ·rw [if_neg hah] at hpl;have hah2:Lc true r v=false:=by simpa using hah
      rw [hah2] at hcl
      have hend:rankN true R (i+1)=(rankN true R i).take (k+1)++ [(i:Int)+1]++(rankN true R i).drop (k+1):=by
       show insR true R i (rankN true R i)=_;exact j0v
      have hrow2:=hat.row.1;rw [<-hend] at hrow2;obtain⟨Hat,Hy,HyD,Hm,Hv,Hrt,Hpl,Hps,Hset⟩:=hid9 hat hy hyD hm hv hrt hpl hps hset;clear hset hps hpl hrt hv hm hyD hy hat;obtain⟨Hfr2,Hcl,Hlen,Hah,Hah2,Hend,Hrow2⟩:=hid7 hfr2 hcl hlen hah hah2 hend hrow2;clear hrow2 hend hah2 hah hlen hcl hfr2
      go_wp2_with (go_at_call 293;(refine(Hcl.o _).mono ?_);rintro e w1 ⟨rfl,rfl⟩)
      exact j15
   ·refine jz ?_;intro Hfirst
    go_wp2_with (at_builtin;refine Ap rfl (.tmp 16) (.tmp 19) 80 rfl 0 3 i0 _ 1 8 Tryz.underlying80 Hi.o Hi0.o Hi1.o Hi2.o rfl j7 _ i _ rfl (Hrow.o.alloc _) _ 1 _ rfl (Reads.litAt _ _ _ 1 1 _ jn rfl) jg jd j6 (Nat.zero_le _) ?_;intro v4 w4 hown4 hk4 hf4;have hfr4:=(Hfr.o.keep (Keeps.alloc _ _)).app hk4 hf4;obtain⟨g,c,hv4,hc4⟩:=Ff hown4 j6;subst hv4;have Hown4:=Lib.hid hown4;have Hfr4:=Lib.hid hfr4;clear hown4 hk4 hf4 hfr4)
    go_step3;rename_i hK;refine jB ?_;have hlen:=En true R i;exact j2l
  ·exact j2m
theorem Wv(R:List Int)(ad:Option Addr)(cap:Nat)(w:World)(hr:Reads w 1 (.slice ad R.length cap) R.length (R.flatMap i64c))(hl:R.length<=1000):
  Calls Tryz.prog 292 #[.slice ad R.length cap,.func (.func 301) #[] #[]] w λe w'=>∃v',e= .returned v'/\w'.ownsRow 0 3 1 v' R.length ((rankL false R).flatMap i64c)/\Fresh w w' v':=by
 obtain⟨i0,hi,hi0,hi1,hi2⟩:=info_parts Qx;unfold rankL;obtain⟨n,hn⟩:=eX R.length;rw [hn] at hr hl⊢;obtain⟨Hr,Hn,Hi,Hi0,Hi1,Hi2⟩:=hid6 hr hn hi hi0 hi1 hi2;clear hi2 hi1 hi0 hi hn hr;go_enter Tryz.func292,Tryz.ntmps292;go_wp2
 go_loopw [5,11] (λx y wx=>∃i:Nat,y= .int .i64 (i:Nat)/\i<=n/\wx.ownsRow 0 3 1 x i ((rankN false R i).flatMap i64c)/\Fresh w wx x) (λ_ y _=>n-(intOf y).toNat)
 case atStart=>exact⟨0,rfl,Nat.zero_le _,World.ownsRow_nil _ _ _ _,Fresh.nil w⟩
 case round=>
  obtain⟨i,rfl,hin,hrow,hfr⟩:=hrel;obtain⟨W1,hW1⟩:=eY wr;subst hW1;obtain⟨adv,cv,hv,_,_⟩:=Ae hrow;subst hv;by_cases hlt:i<n
  ·have hltI:(i:Int)<(n:Int):=j8;obtain⟨r,hx⟩:=Au (L:=R) (k:=i) jP;have hri:R.getD i 0=r:=by rw [List.getD_eq_getElem?_getD,hx];rfl
   obtain⟨gR,oR,he,hc⟩:=(Hr.o.keeps hfr.1 (by simp)).int (k:= .i64) hx;subst he;have hgl:=Ag hc;obtain⟨Hrow,Hfr,Hx,Hri⟩:=hid4 hrow hfr hx hri;clear hri hx hfr hrow;go_wp2_with fail;refine Cx 0 (rkJ false R i w (.slice (some ⟨gR,oR,none⟩) n cap) (.func (.func 301) #[] #[]) n) (λa' _=>Dz 8 a') rfl ?_ ?_
   ·rintro a' W ⟨k,g,c,u,rfl,hat⟩;unfold rkFr;rw [Hri.o];have hki:=hat.ki;have hlen:=En false R i;rcases k with _|k
    ·have hp0:plR false R r (rankN false R i) 0=0:=rfl;have hpl:=hat.pl;rw [Hri.o,hp0] at hpl
     have hend:rankN false R (i+1)=(rankN false R i).take 0++ [(i:Int)+1]++(rankN false R i).drop 0:=by
      show insR false R i (rankN false R i)=_;exact j0v
     exact j2i
    ·obtain⟨y,hy⟩:=Au (L:=rankN false R i) (k:=k) j6;obtain⟨y1,y2⟩:=Em (List.mem_of_getElem? hy);have hyD:(rankN false R i).getD k 0=y:=by rw [List.getD_eq_getElem?_getD,hy];rfl
     obtain⟨m,hm⟩:∃m:Nat,(m:Int)=y-1:=⟨(y-1).toNat,by omega⟩;obtain⟨v,hv⟩:=Au (L:=R) (k:=m) jQ;have hrt:rt R y=v:=by unfold rt;rw [show(y-1).toNat=m by omega,List.getD_eq_getElem?_getD,hv];rfl
     have hpl:=hat.pl;rw [Hri.o] at hpl;have hps:plR false R r (rankN false R i) (k+1)=if Lc false r v=true then plR false R r (rankN false R i) k else k+1:=by show(if _ then _ else _)=_;rw [hyD,hrt]
     rw [hps] at hpl;obtain⟨g3,o3,he3,hc3⟩:=(Hr.o.keeps hat.fr.1 (by simp)).int (k:= .i64) hv;simp only [Option.some.injEq,Addr.mk.injEq,and_true] at he3;obtain⟨rfl,rfl⟩:=he3;have cR:=hc3;have lR:=Ag hc3;have ck:=hat.row.cell (Abf (x:=(i:Int)+1) hy);have ck1:=hat.row.cell (mid_get (O:=rankN false R i) (x:=(i:Int)+1) (k:=k+1) j6);have fk:=hat.row.free k;have fk1:=hat.row.free (k+1);have lg:=hat.row.lt;have hset:=((hat.row.set (k:=k) j6 ((i:Int)+1)).set (k:=k+1) j6 y).keep (Keeps.drew _);rw [Xo hy] at hset;refine j2j ?_;intro hfr2 q1 q2 q3 q4 q5 q6 q7 q8 q9;have hcl:=λW=>Zc r v W;by_cases hah:Lc false r v=true
     ·rw [if_pos hah] at hpl;rw [hah] at hcl;obtain⟨Hat,Hy,HyD,Hm,Hv,Hrt,Hpl,Hps,Hset⟩:=hid9 hat hy hyD hm hv hrt hpl hps hset;clear hset hps hpl hrt hv hm hyD hy hat;obtain⟨Hfr2,Hcl,Hlen,Hah⟩:=hid4 hfr2 hcl hlen hah;clear hah hlen hcl hfr2
      go_wp2_with (go_at_call 301;(refine(Hcl.o _).mono ?_);rintro e w1 ⟨rfl,rfl⟩)
      exact j2k
     ·rw [if_neg hah] at hpl;have hah2:Lc false r v=false:=by simpa using hah
      rw [hah2] at hcl
      have hend:rankN false R (i+1)=(rankN false R i).take (k+1)++ [(i:Int)+1]++(rankN false R i).drop (k+1):=by
       show insR false R i (rankN false R i)=_;exact j0v
      have hrow2:=hat.row.1;rw [<-hend] at hrow2;obtain⟨Hat,Hy,HyD,Hm,Hv,Hrt,Hpl,Hps,Hset⟩:=hid9 hat hy hyD hm hv hrt hpl hps hset;clear hset hps hpl hrt hv hm hyD hy hat;obtain⟨Hfr2,Hcl,Hlen,Hah,Hah2,Hend,Hrow2⟩:=hid7 hfr2 hcl hlen hah hah2 hend hrow2;clear hrow2 hend hah2 hah hlen hcl hfr2
      go_wp2_with (go_at_call 301;(refine(Hcl.o _).mono ?_);rintro e w1 ⟨rfl,rfl⟩)
      exact j15
   ·refine jz ?_;intro Hfirst
    go_wp2_with (at_builtin;refine Ap rfl (.tmp 16) (.tmp 19) 80 rfl 0 3 i0 _ 1 8 Tryz.underlying80 Hi.o Hi0.o Hi1.o Hi2.o rfl j7 _ i _ rfl (Hrow.o.alloc _) _ 1 _ rfl (Reads.litAt _ _ _ 1 1 _ jn rfl) jg jd j6 (Nat.zero_le _) ?_;intro v4 w4 hown4 hk4 hf4;have hfr4:=(Hfr.o.keep (Keeps.alloc _ _)).app hk4 hf4;obtain⟨g,c,hv4,hc4⟩:=Ff hown4 j6;subst hv4;have Hown4:=Lib.hid hown4;have Hfr4:=Lib.hid hfr4;clear hown4 hk4 hf4 hfr4)
    go_step3;rename_i hK;refine jB ?_;have hlen:=En false R i;exact j2l
  ·exact j2m
theorem Pv(R:List Int)(ad:Option Addr)(cap:Nat)(w:World)(hr:Reads w 1 (.slice ad R.length cap) R.length (R.flatMap i64c))(hl:R.length<=1000):
  Calls Tryz.prog 277 #[.slice ad R.length cap] w λe w'=>∃v',e= .returned v'/\w'.ownsRow 0 3 1 v' R.length ((rankL true R).flatMap i64c)/\Fresh w w' v':=by
 have hc:=Ww R ad cap w hr hl;obtain⟨Hc,Hr⟩:=hid2 hc hr;clear hr hc;go_enter Tryz.func277,Tryz.ntmps277;exact j2n
theorem Ab3(R:List Int)(ad:Option Addr)(cap:Nat)(w:World)(hr:Reads w 1 (.slice ad R.length cap) R.length (R.flatMap i64c))(hl:R.length<=1000):
  Calls Tryz.prog 291 #[.slice ad R.length cap] w λe w'=>∃v',e= .returned v'/\w'.ownsRow 0 3 1 v' R.length ((rankL false R).flatMap i64c)/\Fresh w w' v':=by
 have hc:=Wv R ad cap w hr hl;obtain⟨Hc,Hr⟩:=hid2 hc hr;clear hr hc;go_enter Tryz.func291,Tryz.ntmps291;exact j2n
def minI(a b:Int):Int:=if a<=b then a else b
def intoS(B:List Int):List Int->List Int×Int->List Int×Int
 | [],s=>s
 |k::O,s=>intoS B O (s.1.set (k-1).toNat (minI s.2 (B.getD (k-1).toNat 0)),s.2-minI s.2 (B.getD (k-1).toNat 0))
def intoL(B O:List Int)(a:Int):List Int×Int:=intoS B O (List.replicate B.length 0,a)
theorem Qe(B:List Int):∀(O:List Int) (s:List Int×Int),(intoS B O s).1.length=s.1.length
 | [],s=>rfl
 |k::O,s=>by unfold intoS;rw [Qe B O];simp
theorem Di(B O:List Int)(a:Int):(intoL B O a).1.length=B.length:=by unfold intoL;rw [Qe];simp
def Bt(v:Int):Bool:=decide (0<=v)&&decide (v<=1000000000000000)
theorem Bo(v:Int):Bt v=true↔0<=v/\v<=1000000000000000:=by simp [Bt]
theorem Abp{B:List Int}(hB:∀x∈B,0<=x):∀(O:List Int) (s:List Int×Int),0<=s.2->(∀j x,s.1[j]?=some x->0<=x/\x<=B.getD j 0)->(∀k∈O,1<=k/\k<=s.1.length)->s.1.length=B.length->
  0<=(intoS B O s).2/\(intoS B O s).2<=s.2/\∀j x,(intoS B O s).1[j]?=some x->0<=x/\x<=B.getD j 0
 | [],s,h0,h1,_,_=>⟨h0,Int.le_refl _,h1⟩
 |k::O,s,h0,h1,hk,hl=>by
  have hkk:=hk k (List.mem_cons_self ..)
  have hb:0<=B.getD (k-1).toNat 0:=by
   rw [List.getD_eq_getElem?_getD,List.getElem?_eq_getElem (by omega)];exact hB _ (List.getElem_mem _)
  have hm:0<=minI s.2 (B.getD (k-1).toNat 0)/\minI s.2 (B.getD (k-1).toNat 0)<=s.2/\minI s.2 (B.getD (k-1).toNat 0)<=B.getD (k-1).toNat 0:=by unfold minI;split<;>omega
  unfold intoS
  obtain⟨e1,e2,e3⟩:=Abp hB O (s.1.set (k-1).toNat (minI s.2 (B.getD (k-1).toNat 0)),s.2-minI s.2 (B.getD (k-1).toNat 0)) (by show 0<=_-_;omega) (λj x hj=>by
   simp only [List.getElem?_set] at hj
   split at hj
   ·rename_i he
    split at hj
    ·simp only [Option.some.injEq] at hj;subst hj;subst he;exact⟨hm.1,hm.2.2⟩
    ·cases hj
   ·exact h1 j x hj) (λz hz=>by have:=hk z (List.mem_cons_of_mem _ hz);simpa using this) (by simpa using hl)
  exact⟨e1,by have:(intoS B O (s.1.set (k-1).toNat (minI s.2 (B.getD (k-1).toNat 0)),s.2-minI s.2 (B.getD (k-1).toNat 0))).2<=s.2-minI s.2 (B.getD (k-1).toNat 0):=e2;omega,e3⟩
theorem Mg{B O:List Int}{a:Int}(hB:∀x∈B,0<=x)(ha:0<=a)(hO:∀k∈O,1<=k/\k<=B.length):0<=(intoL B O a).2/\(intoL B O a).2<=a/\∀j x,(intoL B O a).1[j]?=some x->0<=x/\x<=B.getD j 0:=by
 unfold intoL;refine Abp hB O _ ha (λj x hj=> ?_) (λk hk=>by have:=hO k hk;simpa using this) (by simp);rw [List.getElem?_replicate] at hj
 split at hj
 ·rename_i hlt;simp only [Option.some.injEq] at hj;subst hj;refine⟨Int.le_refl _, ?_⟩;rw [List.getD_eq_getElem?_getD,List.getElem?_eq_getElem hlt];exact hB _ (List.getElem_mem _)
 ·cases hj
def leapB(y:Int):Bool:=decide (y % 4=0)&&(decide (¬y % 100=0)||decide (y % 400=0))
def mlen(y m:Int):Int:=if m=2 then(if leapB y=true then 29 else 28) else if m=4\/m=6\/m=9\/m=11 then 30 else if 1<=m/\m<=12 then 31 else 0
def ylen(y:Int):Int:=if leapB y=true then 366 else 365
def nY(y:Int):Int:= -135140+365*(y-1600)+(y-1600+3) / 4-(y-1600+99) / 100+(y-1600+399) / 400
theorem Gw(y:Int):leapB y=true↔(y % 4=0/\(¬y % 100=0\/y % 400=0)):=by simp [leapB]
theorem Mw{y:Int}(_:1600<=y):nY (y+1)=nY y+ylen y:=by
 unfold nY ylen;by_cases h:leapB y=true
 ·rw [if_pos h];have:=(Gw y).1 h;omega
 ·rw [if_neg h];have:¬(y % 4=0/\(¬y % 100=0\/y % 400=0)):=λhh=>h ((Gw y).2 hh);omega
theorem Tv(y:Int):365<=ylen y/\ylen y<=366:=by unfold ylen;split<;>omega
theorem nY_add{y:Int}(h:1600<=y):∀k:Nat,nY y<=nY (y+k)
 |0=>by simp
 |k+1=>by
  have h1:=nY_add h k;have h2:=Mw (y:=y+k) (by omega);have h3:=Tv (y+k);rw [show y+((k+1:Nat):Int)=y+k+1 by omega];omega
theorem nY_mono{x y:Int}(h:1600<=x)(hxy:x<=y):nY x<=nY y:=by
 have:=nY_add h (y-x).toNat
 rwa [show x+((y-x).toNat:Int)=y by omega] at this
theorem nY_lt{x y:Int}(_:1600<=x)(hy:1600<=y)(hl:nY x<nY (y+1)):x<=y:=by
 by_cases h':y<x
 ·have:=nY_mono (x:=y+1) (y:=x) j6 j6;omega
 ·omega
def yrW(n:Int):Nat->Int->Int
 |0,y=>y
 |f+1,y=>if nY (y+1)<=n then yrW n f (y+1) else y
def yearF(n:Int):Int:=yrW n 8400 1600
theorem yrW_eq{n y:Int}(h1:nY y<=n)(h2:n<nY (y+1)):∀(f:Nat) (y0:Int),1600<=y0->y0<=y->y-y0<=f->yrW n f y0=y
 |0,y0,_,h4,h5=>by unfold yrW;omega
 |f+1,y0,h3,h4,h5=>by
  unfold yrW;by_cases he:y0=y
  ·subst he;rw [if_neg (by omega)]
  ·have:=nY_mono (x:=y0+1) (y:=y) (by omega) (by omega);rw [if_pos (by omega)];exact yrW_eq h1 h2 f (y0+1) (by omega) (by omega) (by omega)
theorem Aag{n y:Int}(h0:1600<=y)(h1:nY y<=n)(h2:n<nY (y+1))(h3:n<=2932896):yearF n=y/\y<=9999:=by
 have h4:y<=9999:=nY_lt h0 j6 (by have:nY (9999+1)=2932897:=j7;omega);exact⟨yrW_eq h1 h2 8400 1600 j6 h0 j6,h4⟩
def moW(y:Int):Nat->Int->Int->Int×Int
 |0,m,r=>(m,r)
 |f+1,m,r=>if mlen y m<=r then moW y f (m+1) (r-mlen y m) else(m,r)
def cumT(y m:Int):Int:=if m<=2 then 31*(m-1) else(if leapB y=true then 1 else 0)+(if m=3 then 59 else if m=4 then 90 else if m=5 then 120 else if m=6 then 151 else if m=7 then 181 else if m=8 then 212 else if m=9 then 243 else if m=10 then 273 else if m=11 then 304 else if m=12 then 334 else 365)
theorem Dy{y m:Int}(h1:1<=m)(h2:m<=12):cumT y (m+1)=cumT y m+mlen y m/\28<=mlen y m/\mlen y m<=31:=by
 obtain rfl|rfl|rfl|rfl|rfl|rfl|rfl|rfl|rfl|rfl|rfl|rfl:m=1\/m=2\/m=3\/m=4\/m=5\/m=6\/m=7\/m=8\/m=9\/m=10\/m=11\/m=12:=by omega
 all_goals (unfold cumT mlen;rcases leapB y<;>decide)
theorem Vh(y:Int):cumT y 13=ylen y:=by unfold cumT ylen;rcases leapB y<;>rfl
theorem Qj(y:Int):cumT y 1=0:=rfl
structure MoAt(y r:Int)(j:Nat)(q:Int):Prop where
 lo:1<=j
 hi:j<=12
 sum:q+cumT y j=r
 q0:0<=q
 eq:moW y 12 1 r=moW y (13-j) j q
theorem MoAt.start{y r:Int}(h0:0<=r):MoAt y r 1 r:=⟨by omega,by omega,by simp [cumT],h0,rfl⟩
theorem MoAt.next{y r:Int}{j:Nat}{q:Int}(h:MoAt y r j q)(hr:r<ylen y)(hq:mlen y j<=q):MoAt y r (j+1) (q-mlen y j):=by
 obtain⟨lo,hi,sum,q0,eq⟩:=h;have hc:=(Dy (y:=y) (m:=j) j6 j6).1
 have hj:j<=11:=by
  rcases Nat.lt_or_ge 11 j with h|h
  ·exfalso;obtain rfl:j=12:=by omega
   have:=Vh y;rw [show((12:Nat):Int)+1=13 by rfl,this] at hc;omega
  ·exact h
 refine⟨by omega,by omega,by rw [show((j+1:Nat):Int)=(j:Int)+1 by omega,hc];omega,by omega, ?_⟩;rw [eq,show 13-j=(13-(j+1))+1 by omega];show(if mlen y j<=q then _ else _)=_;rw [if_pos hq,show((j+1:Nat):Int)=(j:Int)+1 by omega]
theorem MoAt.done{y r:Int}{j:Nat}{q:Int}(h:MoAt y r j q)(hq:¬mlen y j<=q):moW y 12 1 r=((j:Int),q):=by
 rw [h.eq,show 13-j=(13-(j+1))+1 by have:=h.hi;omega];show(if mlen y j<=q then _ else _)=_;rw [if_neg hq]
def dY(n:Int):Int:=yearF n
def dM(n:Int):Int:=(moW (yearF n) 12 1 (n-nY (yearF n))).1
def dD(n:Int):Int:=(moW (yearF n) 12 1 (n-nY (yearF n))).2+1
def dayIn(n:Int):Bool:=decide (-135140<=n/\n<=2932896)
theorem tm4{y:Int}(h:0<=y)(k:Int):y.tmod k=y % k:=Int.tmod_eq_emod_of_nonneg h
theorem Ac4(y:Int)(h:0<=y)(w:World):Calls Tryz.prog 239 #[.int .i64 y] w λe w'=>e= .returned (.bool (leapB y))/\w=w':=by
 have q4:=tm4 h 4;have q100:=tm4 h 100;have q400:=tm4 h 400;by_cases h4:y % 4=0
 ·by_cases h100:y % 100=0
  ·by_cases h400:y % 400=0
   ·have hf:leapB y=true:=(Gw y).2 ⟨h4,.inr h400⟩;exact j0w
   ·have hf:leapB y=false:=by rw [Bool.eq_false_iff];intro hh;have:=(Gw y).1 hh;omega
    have b4:(y % 400==0)=false:=beq_eq_false_iff_ne.2 h400;exact j0w
  ·have hf:leapB y=true:=(Gw y).2 ⟨h4,.inl h100⟩;have b1:(y % 100 !=0)=true:=by simp [h100]
   exact j0w
 ·have hf:leapB y=false:=by rw [Bool.eq_false_iff];intro hh;have:=(Gw y).1 hh;omega
  have b4:(y % 4==0)=false:=beq_eq_false_iff_ne.2 h4;exact j0w
theorem Nv(y m:Int)(h:0<=y)(h1:1<=m)(h2:m<=12)(w:World):Calls Tryz.prog 199 #[.int .i64 y,.int .i64 m] w λe w'=>e= .returned (.int .i64 (mlen y m))/\w=w':=by
 have hlp:=Ac4 y h w;obtain rfl|rfl|rfl|rfl|rfl|rfl|rfl|rfl|rfl|rfl|rfl|rfl:m=1\/m=2\/m=3\/m=4\/m=5\/m=6\/m=7\/m=8\/m=9\/m=10\/m=11\/m=12:=by omega
 ·have hm:mlen y 1=mlen y 1:=rfl;exact jt
 ·rcases hb:leapB y with _|_
  ·rw [hb] at hlp;have hf:mlen y 2=28:=by unfold mlen;rw [hb];rfl
   exact j2o
  ·rw [hb] at hlp;have hf:mlen y 2=29:=by unfold mlen;rw [hb];rfl
   exact j2o
 ·have hm:mlen y 3=mlen y 3:=rfl;exact jt
 ·have hm:mlen y 4=mlen y 4:=rfl;exact jt
 ·have hm:mlen y 5=mlen y 5:=rfl;exact jt
 ·have hm:mlen y 6=mlen y 6:=rfl;exact jt
 ·have hm:mlen y 7=mlen y 7:=rfl;exact jt
 ·have hm:mlen y 8=mlen y 8:=rfl;exact jt
 ·have hm:mlen y 9=mlen y 9:=rfl;exact jt
 ·have hm:mlen y 10=mlen y 10:=rfl;exact jt
 ·have hm:mlen y 11=mlen y 11:=rfl;exact jt
 ·have hm:mlen y 12=mlen y 12:=rfl;exact jt
theorem Mj(y:Int)(h1:1600<=y)(h2:y<=100000)(w:World):Calls Tryz.prog 238 #[.int .i64 y] w λe w'=>e= .returned (.int .i64 (nY y))/\w=w':=by
 have t4:(y-1600+3).tdiv 4=(y-1600+3) / 4:=Int.tdiv_eq_ediv_of_nonneg j6;have t100:(y-1600+99).tdiv 100=(y-1600+99) / 100:=Int.tdiv_eq_ediv_of_nonneg j6;have t400:(y-1600+399).tdiv 400=(y-1600+399) / 400:=Int.tdiv_eq_ediv_of_nonneg j6;have hf:nY y= -135140+365*(y-1600)+(y-1600+3) / 4-(y-1600+99) / 100+(y-1600+399) / 400:=rfl;have Hf:=Lib.hid hf;clear hf;go_enter Tryz.func238,Tryz.ntmps238;go_wp2;go_ret;refine⟨?_,rfl⟩;rw [Hf.o];rfl
end
def Dc(W:World)(B j:Nat):Int:=match W.cell? ⟨B,j,none⟩ with|some (.int _ n)=>n|_=>0
theorem Av(w:World)(o:Obj){i:Nat}(h:i=w.heap.size):(w.alloc o).heap[i]?=some o:=by subst h;exact heap_alloc_new w o
theorem Dg{W:World}{B j:Nat}{n:Int}(h:W.cell? ⟨B,j,none⟩=some (.int .i64 n)):Dc W B j=n:=by unfold Dc;rw [h]
def ddFr(n:Int)(b:Nat)(u:Nat->Value):Act:={ tmps:= #[.int .i64 n,u 1,(.pointer (some ⟨b,0,none⟩)),u 3,(.pointer (some ⟨b+1,0,none⟩)),u 5,u 6,u 7,u 8,u 9,u 10,u 11,u 12,u 13,u 14,u 15,u 16,u 17,u 18,u 19,u 20,u 21,u 22,u 23,u 24,u 25,u 26,u 27,u 28,u 29,u 30,u 31,u 32,u 33,u 34,u 35,u 36,u 37,u 38,u 39,u 40,u 41,u 42,u 43,u 44,u 45,u 46,u 47,u 48,u 49,u 50,u 51,u 52,u 53,u 54,u 55],defers:= [] }
structure DdW(w:World)(y m d:Int)(W:World):Prop where
 kp:K0 w W
 res:W.heap[w.heap.size]?=some (.cells #[.int .i64 0,.int .i64 0,.int .i64 0] 243 (0,0))
 box:W.heap[w.heap.size+1]?=some (.cells #[.int .i64 y,.int .i64 m,.int .i64 d] 243 (0,0))
def YrOk(n:Int):Prop:=1600<=yearF n/\yearF n<=9999/\nY (yearF n)<=n/\n<nY (yearF n+1)
def ddJ1(w:World)(n:Int)(a':Act)(W:World):Prop:=∃(y:Int) (u:Nat->Value),a'=ddFr n w.heap.size u/\DdW w y 1 1 W/\1600<=y/\y<=9999/\nY y<=n
def ddJ2(w:World)(n:Int)(a':Act)(W:World):Prop:=∃(j:Nat) (q:Int) (u:Nat->Value),a'=ddFr n w.heap.size u/\DdW w (yearF n) j (q+1) W/\MoAt (yearF n) (n-nY (yearF n)) j q/\YrOk n
theorem ddJ1.mk{w:World}{n:Int}{a':Act}{W:World}(y:Int)(h:a'=ddFr n w.heap.size (λi=>a'.tmps.getD i undef))(hw:DdW w y 1 1 W)(h1:1600<=y)(h2:y<=9999)(h3:nY y<=n):ddJ1 w n a' W:=⟨y,_,h,hw,h1,h2,h3⟩
theorem ddJ2.mk{w:World}{n:Int}{a':Act}{W:World}(j:Nat)(q:Int)(h:a'=ddFr n w.heap.size (λi=>a'.tmps.getD i undef))(hw:DdW w (yearF n) j (q+1) W)(hm:MoAt (yearF n) (n-nY (yearF n)) j q)(hy:YrOk n):ddJ2 w n a' W:=⟨j,q,_,h,hw,hm,hy⟩
section
variable {w W:World} {y m d:Int}
theorem DdW.set0(h:DdW w y m d W)(v:Int):DdW w v m d (W.setCell ⟨w.heap.size+1,0,none⟩ (.int .i64 v)):=
 ⟨h.kp.trans (Keeps.setCell _ _ _ (.inr (by simp))),Ad h.res (Keeps.setCell (S:=λi=>i=w.heap.size+1) _ _ _ rfl) (by simp),(heap_setCell_same _ _ 0 _ _ _ h.box).trans rfl⟩
theorem DdW.set1(h:DdW w y m d W)(v:Int):DdW w y v d (W.setCell ⟨w.heap.size+1,1,none⟩ (.int .i64 v)):=
 ⟨h.kp.trans (Keeps.setCell _ _ _ (.inr (by simp))),Ad h.res (Keeps.setCell (S:=λi=>i=w.heap.size+1) _ _ _ rfl) (by simp),(heap_setCell_same _ _ 1 _ _ _ h.box).trans rfl⟩
theorem DdW.set2(h:DdW w y m d W)(v:Int):DdW w y m v (W.setCell ⟨w.heap.size+1,2,none⟩ (.int .i64 v)):=
 ⟨h.kp.trans (Keeps.setCell _ _ _ (.inr (by simp))),Ad h.res (Keeps.setCell (S:=λi=>i=w.heap.size+1) _ _ _ rfl) (by simp),(heap_setCell_same _ _ 2 _ _ _ h.box).trans rfl⟩
theorem DdW.keep{W':World}(h:DdW w y m d W)(hk:K0 W W'):DdW w y m d W':=⟨h.kp.nt hk,Ad h.res hk (by simp),Ad h.box hk (by simp)⟩
end
def ddS(b:Nat)(y d:Int)(W:World):Prop:=W.cell? ⟨b,0,none⟩=some (.int .i64 y)/\W.cell? ⟨b,2,none⟩=some (.int .i64 d)/\W.frozen? ⟨b,2,none⟩=false
theorem Ac5(n:Int)(w:World)(hn: -9000000000000000000<=n/\n<=9000000000000000000):Calls Tryz.prog 198 #[.int .i64 n] w λe w'=>e= .returned (.tuple #[.agg (if dayIn n=true then #[.int .i64 (dY n),.int .i64 (dM n),.int .i64 (dD n)] else #[.int .i64 0,.int .i64 0,.int .i64 0]),.int .i64 (if dayIn n=true then 0 else 10)])/\K0 w w':=by
 by_cases hin: -135140<=n/\n<=2932896
 ·have hd:dayIn n=true:=by simp [dayIn,hin]
  rw [if_pos hd,if_pos hd];obtain⟨rY,hrY⟩:=eX (dY n);obtain⟨rM,hrM⟩:=eX (dM n);obtain⟨rD,hrD⟩:=eX (dD n);rw [hrY,hrM,hrD];obtain⟨hn1,hn2⟩:=hin;obtain⟨Hd,HrY,HrM,HrD⟩:=hid4 hd hrY hrM hrD;clear hrD hrM hrY hd;go_enter Tryz.func198,Tryz.ntmps198;go_wp2;refine Ll 0 1 (ddJ1 w n) (ddJ2 w n) (λ_ W=>(20000-Dc W (w.heap.size+1) 0).toNat+100) (λ_ W=>(20-Dc W (w.heap.size+1) 1).toNat) rfl rfl ?_ ?_ ?_
  ·rintro a' W ⟨j,q,u,rfl,hw,hm,hy⟩;unfold ddFr;obtain⟨y,hyy⟩:=eX (yearF n);unfold YrOk at hy;rw [hyy] at hw hm hy;obtain⟨h1,h2,h3,h4⟩:=hy;have hlo:=hm.lo;have hhi:=hm.hi;have hq0:=hm.q0;have hsum:=hm.sum;have hsucc:=Mw h1;have hyl:=Tv y;have hml:=(Dy (y:=y) (m:=j) j6 j6).2;have hcall:=λW=>Nv y j j6 j6 j6 W;obtain⟨l,hl⟩:=eX (mlen y j);rw [hl] at hcall hml;have hcum:0<=cumT y j:=by unfold cumT;split<;>(try split)<;>omega
   have c0:=Aa hw.box 0;have c1:=Aa hw.box 1;have c2:=Aa hw.box 2;have f0:=Ab hw.box 0;have f1:=Ab hw.box 1;have f2:=Ab hw.box 2;have bl:=lt_of_block hw.box;have e0:=Ab hw.res 0;have e1:=Ab hw.res 1;have e2:=Ab hw.res 2;have d0:=Aa hw.res 0;have d1:=Aa hw.res 1;have d2:=Aa hw.res 2;have dl:=lt_of_block hw.res;have hq1:q<=400:=j8;by_cases hgo:l<=q
   ·have hnx:=hm.next j6 (by rw [hl];exact hgo);rw [hl] at hnx;obtain⟨Hw,Hm,Hcall,Hl,Hyy,Hnx,Hsum,Hsucc,Hcum⟩:=hid9 hw hm hcall hl hyy hnx hsum hsucc hcum;clear hcum hsucc hsum hnx hyy hl hcall hm hw;go_wp2_with fail;refine(Hcall.o W).mono ?_;rintro e w1 ⟨rfl,rfl⟩;go_wp2_with fail;go_step3;go_wp2
    have hd2:DdW w (yearF n) ((j+1:Nat):Int) (q-l+1) ((W.setCell ⟨w.heap.size+1,2,none⟩ (.int .i64 (q+1-l))).setCell ⟨w.heap.size+1,1,none⟩ (.int .i64 ((j:Int)+1))):=by
     rw [Hyy.o,show q-l+1=q+1-l by omega,show((j+1:Nat):Int)=(j:Int)+1 by omega];exact(Hw.o.set2 _).set1 _
    refine Tk ⟨ddJ2.mk (j+1) (q-l) rfl hd2 (by rw [Hyy.o];exact Hnx.o) (by unfold YrOk;rw [Hyy.o];exact⟨h1,h2,h3,h4⟩), ?_⟩;have e1:=Dg (Aa hd2.box 1);have e2:=Dg (Aa Hw.o.box 1);show(20-Dc _ _ 1).toNat<(20-Dc _ _ 1).toNat;rw [e1,e2];omega
   ·have hdone:=hm.done (by rw [hl];exact hgo);obtain⟨Hw,Hm,Hcall,Hl,Hyy,Hdone,Hsum,Hsucc,Hcum⟩:=hid9 hw hm hcall hl hyy hdone hsum hsucc hcum;clear hcum hsucc hsum hdone hyy hl hcall hm hw;go_wp2_with fail;refine(Hcall.o W).mono ?_;rintro e w1 ⟨rfl,rfl⟩;go_wp2;refine Jw ?_;obtain rfl:rY=y:=HrY.o.symm.trans Hyy.o;obtain rfl:rM=j:=HrM.o.symm.trans (by unfold dM;rw [Hyy.o,Hdone.o]);obtain rfl:rD=q+1:=HrD.o.symm.trans (by unfold dD;rw [Hyy.o,Hdone.o]);have hb3:(((W.setCell ⟨w.heap.size,0,none⟩ (.int .i64 rY)).setCell ⟨w.heap.size,1,none⟩ (.int .i64 (j:Int))).setCell ⟨w.heap.size,2,none⟩ (.int .i64 (q+1))).heap[w.heap.size]?=some (.cells #[.int .i64 rY,.int .i64 (j:Int),.int .i64 (q+1)] 243 (0,0)):=(heap_setCell_same _ _ 2 _ _ _ ((heap_setCell_same _ _ 1 _ _ _ ((heap_setCell_same _ _ 0 _ _ _ Hw.o.res).trans rfl)).trans rfl)).trans rfl;have r0:=Aa hb3 0;have r1:=Aa hb3 1;have r2:=Aa hb3 2;clear d0 d1 d2 c0 c1 c2;exact bodyPost_ret (v:= .tuple #[.agg #[.int .i64 rY,.int .i64 (j:Int),.int .i64 (q+1)],.int .i64 0]) (by simp [results,Tryz.results198,go_sem,r0,r1,r2]) rfl ⟨rfl,Hw.o.kp.trans ((((Keeps.setCell (S:=λi=>w.heap.size<=i) _ _ _ (Nat.le_refl _)).trans (Keeps.setCell _ _ _ (.inl (Nat.le_refl _)))).trans (Keeps.setCell _ _ _ (.inl (Nat.le_refl _)))).mono λi _ h=> .inr h)⟩
  ·intro hp2;rintro a' W ⟨y,u,rfl,hw,h1,h2,h3⟩;unfold ddFr;have hcall:=λW=>Mj (y+1) j6 j6 W;have hcall2:=λW=>Mj y h1 j6 W;obtain⟨z,hz⟩:=eX (nY (y+1));obtain⟨v,hv⟩:=eX (nY y);have hsucc:=Mw h1;have hyl:=Tv y;have c0:=Aa hw.box 0;have c1:=Aa hw.box 1;have c2:=Aa hw.box 2;have f0:=Ab hw.box 0;have f1:=Ab hw.box 1;have f2:=Ab hw.box 2;have bl:=lt_of_block hw.box;by_cases hgo:nY (y+1)<=n
   ·have hy9:y+1<=9999:=nY_lt j6 j6 (by have:nY (9999+1)=2932897:=j7;omega);have h3':=hgo;rw [hz] at hcall hgo;rw [hv] at hcall2;obtain⟨Hw,Hcall,Hcall2,Hz,Hv,H3',H3,Hsucc⟩:=hid8 hw hcall hcall2 hz hv h3' h3 hsucc;clear hsucc h3 h3' hv hz hcall2 hcall hw;go_wp2_with fail;refine(Hcall.o W).mono ?_;rintro e w1 ⟨rfl,rfl⟩;go_wp2_with fail;go_step3;go_wp2;refine Zh ⟨ddJ1.mk (y+1) rfl (Hw.o.set0 _) j6 j6 H3'.o, ?_⟩;have e1:=Dg (Aa (Hw.o.set0 (y+1)).box 0);have e2:=Dg (Aa Hw.o.box 0);show(20000-Dc _ _ 0).toNat+100<(20000-Dc _ _ 0).toNat+100;rw [e1,e2];omega
   ·obtain⟨hyf,_⟩:=Aag h1 h3 j6 hn2;have hok:YrOk n:=by unfold YrOk;rw [hyf];exact⟨h1,h2,h3,by omega⟩
    have hn0:0<=n-v:=j8;have hw1:IntKind.i64.wrap (n-v)=n-v:=IntWalk.i64_in _ ⟨by omega,by omega⟩;have hw2:IntKind.i64.wrap (1+(n-v))=1+(n-v):=IntWalk.i64_in _ ⟨by omega,by omega⟩;rw [hz] at hcall hgo;rw [hv] at hcall2;have hS:∀W',K0 W W'->ddS (w.heap.size+1) y 1 W':=λW' hk=>⟨Aa (Ad hw.box hk (by simp)) 0,Aa (Ad hw.box hk (by simp)) 2,Ab (Ad hw.box hk (by simp)) 2⟩;obtain⟨Hw,Hcall,Hcall2,Hz,Hv,H3,Hyf,Hok,Hsucc⟩:=hid9 hw hcall hcall2 hz hv h3 hyf hok hsucc;clear hsucc hok hyf h3 hv hz hcall2 hcall hw;have HS:=Lib.hid hS;clear hS;go_wp2_with fail;refine(Hcall.o W).mono ?_;rintro e w1 ⟨rfl,rfl⟩;go_wp2_with fail;refine Ch (ddS (w.heap.size+1) y 1) 9 (.take 0 (.take 1 (.take 2 (.take 3 (.take 4 (.take 5 (.take 6 (.take 7 (.take 8 (.move 9 .done)))))))))) j9 j9 ?_ ?_
    ·exact HS.o _ (Keeps.drew _)
    intro w2 hs2 hk2;refine jR ?_;refine Ey (v:= ?_) rfl (by rfl) ?_ ?_ ?_ ?_ ?_
    rotate_left 3
    ·intro w' hSw;unfold ddS at hSw;go_simp;(first|done|(constructor<;>with_reducible rfl)|with_reducible rfl)
    ·intro w' hSw;exact(Hcall2.o _)
    rotate_right 3
    try simp only [aps]
    refine jR ?_;have hs3:=hs2;unfold ddS at hs3;obtain⟨k0,k2,k3⟩:=hs3;have k4:=Ag k2;refine jT ?_;have hw3:=(Hw.o.keep hk2).set2 (1+(n-v))
    have hd2:DdW w (yearF n) ((1:Nat):Int) (n-v+1) (w2.setCell ⟨w.heap.size+1,2,none⟩ (.int .i64 (1+(n-v)))):=by
     rw [Hyf.o,show n-v+1=1+(n-v) by omega];exact hw3
    have hmo:MoAt (yearF n) (n-nY (yearF n)) 1 (n-v):=by rw [Hyf.o,Hv.o];exact MoAt.start hn0
    obtain⟨Hd2,Hmo,Hw3⟩:=hid3 hd2 hmo hw3;clear hw3 hmo hd2;clear hs2 hk2 k0 k2 k3 k4;go_wp2_with fail;go_step3;rename_i hK;refine hK _ _ ?_;refine Nh ?_ ?_ (hp2.out _ _ (ddJ2.mk 1 (n-v) rfl Hd2.o Hmo.o Hok.o))
    ·exact j2p
    ·exact j2p
  ·intro hp1;go_wp2_with fail;go_step3;rename_i hK;refine hK _ _ ?_;refine hp1.out _ _ ?_;refine ddJ1.mk (1600+(n+135140) / 366) rfl ⟨by(repeat (first|exact Keeps.refl _ _|exact Keeps.alloc _ _|exact Keeps.drew _|exact Keeps.drewN _ _|refine Keeps.Am ?_|refine Keeps.Al ?_|refine Keeps.Af ?_)),Aq (heap_alloc_new w _) _,Av _ _ (by simp)⟩ j6 j6 (by unfold nY;omega)
 ·have hd:dayIn n=false:=by simp [dayIn];omega
  have hdd:¬dayIn n=true:=by rw [hd];decide
  rw [if_neg hdd,if_neg hdd];have hc:n< -135140\/2932896<n:=j8;clear hin;obtain⟨Hd,Hdd⟩:=hid2 hd hdd;clear hdd hd;go_enter Tryz.func198,Tryz.ntmps198;go_wp2;refine Sq 0 1 rfl rfl ?_;rcases hc with hc|hc
  ·exact j2q
  ·have hc2:¬n< -135140:=j8;exact j2q
theorem haltD{p:Prop}(h:Hid p):p:=h.out
end Go.Proofs.YtgbgmadkmabeeaaGreat
