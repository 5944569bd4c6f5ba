/- Part 1 of what the laws of this seat share: walks of functions, and plain laws. -/
import Derived.Test.YtjkdnaljkdnomaaGreatDoorM1
set_option maxRecDepth 100000
set_option maxHeartbeats 3200000
namespace Go.Proofs.YtjkdnaljkdnomaaGreatDoor
open Go.RowKit
theorem hid2{a0 a1:Prop}(h0:a0)(h1:a1):Hid a0/\Hid a1:=⟨h0,h1⟩
theorem hid3{a0 a1 a2:Prop}(h0:a0)(h1:a1)(h2:a2):Hid a0/\Hid a1/\Hid a2:=⟨h0,h1,h2⟩
theorem hid4{a0 a1 a2 a3:Prop}(h0:a0)(h1:a1)(h2:a2)(h3:a3):Hid a0/\Hid a1/\Hid a2/\Hid a3:=⟨h0,h1,h2,h3⟩
theorem hid5{a0 a1 a2 a3 a4:Prop}(h0:a0)(h1:a1)(h2:a2)(h3:a3)(h4:a4):Hid a0/\Hid a1/\Hid a2/\Hid a3/\Hid a4:=⟨h0,h1,h2,h3,h4⟩
theorem hid6{a0 a1 a2 a3 a4 a5:Prop}(h0:a0)(h1:a1)(h2:a2)(h3:a3)(h4:a4)(h5:a5):Hid a0/\Hid a1/\Hid a2/\Hid a3/\Hid a4/\Hid a5:=⟨h0,h1,h2,h3,h4,h5⟩
theorem hid7{a0 a1 a2 a3 a4 a5 a6:Prop}(h0:a0)(h1:a1)(h2:a2)(h3:a3)(h4:a4)(h5:a5)(h6:a6):Hid a0/\Hid a1/\Hid a2/\Hid a3/\Hid a4/\Hid a5/\Hid a6:=⟨h0,h1,h2,h3,h4,h5,h6⟩
theorem hid8{a0 a1 a2 a3 a4 a5 a6 a7:Prop}(h0:a0)(h1:a1)(h2:a2)(h3:a3)(h4:a4)(h5:a5)(h6:a6)(h7:a7):Hid a0/\Hid a1/\Hid a2/\Hid a3/\Hid a4/\Hid a5/\Hid a6/\Hid a7:=⟨h0,h1,h2,h3,h4,h5,h6,h7⟩
theorem hid9{a0 a1 a2 a3 a4 a5 a6 a7 a8:Prop}(h0:a0)(h1:a1)(h2:a2)(h3:a3)(h4:a4)(h5:a5)(h6:a6)(h7:a7)(h8:a8):Hid a0/\Hid a1/\Hid a2/\Hid a3/\Hid a4/\Hid a5/\Hid a6/\Hid a7/\Hid a8:=⟨h0,h1,h2,h3,h4,h5,h6,h7,h8⟩
theorem aps:(∀ (a:Act) (d:Tmp) (v:Value),a.put (some d) v={a with tmps:=a.tmps.setIfInBounds d v})/\(∀ (a:Act) (v:Value),a.put none v=a)/\(∀ (l:List Value) (i:Nat) (v:Value),l.toArray.setIfInBounds i v=(l.set i v).toArray)/\(∀ (a b:Value) (l:List Value),(a::l).set 0 b=b::l)/\∀ (a b:Value) (l:List Value) (n:Nat),(a::l).set (n+1) b=a::l.set n b:=⟨λ_ _ _=>rfl,λ_ _=>rfl,λ_ _ _=>by simp,λ_ _ _=>rfl,λ_ _ _ _=>rfl⟩
theorem Ay{P:Program}{a:Act}{w:World}{Q:Exit->Act->World->Prop}{c rest:Code}(l:Nat)(hf:findLabel c l=some rest)
  (h:c.wp P (Exit.jump l (λa' w'=>rest.wp P (Exit.noGoto Q) a' w') Q) a w):(Code.scope c).wp P Q a w:=by
 refine wp_scope_jumps l (λa' w'=>rest.wp P (Exit.noGoto Q) a' w') (λ_ _=>0) hf h ?_;intro a w hJ;refine Code.wp_mono ?_ hJ;intro e a w hq
 cases e<;>first|exact hq|exact hq.elim
theorem Av{l:Nat}{J:Act->World->Prop}{Q:Exit->Act->World->Prop}{a:Act}{w:World}(h:J a w):Exit.jump l J Q (.goto l) a w:=⟨rfl,h⟩
theorem Bo{l:Nat}{J:Act->World->Prop}{Q:Exit->Act->World->Prop}{a:Act}{w:World}(h:Q .ret a w):Exit.jump l J Q .ret a w:=h
structure Keeps(S:Nat->Prop)(w w':World):Prop where
 os:w'.os=w.os
 tape:w'.tape=w.tape
 output:w'.output=w.output
 size:w.heap.size<=w'.heap.size
 block:∀k,k<w.heap.size->¬S k->w'.heap[k]?=w.heap[k]?
abbrev K0:=Keeps (λ_=>False)
theorem Keeps.refl(S:Nat->Prop)(w:World):Keeps S w w:=⟨rfl,rfl,rfl,Nat.le_refl _,λ_ _ _=>rfl⟩
theorem Keeps.mono{S T:Nat->Prop}{w w':World}(h:Keeps S w w')(hST:∀k,k<w.heap.size->S k->T k):Keeps T w w':=
 ⟨h.os,h.tape,h.output,h.size,λk hk hn=>h.block k hk λhs=>hn (hST k hk hs)⟩
theorem Keeps.trans{S:Nat->Prop}{a b c:World}(h:Keeps S a b)(k:Keeps (λi=>S i\/a.heap.size<=i) b c):Keeps S a c:=
 ⟨k.os.trans h.os,k.tape.trans h.tape,k.output.trans h.output,Nat.le_trans h.size k.size,
  λi hi hn=>(k.block i (Nat.lt_of_lt_of_le hi h.size) (λhh=>hh.elim hn (λhh=>by omega))).trans (h.block i hi hn)⟩
theorem Keeps.of_below{B:Nat}{w w':World}(h:Below B w w'):Keeps (λk=>B<=k) w w':=⟨h.os,h.tape,h.output,h.size,λk _ hn=>h.block k (by omega)⟩
theorem Keeps.below{S:Nat->Prop}{B:Nat}{w w':World}(h:Keeps S w w')(hS:∀k,k<B->¬S k)(hB:B<=w.heap.size):Below B w w':=
 ⟨h.os,h.tape,h.output,h.size,λk hk=>h.block k (by omega) (hS k hk)⟩
theorem Keeps.grown{w w':World}{row:Option Nat}(h:w.grownBy w' row):Keeps (λk=>row=some k) w w':=⟨h.os,h.tape,h.output,h.size,λk hk hn=>h.block k hk λe=>hn e.symm⟩
theorem Keeps.grownBy{w w':World}{row:Option Nat}(h:Keeps (λk=>row=some k) w w'):w.grownBy w' row:=⟨h.os,h.tape,h.output,h.size,λk hk hn=>h.block k hk λe=>hn e.symm⟩
theorem Keeps.drewN{S:Nat->Prop}(w:World)(n:Nat):Keeps S w (w.drewN n):=⟨rfl,rfl,rfl,Nat.le_refl _,λ_ _ _=>rfl⟩
theorem Keeps.drew{S:Nat->Prop}(w:World):Keeps S w w.drew:=⟨rfl,rfl,rfl,Nat.le_refl _,λ_ _ _=>rfl⟩
theorem Keeps.alloc{S:Nat->Prop}(w:World)(o:Obj):Keeps S w (w.alloc o):=⟨rfl,rfl,rfl,by simp,λk hk _=>Below.heap_alloc _ _ _ hk⟩
theorem Keeps.setCell{S:Nat->Prop}(w:World)(a:Addr)(u:Value)(h:S a.block):Keeps S w (w.setCell a u):=
 ⟨rfl,rfl,rfl,by simp [World.setCell],λk _ hn=>Below.heap_setCell _ _ _ _ (λe=>hn (e▸h))⟩
theorem Keeps.cell{S:Nat->Prop}{w w':World}(h:Keeps S w w'){p:Addr}(hp:p.block<w.heap.size)(hn:¬S p.block):w'.cell? p=w.cell? p:=World.cell?_of_block (w:=w) (h.block p.block hp hn)
theorem Keeps.row{S:Nat->Prop}{w w':World}(h:Keeps S w w'){base:Nat}{e:TypeId}{size:Nat}{v:Value}{n:Nat}{xs:List Value}(hown:w.ownsRow base e size v n xs)(hn:∀k,v.ownBlock=some k->¬S k):
  w'.ownsRow base e size v n xs:=by
 obtain⟨h1,h2⟩:=hown;refine⟨h1, ?_⟩;rcases h2 with h2|⟨g,cap,cur,hv,hg,hh,r⟩
 ·exact .inl h2
 ·exact .inr ⟨g,cap,cur,hv,hg,by rw [h.block g (lt_of_block hh) (hn g (by rw [hv];rfl))];exact hh,r⟩
theorem add_block(a:Addr)(n:Nat):(a.add n).block=a.block:=by unfold Addr.add;split<;>rfl
theorem Ai{w:World}{a:Addr}{u:Value}(ha:w.cell? a=some u):a.block<w.heap.size:=by
 unfold World.cell? at ha;rcases hb:w.heap[a.block]? with _|o
 ·rw [hb] at ha;simp at ha
 ·exact lt_of_block hb
theorem Ef(g o j:Nat):(⟨g,o,none⟩:Addr).add j=⟨g,o+j,none⟩:=by unfold Addr.add;split<;>simp_all
def Reads(w:World)(size:Nat)(x:Value)(m:Nat)(news:List Value):Prop:=
 ∃ad c,x= .slice ad m c/\m<=c/\news.length=m*size/\(ad=none->c=0)/\∀j u,news[j]?=some u->∃g o,ad=some ⟨g,o,none⟩/\w.cell? ⟨g,o+j,none⟩=some u
theorem Reads.Bg{w:World}{base:Nat}{e:TypeId}{size:Nat}{v:Value}{n:Nat}{xs:List Value}(h:w.ownsRow base e size v n xs):Reads w size v n xs:=by
 have hc:=λg (hg:v.ownBlock=some g)=>h.cells hg;obtain⟨h1,⟨rfl,rfl⟩|⟨g,cap,cur,rfl,_,_,hn,_⟩⟩:=h
 ·exact⟨none,0,rfl,Nat.le_refl _,h1,λ_=>rfl,λj u hj=>by have:xs= []:=List.eq_nil_of_length_eq_zero (by simpa using h1);subst this;simp at hj⟩
 ·exact⟨some ⟨g,0,none⟩,cap,rfl,hn,h1,by simp,λj u hj=>⟨g,0,rfl,by rw [<-Ef];exact hc g rfl j u hj⟩⟩
theorem Reads.nil(w:World)(size:Nat):Reads w size (.slice none 0 0) 0 []:=⟨none,0,rfl,Nat.le_refl _,by simp,λ_=>rfl,λj u hj=>by simp at hj⟩
theorem Reads.keeps{S:Nat->Prop}{w w':World}{size:Nat}{x:Value}{m:Nat}{news:List Value}(h:Reads w size x m news)(hk:Keeps S w w')
  (hS:∀k,x.ownBlock=some k->¬S k):Reads w' size x m news:=by
 obtain⟨ad,c,rfl,h1,h2,h3,h4⟩:=h;refine⟨ad,c,rfl,h1,h2,h3,λj u hj=> ?_⟩;obtain⟨g,o,rfl,ha⟩:=h4 j u hj;exact⟨g,o,rfl,by rw [hk.cell (Ai ha) (hS g rfl)];exact ha⟩
theorem Ls{P:Program}(w:World)(base:Nat)(t ty e:TypeId)(i:TypeInfo)(z:Value)(size bytes:Nat)(ht:P.underlying t=some (.slice e))(hi:P.info? e=some i)(hz:i.zero=some z)
  (hsize:i.size=size) (hby:i.bytes=bytes) (hzs:z.cells.size=size) (hsz:0<size)
  (v:Value) (n:Nat) (xs:List Value) (hown:w.ownsRow base e size v n xs)
  (x:Value) (m:Nat) (news:List Value) (hx:Reads w size x m news) (h1:∀u∈news,u.oneCell'=true)
  (h63:n+m<=maxLen) (hbytes:(n+m)*bytes<=140737488355328) (hbase:base<=w.heap.size):
  ∃v' w',(Builtin.append_ #[t,t] ty #[v,x]).run P w= .ok v' w'/\w'.ownsRow base e size v' (n+m) (xs++news)/\Keeps (λk=>v.ownBlock=some k) w w'/\
   (v'.ownBlock=v.ownBlock\/∃g,v'.ownBlock=some g/\w.heap.size<=g)/\(v'= .slice none 0 0↔v= .slice none 0 0/\m=0):=by
 obtain⟨ad,c,rfl,hmc,hl,hnone,hnews⟩:=hx;rcases ad with _|a
 ·have hc0:=hnone rfl;subst hc0;obtain rfl:m=0:=by omega
  obtain rfl:news= []:=List.eq_nil_of_length_eq_zero jL;have hr:=run_append_owned_none (P:=P) w base t ty e i size ht hi v n xs hown;exact⟨v,w,hr,by simpa using hown,Keeps.refl _ _,.inl rfl,by simp⟩
 ·have hnews':∀j u,news[j]?=some u->w.cell? (a.add j)=some u:=λj u hj=>by
   obtain⟨g,o,ha',hh⟩:=hnews j u hj
   cases ha'
   rw [Ef];exact hh
  obtain⟨v',w',hr,hown',hgr,hnil⟩:=run_append_own (P:=P) w base t ty e i z size bytes ht hi hz hsize hby hzs hsz v n xs hown a m c news hl hnews' h1 h63 hbytes hbase;refine⟨v',w',hr,hown',Keeps.grown hgr, ?_,hnil⟩;subst hsize;subst hby
  have hm63:n+m<=9223372036854775807:=by simp only [maxLen] at h63;omega
  rcases hown.2 with⟨rfl,rfl⟩|⟨g,cap,cur,rfl,hbg,hg,hnc,hcm,hcs,htake⟩
  ·by_cases hm:m=0
   ·left;rw [hnil.2 ⟨rfl,hm⟩]
   ·have hr2:=run_append_nil (P:=P) w t ty e i z ht hi hz a m c news hl hnews' j6 j6 (by have hb:=hbytes;simp only [Nat.zero_add] at hb;omega);exact j2k
  ·by_cases hroom:n+m<=cap
   ·have hfit:n*i.size+news.length<=cur.size:=by rw [hl,hcs,<-Nat.add_mul];exact Nat.mul_le_mul_right _ hroom
    have hr2:=run_append_room (P:=P) w t ty e i ht hi g n cap cur hg a m c news hl hnews' h1 hroom hfit;rw [hr2] at hr;injection hr with hv hw
    left
    rw [<-hv];rfl
   ·have holds:∀j u,xs[j]?=some u->w.cell? ((⟨g,0,none⟩:Addr).add j)=some u:=hown.cells (g:=g) rfl;have hr2:=run_append_grow (P:=P) w t ty e i z ht hi hz ⟨g,0,none⟩ n cap xs hown.1 holds a m c news hl hnews' j6 j6 (growslice_fits j6 hbytes);exact j2k
theorem Am{P:Program}{w:World}{ops:Array Oper}{rest:List Oper}{o:Oper}{a:Act}{Q:Exit->Act->World->Prop}(hgd:o.guard=none)(s x:Operand)(t:TypeId)
  (ho:o.op= .call { callee:= .builtin .append,args:= #[s,x],argTypes:= #[t,t] })
  (base:Nat) (e:TypeId) (i:TypeInfo) (z:Value) (size bytes:Nat) (ht:P.underlying t=some (.slice e)) (hi:P.info? e=some i) (hz:i.zero=some z)
  (hsize:i.size=size) (hby:i.bytes=bytes) (hzs:z.cells.size=size) (hsz:0<size)
  (v:Value) (n:Nat) (xs:List Value) (hs:a.eval s=v) (hown:w.ownsRow base e size v n xs)
  (xv:Value) (m:Nat) (news:List Value) (hx:a.eval x=xv) (hxr:Reads w size xv m news) (h1:∀u∈news,u.oneCell'=true)
  (h63:n+m<=maxLen) (hbytes:(n+m)*bytes<=140737488355328) (hbase:base<=w.heap.size)
  (h:∀v' w',w'.ownsRow base e size v' (n+m) (xs++news)->Keeps (λk=>v.ownBlock=some k) w w'->(v'.ownBlock=v.ownBlock\/∃g,v'.ownBlock=some g/\w.heap.size<=g)->wpList P ops Q rest (a.put o.dst v') w'):wpList P ops Q (o::rest) a w:=by
 refine wpList_plain hgd λK hK=> ?_;obtain⟨v',w',hr,h2,h3,h4,_⟩:=Ls (P:=P) w base t o.type e i z size bytes ht hi hz hsize hby hzs hsz v n xs hown xv m news hxr h1 h63 hbytes hbase;refine j2l ?_;exact hK _ _ (h v' w' h2 h3 h4)
theorem Aa{w:World}{b:Nat}{c:Array Value}{t:TypeId}{fz:Nat×Nat}(hb:w.heap[b]?=some (.cells c t fz))(j:Nat):w.cell? ⟨b,j,none⟩=c[j]?:=by simp [World.cell?,hb]
theorem Reads.lit(w:World)(cs:Array Value)(e:TypeId)(size n:Nat)(hs:cs.size=n*size):Reads (w.alloc (.cells cs e)) size (.slice (some ⟨w.heap.size,0,none⟩) n n) n cs.toList:=
 ⟨some ⟨w.heap.size,0,none⟩,n,rfl,Nat.le_refl _,by simpa using hs,by simp,λj u hj=>⟨w.heap.size,0,rfl,by
  have hb:(w.alloc (.cells cs e)).heap[w.heap.size]?=some (.cells cs e (0,0)):=heap_alloc_new w _;rw [Aa hb,Nat.zero_add]
  simpa using hj⟩⟩
theorem Ah{w:World}{base:Nat}{e:TypeId}{size:Nat}{v:Value}{n:Nat}{xs:List Value}(h:w.ownsRow base e size v n xs){b:Nat}{c:Array Value}{t:TypeId}{fz:Nat×Nat}
  (hb:w.heap[b]?=some (.cells c t fz)) (hne:t≠e):v.ownBlock≠some b:=by
 intro hv;rcases h.2 with⟨rfl,_⟩|⟨g,cap,cur,rfl,_,hg,_⟩
 ·simp [Value.ownBlock] at hv
 ·simp only [Value.ownBlock,Option.some.injEq] at hv;subst hv;rw [hb] at hg;injection hg with hg;injection hg with _ he _;exact hne he
theorem Ae{w:World}{base:Nat}{e:TypeId}{size:Nat}{v:Value}{n:Nat}{xs:List Value}(h:w.ownsRow base e size v n xs):∃ad cap,v= .slice ad n cap/\n<=cap/\(ad=none->cap=0):=by
 rcases h.2 with⟨h,h'⟩|⟨g,cap,cur,h,_,_,h',_⟩
 ·exact⟨none,0,by rw [h,h'],by omega,λ_=>rfl⟩
 ·exact⟨_,cap,h,h',by simp⟩
theorem Ab{w:World}{b:Nat}{c:Array Value}{t:TypeId}(hb:w.heap[b]?=some (.cells c t (0,0)))(j:Nat):w.frozen? ⟨b,j,none⟩=false:=by simp [World.frozen?,hb]
section flat
variable {α:Type} {f:α->List Value} {size:Nat} (hf:∀x,(f x).length=size)
include hf
theorem Cs(L:List α):(L.flatMap f).length=L.length*size:=by
 induction L with
 |nil=>simp
 |cons a l ih=>simp [List.flatMap_cons,hf,ih,Nat.add_mul];omega
theorem flat_get{L:List α}{k j:Nat}{x:α}(hx:L[k]?=some x)(hj:j<size):(L.flatMap f)[k*size+j]?=(f x)[j]?:=by
 induction L generalizing k with
 |nil=>simp at hx
 |cons a l ih=>
  rw [List.flatMap_cons]
  cases k with
  |zero=>
   simp only [List.getElem?_cons_zero,Option.some.injEq] at hx;subst hx;rw [List.getElem?_append_left (by rw [hf];omega)];simp
  |succ k=>
   have hx':l[k]?=some x:=by simpa using hx
   rw [List.getElem?_append_right (by rw [hf,Nat.succ_mul];omega),hf,<-ih hx']
   congr 1
   rw [Nat.succ_mul];omega
theorem flat_set{L:List α}{k j:Nat}{x y:α}{u:Value}(hx:L[k]?=some x)(hj:j<size)(hy:(f x).set j u=f y):(L.flatMap f).set (k*size+j) u=(L.set k y).flatMap f:=by
 induction L generalizing k with
 |nil=>simp at hx
 |cons a l ih=>
  rw [List.flatMap_cons]
  cases k with
  |zero=>
   simp only [List.getElem?_cons_zero,Option.some.injEq] at hx;subst hx;rw [List.set_append_left _ _ (by rw [hf];omega)];simp [hy]
  |succ k=>
   have hx':l[k]?=some x:=by simpa using hx
   rw [List.set_append_right _ _ (by rw [hf,Nat.succ_mul];omega),hf,List.set_cons_succ,List.flatMap_cons,<-ih hx']
   congr 2
   rw [Nat.succ_mul];omega
theorem Bw{w:World}{base:Nat}{e:TypeId}{g cap:Nat}{L:List α}(h:w.ownsRow base e size (.slice (some ⟨g,0,none⟩) L.length cap) L.length (L.flatMap f)){k:Nat}{x:α}(hx:L[k]?=some x)(j:Nat)(hj:j<size):
  w.cell? ⟨g,k*size+j,none⟩=(f x)[j]?:=by
 have hk:k<L.length:=by
  exact j0E
 have:(k+1)*size<=L.length*size:=Nat.mul_le_mul_right _ hk;rw [Nat.succ_mul] at this;rw [h.cellAt _ j6,flat_get hf hx hj]
theorem Reads.elem{w:World}{x:Value}{n:Nat}{L:List α}(h:Reads w size x n (L.flatMap f)){k:Nat}{a:α}(hx:L[k]?=some a)(hs:0<size):
  ∃g o c,x= .slice (some ⟨g,o,none⟩) n c/\∀j,j<size->w.cell? ⟨g,o+k*size+j,none⟩=(f a)[j]?:=by
 obtain⟨ad,c,rfl,h1,h2,h3,h4⟩:=h;have key:∀j,j<size->∃u,(f a)[j]?=some u:=λj hj=>⟨(f a)[j]'(by rw [hf];exact hj),List.getElem?_eq_getElem _⟩;obtain⟨u0,hu0⟩:=key 0 hs;obtain⟨g,o,rfl,_⟩:=h4 (k*size+0) u0 (by rw [flat_get hf hx hs];exact hu0);refine⟨g,o,c,rfl,λj hj=> ?_⟩;obtain⟨u,hu⟩:=key j hj;obtain⟨g',o',he,hc⟩:=h4 (k*size+j) u (by rw [flat_get hf hx hj];exact hu);simp only [Option.some.injEq,Addr.mk.injEq,and_true] at he;obtain⟨rfl,rfl⟩:=he;rw [hu,Nat.add_assoc];exact hc
theorem Je{w:World}{base:Nat}{e:TypeId}{g cap:Nat}{L:List α}(h:w.ownsRow base e size (.slice (some ⟨g,0,none⟩) L.length cap) L.length (L.flatMap f)){k:Nat}{x y:α}(hx:L[k]?=some x)(j:Nat)(hj:j<size)
  {u:Value} (hy:(f x).set j u=f y):(w.setCell ⟨g,k*size+j,none⟩ u).ownsRow base e size (.slice (some ⟨g,0,none⟩) L.length cap) L.length ((L.set k y).flatMap f):=by
 have:=(h.stored (k*size+j) u).1
 rwa [flat_set hf hx hj hy] at this
end flat
theorem Ey{w:World}{base:Nat}{e:TypeId}{size:Nat}{v:Value}{n:Nat}{xs:List Value}(h:w.ownsRow base e size v n xs)(hn:0<n):∃g cap,v= .slice (some ⟨g,0,none⟩) n cap/\g<w.heap.size:=by
 rcases h.2 with⟨_,h'⟩|⟨g,cap,cur,h,_,hh,_⟩
 ·omega
 ·exact⟨g,cap,h,lt_of_block hh⟩
theorem Vr(w:World)(a:Addr)(u v:Value):(w.setCell a u).setCell a v=w.setCell a v:=by
 unfold World.setCell
 congr 1
 apply Array.ext_getElem?
 intro i;simp only [Array.getElem?_modify]
 split
 ·rename_i h;subst h;rcases w.heap[a.block]? with _|o
  ·rfl
  ·cases o<;>simp
   split<;>simp [Array.setIfInBounds_setIfInBounds]
 ·rfl
theorem Dr{α:Type}{L:List α}{k:Nat}{x:α}(hx:L[k]?=some x):k<L.length:=by
 exact j0E
theorem Below.keeps{B:Nat}{w a b:World}{S:Nat->Prop}(h:Below B w a)(hk:Keeps S a b)(hS:∀k,S k->B<=k)(hB:B<=w.heap.size):Below B w b:=
 h.trans (hk.below (λk hk hs=>by have:=hS k hs;omega) (Nat.le_trans hB h.size))
theorem Nc{S:Nat->Prop}{w w':World}{cs:Array Value}{t:TypeId}(h:Keeps S (w.alloc (.cells cs t)) w')(hS:¬S w.heap.size):w'.heap[w.heap.size]?=some (.cells cs t (0,0)):=by
 rw [h.block _ (by simp) hS];exact heap_alloc_new w _
theorem Ad{S:Nat->Prop}{w w':World}{b:Nat}{o:Obj}(hb:w.heap[b]?=some o)(h:Keeps S w w')(hS:¬S b):w'.heap[b]?=some o:=by
 rw [h.block _ (lt_of_block hb) hS];exact hb
theorem Ap{w:World}{b:Nat}{o:Obj}(hb:w.heap[b]?=some o)(o':Obj):(w.alloc o').heap[b]?=some o:=(Below.heap_alloc _ _ _ (lt_of_block hb)).trans hb
theorem Reads.below{w w':World}{size:Nat}{x:Value}{m:Nat}{news:List Value}(h:Reads w size x m news)(hb:Below w.heap.size w w'):Reads w' size x m news:=by
 obtain⟨ad,c,rfl,h1,h2,h3,h4⟩:=h;refine⟨ad,c,rfl,h1,h2,h3,λj u hj=> ?_⟩;obtain⟨g,o,rfl,ha⟩:=h4 j u hj;exact⟨g,o,rfl,by rw [hb.cell (Ai ha)];exact ha⟩
theorem Reads.int{w:World}{k:IntKind}{ad:Option Addr}{n c:Nat}{L:List Int}(h:Reads w 1 (.slice ad n c) n (L.flatMap λz=> [Value.int k z])){i:Nat}{x:Int}(hx:L[i]?=some x):
  ∃g o,ad=some ⟨g,o,none⟩/\w.cell? ⟨g,o+i,none⟩=some (.int k x):=by
 obtain⟨g,o,c',he,hc⟩:=Reads.elem (f:=λz=> [Value.int k z]) (λ_=>rfl) h hx j7;exact j2m
theorem Reads.bool{w:World}{ad:Option Addr}{n c:Nat}{L:List Bool}(h:Reads w 1 (.slice ad n c) n (L.flatMap λz=> [Value.bool z])){i:Nat}{x:Bool}(hx:L[i]?=some x):
  ∃g o,ad=some ⟨g,o,none⟩/\w.cell? ⟨g,o+i,none⟩=some (.bool x):=by
 obtain⟨g,o,c',he,hc⟩:=Reads.elem (f:=λz=> [Value.bool z]) (λ_=>rfl) h hx j7;exact j2m
theorem wf_u8{n:Int}(h:(Lit.int .u8 n).wf=true):0<=n/\n<=255:=by
 simp [Lit.wf,IntKind.min,IntKind.max,IntKind.signed,IntKind.bits] at h;omega
theorem Cc{P:Program}{ops:Array Oper}{o:Oper}{a:Act}{w:World}{K:Act->World->Prop}{Q:Exit->Act->World->Prop}{E:Prop}(hgd:o.guard=none)(s x:Operand)(t:TypeId)
  (ho:o.op= .call { callee:= .builtin .append,args:= #[s,x],argTypes:= #[t,t] })
  (base:Nat) (e:TypeId) (i:TypeInfo) (z:Value) (size bytes:Nat) (ht:P.underlying t=some (.slice e)) (hi:P.info? e=some i) (hz:i.zero=some z)
  (hsize:i.size=size) (hby:i.bytes=bytes) (hzs:z.cells.size=size) (hsz:0<size)
  (v:Value) (n:Nat) (xs:List Value) (hs:a.eval s=v) (hown:w.ownsRow base e size v n xs)
  (xv:Value) (m:Nat) (news:List Value) (hx:a.eval x=xv) (hxr:Reads w size xv m news) (h1:∀u∈news,u.oneCell'=true)
  (h63:n+m<=maxLen) (hbytes:(n+m)*bytes<=140737488355328) (hbase:base<=w.heap.size)
  (h:∀v' w',w'.ownsRow base e size v' (n+m) (xs++news)->Keeps (λk=>v.ownBlock=some k) w w'->(v'.ownBlock=v.ownBlock\/∃g,v'.ownBlock=some g/\w.heap.size<=g)->K (a.put o.dst v') w'):
  if Region.wanted o (yielded ops a.tmps)=true then Oper.wp P o a w K Q else E:=by
 have hw:Region.wanted o (yielded ops a.tmps)=true:=by simp [Region.wanted,hgd]
 rw [if_pos hw];obtain⟨v',w',hr,h2,h3,h4,_⟩:=Ls (P:=P) w base t o.type e i z size bytes ht hi hz hsize hby hzs hsz v n xs hown xv m news hxr h1 h63 hbytes hbase;refine j2l ?_;exact h v' w' h2 h3 h4
theorem Reads.pre{w:World}{size n c:Nat}{ad:Option Addr}{xs:List Value}(h:Reads w size (.slice ad n c) n xs)(k:Nat)(hk:k<=n):Reads w size (.slice ad k c) k (xs.take (k*size)):=by
 obtain⟨ad',c',he,h1,h2,h3,h4⟩:=h;simp only [Value.slice.injEq,true_and] at he;obtain⟨rfl,rfl⟩:=he;have hm:k*size<=n*size:=Nat.mul_le_mul_right _ hk;refine⟨ad,c,rfl,by omega,by rw [List.length_take,h2];omega,h3,λj u hj=>h4 j u ?_⟩;rw [List.getElem?_take] at hj
 split at hj
 ·exact hj
 ·simp at hj
theorem Reads.suf{w:World}{size n c g o:Nat}{xs:List Value}(h:Reads w size (.slice (some ⟨g,o,none⟩) n c) n xs)(k:Nat)(hk:k<=n):Reads w size (.slice (some ⟨g,o+k*size,none⟩) (n-k) (c-k)) (n-k) (xs.drop (k*size)):=by
 obtain⟨ad',c',he,h1,h2,h3,h4⟩:=h;simp only [Value.slice.injEq,true_and] at he;obtain⟨rfl,rfl⟩:=he;refine⟨_,_,rfl,by omega,by rw [List.length_drop,h2,Nat.sub_mul],by simp,λj u hj=> ?_⟩;rw [List.getElem?_drop] at hj;obtain⟨g',o',he,hc⟩:=h4 _ u hj;simp only [Option.some.injEq,Addr.mk.injEq,and_true] at he;obtain⟨rfl,rfl⟩:=he;exact⟨g,o+k*size,rfl,by rw [Nat.add_assoc];exact hc⟩
theorem Reads.none_of{w:World}{size:Nat}{ad:Option Addr}{c:Nat}(h:ad=none->c=0):Reads w size (.slice ad 0 c) 0 []:=⟨ad,c,rfl,Nat.zero_le _,by simp,h,λj u hj=>by simp at hj⟩
theorem Reads.drew{w:World}{size:Nat}{x:Value}{m:Nat}{news:List Value}(h:Reads w size x m news):Reads w.drew size x m news:=h.keeps (Keeps.drew (S:=λ_=>False) _) (by simp)
theorem Reads.alloc{w:World}{size:Nat}{x:Value}{m:Nat}{news:List Value}(h:Reads w size x m news)(o:Obj):Reads (w.alloc o) size x m news:=h.keeps (Keeps.alloc (S:=λ_=>False) _ _) (by simp)
theorem Reads.blk{w:World}{g:Nat}{cs:Array Value}{e:TypeId}{fz:Nat×Nat}{size n:Nat}(hb:w.heap[g]?=some (.cells cs e fz))(hs:cs.size=n*size):Reads w size (.slice (some ⟨g,0,none⟩) n n) n cs.toList:=
 ⟨some ⟨g,0,none⟩,n,rfl,Nat.le_refl _,by simpa using hs,by simp,λj u hj=>⟨g,0,rfl,by
  rw [Aa hb,Nat.zero_add]
  simpa using hj⟩⟩
theorem Ar{α:Type}{L:List α}{k:Nat}(h:k<L.length):∃x,L[k]?=some x:=⟨L[k],List.getElem?_eq_getElem h⟩
theorem take_snoc'{α:Type}{L:List α}{k:Nat}{x:α}(h:L[k]?=some x):L.take (k+1)=L.take k++ [x]:=by rw [List.take_add_one,h];rfl
def Fresh(w0 w:World)(v:Value):Prop:=K0 w0 w/\∀g,v.ownBlock=some g->w0.heap.size<=g
theorem Fresh.nil(w:World):Fresh w w (.slice none 0 0):=⟨Keeps.refl _ _,by simp [Value.ownBlock]⟩
theorem Fresh.keep{w0 w w':World}{v:Value}(h:Fresh w0 w v)(hk:K0 w w'):Fresh w0 w' v:=⟨h.1.trans (hk.mono (by simp)),h.2⟩
theorem Fresh.app{w0 w w':World}{v v':Value}(h:Fresh w0 w v)(hk:Keeps (λk=>v.ownBlock=some k) w w')(hf:v'.ownBlock=v.ownBlock\/∃g,v'.ownBlock=some g/\w.heap.size<=g):Fresh w0 w' v':=by
 have hs:=h.1.size;refine⟨h.1.trans (hk.mono λk _ hk'=> .inr (h.2 k hk')),λg hg=> ?_⟩;rcases hf with hf|⟨g',hg',hh⟩
 ·exact h.2 g (by rw [<-hf];exact hg)
 ·exact j1f
theorem Fresh.set{w0 w:World}{v:Value}{g j:Nat}(h:Fresh w0 w v)(hg:v.ownBlock=some g)(u:Value):Fresh w0 (w.setCell ⟨g,j,none⟩ u) v:=
 ⟨h.1.trans (Keeps.setCell _ _ _ (.inr (h.2 g hg))),h.2⟩
theorem Fresh.cell{w0 w:World}{v:Value}(h:Fresh w0 w v){p:Addr}(hp:p.block<w0.heap.size):w.cell? p=w0.cell? p:=h.1.cell hp (by simp)
section
variable {α:Type} {f:α->List Value} {size:Nat} (hf:∀x,(f x).length=size)
include hf
theorem Kt(L:List α)(k:Nat):(L.flatMap f).take (k*size)=(L.take k).flatMap f:=by
 induction L generalizing k with
 |nil=>simp
 |cons a l ih=>
  cases k with
  |zero=>simp
  |succ k=>
   rw [List.flatMap_cons,List.take_succ_cons,List.flatMap_cons,<-ih,Nat.succ_mul,Nat.add_comm,<-hf a,List.take_length_add_append]
theorem Pg(L:List α)(k:Nat):(L.flatMap f).drop (k*size)=(L.drop k).flatMap f:=by
 induction L generalizing k with
 |nil=>simp
 |cons a l ih=>
  cases k with
  |zero=>simp
  |succ k=>
   rw [List.flatMap_cons,List.drop_succ_cons,<-ih,Nat.succ_mul,Nat.add_comm,<-hf a,List.drop_length_add_append]
theorem Reads.preL{w:World}{n c:Nat}{ad:Option Addr}{L:List α}(h:Reads w size (.slice ad n c) n (L.flatMap f))(k:Nat)(hk:k<=n):Reads w size (.slice ad k c) k ((L.take k).flatMap f):=by
 rw [<-Kt hf];exact h.pre k hk
theorem Reads.sufL{w:World}{n c g o:Nat}{L:List α}(h:Reads w size (.slice (some ⟨g,o,none⟩) n c) n (L.flatMap f))(k:Nat)(hk:k<=n):Reads w size (.slice (some ⟨g,o+k*size,none⟩) (n-k) (c-k)) (n-k) ((L.drop k).flatMap f):=by
 rw [<-Pg hf];exact h.suf k hk
end
theorem Lg{P:Program}{a:Act}{w:World}{Q:Exit->Act->World->Prop}{c rest:Code}(l:Nat)(J:Act->World->Prop)(M:Act->World->Nat)(hf:findLabel c l=some rest)
  (round:∀a w,J a w->rest.wp P (Exit.jump l (λa' w'=>J a' w'/\M a' w'<M a w) Q) a w)
  (first:(∀a w,J a w->rest.wp P (Exit.jump l J Q) a w)->c.wp P (Exit.jump l J Q) a w):(Code.scope c).wp P Q a w:=by
 refine wp_scope_jumps l J M hf (first λa w hJ=>Code.wp_mono ?_ (round a w hJ)) round;intro e a' w' h
 cases e with
 |goto k=>exact⟨h.1,h.2.1⟩
 |_=>exact h
theorem Reads.litAt(w:World)(cs:Array Value)(e:TypeId)(size n B:Nat)(hB:B=w.heap.size)(hs:cs.size=n*size):Reads (w.alloc (.cells cs e)) size (.slice (some ⟨B,0,none⟩) n n) n cs.toList:=by subst hB;exact Reads.lit w cs e size n hs
def u8c(z:Int):List Value:= [.int .u8 z]
theorem Fq(z:Int):(u8c z).length=1:=rfl
theorem u8c_one(L:List Int):∀u∈L.flatMap u8c,u.oneCell'=true:=by
 intro u hu;obtain⟨d,_,hd⟩:=List.mem_flatMap.1 hu;simp only [u8c,List.mem_cons,List.not_mem_nil,or_false] at hd;subst hd;rfl
def i64c(z:Int):List Value:= [.int .i64 z]
theorem Ec(z:Int):(i64c z).length=1:=rfl
theorem Jz(L:List Int):∀u∈L.flatMap i64c,u.oneCell'=true:=by
 intro u hu;obtain⟨d,_,hd⟩:=List.mem_flatMap.1 hu;simp only [i64c,List.mem_cons,List.not_mem_nil,or_false] at hd;subst hd;rfl
def ByOk(B:List Int):Prop:=(∀z∈B,0<=z/\z<=255)/\B.length<=1000000000000
def bt(B:List Int)(k:Nat):Int:=B.getD k 0
theorem Mk{B:List Int}(h:ByOk B)(k:Nat):0<=bt B k/\bt B k<=255:=by
 unfold bt;rw [List.getD_eq_getElem?_getD];rcases hx:B[k]? with _|z
 ·simp
 ·exact h.1 z (List.mem_of_getElem? hx)
theorem bt_some{B:List Int}{k:Nat}{z:Int}(h:B[k]?=some z):bt B k=z:=by unfold bt;rw [List.getD_eq_getElem?_getD,h];rfl
theorem bt_none{B:List Int}{k:Nat}(h:B.length<=k):bt B k=0:=by unfold bt;rw [List.getD_eq_getElem?_getD,List.getElem?_eq_none h];rfl
theorem Reads.lt{w:World}{size:Nat}{x:Value}{m:Nat}{news:List Value}(h:Reads w size x m news)(hn:news≠ []):∃g,x.ownBlock=some g/\g<w.heap.size:=by
 obtain⟨ad,c,rfl,h1,h2,h3,h4⟩:=h;rcases news with _|⟨u,news⟩
 ·exact absurd rfl hn
 ·obtain⟨g,o,rfl,hc⟩:=h4 0 u rfl;exact⟨g,rfl,Ai hc⟩
structure Ln where
 balance:Int
 interest:Int
 rate:Int
deriving DecidableEq,Inhabited
def Ln.cells(d:Ln):List Value:= [.int .i64 d.balance,.int .i64 d.interest,.int .i64 d.rate]
theorem Ln.Aj(d:Ln):d.cells.length=3:=rfl
theorem Ln.one(L:List Ln):∀u∈L.flatMap Ln.cells,u.oneCell'=true:=by
 intro u hu;obtain⟨d,_,hd⟩:=List.mem_flatMap.1 hu;simp only [Ln.cells,List.mem_cons,List.not_mem_nil,or_false] at hd;rcases hd with rfl|rfl|rfl<;>rfl
structure Stm where
 cycle:Int
 fr:Int
 te:Int
 due:Int
 total:Int
 credit:Int
 min:Int
 grace:Bool
 lines:List Ln
def Stm.val(s:Stm)(v:Value):Value:= .agg #[.int .i64 s.cycle,.int .i64 s.fr,.int .i64 s.te,.int .i64 s.due,v,.int .i64 s.total,.int .i64 s.credit,.int .i64 s.min,.bool s.grace]
theorem Ul:(Tryz.prog.info? 212).map (λi=>(i.zero,i.size,i.bytes))=some (some (.agg #[.int .i64 0,.int .i64 0,.int .i64 0]),3,24):=by kernel_rfl
theorem Nb:(Tryz.prog.info? 59).map (λi=>(i.zero,i.size,i.bytes))=some (some (.agg #[.int .i64 0,.int .i64 0,.int .i64 0,.int .i64 0,.slice none 0 0,.int .i64 0,.int .i64 0,.int .i64 0,.bool false]),9,88):=by kernel_rfl
structure SV where
 s:Stm
 ad:Option Addr
 cap:Nat
def SV.v(x:SV):Value:= .slice x.ad x.s.lines.length x.cap
def SV.cells(x:SV):List Value:= [.int .i64 x.s.cycle,.int .i64 x.s.fr,.int .i64 x.s.te,.int .i64 x.s.due,x.v,.int .i64 x.s.total,.int .i64 x.s.credit,.int .i64 x.s.min,.bool x.s.grace]
theorem SV.Aj(x:SV):x.cells.length=9:=rfl
def eight(v:Int):List Int:=
 [v / 72057594037927936 % 256,v / 281474976710656 % 256,v / 1099511627776 % 256,v / 4294967296 % 256,v / 16777216 % 256,v / 65536 % 256,v / 256 % 256,v % 256]
theorem De(v:Int):(eight v).length=8:=rfl
theorem Rx(v:Int):∀z∈eight v,0<=z/\z<=255:=by
 intro z hz;simp only [eight,List.mem_cons,List.not_mem_nil,or_false] at hz;rcases hz with rfl|rfl|rfl|rfl|rfl|rfl|rfl|rfl<;>omega
def mayB(most:Int)(L:List Int):Bool:=L.all λv=>decide (0<=v/\v<=most)
def dayB(n:Int):Bool:=decide (-135140<=n/\n<=2932896)
def Ln.okB(x:Ln):Bool:=mayB 1000000000000000 [x.balance,x.interest]&&mayB 10000000 [x.rate]
def sumLn(L:List Ln):Int:=(L.map Ln.balance).sum
def Stm.Bh(s:Stm):Bool:=
 decide (1<=s.cycle/\s.cycle<=300)&&(dayB s.fr&&dayB s.te&&dayB s.due)&&decide (s.fr<=s.te)&&decide (s.te<=s.due)&&decide (1<=s.lines.length/\s.lines.length<=8)&&
  mayB 1000000000000000 [s.total,s.credit,s.min]&&decide (s.min<=s.total)&&s.lines.all Ln.okB&&decide (sumLn s.lines=s.total)
def Stm.head(s:Stm):List Int:= [s.cycle,s.fr,s.te,s.due,s.total,s.credit,s.min,if s.grace then 1 else 0,s.lines.length]
def Ln.nums(x:Ln):List Int:= [x.balance,x.interest,x.rate]
def Stm.nums(s:Stm):List Int:=s.head++s.lines.flatMap Ln.nums
def packN(L:List Int):List Int:=L.flatMap eight
theorem Pw(L:List Int):(packN L).length=8*L.length:=by
 induction L with
 |nil=>rfl
 |cons a l ih=>rw [packN,List.flatMap_cons,List.length_append,De];rw [packN] at ih;rw [ih];simp;omega
theorem Yq(L M:List Int):packN (L++M)=packN L++packN M:=List.flatMap_append
theorem lit3{w:World}{B:Nat}(hB:B=w.heap.size)(t:TypeId)(a b c:Int):Reads (w.alloc (.cells #[.int .i64 a,.int .i64 b,.int .i64 c] t)) 1 (.slice (some ⟨B,0,none⟩) 3 3) 3 ([a,b,c].flatMap i64c):=Reads.litAt _ #[.int .i64 a,.int .i64 b,.int .i64 c] _ _ _ _ hB rfl
theorem lit2{w:World}{B:Nat}(hB:B=w.heap.size)(t:TypeId)(a b:Int):Reads (w.alloc (.cells #[.int .i64 a,.int .i64 b] t)) 1 (.slice (some ⟨B,0,none⟩) 2 2) 2 ([a,b].flatMap i64c):=Reads.litAt _ #[.int .i64 a,.int .i64 b] _ _ _ _ hB rfl
def Jf(v:Int):Bool:=decide (0<=v/\v<=1000000000000000)
theorem Sj(v:Int)(w:World):Calls Tryz.prog 177 #[.int .i64 v] w λe w'=>e= .returned (.bool (!Jf v))/\w=w':=by
 have hd:Jf v=decide (0<=v/\v<=1000000000000000):=rfl;by_cases h1:v<0
 ·have:Jf v=false:=by rw [hd];simp;omega
  exact j1g
 ·by_cases h2:1000000000000000<v
  ·have:Jf v=false:=by rw [hd];simp;omega
   exact j1g
  ·have:Jf v=true:=by rw [hd];simp;omega
   exact j1g
def Cr(L:List Int):Bool:=L.all Jf
theorem Wj(L:List Int)(x:Int):Cr (L++ [x])=(Cr L&&Jf x):=by simp [Cr]
theorem Uv{L:List Int}{k:Nat}{x:Int}(h:L[k]?=some x)(hx:Jf x=false):Cr L=false:=by
 exact j2n
theorem Yy(ad:Option Addr)(cap:Nat)(L:List Int)(w:World)(hr:Reads w 1 (.slice ad L.length cap) L.length (L.flatMap i64c))(hl:L.length<=1000):
  Calls Tryz.prog 179 #[.slice ad L.length cap,.func (.func 177) #[] #[]] w λe w'=>∃r:Int,e= .returned (.int .i64 r)/\decide (0<=r)= !Cr L/\w=w':=by
 have Hr:=Lib.hid hr;clear hr;go_enter Tryz.func179,Tryz.ntmps179;go_wp2_with fail
 go_loop [8] (λc=>∃j:Nat,j<=L.length/\c= .int .i64 (j:Nat)/\Cr (L.take j)=true) (λc=>L.length-(intOf c).toNat)
 case atStart=>exact⟨0,Nat.zero_le _,rfl,rfl⟩
 case round=>
  obtain⟨j,hj,rfl,hok⟩:=hrel;by_cases hjl:j<L.length
  ·obtain⟨x,hx⟩:=Ar hjl;obtain⟨g,o,rfl,x0⟩:=Hr.o.int hx;have hsn:=Wj (L.take j) x;rw [<-take_snoc' hx,hok] at hsn;rcases m1:Jf x with _|_
   ·have hf:=Uv hx m1;have hj0:decide ((0:Int)<=(j:Int))=true:=by simp
    have Hf:=Lib.hid hf;clear hf hsn hx;have Hj0:=Lib.hid hj0;clear hj0
    go_wp2_with (go_at_call 177;((with_reducible refine(Sj _ _).mono ?_);rintro e w1 ⟨rfl,rfl⟩))
    go_ret;exact⟨_,rfl,by rw [Hf.o,Hj0.o];rfl,rfl⟩
   ·have hok':Cr (L.take (j+1))=true:=by rw [hsn,m1];rfl
    clear hsn hx;obtain⟨Hok,Hok'⟩:=hid2 hok hok';clear hok' hok
    go_wp2_with (go_at_call 177;((with_reducible refine(Sj _ _).mono ?_);rintro e w1 ⟨rfl,rfl⟩))
    exact j0m
  ·exact j0n
theorem Sy(ad:Option Addr)(cap:Nat)(L:List Int)(w:World)(hr:Reads w 1 (.slice ad L.length cap) L.length (L.flatMap i64c))(hl:L.length<=1000):
  Calls Tryz.prog 162 #[.slice ad L.length cap,.func (.func 177) #[] #[]] w λe w'=>e= .returned (.bool (!Cr L))/\w=w':=by
 have Hr:=Lib.hid hr;clear hr;go_enter Tryz.func162,Tryz.ntmps162
 go_wp2_with (go_at_call 179;refine(Yy _ _ L _ Hr.o hl).mono ?_;rintro e w1 ⟨r,rfl,hd,rfl⟩;have Hd:=Lib.hid hd;clear hd)
 exact j0o
theorem Ux(ad:Option Addr)(cap:Nat)(L:List Int)(w:World)(hr:Reads w 1 (.slice ad L.length cap) L.length (L.flatMap i64c))(hl:L.length<=1000):
  Calls Tryz.prog 158 #[.slice ad L.length cap] w λe w'=>e= .returned (.bool (Cr L))/\w=w':=by
 have Hr:=Lib.hid hr;clear hr;go_enter Tryz.func158,Tryz.ntmps158
 go_wp2_with (go_at_call 162;refine(Sy _ _ L _ Hr.o hl).mono ?_;rintro e w1 ⟨rfl,rfl⟩)
 go_ret;exact⟨by simp,rfl⟩
theorem adjMay3{w:World}{B:Nat}(hB:B=w.heap.size)(t:TypeId)(a b c:Int):Calls Tryz.prog 158 #[.slice (some ⟨B,0,none⟩) 3 3] (w.alloc (.cells #[.int .i64 a,.int .i64 b,.int .i64 c] t)) λe w'=>e= .returned (.bool (Cr [a,b,c]))/\(w.alloc (.cells #[.int .i64 a,.int .i64 b,.int .i64 c] t))=w':=
 Ux _ _ [a,b,c] _ (lit3 hB _ a b c) (by simp)
theorem adjMay2{w:World}{B:Nat}(hB:B=w.heap.size)(t:TypeId)(a b:Int):Calls Tryz.prog 158 #[.slice (some ⟨B,0,none⟩) 2 2] (w.alloc (.cells #[.int .i64 a,.int .i64 b] t)) λe w'=>e= .returned (.bool (Cr [a,b]))/\(w.alloc (.cells #[.int .i64 a,.int .i64 b] t))=w':=
 Ux _ _ [a,b] _ (lit2 hB _ a b) (by simp)
def Kh(a b:Bool):Int:=if b&& !a then 1 else if a&& !b then -1 else 0
theorem Wl(a b:Bool)(w:World):Calls Tryz.prog 159 #[.bool a,.bool b] w λe w'=>e= .returned (.int .i64 (Kh a b))/\w=w':=by
 cases a<;>cases b<;>
 ·go_enter Tryz.func159,Tryz.ntmps159;exact jn
def Gx(a b:Stm):Bool:=decide (a.cycle=b.cycle)&&(decide (a.fr=b.fr)&&decide (a.te=b.te))&&decide (a.lines.length=b.lines.length)
theorem Zw(a b:Stm)(ad1 ad2:Option Addr)(c1 c2:Nat)(w:World):
  Calls Tryz.prog 139 #[a.val (.slice ad1 a.lines.length c1),b.val (.slice ad2 b.lines.length c2)] w λe w'=>e= .returned (.bool (Gx a b))/\K0 w w':=by
 obtain⟨cy,fr,tQ,du,tot,cr,mi,gr,L⟩:=a;obtain⟨cy',fr',to',du',tot',cr',mi',gr',L'⟩:=b;simp only [Stm.val];obtain⟨n,hn⟩:=eX L.length;obtain⟨n',hn'⟩:=eX L'.length;have hd:Gx ⟨cy,fr,tQ,du,tot,cr,mi,gr,L⟩ ⟨cy',fr',to',du',tot',cr',mi',gr',L'⟩=(decide (cy=cy')&&(decide (fr=fr')&&decide (tQ=to'))&&decide (n=n')):=by unfold Gx;simp only [hn,hn']
 rw [hn,hn'];by_cases h1:cy=cy'
 ·subst h1;by_cases h2:fr=fr'/\tQ=to'
  ·obtain⟨rfl,rfl⟩:=h2;by_cases h3:n=n'
   ·subst h3;have hf:Gx ⟨cy,fr,tQ,du,tot,cr,mi,gr,L⟩ ⟨cy,fr,tQ,du',tot',cr',mi',gr',L'⟩=true:=by rw [hd];simp
    clear hd hn hn';have Hf:=Lib.hid hf;clear hf;go_enter Tryz.func139,Tryz.ntmps139;go_wp2;go_ret;exact⟨by rw [Hf.o];simp,(Keeps.alloc _ _).trans (Keeps.alloc _ _)⟩
   ·have hf:Gx ⟨cy,fr,tQ,du,tot,cr,mi,gr,L⟩ ⟨cy,fr,tQ,du',tot',cr',mi',gr',L'⟩=false:=by rw [hd];simp [h3]
    have h3':¬(n:Int)=(n':Int):=j8;clear hd hn hn';have Hf:=Lib.hid hf;clear hf;go_enter Tryz.func139,Tryz.ntmps139;go_wp2;go_ret;exact⟨by rw [Hf.o];simp [h3'];try omega,(Keeps.alloc _ _).trans (Keeps.alloc _ _)⟩
  ·have hf:Gx ⟨cy,fr,tQ,du,tot,cr,mi,gr,L⟩ ⟨cy,fr',to',du',tot',cr',mi',gr',L'⟩=false:=by rw [hd];simp;intro a b;exact absurd ⟨a,b⟩ h2
   clear hd hn hn';have Hf:=Lib.hid hf;clear hf;rcases(show¬fr=fr'\/(fr=fr'/\¬tQ=to') by omega) with h4|⟨h4,h5⟩
   ·clear h2;go_enter Tryz.func139,Tryz.ntmps139;go_wp2;go_ret;exact⟨by rw [Hf.o];simp,(Keeps.alloc _ _).trans (Keeps.alloc _ _)⟩
   ·clear h2;subst h4;go_enter Tryz.func139,Tryz.ntmps139;go_wp2;go_ret;exact⟨by rw [Hf.o];simp,(Keeps.alloc _ _).trans (Keeps.alloc _ _)⟩
 ·have hf:Gx ⟨cy,fr,tQ,du,tot,cr,mi,gr,L⟩ ⟨cy',fr',to',du',tot',cr',mi',gr',L'⟩=false:=by rw [hd];simp [h1]
  clear hd hn hn';have Hf:=Lib.hid hf;clear hf;go_enter Tryz.func139,Tryz.ntmps139;go_wp2;go_ret;exact⟨by rw [Hf.o];simp,(Keeps.alloc _ _).trans (Keeps.alloc _ _)⟩
def Ln.numsB(x:Ln):Bool:=Cr [x.balance,x.interest]
def Stm.Db(s:Stm):Bool:=s.lines.all Ln.numsB&&Cr [s.total,s.credit,s.min]
theorem Ab8{L:List Ln}{k:Nat}{x:Ln}(h:L[k]?=some x)(hx:x.numsB=false):L.all Ln.numsB=false:=by
 exact j2n
theorem Uw(s:Stm)(ad:Option Addr)(cap:Nat)(w:World)(hr:Reads w 3 (.slice ad s.lines.length cap) s.lines.length (s.lines.flatMap Ln.cells))(hl:s.lines.length<=1000000):
  Calls Tryz.prog 140 #[s.val (.slice ad s.lines.length cap)] w λe w'=>e= .returned (.bool s.Db)/\K0 w w':=by
 obtain⟨cy,fr,tQ,du,tot,cr,mi,gr,L⟩:=s;simp only [Stm.val] at hr hl⊢;have hd:Stm.Db ⟨cy,fr,tQ,du,tot,cr,mi,gr,L⟩=(L.all Ln.numsB&&Cr [tot,cr,mi]):=rfl;rw [hd];clear hd;have hbox:=heap_alloc_new w (.cells #[.int .i64 cy,.int .i64 fr,.int .i64 tQ,.int .i64 du,.slice ad L.length cap,.int .i64 tot,.int .i64 cr,.int .i64 mi,.bool gr] 59);obtain⟨Hr,Hbox⟩:=hid2 hr hbox;clear hbox hr;go_enter Tryz.func140,Tryz.ntmps140;go_wp2_with fail
 go_loopw [8] (λc wr=>∃j:Nat,j<=L.length/\c= .int .i64 (j:Nat)/\(L.take j).all Ln.numsB=true/\K0 w wr/\wr.heap[w.heap.size]?=some (.cells #[.int .i64 cy,.int .i64 fr,.int .i64 tQ,.int .i64 du,.slice ad L.length cap,.int .i64 tot,.int .i64 cr,.int .i64 mi,.bool gr] 59 (0,0))) (λc _=>L.length-(intOf c).toNat)
 case atStart=>exact⟨0,Nat.zero_le _,rfl,rfl,Keeps.alloc _ _,Hbox.o⟩
 case round=>
  obtain⟨j,hj,rfl,hok,hk,hb⟩:=hrel;have b5:=Aa hb 5;have b6:=Aa hb 6;have b7:=Aa hb 7;by_cases hjl:j<L.length
  ·obtain⟨⟨xb,xi,xr⟩,hx⟩:=Ar hjl;obtain⟨g,o,c,he,hc⟩:=(Hr.o.keeps hk (by simp)).elem Ln.Aj hx j7;simp only [Value.slice.injEq,true_and] at he;obtain⟨rfl,rfl⟩:=he;have x0:wr.cell? ⟨g,o+j*3,none⟩=some (.int .i64 xb):=hc 0 j7;have x1:wr.cell? ⟨g,o+j*3+1,none⟩=some (.int .i64 xi):=hc 1 j7;have x2:wr.cell? ⟨g,o+j*3+2,none⟩=some (.int .i64 xr):=hc 2 j7;have han:(L.take (j+1)).all Ln.numsB=Cr [xb,xi]:=by rw [take_snoc' hx,List.all_append,hok];simp [Ln.numsB]
   have hno:Cr [xb,xi]=false->(L.all Ln.numsB&&Cr [tot,cr,mi])=false:=λh=>by rw [Ab8 hx (by simpa [Ln.numsB] using h)];rfl
   clear hc;rcases m1:Cr [xb,xi] with _|_
   ·have hf:=hno m1;clear hx han hno;obtain⟨Hk,Hb⟩:=hid2 hk hb;clear hb hk hok;have Hf:=Lib.hid hf;clear hf
    go_wp2_with (go_at_call 158;((with_reducible refine(adjMay2 (by simp) _ xb xi).mono ?_);rintro e w1 ⟨rfl,rfl⟩))
    go_ret;exact⟨by rw [Hf.o];rfl,Hk.o.trans ((Keeps.alloc _ _).trans (Keeps.alloc _ _))⟩
   ·have hok':(L.take (j+1)).all Ln.numsB=true:=by rw [han,m1]
    clear hx han hno;obtain⟨Hk,Hb⟩:=hid2 hk hb;clear hb hk hok;have Hok':=Lib.hid hok';clear hok'
    go_wp2_with (go_at_call 158;((with_reducible refine(adjMay2 (by simp) _ xb xi).mono ?_);rintro e w1 ⟨rfl,rfl⟩))
    go_roundw
    case rel=>exact⟨j+1,by omega,by go_num,Hok'.o,Hk.o.trans ((Keeps.alloc _ _).trans (Keeps.alloc _ _)),Ap (Ap Hb.o _) _⟩
    case measure=>simp [intOf];omega
  ·obtain rfl:j=L.length:=by omega
   rw [List.take_length] at hok;have hfin:(L.all Ln.numsB&&Cr [tot,cr,mi])=Cr [tot,cr,mi]:=by rw [hok];rfl
   obtain⟨Hk,Hb⟩:=hid2 hk hb;clear hb hk hok;have Hfin:=Lib.hid hfin;clear hfin
   go_wp2_with (go_at_call 158;((with_reducible refine(adjMay3 rfl _ tot cr mi).mono ?_);rintro e w1 ⟨rfl,rfl⟩))
   go_ret;exact⟨by rw [Hfin.o];rfl,Hk.o.trans (Keeps.alloc _ _)⟩
theorem Nl{P:Program}(w:World)(dT sT ty elem:TypeId)(size g o dLen dCap:Nat)(a:Addr)(sLen sCap:Nat)(cur:Array Value)(t:TypeId)(cs:List Value)
  (hu:P.underlying dT=some (.slice elem)) (hs:(P.info? elem).map (·.size)=some size)
  (hg:w.heap[g]?=some (.cells cur t (0,0))) (hn:cs.length=Nat.min sLen dLen*size)
  (hsrc:∀j v,cs[j]?=some v->w.cell? (a.add j)=some v) (hfit:o+cs.length<=cur.size) (h1:∀v∈cs,v.oneCell'=true):
  (Builtin.copy_ #[dT,sT] ty #[.slice (some ⟨g,o,none⟩) dLen dCap,.slice (some a) sLen sCap]).run P w=
   .ok (goInt (Nat.min sLen dLen)) (w.setRow g (cur.toList.take o++cs++cur.toList.drop (o+cs.length)).toArray):=by
 have hl:=run_loadCells_list (P:=P) w a cs hsrc;have hst:=run_storeCells_at P g o t cs 0 cur w hg (by simpa using hfit) h1
 cases hq:P.info? elem with
 |none=>simp [hq] at hs
 |some i=>
  have hi:i.size=size:=by simpa [hq] using hs
  simp [Builtin.copy_,run_underlying hu,Builtin.lenOf,Builtin.firstCells,sizeOf,typeInfo,hq,hi,<-hn,hl,hst]
theorem run_append_grow_zeros {P:Program}(w:World)(t tn ty e:TypeId)(i:TypeInfo)(z:Value)(kn:IntKind)(ht:P.underlying t=some (.slice e))(htn:P.underlying tn=some (.int kn))(hi:P.info? e=some i)(hz:i.zero=some z)
  (b:Addr) (sLen sCap:Nat) (olds:List Value) (hlo:olds.length=sLen*i.size) (holds:∀j v,olds[j]?=some v->w.cell? (b.add j)=some v)
  (n:Nat) (h0:0<n) (hs:0<i.size) (hg:sCap<sLen+n) (h63:((sLen+n:Nat):Int)<=9223372036854775807) (h48:n*i.bytes<=281474976710656) (hfit:Builtin.nextslicecap (sLen+n) sCap*i.bytes<=281474976710656):
  (Builtin.append_ #[t,tn] ty #[.slice (some b) sLen sCap,.int kn n]).run P w=
   .ok (.slice (some ⟨w.heap.size,0,none⟩) (sLen+n) (grownCap w (sLen+n) sCap e))
    (w.drew.alloc (.cells (olds.toArray++Builtin.zeroCells z.cells n++Builtin.zeroCells z.cells (grownCap w (sLen+n) sCap e-(sLen+n))) e)):=by
 have hn:n≠0:=j8;have hn':¬(sLen+n<=sCap):=j8;have hw:IntKind.i64.wrap (n:Int)=n:=by rw [IntKind.wrap_i64];omega
 have h63':¬(9223372036854775807<((sLen:Int)+(n:Int))):=j8;have h48':¬(281474976710656<Builtin.nextslicecap (sLen+n) sCap*i.bytes):=j8
 have h48i:¬(281474976710656<(n:Int)*(i.bytes:Int)):=by
  rw [<-Int.natCast_mul];omega
 have hneg:¬((n:Int)<0):=j8;have hns:¬(n*i.size=0):=Nat.mul_ne_zero hn j6;have hfo:=run_firstCells_some (P:=P) w.drew i.size sLen b sLen sCap olds hlo (by simpa using holds);simp [Builtin.append_,run_underlying ht,run_underlying htn,sizeOf,typeInfo,zeroValue,hi,hz,asInt,asIntOf,hw,hn',hneg,hns,h63',h48',h48i,Question.forced,hfo,newRow,grownCap]
theorem ins_room{X1 X2 Z N:List Value}{a b s:Nat}(h1:X1.length=a)(h2:X2.length=b)(hN:N.length=s)(hz:s<=Z.length)(cur c1:List Value)(hcur:cur=X1++(X2++Z))(hc1:c1=cur.take (a+s)++X2++cur.drop (a+s+X2.length)):
  (c1.take a++N++c1.drop (a+N.length)).take (a+s+b)=X1++N++X2:=by
 have e1:cur.take (a+s)=X1++(X2++Z).take s:=by rw [hcur,List.take_append,h1];simp [List.take_of_length_le (show X1.length<=a+s by omega)]
 have l1:((X2++Z).take s).length=s:=by simp;omega
 have e2:c1.take a=X1:=by
  rw [hc1,e1,List.append_assoc,List.append_assoc,List.take_append,h1];simp [List.take_of_length_le (show X1.length<=a by omega)]
 have e3:c1.drop (a+s)=X2++cur.drop (a+s+X2.length):=by
  rw [hc1,e1,List.append_assoc,List.drop_append];simp only [List.length_append,h1,l1];rw [List.drop_eq_nil_of_le (by simp [h1,l1])];simp
 rw [hN,e2,e3,List.append_assoc,List.append_assoc,<-List.append_assoc X1,List.take_append];rw [List.take_of_length_le ji];simp only [List.length_append,h1,hN];rw [show a+s+b-(a+s)=b by omega,List.take_append,h2];simp [List.take_of_length_le (show X2.length<=b by omega)]
theorem ins_grow{X1 X2 Z N:List Value}{a b s:Nat}(h1:X1.length=a)(h2:X2.length=b)(hN:N.length=s)(_:s+b<=Z.length)(cur c1:List Value)(hcur:cur=X1++Z)(hc1:c1=cur.take a++N++cur.drop (a+N.length)):
  (c1.take (a+s)++X2++c1.drop (a+s+X2.length)).take (a+s+b)=X1++N++X2:=by
 have e1:cur.take a=X1:=by rw [hcur,List.take_append,h1];simp [List.take_of_length_le (show X1.length<=a by omega)]
 have e2:c1.take (a+s)=X1++N:=by
  rw [hc1,e1,List.take_append];simp only [List.length_append,h1,hN];rw [List.take_of_length_le ji];simp
 rw [e2,List.take_append];simp only [List.length_append,h1,hN,h2];rw [List.take_of_length_le ji,show a+s+b-(a+s+b)=0 by omega];simp
def laid(cur:List Value)(o:Nat)(cs:List Value):List Value:=cur.take o++cs++cur.drop (o+cs.length)
theorem Fv(cur:List Value)(o:Nat)(cs:List Value)(h:o+cs.length<=cur.length):(laid cur o cs).length=cur.length:=by simp [laid];omega
theorem Cx{P:Program}{w:World}{ops:Array Oper}{rest:List Oper}{o:Oper}{a:Act}{Q:Exit->Act->World->Prop}(hgd:o.guard=none)(d s:Operand)(dT sT:TypeId)
  (ho:o.op= .call { callee:= .builtin .copy,args:= #[d,s],argTypes:= #[dT,sT] }) (elem:TypeId) (size:Nat) (hu:P.underlying dT=some (.slice elem)) (hsz:(P.info? elem).map (·.size)=some size)
  (g off dLen dCap:Nat) (ad:Addr) (sLen sCap:Nat) (hd:a.eval d= .slice (some ⟨g,off,none⟩) dLen dCap) (hs:a.eval s= .slice (some ad) sLen sCap)
  (cur:List Value) (t:TypeId) (hg:w.heap[g]?=some (.cells cur.toArray t (0,0))) (cs:List Value) (m:Nat) (hm:Nat.min sLen dLen=m) (hn:cs.length=m*size)
  (hsrc:∀j v,cs[j]?=some v->w.cell? (ad.add j)=some v) (hfit:off+cs.length<=cur.length) (h1:∀v∈cs,v.oneCell'=true)
  (h:∀w',w'.heap[g]?=some (.cells (laid cur off cs).toArray t (0,0))->Keeps (λk=>k=g) w w'->wpList P ops Q rest (a.put o.dst (.int .i64 (m:Int))) w'):wpList P ops Q (o::rest) a w:=by
 subst hm;refine wpList_plain hgd λK hK=> ?_;refine j2o ?_;intro hrun;exact hK _ _ (h _ (setRow_heap w g _ _ t _ hg) ⟨rfl,rfl,rfl,by simp,λk _ hk=>setRow_other w g k _ hk⟩)
theorem Dp{P:Program}{ops:Array Oper}{o:Oper}{a:Act}{w:World}{K:Act->World->Prop}{Q:Exit->Act->World->Prop}{E:Prop}(hgd:o.guard=none)(d s:Operand)(dT sT:TypeId)
  (ho:o.op= .call { callee:= .builtin .copy,args:= #[d,s],argTypes:= #[dT,sT] }) (elem:TypeId) (size:Nat) (hu:P.underlying dT=some (.slice elem)) (hsz:(P.info? elem).map (·.size)=some size)
  (g off dLen dCap:Nat) (ad:Addr) (sLen sCap:Nat) (hd:a.eval d= .slice (some ⟨g,off,none⟩) dLen dCap) (hs:a.eval s= .slice (some ad) sLen sCap)
  (cur:List Value) (t:TypeId) (hg:w.heap[g]?=some (.cells cur.toArray t (0,0))) (cs:List Value) (m:Nat) (hm:Nat.min sLen dLen=m) (hn:cs.length=m*size)
  (hsrc:∀j v,cs[j]?=some v->w.cell? (ad.add j)=some v) (hfit:off+cs.length<=cur.length) (h1:∀v∈cs,v.oneCell'=true)
  (h:∀w',w'.heap[g]?=some (.cells (laid cur off cs).toArray t (0,0))->Keeps (λk=>k=g) w w'->K (a.put o.dst (.int .i64 (m:Int))) w'):
  if Region.wanted o (yielded ops a.tmps)=true then Oper.wp P o a w K Q else E:=by
 have hw:Region.wanted o (yielded ops a.tmps)=true:=by simp [Region.wanted,hgd]
 rw [if_pos hw];subst hm;refine j2o ?_;intro hrun;exact h _ (setRow_heap w g _ _ t _ hg) ⟨rfl,rfl,rfl,by simp,λk _ hk=>setRow_other w g k _ hk⟩
theorem Uj{w w1:World}{o:Obj}{e:TypeId}{size:Nat}{v v':Value}{n:Nat}{zs:List Value}(h1:w1.ownsRow 0 e size v' n zs)(h2:Keeps (λk=>v.ownBlock=some k) (w.alloc o) w1)(h3:v'.ownBlock=v.ownBlock\/∃g,v'.ownBlock=some g/\w.heap.size+1<=g):
  w1.ownsRow 0 e size v' n zs/\Keeps (λk=>v.ownBlock=some k) w w1/\(v'.ownBlock=v.ownBlock\/∃g,v'.ownBlock=some g/\w.heap.size<=g):=
 ⟨h1,(Keeps.alloc w o).trans (h2.mono λ_ _ h=> .inl h),h3.imp id fun⟨g,hg,hh⟩=>⟨g,hg,by omega⟩⟩
theorem Nh{P:Program}{w:World}{ops:Array Oper}{rest:List Oper}{o:Oper}{a:Act}{Q:Exit->Act->World->Prop}(hgd:o.guard=none)(s x:Operand)(t tn:TypeId)
  (ho:o.op= .call { callee:= .builtin .append,args:= #[s,x],argTypes:= #[t,tn] }) (e:TypeId) (i:TypeInfo) (z:Value) (size bytes:Nat) (kn:IntKind) (ht:P.underlying t=some (.slice e)) (htn:P.underlying tn=some (.int kn)) (hi:P.info? e=some i) (hz:i.zero=some z)
  (hsize:i.size=size) (hby:i.bytes=bytes) (hzs:z.cells.size=size) (hs0:0<size)
  (b:Addr) (sLen sCap:Nat) (olds:List Value) (n:Nat) (hs:a.eval s= .slice (some b) sLen sCap) (hx:a.eval x= .int kn n) (hlo:olds.length=sLen*size) (holds:∀j v,olds[j]?=some v->w.cell? (b.add j)=some v)
  (h0:0<n) (hg:sCap<sLen+n) (h63:sLen+n<=1000000000002) (hbb:bytes<=100)
  (h:∀G Z w',sLen+n<=G->G<=maxLen->Z.length=(G-sLen)*size->w'.heap[w.heap.size]?=some (.cells (olds++Z).toArray e (0,0))->K0 w w'->wpList P ops Q rest (a.put o.dst (.slice (some ⟨w.heap.size,0,none⟩) (sLen+n) G)) w'):
  wpList P ops Q (o::rest) a w:=by
 subst hsize;subst hby
 have hb1:(sLen+n)*i.bytes<=140737488355328:=Nat.le_trans (Nat.mul_le_mul h63 hbb) j6;have hb2:n*i.bytes<=281474976710656:=Nat.le_trans (Nat.mul_le_mul_right _ (Nat.le_add_left n sLen)) j6;have hr:=run_append_grow_zeros (P:=P) w t tn o.type e i z kn ht htn hi hz b sLen sCap olds hlo holds n h0 hs0 hg j6 hb2 (growslice_fits hg hb1);refine Lib.wpList_append_run w hgd s x t tn ho _ _ hs hx _ _ hr ?_;have hge:=grownCap_ge w (sLen+n) sCap e;have hcm:=grownCap_le_maxLen w (sLen+n) sCap e jd;refine h _ ((Builtin.zeroCells z.cells n++Builtin.zeroCells z.cells (grownCap w (sLen+n) sCap e-(sLen+n))).toList) _ hge hcm ?_ ?_ ((Keeps.drew w).trans (Keeps.alloc _ _))
 ·simp only [Array.toList_append,List.length_append,Array.length_toList,size_zeroCells,hzs,<-Nat.add_mul]
  congr 1
  omega
 ·have:=heap_alloc_new w.drew (.cells (olds.toArray++Builtin.zeroCells z.cells n++Builtin.zeroCells z.cells (grownCap w (sLen+n) sCap e-(sLen+n))) e);rw [show w.drew.heap.size=w.heap.size from rfl] at this;rw [this]
  congr 2
  apply Array.ext'
  simp
theorem Kr:(Tryz.prog.info? 5).map (λi=>(i.zero,i.size,i.bytes))=some (some (.int .u8 0),1,1):=by kernel_rfl
structure Grown(w w':World)(v v':Value)(B:List Int):Prop where
 row:w'.ownsRow 0 5 1 v' B.length (B.flatMap u8c)
 kp:Keeps (λk=>v.ownBlock=some k) w w'
 nw:v'.ownBlock=v.ownBlock\/∃g,v'.ownBlock=some g/\w.heap.size<=g
theorem Grown.refl{w:World}{v:Value}{B:List Int}(h:w.ownsRow 0 5 1 v B.length (B.flatMap u8c)):Grown w w v v B:=⟨h,Keeps.refl _ _,.inl rfl⟩
theorem Grown.app{w wr w4:World}{v v' v4:Value}{B:List Int}{z:Int}{o:Obj}{xs:List Value}{n:Nat}(h:Grown w wr v v' B)(hx:xs=B.flatMap u8c++ [.int .u8 z])(hn:n=B.length+1)(ho:w4.ownsRow 0 5 1 v4 n xs)(hk:Keeps (λk=>v'.ownBlock=some k) (wr.alloc o) w4)(hf:v4.ownBlock=v'.ownBlock\/∃g,v4.ownBlock=some g/\wr.heap.size+1<=g):Grown w w4 v v4 (B++ [z]):=by
 subst hx hn;have hs:=h.kp.size;have hk':Keeps (λk=>v'.ownBlock=some k) wr w4:=(Keeps.alloc _ _).trans (hk.mono λ_ _ h=> .inl h);refine⟨by simpa [List.flatMap_append,u8c] using ho,h.kp.trans (hk'.mono λk _ hk=> ?_), ?_⟩
 ·rcases h.nw with e|⟨g,hg,hh⟩
  ·left;rw [<-e];exact hk
  ·right;rw [hg] at hk;simp only [Option.some.injEq] at hk;omega
 ·rcases hf with e|⟨g,hg,hh⟩
  ·rcases h.nw with e'|⟨g,hg,hh⟩
   ·left;rw [e,e']
   ·right;exact⟨g,by rw [e,hg],hh⟩
  ·right;exact⟨g,hg,by omega⟩
theorem Grown.reads{w w':World}{v v' x:Value}{B:List Int}{size m:Nat}{news:List Value}(h:Grown w w' v v' B)(hr:Reads w size x m news)(hap:∀g,x.ownBlock=some g->v.ownBlock≠some g):Reads w' size x m news:=
 hr.keeps h.kp λg hg hv=>hap g hg hv
theorem Lm(v:Value)(B:List Int)(ad:Option Addr)(cap:Nat)(L:List Int)(w:World)(ho:w.ownsRow 0 5 1 v B.length (B.flatMap u8c))(hr:Reads w 1 (.slice ad L.length cap) L.length (L.flatMap i64c))
  (hap:∀g,(Value.slice ad L.length cap).ownBlock=some g->v.ownBlock≠some g) (hl:B.length+8*L.length<=1000000):
  Calls Tryz.prog 41 #[v,.slice ad L.length cap] w λe w'=>∃v',e= .returned v'/\Grown w w' v v' (B++packN L):=by
 obtain⟨i0,hi,hi0,hi1,hi2⟩:=info_parts Kr;obtain⟨av,capv,rfl,hcv,_⟩:=Ae ho;have hgr:=Grown.refl ho;clear ho;obtain⟨Hr,Hap,Hgr⟩:=hid3 hr hap hgr;clear hgr hap hr;go_enter Tryz.func41,Tryz.ntmps41;go_wp2
 go_loopw [0,10] (λa c wr=>∃(j:Nat) (va:Value),j<=L.length/\c= .int .i64 (j:Nat)/\a=va/\Grown w wr (.slice av B.length capv) va (B++packN (L.take j))) (λ_ c _=>L.length-(intOf c).toNat)
 case atStart=>exact⟨0,_,Nat.zero_le _,rfl,rfl,by simpa [packN] using Hgr.o⟩
 case round=>
  obtain⟨j,va,hj,rfl,rfl,hg⟩:=hrel;by_cases hjl:j<L.length
  ·obtain⟨x,hx⟩:=Ar hjl;obtain⟨g,o,rfl,x0⟩:=(hg.reads Hr.o Hap.o).int hx;obtain⟨C,hC⟩:=eX (B++packN (L.take j));have hCl:C.length<=999992:=by rw [<-hC,List.length_append,Pw,List.length_take];omega
   have hnx:B++packN (L.take (j+1))=C++eight x:=by rw [take_snoc' hx,Yq,<-List.append_assoc,hC];simp [packN]
   rw [hC] at hg;clear hx;have Hg:=Lib.hid hg;clear hg hC;have Hnx:=Lib.hid hnx;clear hnx;go_wp2
   go_loopw [0,7] (λa c wr=>∃(i:Nat) (va:Value),i<=8/\c= .int .i64 (56-8*(i:Int))/\a=va/\Grown w wr (.slice av B.length capv) va (C++(eight x).take i)) (λ_ c _=>(intOf c+8).toNat)
   case atStart=>exact⟨0,_,Nat.zero_le _,rfl,rfl,by simpa using Hg.o⟩
   case round=>
    obtain⟨i,va,hi8,rfl,rfl,hg⟩:=hrel;obtain⟨K,hK⟩:∃K:Int,56-8*(i:Int)=K:=⟨_,rfl⟩;rw [hK];have hrow:=hg.row;have hEl:(C++(eight x).take i).length<=1000000:=by rw [List.length_append,List.length_take,De];omega
    obtain⟨av',capv',rfl,hcv',_⟩:=Ae hrow;obtain⟨E,hE⟩:=eX (C++(eight x).take i);rw [hE] at hg hrow hEl hcv'⊢;by_cases hi7:i<8
    ·rcases(show i=0\/i=1\/i=2\/i=3\/i=4\/i=5\/i=6\/i=7 by omega) with rfl|rfl|rfl|rfl|rfl|rfl|rfl|rfl
     ·
      obtain rfl:K=56:=by omega
      obtain⟨Hg,Hrow,HE⟩:=hid3 hg hrow hE;clear hE hrow hg
      go_wp2_with (at_builtin;refine Am rfl (.tmp 18) (.tmp 23) 22 rfl 0 5 i0 _ 1 1 Tryz.underlying22 hi hi0 hi1 hi2 rfl j7 (.slice av' E.length capv') E.length _ rfl (Hrow.o.alloc _) _ 1 _ rfl (Reads.lit _ _ _ _ _ rfl) jf jd j6 j6 ?_)
      refine jV ?_;intro v4 w4 Hg4;go_wp2;go_roundw
      case rel=>exact⟨0+1,_,by omega,by go_num,rfl,by have:=Hg4.o;rw [<-HE.o,List.append_assoc] at this;first|exact this|(simp at this⊢;exact this)⟩
      case measure=>simp [intOf]
     ·
      obtain rfl:K=48:=by omega
      obtain⟨Hg,Hrow,HE⟩:=hid3 hg hrow hE;clear hE hrow hg
      go_wp2_with (at_builtin;refine Am rfl (.tmp 18) (.tmp 23) 22 rfl 0 5 i0 _ 1 1 Tryz.underlying22 hi hi0 hi1 hi2 rfl j7 (.slice av' E.length capv') E.length _ rfl (Hrow.o.alloc _) _ 1 _ rfl (Reads.lit _ _ _ _ _ rfl) jf jd j6 j6 ?_)
      refine jV ?_;intro v4 w4 Hg4;go_wp2;go_roundw
      case rel=>exact⟨1+1,_,by omega,by go_num,rfl,by have:=Hg4.o;rw [<-HE.o,List.append_assoc] at this;first|exact this|(simp at this⊢;exact this)⟩
      case measure=>simp [intOf]
     ·
      obtain rfl:K=40:=by omega
      obtain⟨Hg,Hrow,HE⟩:=hid3 hg hrow hE;clear hE hrow hg
      go_wp2_with (at_builtin;refine Am rfl (.tmp 18) (.tmp 23) 22 rfl 0 5 i0 _ 1 1 Tryz.underlying22 hi hi0 hi1 hi2 rfl j7 (.slice av' E.length capv') E.length _ rfl (Hrow.o.alloc _) _ 1 _ rfl (Reads.lit _ _ _ _ _ rfl) jf jd j6 j6 ?_)
      refine jV ?_;intro v4 w4 Hg4;go_wp2;go_roundw
      case rel=>exact⟨2+1,_,by omega,by go_num,rfl,by have:=Hg4.o;rw [<-HE.o,List.append_assoc] at this;first|exact this|(simp at this⊢;exact this)⟩
      case measure=>simp [intOf]
     ·
      obtain rfl:K=32:=by omega
      obtain⟨Hg,Hrow,HE⟩:=hid3 hg hrow hE;clear hE hrow hg
      go_wp2_with (at_builtin;refine Am rfl (.tmp 18) (.tmp 23) 22 rfl 0 5 i0 _ 1 1 Tryz.underlying22 hi hi0 hi1 hi2 rfl j7 (.slice av' E.length capv') E.length _ rfl (Hrow.o.alloc _) _ 1 _ rfl (Reads.lit _ _ _ _ _ rfl) jf jd j6 j6 ?_)
      refine jV ?_;intro v4 w4 Hg4;go_wp2;go_roundw
      case rel=>exact⟨3+1,_,by omega,by go_num,rfl,by have:=Hg4.o;rw [<-HE.o,List.append_assoc] at this;first|exact this|(simp at this⊢;exact this)⟩
      case measure=>simp [intOf]
     ·
      obtain rfl:K=24:=by omega
      obtain⟨Hg,Hrow,HE⟩:=hid3 hg hrow hE;clear hE hrow hg
      go_wp2_with (at_builtin;refine Am rfl (.tmp 18) (.tmp 23) 22 rfl 0 5 i0 _ 1 1 Tryz.underlying22 hi hi0 hi1 hi2 rfl j7 (.slice av' E.length capv') E.length _ rfl (Hrow.o.alloc _) _ 1 _ rfl (Reads.lit _ _ _ _ _ rfl) jf jd j6 j6 ?_)
      refine jV ?_;intro v4 w4 Hg4;go_wp2;go_roundw
      case rel=>exact⟨4+1,_,by omega,by go_num,rfl,by have:=Hg4.o;rw [<-HE.o,List.append_assoc] at this;first|exact this|(simp at this⊢;exact this)⟩
      case measure=>simp [intOf]
     ·
      obtain rfl:K=16:=by omega
      obtain⟨Hg,Hrow,HE⟩:=hid3 hg hrow hE;clear hE hrow hg
      go_wp2_with (at_builtin;refine Am rfl (.tmp 18) (.tmp 23) 22 rfl 0 5 i0 _ 1 1 Tryz.underlying22 hi hi0 hi1 hi2 rfl j7 (.slice av' E.length capv') E.length _ rfl (Hrow.o.alloc _) _ 1 _ rfl (Reads.lit _ _ _ _ _ rfl) jf jd j6 j6 ?_)
      refine jV ?_;intro v4 w4 Hg4;go_wp2;go_roundw
      case rel=>exact⟨5+1,_,by omega,by go_num,rfl,by have:=Hg4.o;rw [<-HE.o,List.append_assoc] at this;first|exact this|(simp at this⊢;exact this)⟩
      case measure=>simp [intOf]
     ·
      obtain rfl:K=8:=by omega
      obtain⟨Hg,Hrow,HE⟩:=hid3 hg hrow hE;clear hE hrow hg
      go_wp2_with (at_builtin;refine Am rfl (.tmp 18) (.tmp 23) 22 rfl 0 5 i0 _ 1 1 Tryz.underlying22 hi hi0 hi1 hi2 rfl j7 (.slice av' E.length capv') E.length _ rfl (Hrow.o.alloc _) _ 1 _ rfl (Reads.lit _ _ _ _ _ rfl) jf jd j6 j6 ?_)
      refine jV ?_;intro v4 w4 Hg4;go_wp2;go_roundw
      case rel=>exact⟨6+1,_,by omega,by go_num,rfl,by have:=Hg4.o;rw [<-HE.o,List.append_assoc] at this;first|exact this|(simp at this⊢;exact this)⟩
      case measure=>simp [intOf]
     ·
      obtain rfl:K=0:=by omega
      obtain⟨Hg,Hrow,HE⟩:=hid3 hg hrow hE;clear hE hrow hg
      go_wp2_with (at_builtin;refine Am rfl (.tmp 18) (.tmp 23) 22 rfl 0 5 i0 _ 1 1 Tryz.underlying22 hi hi0 hi1 hi2 rfl j7 (.slice av' E.length capv') E.length _ rfl (Hrow.o.alloc _) _ 1 _ rfl (Reads.lit _ _ _ _ _ rfl) jf jd j6 j6 ?_)
      refine jV ?_;intro v4 w4 Hg4;go_wp2;go_roundw
      case rel=>exact⟨7+1,_,by omega,by go_num,rfl,by have:=Hg4.o;rw [<-HE.o,List.append_assoc] at this;first|exact this|(simp at this⊢;exact this)⟩
      case measure=>simp [intOf]
    ·obtain rfl:i=8:=by omega
     have hK':K= -8:=j8;subst hK';rw [List.take_of_length_le (by rw [De];omega)] at hE;obtain⟨Hg,Hrow,HE⟩:=hid3 hg hrow hE;clear hE hrow hg;go_wp2;go_roundw
     case rel=>exact⟨j+1,_,by omega,by go_num,rfl,by rw [Hnx.o,HE.o];exact Hg.o⟩
     case measure=>simp [intOf];omega
  ·obtain rfl:j=L.length:=by omega
   rw [List.take_length] at hg;have Hg:=Lib.hid hg;clear hg;go_wp2;go_ret;exact⟨_,rfl,Hg.o⟩
theorem Keeps.Ce{a b c:World}(h:K0 a b)(k:K0 b c):K0 a c:=h.trans (k.mono (by simp))
theorem Wh(w:World)(v:Value)(n:Nat)(xs:List Value)(hr:Reads w 3 v n xs)(h1:∀u∈xs,u.oneCell'=true)(hn:n<=1000000000000):
  Calls Tryz.prog 111 #[v] w λe w'=>∃v',e= .returned v'/\w'.ownsRow 0 212 3 v' n xs/\K0 w w'/\(∀k,v'.ownBlock=some k->w.heap.size<=k):=by
 obtain⟨i0,hi,hz0,hz1,hz2⟩:=info_parts Ul;have hr':=hr;obtain⟨ad,c,rfl,hnc,hl,hnone,hcells⟩:=hr';clear hcells;have heq:=fun(wx:World) (ad:Option Addr) (l c:Nat)=>Lib.run_eql_slice_nil (P:=Tryz.prog) wx 57 _ ad l c 0 0 Tryz.underlying57;rcases ad with _|a
 ·obtain rfl:=hnone rfl;obtain rfl:n=0:=by omega
  obtain rfl:xs= []:=List.eq_nil_of_length_eq_zero jL;clear hr;go_enter Tryz.func111,Tryz.ntmps111;exact jW
 ·have Hr:=Lib.hid hr;clear hr;clear hl hnone;have H1:=Lib.hid h1;clear h1;go_enter Tryz.func111,Tryz.ntmps111
  go_wp2_with (at_builtin;refine Am rfl (.tmp 5) (.tmp 6) 57 rfl 0 212 i0 _ 3 24 Tryz.underlying57 hi hz0 hz1 hz2 rfl j7 _ 0 [] rfl (World.ownsRow_lit w #[] 0 j6 jd rfl) _ n xs rfl (Hr.o.keeps (Keeps.alloc (S:=λ_=>False) _ _) (by simp)) H1.o jd j6 j6 ?_)
  intro v' w1 hown1 hk1 hfr
  have hend:w1.ownsRow 0 212 3 v' n xs/\K0 w w1/\(∀k,v'.ownBlock=some k->w.heap.size<=k):=by
   exact jX
  exact jY
def Mo(L M:List SV)(n:Nat):Prop:=∀i a b,i<n->L[i]?=some a->M[i]?=some b->Gx a.s b.s=true
theorem Sk(a b:Stm)(ad1 ad2:Option Addr)(c1 c2:Nat)(w:World){r:Bool}(hr:Gx a b=r):
  Calls Tryz.prog 139 #[.agg #[.int .i64 a.cycle,.int .i64 a.fr,.int .i64 a.te,.int .i64 a.due,.slice ad1 a.lines.length c1,.int .i64 a.total,.int .i64 a.credit,.int .i64 a.min,.bool a.grace],.agg #[.int .i64 b.cycle,.int .i64 b.fr,.int .i64 b.te,.int .i64 b.due,.slice ad2 b.lines.length c2,.int .i64 b.total,.int .i64 b.credit,.int .i64 b.min,.bool b.grace]] w λe w'=>e= .returned (.bool r)/\K0 w w':=by
 subst hr;exact Zw a b ad1 ad2 c1 c2 w
theorem Ze(ad1 ad2:Option Addr)(c1 c2:Nat)(L M:List SV)(w:World)(h1:Reads w 9 (.slice ad1 L.length c1) L.length (L.flatMap SV.cells))(h2:Reads w 9 (.slice ad2 M.length c2) M.length (M.flatMap SV.cells))(hl:L.length<=1000000)(hm:M.length<=1000000):
  Calls Tryz.prog 138 #[.slice ad1 L.length c1,.slice ad2 M.length c2,.func (.func 139) #[] #[]] w λe w'=>∃r:Bool,e= .returned (.bool r)/\(r=true↔L.length=M.length/\Mo L M L.length)/\K0 w w':=by
 obtain⟨n,hn⟩:=eX L.length;obtain⟨m,hm'⟩:=eX M.length;rw [hn] at h1 hl⊢;rw [hm'] at h2 hm⊢;by_cases hnm:n=m
 ·subst hnm;obtain⟨H1,H2,Hn,Hm'⟩:=hid4 h1 h2 hn hm';clear hm' hn h2 h1;go_enter Tryz.func138,Tryz.ntmps138;go_wp2_with fail
  go_loopw [17] (λc wr=>∃j:Nat,j<=n/\c= .int .i64 (j:Nat)/\Mo L M j/\K0 w wr) (λc _=>n-(intOf c).toNat)
  case atStart=>exact⟨0,Nat.zero_le _,rfl,λi a b h=>by omega,Keeps.refl _ _⟩
  case round=>
   obtain⟨j,hj,rfl,hal,hk⟩:=hrel;by_cases hjn:j<n
   ·obtain⟨a,ha⟩:=Ar (L:=L) (k:=j) (by rw [Hn.o];exact hjn);obtain⟨b,hb⟩:=Ar (L:=M) (k:=j) (by rw [Hm'.o];exact hjn);obtain⟨g,o,c,he,hc⟩:=(H1.o.keeps hk (by simp)).elem SV.Aj ha j7;obtain⟨g',o',c',he',hc'⟩:=(H2.o.keeps hk (by simp)).elem SV.Aj hb j7;simp only [Value.slice.injEq,true_and] at he he';obtain⟨rfl,rfl⟩:=he;obtain⟨rfl,rfl⟩:=he';have x0:wr.cell? ⟨g,o+j*9,none⟩=some (.int .i64 a.s.cycle):=hc 0 j7;have x1:wr.cell? ⟨g,o+j*9+1,none⟩=some (.int .i64 a.s.fr):=hc 1 j7;have x2:wr.cell? ⟨g,o+j*9+2,none⟩=some (.int .i64 a.s.te):=hc 2 j7;have x3:wr.cell? ⟨g,o+j*9+3,none⟩=some (.int .i64 a.s.due):=hc 3 j7;have x4:wr.cell? ⟨g,o+j*9+4,none⟩=some (.slice a.ad a.s.lines.length a.cap):=hc 4 j7;have x5:wr.cell? ⟨g,o+j*9+5,none⟩=some (.int .i64 a.s.total):=hc 5 j7;have x6:wr.cell? ⟨g,o+j*9+6,none⟩=some (.int .i64 a.s.credit):=hc 6 j7;have x7:wr.cell? ⟨g,o+j*9+7,none⟩=some (.int .i64 a.s.min):=hc 7 j7;have x8:wr.cell? ⟨g,o+j*9+8,none⟩=some (.bool a.s.grace):=hc 8 j7;have y0:wr.cell? ⟨g',o'+j*9,none⟩=some (.int .i64 b.s.cycle):=hc' 0 j7;have y1:wr.cell? ⟨g',o'+j*9+1,none⟩=some (.int .i64 b.s.fr):=hc' 1 j7;have y2:wr.cell? ⟨g',o'+j*9+2,none⟩=some (.int .i64 b.s.te):=hc' 2 j7;have y3:wr.cell? ⟨g',o'+j*9+3,none⟩=some (.int .i64 b.s.due):=hc' 3 j7;have y4:wr.cell? ⟨g',o'+j*9+4,none⟩=some (.slice b.ad b.s.lines.length b.cap):=hc' 4 j7;have y5:wr.cell? ⟨g',o'+j*9+5,none⟩=some (.int .i64 b.s.total):=hc' 5 j7;have y6:wr.cell? ⟨g',o'+j*9+6,none⟩=some (.int .i64 b.s.credit):=hc' 6 j7;have y7:wr.cell? ⟨g',o'+j*9+7,none⟩=some (.int .i64 b.s.min):=hc' 7 j7;have y8:wr.cell? ⟨g',o'+j*9+8,none⟩=some (.bool b.s.grace):=hc' 8 j7;have hgl':=Ai y0;clear hc hc';rcases hab:Gx a.s b.s with _|_
    ·have hno:¬Mo L M n:=λh=>by have:=h j a b hjn ha hb;rw [hab] at this;simp at this
     clear ha hb;obtain⟨Hal,Hk,Hab,Hno⟩:=hid4 hal hk hab hno;clear hno hab hk hal
     go_wp2_with (go_at_call 139;refine(Sk _ _ _ _ _ _ _ Hab.o).mono ?_;rintro e w3 ⟨rfl,hk3⟩;have Hk3:=Lib.hid hk3;clear hk3)
     go_ret;exact⟨false,rfl,by simp;exact Hno.o,(Hk.o.Ce ((Keeps.alloc _ _).Ce (Keeps.alloc _ _))).Ce Hk3.o⟩
    ·have hal':Mo L M (j+1):=λi a' b' hi ha' hb'=>by
      by_cases hij:i<j
      ·exact hal i a' b' hij ha' hb'
      ·obtain rfl:i=j:=by omega
       rw [ha] at ha';rw [hb] at hb'
       cases ha';cases hb';exact hab
     clear ha hb;obtain⟨Hal,Hk,Hab,Hal'⟩:=hid4 hal hk hab hal';clear hal' hab hk hal
     go_wp2_with (go_at_call 139;refine(Sk _ _ _ _ _ _ _ Hab.o).mono ?_;rintro e w3 ⟨rfl,hk3⟩;have Hk3:=Lib.hid hk3;clear hk3)
     go_roundw
     case rel=>exact⟨j+1,by omega,by go_num,Hal'.o,(Hk.o.Ce ((Keeps.alloc _ _).Ce (Keeps.alloc _ _))).Ce Hk3.o⟩
     case measure=>simp [intOf];omega
   ·obtain rfl:j=n:=by omega
    obtain⟨Hal,Hk⟩:=hid2 hal hk;clear hk hal;go_wp2_with fail;go_ret;exact⟨true,rfl,by simp;exact Hal.o,Hk.o⟩
 ·have hnm':¬(n:Int)=(m:Int):=j8;obtain⟨H1,H2,Hn,Hm'⟩:=hid4 h1 h2 hn hm';clear hm' hn h2 h1;go_enter Tryz.func138,Tryz.ntmps138;go_wp2_with fail;go_ret;exact⟨false,rfl,by simp [hnm],Keeps.refl _ _⟩
structure Adj where
 seq:Int
 cycle:Int
 tranche:Int
 balance:Int
 interest:Int
 total:Int
 credit:Int
 min:Int
 grace:Int
deriving DecidableEq,Inhabited
def Adj.cells(d:Adj):List Value:= [.int .i64 d.seq,.int .i64 d.cycle,.int .i64 d.tranche,.int .i64 d.balance,.int .i64 d.interest,.int .i64 d.total,.int .i64 d.credit,.int .i64 d.min,.int .i64 d.grace]
theorem Adj.Aj(d:Adj):d.cells.length=9:=rfl
theorem Adj.one(L:List Adj):∀u∈L.flatMap Adj.cells,u.oneCell'=true:=by
 intro u hu;obtain⟨d,_,hd⟩:=List.mem_flatMap.1 hu;simp only [Adj.cells,List.mem_cons,List.not_mem_nil,or_false] at hd;rcases hd with rfl|rfl|rfl|rfl|rfl|rfl|rfl|rfl|rfl<;>rfl
def Adj.agg(a:Adj):Value:= .agg #[.int .i64 a.seq,.int .i64 a.cycle,.int .i64 a.tranche,.int .i64 a.balance,.int .i64 a.interest,.int .i64 a.total,.int .i64 a.credit,.int .i64 a.min,.int .i64 a.grace]
theorem Keeps.nt{a b c:World}(h:K0 a b)(k:K0 b c):K0 a c:=h.trans (k.mono (by simp))
theorem Keeps.Ao{S:Nat->Prop}{w w':World}(h:Keeps S w w'):Keeps S w w'.drew:=h.trans (Keeps.drew _)
theorem Keeps.Al{S:Nat->Prop}{w w':World}{n:Nat}(h:Keeps S w w'):Keeps S w (w'.drewN n):=h.trans (Keeps.drewN _ _)
theorem Keeps.Af{S:Nat->Prop}{w w':World}{o:Obj}(h:Keeps S w w'):Keeps S w (w'.alloc o):=h.trans (Keeps.alloc _ _)
theorem _root_.Go.World.ownsRow.of_keeps{w w':World}{base:Nat}{e:TypeId}{size:Nat}{v:Value}{n:Nat}{xs:List Value}(h:w.ownsRow base e size v n xs)(hk:K0 w w'):w'.ownsRow base e size v n xs:=hk.row h (by simp)
section
variable {P:Program} {md:Region.Mode} {ops:Array Oper} {Q:Exit->Act->World->Prop} {S:World->Prop}
def PureAt(P:Program)(v:Value)(w:World)(r:Result Next):Prop:=
 r= .ok (.value v) w\/∃f args,r= .ok (.enter f args) w/\Calls P f args w λe w''=>e= .returned v/\w''=w
def Fp(P:Program)(ops:Array Oper)(S:World->Prop)(o:Oper)(v:Value)(a:Act):Prop:=
 (Region.wanted o (yielded ops a.tmps)=true/\∀w,S w->PureAt P v w ((execOp a.eval o).run P w))\/(Region.wanted o (yielded ops a.tmps)=false/\v=undef)
theorem Fp.wpOp{i:Nat}{o:Oper}{v:Value}{a:Act}(hi:ops[i]?=some o)(hy:Fp P ops S o v a){K:Act->World->Prop}{w:World}(hS:S w)(h:K (a.put o.dst v) w):wpOp P ops Q i K a w:=by
 unfold Go.wpOp;rw [hi];rcases hy with⟨hw,hv⟩|⟨hw,rfl⟩
 ·show if Region.wanted o (yielded ops a.tmps)=true then _ else _;rw [if_pos hw];refine .inl ?_;unfold Oper.wp;rcases hv w hS with hr|⟨f,args,hr,hc⟩
  ·rw [hr];exact h
  ·rw [hr];refine Calls.mono hc ?_;rintro e w'' ⟨rfl,rfl⟩;exact h
 ·show if Region.wanted o (yielded ops a.tmps)=true then _ else _;rw [if_neg (by rw [hw];exact Bool.false_ne_true)];exact h
theorem Fp.same{o:Oper}{v:Value}{a a':Act}(hy:Fp P ops S o v a)(he:execOp a'.eval o=execOp a.eval o)(hw:Region.wanted o (yielded ops a'.tmps)=Region.wanted o (yielded ops a.tmps)):Fp P ops S o v a':=by
 unfold Fp;rw [he,hw];exact hy
theorem Wp{j:Nat}{oj:Oper}{d:Option Tmp}{v:Value}(hj:ops[j]?=some oj)(h1:∀t,d=some t->t∉oj.looksAt ops)(h2:∀t,d=some t->oj.dst≠some t)(hsj:∀cs b,oj.op≠ .select cs b)
  (hQ:∀c a w,Q (.panic c) (a.put d v) w->Q (.panic c) a w) {Y:Act->Prop} (hY:∀a u,Y a->Y (a.put oj.dst u)) (hYd:∀(a:Act) x,Y a->Y { a with defers:=x::a.defers }) {K:Act->World->Prop} {a:Act} {w:World}
  (hy:Y a) (h:wpOp P ops Q j K (a.put d v) w):wpOp P ops Q j (λa' w'=>Y a'/\K (a'.put d v) w') a w:=by
 have hput:∀(b:Act) u,K ((b.put d v).put oj.dst u)=K ((b.put oj.dst u).put d v):=λb u=>by rw [Act.put_comm b v u h2]
 unfold Go.wpOp at h⊢;rw [hj] at h⊢;have h':if Region.wanted oj (yielded ops (a.put d v).tmps)=true then Oper.wp P oj (a.put d v) w K Q\/(oj.asks P (a.put d v) w/\LetsOut Q) else K ((a.put d v).put oj.dst undef) w:=h;rw [wanted_put oj a d v h1] at h';show if Region.wanted oj (yielded ops a.tmps)=true then _ else _;by_cases hw:Region.wanted oj (yielded ops a.tmps)=true
 ·rw [if_pos hw] at h'⊢;rcases h' with h'|⟨ha,hl⟩
  ·refine .inl ?_;unfold Oper.wp at h'⊢;rw [execOp_put oj hsj a d v h1] at h';rcases hr:(execOp a.eval oj).run P w with⟨n,w'⟩|⟨x,w'⟩
   ·rw [hr] at h'
    cases n with
    |value u=>exact⟨hY a u hy,by rw [<-hput];exact h'⟩
    |skip=>exact⟨hY a _ hy,by rw [<-hput];exact h'⟩
    |defer x=>
     refine⟨hY _ _ (hYd a x hy), ?_⟩;rw [<-hput,<-Act.put_defers];exact h'
    |enter f args=>
     refine Calls.mono h' λe w'' he=> ?_
     cases e with
     |returned u=>exact⟨hY a u hy,by rw [<-hput];exact he⟩
     |panicked c=>exact hQ _ _ _ he
     |outgrown=>exact he
    |row f args=>exact Rows.mono h' λu w'' he=>⟨hY a u hy,by rw [<-hput];exact he⟩
    |_=>exact h'
   ·rw [hr] at h'
    cases x with
    |panic u=>exact hQ _ _ _ h'
    |_=>exact h'
  ·exact .inr ⟨by unfold Oper.asks at ha⊢;rw [execOp_put oj hsj a d v h1] at ha;exact ha,hl⟩
 ·rw [if_neg hw] at h'⊢;exact⟨hY a _ hy,by rw [<-hput];exact h'⟩
def Kg(P:Program)(md:Region.Mode)(ops:Array Oper)(Q:Exit->Act->World->Prop)(S:World->Prop)(z:Nat):Nat->Array Bool->Act->World->Prop
 |0,listed,a,w=>Region.ready md ops listed= []/\Q .normal a w
 |fuel+1,listed,a,w=>(Region.ready md ops listed= []->Q .normal a w)/\
   ∀i∈Region.ready md ops listed,wpOp P ops Q i (λa' w'=>(i=z\/S w')/\Kg P md ops Q S z fuel (listed.setIfInBounds i true) a' w') a w
theorem Ke{z:Nat}:∀(fuel:Nat) (listed:Array Bool) (a:Act) (w:World),Kg P md ops Q S z fuel listed a w->wpAny P md ops Q fuel listed a w
 |0,_,_,_,h=>h
 |fuel+1,_,_,_,h=>⟨h.1,λi hi=>wpOp_mono (λa' w' h'=>Ke fuel _ a' w' h'.2) (h.2 i hi)⟩
theorem Rl{z:Nat}{listed:Array Bool}{a:Act}{w:World}(hr:Region.ready md ops listed= [])(h:Q .normal a w):∀fuel,Kg P md ops Q S z fuel listed a w
 |0=>⟨hr,h⟩
 |_+1=>⟨λ_=>h,by rw [hr];simp⟩
def lastB(md:Region.Mode)(ops:Array Oper)(z:Nat):Bool:=match ops[z]? with
 |none=>true
 |some o=>(List.range ops.size).all λk=>k==z||o.after.any λe=>Region.binds md e&&e.on==k
theorem Rk{z i:Nat}{oi:Oper}{v:Value}(hi:ops[i]?=some oi)(hz:lastB md ops z=true)(hiz:i≠z)(hsel:∀(j:Nat) (o:Oper) cs b,ops[j]?=some o->o.op≠ .select cs b)(hQ:∀c a w,Q (.panic c) (a.put oi.dst v) w->Q (.panic c) a w):
  ∀(fuel:Nat) (listed:Array Bool) (a:Act) (w:World),i∈Region.ready md ops listed->Fp P ops S oi v a->S w->
   (∀j oj,ops[j]?=some oj->j≠i->listed.getD j true=false->(∀e∈oj.after,Region.binds md e=true->e.on≠i)->oi.apart ops oj=true)->
   Kg P md ops Q S z fuel (listed.setIfInBounds i true) (a.put oi.dst v) w->Kg P md ops Q S z (fuel+1) listed a w
 |0,listed,a,w,hr,hy,hS,hfree,H=>by
  refine⟨λh=>absurd hr (by rw [h];simp),λj hj=> ?_⟩;by_cases hji:j=i
  ·subst hji;exact hy.wpOp hi hS ⟨.inr hS,H⟩
  ·have hc:=ready_mono hj hji;rw [H.1] at hc;simp at hc
 |fuel+1,listed,a,w,hr,hy,hS,hfree,H=>by
  refine⟨λh=>absurd hr (by rw [h];simp),λj hj=> ?_⟩;by_cases hji:j=i
  ·subst hji;exact hy.wpOp hi hS ⟨.inr hS,H⟩
  obtain⟨hun,oj,hoj,hall⟩:=mem_ready.1 hj;have hi0:=(mem_ready.1 hr).1
  have hno:∀e∈oj.after,Region.binds md e=true->e.on≠i:=by
   intro e he hb heq;have ht:=hall e he hb;rw [heq] at ht;rcases Nat.lt_or_ge i listed.size with hlt|hge
   ·have e1:listed.getD i true=listed[i]:=by simp [hlt]
    have e2:listed.getD i false=listed[i]:=by simp [hlt]
    rw [e1] at hi0;rw [e2,hi0] at ht;simp at ht
   ·have e2:listed.getD i false=false:=by simp [Array.getElem?_eq_none hge]
    rw [e2] at ht;simp at ht
  have hjz:j≠z:=by
   intro e;subst e;unfold lastB at hz;rw [hoj] at hz
   have hil:i<ops.size:=by
    rcases Nat.lt_or_ge i ops.size with h|h
    ·exact h
    ·rw [Array.getElem?_eq_none h] at hi;simp at hi
   have hk:=List.all_eq_true.1 hz i (List.mem_range.2 hil);simp only [Bool.or_eq_true,beq_iff_eq,Array.any_eq_true',Bool.and_eq_true] at hk;rcases hk with h|⟨e,he,hb,ho⟩
   ·exact hji h.symm
   ·exact hno e he hb ho
  obtain⟨p1,p2,p3⟩:=Oper.apart_spec (hfree j oj hoj hji hun hno);have hstep:=Wp hoj p1 p2 (hsel j oj · · hoj) hQ (Y:=Fp P ops S oi v) (λa u hy=>hy.same (execOp_put oi (hsel i oi · · hi) a oj.dst u p3) (wanted_put oi a oj.dst u p3)) (λa x hy=>hy.same rfl rfl) hy (H.2 j (ready_mono hj hji));refine wpOp_mono (λa' w' h3=>⟨h3.2.1, ?_⟩) hstep;have hS':S w':=h3.2.1.resolve_left hjz
  have hfree':∀k ok,ops[k]?=some ok->k≠i->(listed.setIfInBounds j true).getD k true=false->(∀e∈ok.after,Region.binds md e=true->e.on≠i)->oi.apart ops ok=true:=by
   intro k ok hk hki hku hkn;by_cases hjk:j=k
   ·subst hjk;exact hfree j ok hk hki hun hkn
   ·rw [getD_set_ne true hjk] at hku;exact hfree k ok hk hki hku hkn
  refine Rk hi hz hiz hsel hQ fuel _ a' w' (ready_mono hr (Ne.symm hji)) h3.1 hS' hfree' ?_;rw [Array.setIfInBounds_comm _ _ hji];exact h3.2.2
inductive MO where
 |done
 |take (i:Nat) (r:MO)
 |move (i:Nat) (r:MO)
 |fork (i:Nat) (r:MO) (j:Nat) (s:MO)
 |fork3 (i:Nat) (r:MO) (j:Nat) (s:MO) (k:Nat) (u:MO)
def MO.depth:MO->Nat
 | .done=>0
 | .take _ r=>r.depth+1
 | .move _ r=>r.depth+1
 | .fork _ r _ s=>max r.depth s.depth+1
 | .fork3 _ r _ s _ u=>max (max r.depth s.depth) u.depth+1
def MO.Me:MO->Bool
 | .done=>true
 |_=>false
def mixB(md:Region.Mode)(ops:Array Oper)(z:Nat):MO->Array Bool->Bool
 | .done,listed=>(Region.ready md ops listed).isEmpty
 | .take i r,listed=>(((Region.ready md ops listed).contains i&&Region.free md ops listed i)&&i !=z)&&mixB md ops z r (listed.setIfInBounds i true)
 | .move i r,listed=>(Region.ready md ops listed== [i]&&(i !=z||r.Me))&&mixB md ops z r (listed.setIfInBounds i true)
 | .fork i r j s,listed=>((Region.ready md ops listed== [i,j]&&i !=z)&&j !=z)&&(mixB md ops z r (listed.setIfInBounds i true)&&mixB md ops z s (listed.setIfInBounds j true))
 | .fork3 i r j s k u,listed=>(((Region.ready md ops listed== [i,j,k]&&i !=z)&&j !=z)&&k !=z)&&(mixB md ops z r (listed.setIfInBounds i true)&&(mixB md ops z s (listed.setIfInBounds j true)&&mixB md ops z u (listed.setIfInBounds k true)))
def Mix(P:Program)(ops:Array Oper)(Q:Exit->Act->World->Prop)(S:World->Prop)(z:Nat):MO->Act->World->Prop
 | .done,a,w=>Q .normal a w
 | .take i r,a,w=>∃o v,ops[i]?=some o/\Fp P ops S o v a/\Mix P ops Q S z r (a.put o.dst v) w
 | .move i r,a,w=>(∃o v,ops[i]?=some o/\Fp P ops S o v a/\Mix P ops Q S z r (a.put o.dst v) w)\/wpOp P ops Q i (λa' w'=>(i=z\/S w')/\Mix P ops Q S z r a' w') a w
 | .fork i r j s,a,w=>wpOp P ops Q i (λa' w'=>(i=z\/S w')/\Mix P ops Q S z r a' w') a w/\wpOp P ops Q j (λa' w'=>(j=z\/S w')/\Mix P ops Q S z s a' w') a w
 | .fork3 i r j s k u,a,w=>wpOp P ops Q i (λa' w'=>(i=z\/S w')/\Mix P ops Q S z r a' w') a w/\wpOp P ops Q j (λa' w'=>(j=z\/S w')/\Mix P ops Q S z s a' w') a w/\wpOp P ops Q k (λa' w'=>(k=z\/S w')/\Mix P ops Q S z u a' w') a w
theorem Mix.sound{z:Nat}(hs:Region.noSelect ops=true)(hz:lastB md ops z=true)(hQ:∀(d:Option Tmp) (v:Value) c a w,Q (.panic c) (a.put d v) w->Q (.panic c) a w):
  ∀(ord:MO) (fuel:Nat) (listed:Array Bool) (a:Act) (w:World),ord.depth<=fuel->mixB md ops z ord listed=true->(ord.Me=true\/S w)->Mix P ops Q S z ord a w->Kg P md ops Q S z fuel listed a w
 | .done,fuel,listed,a,w,_,hB,_,h=>Rl (by simpa [mixB] using hB) h _
 | .take i r,fuel,listed,a,w,hd,hB,hS,h=>by
  simp only [mixB,Bool.and_eq_true,bne_iff_ne] at hB;obtain⟨⟨⟨h1,h2⟩,hiz⟩,h3⟩:=hB;obtain⟨o,v,hi,hy,h⟩:=h;have hS':S w:=hS.resolve_left (by simp [MO.Me])
  cases fuel with
  |zero=>simp [MO.depth] at hd
  |succ fuel=>
   refine Rk hi hz hiz (Region.noSelect_spec hs) (hQ o.dst v) fuel listed a w (by simpa using h1) hy hS' (Region.free_spec hi h2) ?_;exact Mix.sound hs hz hQ r fuel _ _ _ (by simp only [MO.depth] at hd;omega) h3 (.inr hS') h
 | .move i r,fuel,listed,a,w,hd,hB,hS,h=>by
  simp only [mixB,Bool.and_eq_true,beq_iff_eq,Bool.or_eq_true,bne_iff_ne] at hB;obtain⟨⟨h1,h2⟩,h3⟩:=hB;have hS':S w:=hS.resolve_left (by simp [MO.Me])
  cases fuel with
  |zero=>simp [MO.depth] at hd
  |succ fuel=>
   have hd':r.depth<=fuel:=by simp only [MO.depth] at hd;omega
   refine⟨λe=>by rw [h1] at e;simp at e,λj hj=> ?_⟩;obtain rfl:j=i:=by rw [h1] at hj;simpa using hj
   rcases h with⟨o,v,hi,hy,h⟩|h
   ·exact hy.wpOp hi hS' ⟨.inr hS',Mix.sound hs hz hQ r fuel _ _ _ hd' h3 (.inr hS') h⟩
   ·refine wpOp_mono (λa' w' hh=>⟨hh.1,Mix.sound hs hz hQ r fuel _ _ _ hd' h3 ?_ hh.2⟩) h;rcases hh.1 with e|e
    ·exact .inl (h2.resolve_left λhn=>hn e)
    ·exact .inr e
 | .fork i r j s,fuel,listed,a,w,hd,hB,hS,h=>by
  simp only [mixB,Bool.and_eq_true,beq_iff_eq,bne_iff_ne] at hB;obtain⟨⟨⟨h1,hiz⟩,hjz⟩,h3,h4⟩:=hB
  cases fuel with
  |zero=>simp [MO.depth] at hd
  |succ fuel=>
   have hd1:r.depth<=fuel:=by simp only [MO.depth] at hd;omega
   have hd2:s.depth<=fuel:=by simp only [MO.depth] at hd;omega
   refine⟨λe=>by rw [h1] at e;simp at e,λk hk=> ?_⟩;rw [h1] at hk;rcases(by simpa using hk:k=i\/k=j) with rfl|rfl
   ·exact wpOp_mono (λa' w' hh=>⟨hh.1,Mix.sound hs hz hQ r fuel _ _ _ hd1 h3 (.inr (hh.1.resolve_left hiz)) hh.2⟩) h.1
   ·exact wpOp_mono (λa' w' hh=>⟨hh.1,Mix.sound hs hz hQ s fuel _ _ _ hd2 h4 (.inr (hh.1.resolve_left hjz)) hh.2⟩) h.2
 | .fork3 i r j s l u,fuel,listed,a,w,hd,hB,hS,h=>by
  simp only [mixB,Bool.and_eq_true,beq_iff_eq,bne_iff_ne] at hB;obtain⟨⟨⟨⟨h1,hiz⟩,hjz⟩,hlz⟩,h3,h4,h5⟩:=hB
  cases fuel with
  |zero=>simp [MO.depth] at hd
  |succ fuel=>
   have hd1:r.depth<=fuel:=by simp only [MO.depth] at hd;omega
   have hd2:s.depth<=fuel:=by simp only [MO.depth] at hd;omega
   have hd3:u.depth<=fuel:=by simp only [MO.depth] at hd;omega
   refine⟨λe=>by rw [h1] at e;simp at e,λk hk=> ?_⟩;rw [h1] at hk;rcases(by simpa using hk:k=i\/k=j\/k=l) with rfl|rfl|rfl
   ·exact wpOp_mono (λa' w' hh=>⟨hh.1,Mix.sound hs hz hQ r fuel _ _ _ hd1 h3 (.inr (hh.1.resolve_left hiz)) hh.2⟩) h.1
   ·exact wpOp_mono (λa' w' hh=>⟨hh.1,Mix.sound hs hz hQ s fuel _ _ _ hd2 h4 (.inr (hh.1.resolve_left hjz)) hh.2⟩) h.2.1
   ·exact wpOp_mono (λa' w' hh=>⟨hh.1,Mix.sound hs hz hQ u fuel _ _ _ hd3 h5 (.inr (hh.1.resolve_left hlz)) hh.2⟩) h.2.2
theorem Cm{id:Nat}{a:Act}{w:World}{l:List Oper}(S:World->Prop)(z:Nat)(ord:MO)(hm:P.follows .mixedOrders=true)(hB:((mixB .any l.toArray z ord (Array.replicate l.toArray.size false)&&lastB .any l.toArray z)&&(Region.noSelect l.toArray&&Nat.ble ord.depth l.toArray.size))=true)
  (hS:S w.drew) (h:∀w1,S w1->K0 w w1->Mix P l.toArray (NoPanic Q) S z ord a w1):(Code.region id l.toArray true).wp P Q a w:=by
 simp only [Bool.and_eq_true,Nat.ble_eq] at hB;obtain⟨⟨h1,h0⟩,h2,h3⟩:=hB;exact wp_region_noPanic (wp_region_any hm (Ke _ _ _ _ (Mix.sound h2 h0 (λ_ _ _ _ _ hh=>(show False from hh).elim) ord _ _ _ _ h3 h1 (.inr hS) (h _ hS (Keeps.drew _)))))
theorem Ak{id:Nat}{a:Act}{w:World}{l:List Oper}(S:World->Prop)(ord:MO)(hm:P.follows .mixedOrders=true)(hB:((mixB .any l.toArray l.toArray.size ord (Array.replicate l.toArray.size false)&&lastB .any l.toArray l.toArray.size)&&(Region.noSelect l.toArray&&Nat.ble ord.depth l.toArray.size))=true)
  (hS:S w.drew) (h:∀w1,S w1->K0 w w1->Mix P l.toArray (NoPanic Q) S l.toArray.size ord a w1):(Code.region id l.toArray true).wp P Q a w:=Cm S _ ord hm hB hS h
theorem Aq{z:Nat}{a:Act}{w:World}(h:Q .normal a w):Mix P ops (NoPanic Q) S z .done a w:=h
section
variable {z:Nat} {dst:Option Tmp} {op:Op} {ty:TypeId} {pos:String} {af:Array Edge} {gd:Option (Nat×Bool)} {i:Nat} {r:MO} {v:Value} {a:Act} {w:World}
theorem Br(hi:ops[i]?=some ⟨dst,op,ty,pos,af,gd⟩)(hw:Region.wanted ⟨dst,op,ty,pos,af,gd⟩ (yielded ops a.tmps)=false)(h:Mix P ops Q S z r (a.put dst undef) w):Mix P ops Q S z (.take i r) a w:=⟨_,undef,hi,.inr ⟨hw,rfl⟩,h⟩
theorem Bc(hi:ops[i]?=some ⟨dst,op,ty,pos,af,gd⟩)(hw:Region.wanted ⟨dst,op,ty,pos,af,gd⟩ (yielded ops a.tmps)=false)(h:Mix P ops Q S z r (a.put dst undef) w):Mix P ops Q S z (.move i r) a w:= .inl ⟨_,undef,hi,.inr ⟨hw,rfl⟩,h⟩
theorem Bl(hi:ops[i]?=some ⟨dst,op,ty,pos,af,gd⟩)(hw:Region.wanted ⟨dst,op,ty,pos,af,gd⟩ (yielded ops a.tmps)=true)
  (hy:∀w,S w->(execOp a.eval ⟨dst,op,ty,pos,af,gd⟩).run P w= .ok (.value v) w) (h:Mix P ops Q S z r (a.put dst v) w):Mix P ops Q S z (.take i r) a w:=⟨_,v,hi,.inl ⟨hw,λw hS=> .inl (hy w hS)⟩,h⟩
theorem Gc(hi:ops[i]?=some ⟨dst,op,ty,pos,af,gd⟩)(hw:Region.wanted ⟨dst,op,ty,pos,af,gd⟩ (yielded ops a.tmps)=true)(f:FuncId)(args:Array Value)
  (hr:∀w,S w->(execOp a.eval ⟨dst,op,ty,pos,af,gd⟩).run P w= .ok (.enter f args) w) (hy:∀w,S w->Calls P f args w λe w''=>e= .returned v/\w=w'') (h:Mix P ops Q S z r (a.put dst v) w):Mix P ops Q S z (.take i r) a w:=
 ⟨_,v,hi,.inl ⟨hw,λw hS=> .inr ⟨f,args,hr w hS,(hy w hS).mono λ_ _ ⟨h1,h2⟩=>⟨h1,h2.symm⟩⟩⟩,h⟩
theorem Ag(hi:ops[i]?=some ⟨dst,op,ty,pos,af,gd⟩)
  (h:∀K:Act->World->Prop,Shut (∀a' w',S w'->Mix P ops Q S z r a' w'->K a' w')->if Region.wanted ⟨dst,op,ty,pos,af,gd⟩ (yielded ops a.tmps)=true then Oper.wp P ⟨dst,op,ty,pos,af,gd⟩ a w K Q else K (a.put dst undef) w):
  Mix P ops Q S z (.move i r) a w:= .inr (wpOp_step hi λK hK=>h K λa' w' hS hM=>hK a' w' ⟨.inr hS,hM⟩)
theorem Cu(hi:ops[i]?=some ⟨dst,op,ty,pos,af,gd⟩)
  (h:∀K:Act->World->Prop,Shut (∀a' w',Mix P ops Q S i r a' w'->K a' w')->if Region.wanted ⟨dst,op,ty,pos,af,gd⟩ (yielded ops a.tmps)=true then Oper.wp P ⟨dst,op,ty,pos,af,gd⟩ a w K Q else K (a.put dst undef) w):
  Mix P ops Q S i (.move i r) a w:= .inr (wpOp_step hi λK hK=>h K λa' w' hM=>hK a' w' ⟨.inl rfl,hM⟩)
theorem mix_to{i:Nat}{r:MO}(h:Mix P ops Q S z (.move i r) a w)(hS:S w):wpOp P ops Q i (λa' w'=>(i=z\/S w')/\Mix P ops Q S z r a' w') a w:=by
 rcases h with⟨o,v,hi,hy,h⟩|h
 ·exact hy.wpOp hi hS ⟨.inr hS,h⟩
 ·exact h
theorem mix_fork3{j k:Nat}{s u:MO}(h1:Mix P ops Q S z (.move i r) a w)(h2:Mix P ops Q S z (.move j s) a w)(h3:Mix P ops Q S z (.move k u) a w)(hS:S w):Mix P ops Q S z (.fork3 i r j s k u) a w:=⟨mix_to h1 hS,mix_to h2 hS,mix_to h3 hS⟩
theorem Dx{j:Nat}{s:MO}(h1:Mix P ops Q S z (.move i r) a w)(h2:Mix P ops Q S z (.move j s) a w)(hS:S w):Mix P ops Q S z (.fork i r j s) a w:=by
 refine⟨?_, ?_⟩
 ·rcases h1 with⟨o,v,hi,hy,h⟩|h
  ·exact hy.wpOp hi hS ⟨.inr hS,h⟩
  ·exact h
 ·rcases h2 with⟨o,v,hi,hy,h⟩|h
  ·exact hy.wpOp hi hS ⟨.inr hS,h⟩
  ·exact h
end
end
theorem jR{T P:Prop}(c:T)(h:T->P:=by intro c;(repeat ((first|refine Br rfl (by rfl) ?_|refine Bc rfl (by rfl) ?_|(refine Bl (v:= ?_) rfl (by rfl) ?_ ?_;rotate_left;(· intro w' hSw;(try have hSw:=And.intro hSw.1 hSw.2);go_simp;(try with_reducible rfl));rotate_right));try simp only [aps]));exact c):P:=h c
theorem Gz:(Tryz.prog.info? 142).map (λi=>(i.zero,i.size,i.bytes))=some (some (.agg #[.int .i64 0,.int .i64 0,.int .i64 0,.int .i64 0,.int .i64 0,.int .i64 0,.int .i64 0,.int .i64 0,.int .i64 0]),9,72):=by kernel_rfl
def Gq(seq cy:Int)(k:Nat)(x y:Ln):List Adj:=
 if x.balance=y.balance/\x.interest=y.interest then [] else [⟨seq,cy,(k:Int)+1,y.balance-x.balance,y.interest-x.interest,0,0,0,0⟩]
def Dc(seq cy:Int)(X Y:List Ln):Nat->List Adj
 |0=> []
 |k+1=>Dc seq cy X Y k++(match X[k]?,Y[k]? with|some x,some y=>Gq seq cy k x y|_,_=> [])
def Pk(seq:Int)(a b:Stm):Adj:=⟨seq,a.cycle,0,0,0,b.total-a.total,b.credit-a.credit,b.min-a.min,Kh a.grace b.grace⟩
def Mq(a b:Stm):Bool:=decide (a.total=b.total)&&decide (a.credit=b.credit)&&decide (a.min=b.min)&&(a.grace==b.grace)
def Er(seq:Int)(a b:Stm):List Adj:=Dc seq a.cycle a.lines b.lines a.lines.length++if Mq a b then [] else [Pk seq a b]
def Stm.blk(s:Stm)(v:Value):Array Value:= #[.int .i64 s.cycle,.int .i64 s.fr,.int .i64 s.te,.int .i64 s.due,v,.int .i64 s.total,.int .i64 s.credit,.int .i64 s.min,.bool s.grace]
structure OneS(w W:World)(seq:Int)(a b:Stm)(va vb:Value)(W0:Nat)(v:Value)(k:Nat):Prop where
 ba:W.heap[w.heap.size]?=some (.cells (a.blk va) 59 (0,0))
 bb:W.heap[w.heap.size+1]?=some (.cells (b.blk vb) 59 (0,0))
 bw:W.heap[W0]?=some (.cells (Pk seq a b).cells.toArray 142 (0,0))
 w0:w.heap.size+1<W0
 row:W.ownsRow 0 142 9 v (Dc seq a.cycle a.lines b.lines k).length ((Dc seq a.cycle a.lines b.lines k).flatMap Adj.cells)
 kp:K0 w W
 nw:∀g,v.ownBlock=some g->W0<g
theorem OneS.keep{w W W':World}{seq:Int}{a b:Stm}{va vb:Value}{W0:Nat}{v:Value}{k:Nat}(h:OneS w W seq a b va vb W0 v k)(hk:K0 W W'):OneS w W' seq a b va vb W0 v k:=
 ⟨Ad h.ba hk (by simp),Ad h.bb hk (by simp),Ad h.bw hk (by simp),h.w0,hk.row h.row (by simp),h.kp.Ce hk,h.nw⟩
def Tc(i:Nat)(a':Act):Nat:=match a'.tmps.getD i undef with| .int _ n=>n.toNat|_=>0
def oneFr(w:World)(seq:Int)(W0:Nat)(v:Value)(k:Nat)(u:Nat->Value):Act:={ tmps:= #[.int .i64 seq,u 1,u 2,u 3,(.pointer (some ⟨w.heap.size,0,none⟩)),(.pointer (some ⟨w.heap.size+1,0,none⟩)),u 6,v,.int .i64 k,(.pointer (some ⟨W0,0,none⟩)),u 10,u 11,u 12,u 13,u 14,u 15,u 16,u 17,u 18,u 19,u 20,u 21,u 22,u 23,u 24,u 25,u 26,u 27,u 28,u 29,u 30,u 31,u 32,u 33,u 34,u 35,u 36,u 37,u 38,u 39,u 40,u 41,u 42,u 43,u 44,u 45,u 46,u 47,u 48,u 49,u 50,u 51,u 52,u 53,u 54,u 55,u 56,u 57,u 58,u 59,u 60,u 61,u 62,u 63,u 64,u 65,u 66,u 67,u 68,u 69,u 70,u 71,u 72,u 73,u 74,u 75,u 76,u 77,u 78,u 79,u 80,u 81,u 82,u 83,u 84,u 85,u 86,u 87,u 88,u 89,u 90,u 91,u 92,u 93],defers:= [] }
def oneJ(w:World)(seq:Int)(a b:Stm)(va vb:Value)(a':Act)(W:World):Prop:=∃(W0:Nat) (v:Value) (k:Nat) (u:Nat->Value),a'=oneFr w seq W0 v k u/\OneS w W seq a b va vb W0 v k/\k<=a.lines.length
theorem oneJ.mk{w W:World}{seq:Int}{a b:Stm}{va vb:Value}{a':Act}(W0:Nat)(v:Value)(k:Nat)(h:a'=oneFr w seq W0 v k (λi=>a'.tmps.getD i undef))(hs:OneS w W seq a b va vb W0 v k)(hk:k<=a.lines.length):oneJ w seq a b va vb a' W:=⟨W0,v,k,_,h,hs,hk⟩
def Ng(w:World)(seq:Int)(a b:Stm)(e:Ending)(w':World):Prop:=
 ∃v,e= .returned v/\w'.ownsRow 0 142 9 v (Er seq a b).length ((Er seq a b).flatMap Adj.cells)/\Fresh w w' v
theorem Jv{v:Int}(h:Jf v=true):0<=v/\v<=1000000000000000:=by
 have hd:Jf v=decide (0<=v/\v<=1000000000000000):=rfl;rw [hd] at h;simpa using h
theorem Rs{s:Stm}(h:s.Db=true):(0<=s.total/\s.total<=1000000000000000)/\(0<=s.credit/\s.credit<=1000000000000000)/\(0<=s.min/\s.min<=1000000000000000):=by
 simp only [Stm.Db,Cr,List.all_cons,List.all_nil,Bool.and_eq_true,Bool.and_true] at h;exact⟨Jv h.2.1,Jv h.2.2.1,Jv h.2.2.2⟩
theorem Rq{s:Stm}(h:s.Db=true){k:Nat}{x:Ln}(hx:s.lines[k]?=some x):(0<=x.balance/\x.balance<=1000000000000000)/\(0<=x.interest/\x.interest<=1000000000000000):=by
 simp only [Stm.Db,Bool.and_eq_true] at h;have:=List.all_eq_true.1 h.1 x (List.mem_of_getElem? hx);simp only [Ln.numsB,Cr,List.all_cons,List.all_nil,Bool.and_eq_true,Bool.and_true] at this;exact⟨Jv this.1,Jv this.2⟩
def onS(w:World)(a b:Stm)(w':World):Prop:=w'.cell? ⟨w.heap.size,0,none⟩=some (.int .i64 a.cycle)/\w'.cell? ⟨w.heap.size,5,none⟩=some (.int .i64 a.total)/\w'.cell? ⟨w.heap.size,6,none⟩=some (.int .i64 a.credit)/\w'.cell? ⟨w.heap.size,7,none⟩=some (.int .i64 a.min)/\w'.cell? ⟨w.heap.size,8,none⟩=some (.bool a.grace)/\w'.cell? ⟨w.heap.size+1,5,none⟩=some (.int .i64 b.total)/\w'.cell? ⟨w.heap.size+1,6,none⟩=some (.int .i64 b.credit)/\w'.cell? ⟨w.heap.size+1,7,none⟩=some (.int .i64 b.min)/\w'.cell? ⟨w.heap.size+1,8,none⟩=some (.bool b.grace)
theorem onS.keep{w W W':World}{a b:Stm}(h:onS w a b W)(hk:K0 W W'):onS w a b W':=by
 obtain⟨h0,h1,h2,h3,h4,h5,h6,h7,h8⟩:=h;exact⟨(hk.cell (Ai h0) (by simp)).trans h0,(hk.cell (Ai h1) (by simp)).trans h1,(hk.cell (Ai h2) (by simp)).trans h2,(hk.cell (Ai h3) (by simp)).trans h3,(hk.cell (Ai h4) (by simp)).trans h4,(hk.cell (Ai h5) (by simp)).trans h5,(hk.cell (Ai h6) (by simp)).trans h6,(hk.cell (Ai h7) (by simp)).trans h7,(hk.cell (Ai h8) (by simp)).trans h8⟩
def onL(B g o g' o' k n ca cb:Nat)(xb xi xr yb yi yr:Int)(w':World):Prop:=
 w'.cell? ⟨B,4,none⟩=some (.slice (some ⟨g,o,none⟩) n ca)/\w'.cell? ⟨B+1,4,none⟩=some (.slice (some ⟨g',o',none⟩) n cb)/\w'.cell? ⟨g,o+k*3,none⟩=some (.int .i64 xb)/\w'.cell? ⟨g,o+k*3+1,none⟩=some (.int .i64 xi)/\w'.cell? ⟨g,o+k*3+2,none⟩=some (.int .i64 xr)/\
  w'.cell? ⟨g',o'+k*3,none⟩=some (.int .i64 yb)/\w'.cell? ⟨g',o'+k*3+1,none⟩=some (.int .i64 yi)/\w'.cell? ⟨g',o'+k*3+2,none⟩=some (.int .i64 yr)
theorem onL.keep{B g o g' o' k n ca cb:Nat}{xb xi xr yb yi yr:Int}{W W':World}(h:onL B g o g' o' k n ca cb xb xi xr yb yi yr W)(hk:K0 W W'):onL B g o g' o' k n ca cb xb xi xr yb yi yr W':=by
 exact j2p
theorem Sm{P:Program}{a:Act}{w:World}{Q:Exit->Act->World->Prop}{c rest:Code}(l:Nat)(J:Act->World->Prop)(M:Act->World->Nat)(hf:findLabel c l=some (Code.skip.seq rest))
  (round:∀a w,J a w->rest.wp P (Exit.jump l (λa' w'=>J a' w'/\M a' w'<M a w) Q) a w)
  (first:(∀a w,J a w->rest.wp P (Exit.jump l J Q) a w)->c.wp P (Exit.jump l J Q) a w):(Code.scope c).wp P Q a w:=by
 exact j2q
theorem Ns(w:World)(o:Obj){i:Nat}(h:i=w.heap.size):(w.alloc o).heap[i]?=some o:=by subst h;exact heap_alloc_new w o
theorem Jm(seq cy:Int)(X Y:List Ln):∀k,(Dc seq cy X Y k).length<=k
 |0=>Nat.le_refl _
 |k+1=>by
  have ih:=Jm seq cy X Y k;simp only [Dc,List.length_append]
  have:(match X[k]?,Y[k]? with|some x,some y=>Gq seq cy k x y|_,_=> []).length<=1:=by
   rcases X[k]? with _|x<;>rcases Y[k]? with _|y<;>simp
   unfold Gq;split<;>simp
  omega
theorem OneS.app{w W W':World}{seq:Int}{a b:Stm}{va vb:Value}{W0:Nat}{v v':Value}{k:Nat}{x:Adj}{m:Nat}{xs:List Value}(h:OneS w W seq a b va vb W0 v k)(hl:Dc seq a.cycle a.lines b.lines (k+1)=Dc seq a.cycle a.lines b.lines k++ [x])
  (hm:m=(Dc seq a.cycle a.lines b.lines k).length+1) (hx:xs=(Dc seq a.cycle a.lines b.lines k).flatMap Adj.cells++x.cells) (ho:W'.ownsRow 0 142 9 v' m xs) (hk:Keeps (λi=>v.ownBlock=some i) W W') (hf:v'.ownBlock=v.ownBlock\/∃g,v'.ownBlock=some g/\W.heap.size<=g):
  OneS w W' seq a b va vb W0 v' (k+1):=by
 have hbw:=lt_of_block h.bw;have n1:∀g,v.ownBlock=some g->w.heap.size+1<g:=λg hg=>by have:=h.nw g hg;have:=h.w0;omega
 refine⟨Ad h.ba hk (λe=>by have:=n1 _ e;omega),Ad h.bb hk (λe=>by have:=n1 _ e;omega),Ad h.bw hk (λe=>by have:=h.nw _ e;omega),h.w0, ?_,h.kp.trans (hk.mono λi _ e=>by right;have:=n1 _ e;omega),λg hg=> ?_⟩
 ·rw [hl];simp only [List.length_append,List.length_singleton,List.flatMap_append,List.flatMap_cons,List.flatMap_nil,List.append_nil];rw [<-hx,<-hm];exact ho
 ·rcases hf with e|⟨g',e,h'⟩
  ·exact h.nw g (by rw [<-e];exact hg)
  ·exact j1h
theorem Vm(a b:Stm):Mq a b=true↔(b.total-a.total=0/\b.credit-a.credit=0/\b.min-a.min=0/\Kh a.grace b.grace=0):=by
 have hg:(a.grace==b.grace)=true↔Kh a.grace b.grace=0:=by cases a.grace<;>cases b.grace<;>decide
 simp only [Mq,Bool.and_eq_true,decide_eq_true_eq,hg]
 constructor
 ·rintro⟨⟨⟨h1,h2⟩,h3⟩,h4⟩;exact⟨by omega,by omega,by omega,h4⟩
 ·rintro⟨h1,h2,h3,h4⟩;exact⟨⟨⟨by omega,by omega⟩,by omega⟩,h4⟩
theorem Ady(seq:Int)(a b:Stm)(va vb:Value)(w:World)(hra:Reads w 3 va a.lines.length (a.lines.flatMap Ln.cells))(hrb:Reads w 3 vb b.lines.length (b.lines.flatMap Ln.cells))(hab:a.lines.length=b.lines.length)(hl:a.lines.length<=1000000)
  (hna:a.Db=true) (hnb:b.Db=true):
  Calls Tryz.prog 141 #[.int .i64 seq,a.val va,b.val vb] w (Ng w seq a b):=by
 obtain⟨i0,hi,hi0,hi1,hi2⟩:=info_parts Gz;simp only [Stm.val];have hba:=heap_alloc_new w (.cells (a.blk va) 59);have hbb:=heap_alloc_new (w.alloc (.cells (a.blk va) 59)) (.cells (b.blk vb) 59);rw [show(w.alloc (.cells (a.blk va) 59)).heap.size=w.heap.size+1 by simp] at hbb;have hba2:=Ap hba (.cells (b.blk vb) 59);have m0:=Rs hna;have m1:=Rs hnb;obtain⟨⟨ta0,ta1⟩,⟨ca0,ca1⟩,⟨ma0,ma1⟩⟩:=m0;obtain⟨⟨tb0,tb1⟩,⟨cb0,cb1⟩,⟨mb0,mb1⟩⟩:=m1;have w0:IntKind.i64.wrap (b.total-a.total)=b.total-a.total:=IntWalk.i64_in _ j6;have w1:IntKind.i64.wrap (b.credit-a.credit)=b.credit-a.credit:=IntWalk.i64_in _ j6;have w2:IntKind.i64.wrap (b.min-a.min)=b.min-a.min:=IntWalk.i64_in _ j6;clear ta0 ta1 ca0 ca1 ma0 ma1 tb0 tb1 cb0 cb1 mb0 mb1;obtain⟨Hra,Hrb,Hab,Hna,Hnb⟩:=hid5 hra hrb hab hna hnb;clear hnb hna hab hrb hra hba;obtain⟨Hba2,Hbb,Hi,Hi0,Hi1,Hi2⟩:=hid6 hba2 hbb hi hi0 hi1 hi2;clear hi2 hi1 hi0 hi hbb hba2;go_enter Tryz.func141,Tryz.ntmps141;go_wp2_with fail;refine Sm 0 (oneJ w seq a b va vb) (λa' _=>a.lines.length-Tc 8 a') rfl ?_ ?_
 ·rintro a' W ⟨W0,v,k,u,rfl,hs,hk⟩;unfold oneFr;have a0:W.cell? ⟨w.heap.size,0,none⟩=some (.int .i64 a.cycle):=Aa hs.ba 0;have a3:W.cell? ⟨w.heap.size,4,none⟩=some va:=Aa hs.ba 4;have b3:W.cell? ⟨w.heap.size+1,4,none⟩=some vb:=Aa hs.bb 4;have lb:=lt_of_block hs.bb;obtain⟨n,hn⟩:=eX a.lines.length;have hra:=Hra.o.keeps hs.kp (by simp);have hrb:=Hrb.o.keeps hs.kp (by simp);rw [<-Hab.o] at hrb;have hra':=hra;have hrb':=hrb;obtain⟨ada,ca,rfl,hca,_⟩:=hra';obtain⟨adb,cb,rfl,hcb,_⟩:=hrb';rw [hn] at hra hrb a3 b3 hca hcb hk hl hs;by_cases hkn:k<n
  ·obtain⟨x,hx⟩:=Ar (L:=a.lines) (k:=k) j6;obtain⟨y,hy⟩:=Ar (L:=b.lines) (k:=k) (by rw [<-Hab.o];omega);obtain⟨g,o,c,he,hc⟩:=hra.elem Ln.Aj hx j7;obtain⟨g',o',c',he',hc'⟩:=hrb.elem Ln.Aj hy j7;simp only [Value.slice.injEq,true_and] at he he';obtain⟨rfl,rfl⟩:=he;obtain⟨rfl,rfl⟩:=he';have bx:=Rq Hna.o hx;have bY:=Rq Hnb.o hy;have hlin:Dc seq a.cycle a.lines b.lines (k+1)=Dc seq a.cycle a.lines b.lines k++Gq seq a.cycle k x y:=by simp only [Dc,hx,hy]
   obtain⟨xb,xi,xr⟩:=x;obtain⟨yb,yi,yr⟩:=y;obtain⟨⟨xb0,xb1⟩,⟨xi0,xi1⟩⟩:=bx;obtain⟨⟨yb0,yb1⟩,⟨yi0,yi1⟩⟩:=bY;simp only at xb0 xb1 xi0 xi1 yb0 yb1 yi0 yi1;have x0:W.cell? ⟨g,o+k*3,none⟩=some (.int .i64 xb):=hc 0 j7;have x1:W.cell? ⟨g,o+k*3+1,none⟩=some (.int .i64 xi):=hc 1 j7;have x2:W.cell? ⟨g,o+k*3+2,none⟩=some (.int .i64 xr):=hc 2 j7;have y0:W.cell? ⟨g',o'+k*3,none⟩=some (.int .i64 yb):=hc' 0 j7;have y1:W.cell? ⟨g',o'+k*3+1,none⟩=some (.int .i64 yi):=hc' 1 j7;have y2:W.cell? ⟨g',o'+k*3+2,none⟩=some (.int .i64 yr):=hc' 2 j7;have hkI:(k:Int)<(n:Int):=j8;have hk0:(0:Int)<=(k:Int):=j8;clear hc hc';obtain⟨Hs,Hra,Hrb⟩:=hid3 hs hra hrb;clear hrb hra hs hx hy;obtain⟨Hlin,Hn⟩:=hid2 hlin hn;clear hn hlin
   go_upto_region 5 with(fail)
   go_cut [10,11] (λs10 s11 wx=>∃X Y,s10=(.pointer (some ⟨X,0,none⟩))/\s11=(.pointer (some ⟨Y,0,none⟩))/\Hid (wx.heap[X]?=some (.cells #[.int .i64 xb,.int .i64 xi,.int .i64 xr] 212 (0,0)))/\Hid (wx.heap[Y]?=some (.cells #[.int .i64 yb,.int .i64 yi,.int .i64 yr] 212 (0,0)))/\Hid (OneS w wx seq a b (.slice (some ⟨g,o,none⟩) n ca) (.slice (some ⟨g',o',none⟩) n cb) W0 v k))
   case first=>
    refine Ak (onL w.heap.size g o g' o' k n ca cb xb xi xr yb yi yr) (.take 0 (.take 1 (.take 2 (.take 3 (.take 4 (.take 5 (.take 6 (.take 7 (.take 8 (.take 9 (.fork 10 (.move 11 (.move 12 (.move 13 .done))) 11 (.move 10 (.move 12 (.move 13 .done)))))))))))))) j9 j9 ?_ ?_
    ·refine⟨?_, ?_, ?_, ?_, ?_, ?_, ?_, ?_⟩<;>go_simp
    intro w3 hs3 hk3;have HS3:=Lib.hid hs3;clear hs3;have Hk3:=Lib.hid hk3;clear hk3
    repeat ((first|refine Br rfl (by rfl) ?_|refine Bc rfl (by rfl) ?_|(refine Bl (v:= ?_) rfl (by rfl) ?_ ?_;rotate_left;(· intro w' hSw;unfold onL at hSw;go_simp;(try with_reducible rfl));rotate_right));try simp only [aps])
    refine Dx ?_ ?_ HS3.o
    ·
     refine Ag rfl (λK hK=> ?_);go_simp;refine j0F ?_;clear hK K;refine j04 ?_;refine j04 ?_;refine j04 ?_;refine jq ?_;go_wp2_with fail;go_meet;exact⟨_,_,rfl,rfl,Lib.hid (Ap (heap_alloc_new _ _) _),Lib.hid (Ns _ _ (by simp)),Lib.hid (((Hs.o.keep Hk3.o).keep (Keeps.alloc _ _)).keep (Keeps.alloc _ _))⟩
    ·
     refine Ag rfl (λK hK=> ?_);go_simp;refine j0F ?_;clear hK K;refine j04 ?_;refine j04 ?_;refine j04 ?_;refine jq ?_;go_wp2_with fail;go_meet;exact⟨_,_,rfl,rfl,Lib.hid (Ns _ _ (by simp)),Lib.hid (Ap (heap_alloc_new _ _) _),Lib.hid (((Hs.o.keep Hk3.o).keep (Keeps.alloc _ _)).keep (Keeps.alloc _ _))⟩
   case rest=>
    obtain⟨X,Y,rfl,rfl,HX,HY,Hs5⟩:=hcut;have c0:=Aa HX.o 0;have c1:=Aa HX.o 1;have d0:=Aa HY.o 0;have d1:=Aa HY.o 1;have a0':World.cell? _ (⟨w.heap.size,0,none⟩:Addr)=some (.int .i64 a.cycle):=Aa Hs5.o.ba 0;have q0:IntKind.i64.wrap (yb-xb)=yb-xb:=IntWalk.i64_in _ j6;have q1:IntKind.i64.wrap (yi-xi)=yi-xi:=IntWalk.i64_in _ j6;have q2:IntKind.i64.wrap ((k:Int)+1)=(k:Int)+1:=IntWalk.i64_in _ j6;clear a0 a3 b3 x0 x1 x2 y0 y1 y2 xb0 xb1 xi0 xi1 yb0 yb1 yi0 yi1;have hlo:(Dc seq a.cycle a.lines b.lines k).length<=k:=Jm _ _ _ _ _;by_cases e0:xb=yb
    ·by_cases e1:xi=yi
     ·subst e0 e1
      have hsame:OneS w wc seq a b (.slice (some ⟨g,o,none⟩) n ca) (.slice (some ⟨g',o',none⟩) n cb) W0 v (k+1):=by
       have h5:=Hs5.o;refine⟨h5.ba,h5.bb,h5.bw,h5.w0, ?_,h5.kp,h5.nw⟩;have e:Gq seq a.cycle k ⟨xb,xi,xr⟩ ⟨xb,xi,yr⟩= []:=by simp [Gq]
       rw [Hlin.o,e,List.append_nil];exact h5.row
      have Hsame:=Lib.hid hsame;clear hsame hlo;go_wp2_with fail;go_step3;go_wp2;exact Av ⟨oneJ.mk W0 v (k+1) rfl (by rw [Hn.o];exact Hsame.o) j05,by rw [Hn.o];simp [Tc];omega⟩
     ·subst e0;have q3:xb-xb=0:=Int.sub_self xb;have e1':(xi==yi)=false:=beq_eq_false_iff_ne.2 e1
      have hne:Gq seq a.cycle k ⟨xb,xi,xr⟩ ⟨xb,yi,yr⟩= [⟨seq,a.cycle,(k:Int)+1,xb-xb,yi-xi,0,0,0,0⟩]:=by
       unfold Gq;rw [if_neg (by first|exact λh=>e0 h.1|exact λh=>e1 h.2)]
      exact j2r
    ·skip
     have hne:Gq seq a.cycle k ⟨xb,xi,xr⟩ ⟨yb,yi,yr⟩= [⟨seq,a.cycle,(k:Int)+1,yb-xb,yi-xi,0,0,0,0⟩]:=by
      unfold Gq;rw [if_neg (by first|exact λh=>e0 h.1|exact λh=>e1 h.2)]
     exact j2r
  ·obtain rfl:k=n:=by omega
   have c0:W.cell? ⟨W0,0,none⟩=some (.int .i64 seq):=Aa hs.bw 0;have c1:W.cell? ⟨W0,1,none⟩=some (.int .i64 a.cycle):=Aa hs.bw 1;have c2:W.cell? ⟨W0,2,none⟩=some (.int .i64 0):=Aa hs.bw 2;have c3:W.cell? ⟨W0,3,none⟩=some (.int .i64 0):=Aa hs.bw 3;have c4:W.cell? ⟨W0,4,none⟩=some (.int .i64 0):=Aa hs.bw 4;have c5:W.cell? ⟨W0,5,none⟩=some (.int .i64 (b.total-a.total)):=Aa hs.bw 5;have c6:W.cell? ⟨W0,6,none⟩=some (.int .i64 (b.credit-a.credit)):=Aa hs.bw 6;have c7:W.cell? ⟨W0,7,none⟩=some (.int .i64 (b.min-a.min)):=Aa hs.bw 7;have c8:W.cell? ⟨W0,8,none⟩=some (.int .i64 (Kh a.grace b.grace)):=Aa hs.bw 8;have hws:=Vm a b;have hend:Er seq a b=Dc seq a.cycle a.lines b.lines k++if Mq a b then [] else [Pk seq a b]:=by unfold Er;rw [hn]
   have hwa:Pk seq a b=⟨seq,a.cycle,0,0,0,b.total-a.total,b.credit-a.credit,b.min-a.min,Kh a.grace b.grace⟩:=rfl;obtain⟨dt,hdt⟩:=eX (b.total-a.total);obtain⟨dc,hdc⟩:=eX (b.credit-a.credit);obtain⟨dm,hdm⟩:=eX (b.min-a.min);obtain⟨dg,hdg⟩:=eX (Kh a.grace b.grace);rw [hdt,hdc,hdm,hdg] at hws hwa;rw [hdt] at c5;rw [hdc] at c6;rw [hdm] at c7;rw [hdg] at c8;rw [hwa] at hend;have hlo:(Dc seq a.cycle a.lines b.lines k).length<=k:=Jm _ _ _ _ _;have hrow:=hs.row;obtain⟨m,hm⟩:=eX ((Dc seq a.cycle a.lines b.lines k).length);obtain⟨adv,cv,rfl,_,_⟩:=Ae hrow;rw [hm] at hlo hrow hs⊢;clear w0 w1 w2 hdt hdc hdm hdg hwa;by_cases z1:dt=0
   ·by_cases z2:dc=0
    ·by_cases z3:dm=0
     ·by_cases z4:dg=0
      ·subst z1 z2 z3 z4;rw [if_pos (hws.2 ⟨rfl,rfl,rfl,rfl⟩),List.append_nil] at hend;obtain⟨Hs,Hra,Hrb,Hn⟩:=hid4 hs hra hrb hn;clear hn hrb hra hs hws;obtain⟨Hend,Hm,Hrow⟩:=hid3 hend hm hrow;clear hrow hm hend;go_wp2_with fail;refine Bo ?_;go_ret;exact⟨_,rfl,by rw [Hend.o,Hm.o];exact Hrow.o,Hs.o.kp,λg hg=>by have:=Hs.o.nw g hg;have:=Hs.o.w0;omega⟩
      ·subst z1 z2 z3;rw [if_neg (λh=>z4 (hws.1 h).2.2.2)] at hend;exact j0G
     ·subst z1 z2;rw [if_neg (λh=>z3 (hws.1 h).2.2.1)] at hend;exact j0G
    ·subst z1;rw [if_neg (λh=>z2 (hws.1 h).2.1)] at hend;exact j0G
   ·rw [if_neg (λh=>z1 (hws.1 h).1)] at hend;exact j0G
 ·refine jM ?_;intro Hfirst
  go_upto_region 3 with(fail)
  go_cut [9] (λs9 wx=>∃W0,s9=(.pointer (some ⟨W0,0,none⟩))/\Hid (OneS w wx seq a b va vb W0 (.slice none 0 0) 0))
  case first=>
   refine Ak (onS w a b) (.take 0 (.take 1 (.take 2 (.take 3 (.take 4 (.take 5 (.take 6 (.take 7 (.take 8 (.take 9 (.take 10 (.take 11 (.take 12 (.take 13 (.take 14 (.take 15 (.take 16 (.take 17 (.take 18 (.take 19 (.take 20 (.take 21 (.take 22 (.take 23 (.move 24 (.move 25 .done)))))))))))))))))))))))))) j9 j9 ?_ ?_
   ·refine⟨?_, ?_, ?_, ?_, ?_, ?_, ?_, ?_, ?_⟩<;>go_simp
   intro w3 hs3 hk3;have HS3:=Lib.hid hs3;unfold onS at hs3;have Hk3:=Lib.hid hk3;clear hk3;refine j2s ?_;refine Gc (v:= ?_) rfl (by rfl) ?_ ?_ ?_ ?_ ?_
   rotate_left 3
   ·intro w' hSw;unfold onS at hSw;go_simp;(first|done|(constructor<;>with_reducible rfl)|with_reducible rfl)
   ·intro w' hSw;exact(Wl _ _ _)
   rotate_right 3
   try simp only [aps]
   refine j2s ?_;refine ja ?_;intro K hK;refine j0F ?_;clear hK K;refine jc ?_;refine ja ?_;intro K hK;refine j0F ?_;clear hK K;refine jq ?_;go_wp2_with fail;go_meet;refine⟨_,rfl,Lib.hid ⟨Ap (Ad Hba2.o Hk3.o (by simp)) _,Ap (Ad Hbb.o Hk3.o (by simp)) _,heap_alloc_new _ _, ?_,World.ownsRow_nil _ _ _ _, ?_,by simp [Value.ownBlock]⟩⟩
   ·have:=Hk3.o.size;simp at this;omega
   ·exact(Keeps.Ce jg Hk3.o).Ce (Keeps.alloc _ _)
  case rest=>
   obtain⟨W0,rfl,hs⟩:=hcut;go_wp2_with fail;go_step3;rename_i hK;refine jN ?_;exact(oneJ.mk W0 (.slice none 0 0) 0 rfl hs.out (Nat.zero_le _))
end Go.Proofs.YtjkdnaljkdnomaaGreatDoor
